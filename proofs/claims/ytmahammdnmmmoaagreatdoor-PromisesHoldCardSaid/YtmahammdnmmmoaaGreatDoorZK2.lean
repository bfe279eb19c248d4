/- Part 2 of a proof: the walks and laws that it needs. -/
import Derived.Test.YtmahammdnmmmoaaGreatDoorZK1
namespace Go.Proofs.YtmahammdnmmmoaaGreatDoor
open Go.RowKit
set_option linter.unusedVariables false
set_option linter.unusedSimpArgs false
set_option maxRecDepth 100000 in
theorem cmp_Less_int {a b : Int}  :
  SpecN Tryz.prog 290 [avI a, avI b] (fun y => y = avB (decide (a < b))) := by
 refine SpecN.of_VCN Tryz.func290 rfl Tryz.ntmps290 (Nle rfl) fun w A hB => ?_
 have hnew : True := trivial
 refine VC.sr ?_
 refine VO.ma rfl rfl rfl rfl ?_
 refine VO.nil ?_
 refine VC.sr ?_
 refine VO.mv rfl rfl rfl rfl ?_
 refine VO.op rfl (OpE.call rfl hB rfl Tryz.call239 rfl (SpecN.spec (cmp_isNaN_int)) ?_)
 rintro _ rfl
 refine VO.mv rfl rfl rfl rfl ?_
 refine VO.opX rfl rfl rfl rfl rfl ?_
 refine VO.opX rfl rfl rfl rfl rfl ?_
 refine VO.opX rfl rfl rfl rfl rfl ?_
 refine VO.val rfl rfl (OpV.pickF rfl rfl rfl rfl rfl) ?_
 refine VO.mv rfl rfl rfl rfl ?_
 refine VO.opY rfl rfl rfl rfl rfl ?_
 refine OpE.val (W := NoB) (OpV.move (.inl rfl) rfl) rfl ?_
 refine VO.opY rfl rfl rfl rfl rfl ?_
 refine OpE.val (W := NoB) (OpV.move (.inl rfl) rfl) rfl ?_
 refine VO.opY rfl rfl rfl rfl rfl ?_
 refine OpE.val (W := NoB) (OpV.lss rfl rfl rfl) rfl ?_
 refine VO.val rfl rfl (OpV.pickF rfl rfl rfl rfl rfl) ?_
 refine VO.ma rfl rfl rfl rfl ?_
 refine VO.nil ?_
 refine VC.ret ?_
 exact Exists.intro _ (And.intro (RetN.one Tryz.results290 (ResN.v rfl)) (by first | rfl | (rw [decide_eq_true (by omega)]) | (rw [decide_eq_false (by omega)])))
def ltI (x y : Int) : Bool := decide (x < y)
set_option maxRecDepth 100000 in
set_option maxHeartbeats 4000000 in
theorem insSortO_int {l0 : List Int} {u : Value} {ty : TypeId} (hl : l0.length ≤ 1000000) :
  SpecH Tryz.prog 284 [.v u, avI 0, avI l0.length] [.row u l0.length 1 (intsL l0) ty] (fun y hp' => ∃ l, (l.Perm l0 ∧ OrdL ltI l) ∧ y = .tup [] ∧ hp' = [.row u l0.length 1 (intsL l) ty]) := by
 have hT : ∀ {a b c : Int}, ltI a b = true → ltI b c = true → ltI a c = true := fun {a b c} h1 h2 => by simp only [ltI, decide_eq_true_eq] at *; omega
 have hA : ∀ {a b : Int}, ltI a b = true → ltI b a = false := fun {a b} h1 => by simp only [ltI, decide_eq_true_eq, decide_eq_false_iff_not] at *; omega
 have hN : ∀ {a b c : Int}, ltI b a = false → ltI c b = false → ltI c a = false := fun {a b c} h1 h2 => by simp only [ltI, decide_eq_false_iff_not] at *; omega
 refine SpecH.of_VC Tryz.func284 rfl Tryz.ntmps284 (Nle rfl) fun w A hB => ?_
 have hnew : True := trivial
 refine VC.sr ?_
 refine VO.mv rfl rfl rfl rfl ?_
 refine VO.val rfl rfl (OpV.add rfl rfl rfl (by unfold fits; omega)) ?_
 refine VO.ma rfl rfl rfl rfl ?_
 refine VO.nil ?_
 refine VC.block ?_
 refine VC.loopK [(0, _), (1, _), (2, _)] ⟨rfl, rfl, rfl, trivial⟩ ({z : Nat × List Int // InvO ltI l0 z.1 z.2 ∧ 0 < z.1 ∧ z.1 ≤ max 1 l0.length}) (fun (iZ : {z : Nat × List Int // InvO ltI l0 z.1 z.2 ∧ 0 < z.1 ∧ z.1 ≤ max 1 l0.length}) => match iZ with | ⟨⟨i, l⟩, hi, hi0, hin⟩ => [(6, avI (i : Int))]) (fun (iZ : {z : Nat × List Int // InvO ltI l0 z.1 z.2 ∧ 0 < z.1 ∧ z.1 ≤ max 1 l0.length}) => match iZ with | ⟨⟨i, l⟩, hi, hi0, hin⟩ => [.row u l0.length 1 (intsL l) ty]) (fun (iZ : {z : Nat × List Int // InvO ltI l0 z.1 z.2 ∧ 0 < z.1 ∧ z.1 ≤ max 1 l0.length}) => match iZ with | ⟨⟨i, l⟩, hi, hi0, hin⟩ => 0) (fun (iZ : {z : Nat × List Int // InvO ltI l0 z.1 z.2 ∧ 0 < z.1 ∧ z.1 ≤ max 1 l0.length}) => match iZ with | ⟨⟨i, l⟩, hi, hi0, hin⟩ => l0.length - i) ⟨(1, l0), InvO.one l0, Nat.one_pos, by show 1 ≤ _; omega⟩ (Le.mk hB [0] ⟨rfl, rfl, rfl, rfl, trivial⟩ rfl rfl (Nat.le_refl _)) ?_
 rintro ⟨⟨i, l⟩, hi, hi0, hin⟩
 show VC _ _ _ _ ⟨[(6, avI (i : Int))] ++ [(0, _), (1, _), (2, _)], [.row u l0.length 1 (intsL l) ty], 0⟩
 simp only at hi hi0 hin
 have hll := hi.len
 refine VC.seq ?_
 refine VC.sr ?_
 refine VO.mv rfl rfl rfl rfl ?_
 refine VO.mv rfl rfl rfl rfl ?_
 refine VO.val rfl rfl (OpV.lss rfl rfl rfl) ?_
 refine VO.nil ?_
 refine VC.cond rfl (fun aH1b => ?_) (fun aH1b => ?_)
 ·have aH1 := aH1b
  try simp only [qqT, qqF, qqN, qqM, qqL, qqE] at aH1
  refine VC.skip ?_
  refine VC.seq ?_
  refine VC.block ?_
  refine VC.sr ?_
  refine VO.mv rfl rfl rfl rfl ?_
  refine VO.ma rfl rfl rfl rfl ?_
  refine VO.nil ?_
  refine VC.block ?_
  refine VC.asBox (i := 0) rfl (by omega) (fun g cap hu hcap hmx => ?_)
  subst hu
  refine VC.loopK [(0, _), (1, _), (2, _), (6, _)] ⟨rfl, rfl, rfl, rfl, trivial⟩ ({z : Nat × List Int // InvI ltI l0 i z.1 z.2}) (fun (iZ : {z : Nat × List Int // InvI ltI l0 i z.1 z.2}) => match iZ with | ⟨⟨j, l2⟩, hI⟩ => [(7, avI (j : Int))]) (fun (iZ : {z : Nat × List Int // InvI ltI l0 i z.1 z.2}) => match iZ with | ⟨⟨j, l2⟩, hI⟩ => [.box g ⟨intsL l2, ty, cap * 1⟩]) (fun (iZ : {z : Nat × List Int // InvI ltI l0 i z.1 z.2}) => match iZ with | ⟨⟨j, l2⟩, hI⟩ => 0) (fun (iZ : {z : Nat × List Int // InvI ltI l0 i z.1 z.2}) => match iZ with | ⟨⟨j, l2⟩, hI⟩ => j) ⟨(i, l), hi.start (by omega)⟩ (Le.mk hB [0] ⟨rfl, rfl, rfl, rfl, rfl, trivial⟩ rfl rfl (Nat.le_refl _)) ?_
  rintro ⟨⟨j, l2⟩, hI⟩
  show VC _ _ _ _ ⟨[(7, avI (j : Int))] ++ [(0, _), (1, _), (2, _), (6, _)], [.box g ⟨intsL l2, ty, cap * 1⟩], 0⟩
  simp only at hI
  obtain ⟨hlen2, hil, hji⟩ := hI.len
  refine VC.seq ?_
  refine VC.seq ?_
  refine VC.draw (fun _ => NoB) hB (by kernel_rfl) ?_
  refine VA.take (i := 0) rfl (by kernel_rfl) (by kernel_rfl) (by kernel_rfl) rfl rfl (OpV.move (.inl rfl) rfl) ?_
  refine VA.take (i := 1) rfl (by kernel_rfl) (by kernel_rfl) (by kernel_rfl) rfl rfl (OpV.move (.inl rfl) rfl) ?_
  refine VA.take (i := 2) rfl (by kernel_rfl) (by kernel_rfl) (by kernel_rfl) rfl rfl (OpV.gtr rfl rfl rfl) ?_
  refine VA.take (i := 3) rfl (by kernel_rfl) (by kernel_rfl) (by kernel_rfl) rfl rfl (OpV.move (.inl rfl) rfl) ?_
  refine VA.split (t := 19) rfl (fun aK2b => ?_) (fun aK2b => ?_)
  ·have aK2 := aK2b
   try simp only [qqT, qqF, qqN, qqM, qqL, qqE] at aK2
   refine VA.takeY (i := 4) rfl (by kernel_rfl) (by kernel_rfl) (by kernel_rfl) rfl rfl rfl rfl aK2b (OpV.move (.inl rfl) rfl) ?_
   refine VA.takeY (i := 5) rfl (by kernel_rfl) (by kernel_rfl) (by kernel_rfl) rfl rfl rfl rfl aK2b (OpV.move (.inl rfl) rfl) ?_
   refine VA.takeY (i := 6) rfl (by kernel_rfl) (by kernel_rfl) (by kernel_rfl) rfl rfl rfl rfl aK2b (OpV.indexAddr_o rfl Tryz.underlying22 Tryz.sizeOf3 rfl rfl rfl (by omega)) ?_
   refine VA.takeY (i := 7) rfl (by kernel_rfl) (by kernel_rfl) (by kernel_rfl) rfl rfl rfl rfl aK2b (OpV.load_own (i := 0) rfl hB Tryz.isAgg3 rfl rfl (intsL_get (j := j) (by omega)) Wi.not0) ?_
   refine VA.takeY (i := 8) rfl (by kernel_rfl) (by kernel_rfl) (by kernel_rfl) rfl rfl rfl rfl aK2b (OpV.move (.inl rfl) rfl) ?_
   refine VA.takeY (i := 9) rfl (by kernel_rfl) (by kernel_rfl) (by kernel_rfl) rfl rfl rfl rfl aK2b (OpV.move (.inl rfl) rfl) ?_
   refine VA.takeY (i := 10) rfl (by kernel_rfl) (by kernel_rfl) (by kernel_rfl) rfl rfl rfl rfl aK2b (OpV.sub rfl rfl rfl (by unfold fits; omega)) ?_
   refine VA.takeY (i := 11) rfl (by kernel_rfl) (by kernel_rfl) (by kernel_rfl) rfl rfl rfl rfl aK2b (OpV.indexAddr_o rfl Tryz.underlying22 Tryz.sizeOf3 rfl rfl (show (j : Int) - 1 = ((j - 1 : Nat) : Int) by omega) (by omega)) ?_
   refine VA.takeY (i := 12) rfl (by kernel_rfl) (by kernel_rfl) (by kernel_rfl) rfl rfl rfl rfl aK2b (OpV.load_own (i := 0) rfl hB Tryz.isAgg3 rfl rfl (intsL_get (j := j - 1) (by omega)) Wi.not0) ?_
   refine VA.all (rs := [13]) (by kernel_rfl) (by decide) ?_
   refine ⟨⟨_, rfl, .inr ⟨_, _, _, rfl, rfl, (look_k rfl aK2b)⟩, ?_⟩, trivial⟩
   refine OpE.call rfl hB rfl Tryz.call290 rfl (SpecN.spec (cmp_Less_int)) ?_
   rintro _ rfl
   refine VA.take (i := 14) rfl (by kernel_rfl) (by kernel_rfl) (by kernel_rfl) rfl rfl (OpV.pickT rfl rfl rfl rfl aK2b) ?_
   refine VA.done (by kernel_rfl) ?_
   refine VC.cond rfl (fun hcb => ?_) (fun hcb => ?_)
   ·have hc := hcb
    try simp only [qqT, qqF, qqN, qqM, qqL, qqE] at hc
    refine VC.skip ?_
    refine VC.seq ?_
    refine VC.block ?_
    refine VC.draw (fun j b => j ∈ [15, 17] ∧ b = g) hB (by kernel_rfl) ?_
    refine VA.take (i := 0) rfl (by kernel_rfl) (by kernel_rfl) (by kernel_rfl) rfl rfl (OpV.move (.inl rfl) rfl) ?_
    refine VA.take (i := 1) rfl (by kernel_rfl) (by kernel_rfl) (by kernel_rfl) rfl rfl (OpV.move (.inl rfl) rfl) ?_
    refine VA.take (i := 2) rfl (by kernel_rfl) (by kernel_rfl) (by kernel_rfl) rfl rfl (OpV.move (.inl rfl) rfl) ?_
    refine VA.take (i := 3) rfl (by kernel_rfl) (by kernel_rfl) (by kernel_rfl) rfl rfl (OpV.move (.inl rfl) rfl) ?_
    refine VA.take (i := 4) rfl (by kernel_rfl) (by kernel_rfl) (by kernel_rfl) rfl rfl (OpV.sub rfl rfl rfl (by unfold fits; omega)) ?_
    refine VA.take (i := 5) rfl (by kernel_rfl) (by kernel_rfl) (by kernel_rfl) rfl rfl (OpV.move (.inl rfl) rfl) ?_
    refine VA.take (i := 6) rfl (by kernel_rfl) (by kernel_rfl) (by kernel_rfl) rfl rfl (OpV.move (.inl rfl) rfl) ?_
    refine VA.take (i := 7) rfl (by kernel_rfl) (by kernel_rfl) (by kernel_rfl) rfl rfl (OpV.sub rfl rfl rfl (by unfold fits; omega)) ?_
    refine VA.take (i := 8) rfl (by kernel_rfl) (by kernel_rfl) (by kernel_rfl) rfl rfl (OpV.indexAddr_o rfl Tryz.underlying22 Tryz.sizeOf3 rfl rfl (show (j : Int) - 1 = ((j - 1 : Nat) : Int) by omega) (by omega)) ?_
    refine VA.take (i := 9) rfl (by kernel_rfl) (by kernel_rfl) (by kernel_rfl) rfl rfl (OpV.load_own (i := 0) rfl hB Tryz.isAgg3 rfl rfl (intsL_get (j := j - 1) (by omega)) (Wi.notD (by kernel_rfl))) ?_
    refine VA.take (i := 10) rfl (by kernel_rfl) (by kernel_rfl) (by kernel_rfl) rfl rfl (OpV.move (.inl rfl) rfl) ?_
    refine VA.take (i := 11) rfl (by kernel_rfl) (by kernel_rfl) (by kernel_rfl) rfl rfl (OpV.move (.inl rfl) rfl) ?_
    refine VA.take (i := 12) rfl (by kernel_rfl) (by kernel_rfl) (by kernel_rfl) rfl rfl (OpV.indexAddr_o rfl Tryz.underlying22 Tryz.sizeOf3 rfl rfl rfl (by omega)) ?_
    refine VA.take (i := 13) rfl (by kernel_rfl) (by kernel_rfl) (by kernel_rfl) rfl rfl (OpV.load_own (i := 0) rfl hB Tryz.isAgg3 rfl rfl (intsL_get (j := j) (by omega)) (Wi.notD (by kernel_rfl))) ?_
    refine VA.take (i := 14) rfl (by kernel_rfl) (by kernel_rfl) (by kernel_rfl) rfl rfl (OpV.indexAddr_o rfl Tryz.underlying22 Tryz.sizeOf3 rfl rfl rfl (by omega)) ?_
    refine VA.all (rs := [15]) (by kernel_rfl) (by decide) ?_
    refine ⟨⟨_, rfl, .inl rfl, ?_⟩, trivial⟩
    refine OpE.store1 (i := 0) rfl hB rfl Tryz.sizeOf3 rfl rfl rfl rfl rfl rfl (by rw [intsL_len]; omega) (intsL_set _ _ _) (by first | exact ⟨rfl, rfl⟩ | exact .inl ⟨rfl, rfl⟩ | exact .inr ⟨rfl, rfl⟩ | exact ⟨rfl, trivial⟩ | exact .inl ⟨rfl, trivial⟩ | exact .inr ⟨rfl, trivial⟩ | exact ⟨by decide, rfl⟩) ?_
    refine VA.take (i := 16) rfl (by kernel_rfl) (by kernel_rfl) (by kernel_rfl) rfl rfl (OpV.indexAddr_o rfl Tryz.underlying22 Tryz.sizeOf3 rfl rfl (show (j : Int) - 1 = ((j - 1 : Nat) : Int) by omega) (by omega)) ?_
    refine VA.all (rs := [17]) (by kernel_rfl) (by decide) ?_
    refine ⟨⟨_, rfl, .inl rfl, ?_⟩, trivial⟩
    refine OpE.store1 (i := 0) rfl hB rfl Tryz.sizeOf3 rfl rfl rfl rfl rfl rfl (by rw [intsL_len, List.length_set]; omega) (intsL_set _ _ _) (by first | exact ⟨rfl, rfl⟩ | exact .inl ⟨rfl, rfl⟩ | exact .inr ⟨rfl, rfl⟩ | exact ⟨rfl, trivial⟩ | exact .inl ⟨rfl, trivial⟩ | exact .inr ⟨rfl, trivial⟩ | exact ⟨by decide, rfl⟩) ?_
    refine VA.done (by kernel_rfl) ?_
    refine VC.region ?_
    refine VO.mv rfl rfl rfl rfl ?_
    refine VO.val rfl rfl (OpV.sub rfl rfl rfl (by unfold fits; omega)) ?_
    refine VO.ma rfl rfl rfl rfl ?_
    refine VO.nil ?_
    exact Exists.intro (⟨(j - 1, (l2.set j (l2.getD (j - 1) 0)).set (j - 1) (l2.getD j 0)), hI.next hT (by omega) (decide_eq_true hc)⟩) (And.intro (Le.mk hB [0] ⟨(by rw [show ((j - 1 : Nat) : Int) = (j : Int) - 1 by omega]; rfl), rfl, rfl, rfl, rfl, trivial⟩ rfl rfl (Nat.le_refl _)) (by first | omega | (show _ < _; omega) | (simp only []; omega)))
   ·have hc := hcb
    try simp only [qqT, qqF, qqN, qqM, qqL, qqE] at hc
    have hex : j = 0 ∨ ltI (l2.getD j 0) (l2.getD (j - 1) 0) = false := by first | exact .inl (by omega) | exact .inr (decide_eq_false (by omega))
    refine VC.le _ (Le.boxRow (i := 0) (n := l0.length) rfl (by rw [intsL_len, hlen2]; omega) hcap hmx) ?_
    refine VC.exit ?_
    refine VC.region ?_
    refine VO.mv rfl rfl rfl rfl ?_
    refine VO.val rfl rfl (OpV.add rfl rfl rfl (by unfold fits; omega)) ?_
    refine VO.ma rfl rfl rfl rfl ?_
    refine VO.nil ?_
    exact Exists.intro (⟨(i + 1, l2), hI.done hA hN hex, Nat.succ_pos _, by show i + 1 ≤ _; omega⟩) (And.intro (Le.mk hB [0] ⟨rfl, rfl, rfl, rfl, trivial⟩ rfl rfl (Nat.le_refl _)) (by first | omega | (show _ < _; omega) | (simp only []; omega)))
  ·have aK2 := aK2b
   try simp only [qqT, qqF, qqN, qqM, qqL, qqE] at aK2
   refine VA.takeX (i := 4) rfl (by kernel_rfl) (by kernel_rfl) (by kernel_rfl) rfl rfl rfl rfl aK2b ?_
   refine VA.takeX (i := 5) rfl (by kernel_rfl) (by kernel_rfl) (by kernel_rfl) rfl rfl rfl rfl aK2b ?_
   refine VA.takeX (i := 6) rfl (by kernel_rfl) (by kernel_rfl) (by kernel_rfl) rfl rfl rfl rfl aK2b ?_
   refine VA.takeX (i := 7) rfl (by kernel_rfl) (by kernel_rfl) (by kernel_rfl) rfl rfl rfl rfl aK2b ?_
   refine VA.takeX (i := 8) rfl (by kernel_rfl) (by kernel_rfl) (by kernel_rfl) rfl rfl rfl rfl aK2b ?_
   refine VA.takeX (i := 9) rfl (by kernel_rfl) (by kernel_rfl) (by kernel_rfl) rfl rfl rfl rfl aK2b ?_
   refine VA.takeX (i := 10) rfl (by kernel_rfl) (by kernel_rfl) (by kernel_rfl) rfl rfl rfl rfl aK2b ?_
   refine VA.takeX (i := 11) rfl (by kernel_rfl) (by kernel_rfl) (by kernel_rfl) rfl rfl rfl rfl aK2b ?_
   refine VA.takeX (i := 12) rfl (by kernel_rfl) (by kernel_rfl) (by kernel_rfl) rfl rfl rfl rfl aK2b ?_
   refine VA.takeX (i := 13) rfl (by kernel_rfl) (by kernel_rfl) (by kernel_rfl) rfl rfl rfl rfl aK2b ?_
   refine VA.take (i := 14) rfl (by kernel_rfl) (by kernel_rfl) (by kernel_rfl) rfl rfl (OpV.pickF rfl rfl rfl rfl aK2b) ?_
   refine VA.done (by kernel_rfl) ?_
   refine VC.condF rfl rfl ?_
   have hex : j = 0 ∨ ltI (l2.getD j 0) (l2.getD (j - 1) 0) = false := by first | exact .inl (by omega) | exact .inr (decide_eq_false (by omega))
   refine VC.le _ (Le.boxRow (i := 0) (n := l0.length) rfl (by rw [intsL_len, hlen2]; omega) hcap hmx) ?_
   refine VC.exit ?_
   refine VC.region ?_
   refine VO.mv rfl rfl rfl rfl ?_
   refine VO.val rfl rfl (OpV.add rfl rfl rfl (by unfold fits; omega)) ?_
   refine VO.ma rfl rfl rfl rfl ?_
   refine VO.nil ?_
   exact Exists.intro (⟨(i + 1, l2), hI.done hA hN hex, Nat.succ_pos _, by show i + 1 ≤ _; omega⟩) (And.intro (Le.mk hB [0] ⟨rfl, rfl, rfl, rfl, trivial⟩ rfl rfl (Nat.le_refl _)) (by first | omega | (show _ < _; omega) | (simp only []; omega)))
 ·have aH1 := aH1b
  try simp only [qqT, qqF, qqN, qqM, qqL, qqE] at aH1
  refine VC.exit ?_
  exact Exists.intro _ (And.intro (RetV.none Tryz.results284) (⟨l, hi.all (by omega), rfl, rfl⟩))
set_option maxRecDepth 100000 in
theorem pdqO_int {l0 : List Int} {u : Value} {ty : TypeId} {k : Int} (hl : l0.length ≤ 12) :
  SpecH Tryz.prog 191 [.v u, avI 0, avI l0.length, avI k] [.row u l0.length 1 (intsL l0) ty] (fun y hp' => ∃ l, (l.Perm l0 ∧ OrdL ltI l) ∧ y = .tup [] ∧ hp' = [.row u l0.length 1 (intsL l) ty]) := by
 refine SpecH.of_VC Tryz.func191 rfl Tryz.ntmps191 (Nle rfl) fun w A hB => ?_
 have hnew : True := trivial
 refine VC.sr ?_
 refine VO.ma rfl rfl rfl rfl ?_
 refine VO.nil ?_
 refine VC.sr ?_
 refine VO.ma rfl rfl rfl rfl ?_
 refine VO.nil ?_
 refine VC.block ?_
 refine VC.loopK [(0, _)] ⟨rfl, trivial⟩ ({z : Nat // z = 0}) (fun (iZ : {z : Nat // z = 0}) => match iZ with | ⟨z, hz⟩ => [(1, avI 0), (2, avI l0.length), (3, avI k), (8, avB true), (9, avB true)]) (fun (iZ : {z : Nat // z = 0}) => match iZ with | ⟨z, hz⟩ => [.row u l0.length 1 (intsL l0) ty]) (fun (iZ : {z : Nat // z = 0}) => match iZ with | ⟨z, hz⟩ => 0) (fun (iZ : {z : Nat // z = 0}) => match iZ with | ⟨z, hz⟩ => z) ⟨0, rfl⟩ (Le.mk hB [0] ⟨rfl, rfl, rfl, rfl, rfl, rfl, trivial⟩ rfl rfl (Nat.le_refl _)) ?_
 rintro ⟨z, hz⟩
 show VC _ _ _ _ ⟨[(1, avI 0), (2, avI l0.length), (3, avI k), (8, avB true), (9, avB true)] ++ [(0, _)], [.row u l0.length 1 (intsL l0) ty], 0⟩
 refine VC.block ?_
 refine VC.sr ?_
 refine VO.mv rfl rfl rfl rfl ?_
 refine VO.mv rfl rfl rfl rfl ?_
 refine VO.val rfl rfl (OpV.sub rfl rfl rfl (by unfold fits; omega)) ?_
 refine VO.ma rfl rfl rfl rfl ?_
 refine VO.nil ?_
 refine VC.seq ?_
 refine VC.sr ?_
 refine VO.mv rfl rfl rfl rfl ?_
 refine VO.val rfl rfl (OpV.leq rfl rfl rfl) ?_
 refine VO.nil ?_
 refine VC.cond rfl (fun aH1b => ?_) (fun aH1b => ?_)
 ·have aH1 := aH1b
  try simp only [qqT, qqF, qqN, qqM, qqL, qqE] at aH1
  refine VC.sr ?_
  refine VO.mv rfl rfl rfl rfl ?_
  refine VO.mv rfl rfl rfl rfl ?_
  refine VO.mv rfl rfl rfl rfl ?_
  refine VO.op rfl (OpE.callH0 rfl hB rfl Tryz.call284 rfl rfl (insSortO_int (by omega)) (List.Perm.refl _) (fun _ _ => trivial) ?_)
  rintro _ _ ⟨l, hpl, rfl, rfl⟩
  refine VO.nil ?_
  refine VC.ret ?_
  exact Exists.intro _ (And.intro (RetV.none Tryz.results191) (⟨l, hpl, rfl, rfl⟩))
 ·have aH1 := aH1b
  try simp only [qqT, qqF, qqN, qqM, qqL, qqE] at aH1
  exact VC.absurd (by omega)
set_option maxRecDepth 100000 in
theorem sort_int {l0 : List Int} {u : Value} {ty : TypeId} (hl : l0.length ≤ 12) :
  SpecH Tryz.prog 80 [.v u] [.row u l0.length 1 (intsL l0) ty] (fun y hp' => ∃ l, (l.Perm l0 ∧ OrdL ltI l) ∧ y = .tup [] ∧ hp' = [.row u l0.length 1 (intsL l) ty]) := by
 refine SpecH.of_VC Tryz.func80 rfl Tryz.ntmps80 (Nle rfl) fun w A hB => ?_
 have hnew : True := trivial
 refine VC.sr ?_
 refine VO.mv rfl rfl rfl rfl ?_
 refine VO.val rfl rfl (OpV.len_row (i := 0) rfl Tryz.underlying22 rfl rfl) ?_
 refine VO.ma rfl rfl rfl rfl ?_
 refine VO.nil ?_
 refine VC.region ?_
 refine VO.mv rfl rfl rfl rfl ?_
 refine VO.mv rfl rfl rfl rfl ?_
 refine VO.mv rfl rfl rfl rfl ?_
 refine VO.val rfl rfl (OpV.conv rfl Tryz.underlying3 Tryz.underlying224 rfl (IntWalk.u64_in _ (by omega))) ?_
 refine VO.op rfl (OpE.call rfl hB rfl Tryz.call189 rfl (SpecN.spec (bits_Len_S (x := (l0.length : Int)) (by omega) (by omega))) ?_)
 rintro _ ⟨k, rfl⟩
 refine VO.op rfl (OpE.callH0 rfl hB rfl Tryz.call191 rfl rfl (pdqO_int hl) (List.Perm.refl _) (fun _ _ => trivial) ?_)
 rintro _ _ ⟨l, hpl, rfl, rfl⟩
 refine VO.nil ?_
 exact Exists.intro _ (And.intro (RetV.none Tryz.results80) (⟨l, hpl, rfl, rfl⟩))
end Go.Proofs.YtmahammdnmmmoaaGreatDoor
namespace Go.Proofs.YtmahammdnmmmoaaGreatDoor
open Go.RowKit
set_option linter.unusedVariables false
set_option linter.unusedSimpArgs false
theorem out_t {n a b : Int} (h : (decide (a ≤ n) && decide (n ≤ b)) = false) : outR n a b = true := by rw [outR_in, h]; rfl
theorem out_f {n a b : Int} (h : (decide (a ≤ n) && decide (n ≤ b)) = true) : outR n a b = false := by rw [outR_in, h]; rfl
def ordO (x : OrdrS) : Int := if (keyF x.key && keyF x.product) = false then 5 else if (outR x.count 1 100000 || (outR x.ready 0 345686399999 || outR x.due 0 345686399999)) = true then 1 else 0
theorem ordO_5a {x : OrdrS} (h : keyF x.key = false) : ordO x = 5 := by rw [ordO, if_pos (by rw [h]; rfl)]
theorem ordO_5b {x : OrdrS} (h : keyF x.product = false) : ordO x = 5 := by rw [ordO, if_pos (by rw [h, Bool.and_false])]
theorem ordO_1 {x : OrdrS} (h1 : keyF x.key = true) (h2 : keyF x.product = true) (h : (outR x.count 1 100000 || (outR x.ready 0 345686399999 || outR x.due 0 345686399999)) = true) : ordO x = 1 := by rw [ordO, if_neg (by rw [h1, h2]; simp), if_pos h]
theorem ordO_0 {x : OrdrS} (h1 : keyF x.key = true) (h2 : keyF x.product = true) (h : (outR x.count 1 100000 || (outR x.ready 0 345686399999 || outR x.due 0 345686399999)) = false) : ordO x = 0 := by rw [ordO, if_neg (by rw [h1, h2]; simp), if_neg (by rw [h]; simp)]
theorem ordrE_o {o : List OrdrS} {i : Nat} : ordrE o i = if ordO (o.getD i default) ≠ 0 then ordO (o.getD i default) else if (decide (0 < i) && sLe (o.getD i default).key (o.getD (i - 1) default).key) = true then 7 else 0 := by
 unfold ordrE ordO
 split
 ·rw [if_pos (by decide)]
 ·split
  ·rw [if_pos (by decide)]
  ·rw [if_neg (show ¬ ((0 : Int) ≠ 0) from fun h => h rfl)]
theorem ordO_key {x : OrdrS} (h : ordO x = 0) : keyF x.key = true ∧ keyF x.product = true := by
 unfold ordO at h
 split at h
 ·cases h
 ·rename_i h1
  have : (keyF x.key && keyF x.product) = true := by simpa using h1
  rwa [Bool.and_eq_true] at this
def lastK {α : Type} [Inhabited α] (key : α → ByteArray) (l : List α) (q : Nat) : ByteArray := if q = 0 then ⟨#[]⟩ else key (l.getD (q - 1) default)
theorem lastK_succ {α : Type} [Inhabited α] (key : α → ByteArray) (l : List α) (q : Nat) : lastK key l (q + 1) = key (l.getD q default) := by simp [lastK]
theorem lastK_le {α : Type} [Inhabited α] {key : α → ByteArray} {l : List α} {q : Nat} (h : keyF (key (l.getD q default)) = true) : sLe (key (l.getD q default)) (lastK key l q) = (decide (0 < q) && sLe (key (l.getD q default)) (key (l.getD (q - 1) default))) := by
 unfold lastK
 by_cases hq : q = 0
 ·subst hq; rw [if_pos rfl, sLe_empty h]; simp
 ·rw [if_neg hq, decide_eq_true (by omega : 0 < q), Bool.true_and]
section
variable {o : List OrdrS} {q : Nat}
theorem ordrE_oe {e : Int} (h : ordO (o.getD q default) = e) (h0 : e ≠ 0) : ordrE o q = e := by rw [ordrE_o, h, if_pos h0]
theorem ordrE_o7 (h : ordO (o.getD q default) = 0) (h2 : sLe (o.getD q default).key (lastK OrdrS.key o q) = true) : ordrE o q = 7 := by
 rw [lastK_le (ordO_key h).1] at h2
 rw [ordrE_o, if_neg (by omega), if_pos h2]
theorem ordrE_o0 (h : ordO (o.getD q default) = 0) (h2 : sLe (o.getD q default).key (lastK OrdrS.key o q) = false) : ordrE o q = 0 := by
 rw [lastK_le (ordO_key h).1] at h2
 rw [ordrE_o, if_neg (by omega), if_neg (by rw [h2]; simp)]
end
theorem paceE_k {p : List PaceS} {q : Nat} (h : keyF (p.getD q default).product = true) (h2 : sLe (p.getD q default).product (lastK PaceS.product p q) = false) : q = 0 ∨ sLe (p.getD q default).product (p.getD (q - 1) default).product = false := by
 by_cases hq : q = 0
 ·exact .inl hq
 ·rw [lastK_le h, decide_eq_true (by omega : 0 < q), Bool.true_and] at h2; exact .inr h2
theorem paceE_k7 {p : List PaceS} {q : Nat} (h : keyF (p.getD q default).product = true) (h2 : sLe (p.getD q default).product (lastK PaceS.product p q) = true) : paceE p q = 7 := by
 rw [lastK_le h, Bool.and_eq_true, decide_eq_true_eq] at h2
 exact paceE_7 h h2.1 h2.2
set_option maxRecDepth 100000 in
theorem rf_Moment {n : Int}  :
  SpecN Tryz.prog 63 [avI n] (fun y => y = avB (decide (0 ≤ n) && decide (n ≤ 345686399999))) := by
 refine SpecN.of_VCN Tryz.func63 rfl Tryz.ntmps63 (Nle rfl) fun w A hB => ?_
 have hnew : True := trivial
 refine VC.sr ?_
 refine VO.ma rfl rfl rfl rfl ?_
 refine VO.nil ?_
 refine VC.sr ?_
 refine VO.mv rfl rfl rfl rfl ?_
 refine VO.op rfl (OpE.call rfl hB rfl Tryz.call123 rfl (SpecN.spec (rf_in)) ?_)
 rintro _ rfl
 refine VO.ma rfl rfl rfl rfl ?_
 refine VO.nil ?_
 refine VC.ret ?_
 exact Exists.intro _ (And.intro (RetN.one Tryz.results63 (ResN.v rfl)) (rfl))
set_option maxRecDepth 100000 in
set_option maxHeartbeats 4000000 in
theorem rf_orderFault {x : OrdrS} (h1 : x.key.size ≤ 1000000) (h2 : x.product.size ≤ 1000000) :
  SpecN Tryz.prog 139 [avOr x] (fun y => y = avI (ordO x)) := by
 refine SpecN.of_VCN Tryz.func139 rfl Tryz.ntmps139 (Nle rfl) fun w A hB => ?_
 have hnew : True := trivial
 refine VC.sr ?_
 refine VO.op rfl (OpE.box rfl hB rfl rfl rfl ?_)
 intro g1
 refine VO.ma rfl rfl rfl rfl ?_
 refine VO.nil ?_
 refine VC.seq ?_
 refine VC.block ?_
 refine VC.sr ?_
 refine VO.val rfl rfl (OpV.fieldAddrO 0 rfl Tryz.underlying35 rfl rfl Tryz.sizeOf9 rfl) ?_
 refine VO.val rfl rfl (OpV.load_own (i := 0) rfl hB Tryz.isAgg9 rfl rfl rfl (fun h => h)) ?_
 refine VO.op rfl (OpE.call rfl hB rfl Tryz.call62 rfl (SpecN.spec (rf_Key (by omega))) ?_)
 rintro _ rfl
 refine VO.val rfl rfl (OpV.not rfl rfl) ?_
 refine VO.mv rfl rfl rfl rfl ?_
 refine VO.opG rfl rfl rfl rfl (fun aK1b => ?_) (fun aK1b => ?_)
 ·replace aK1b : _ = false := aK1b
  have aK1 := aK1b
  try simp only [qqT, qqF, qqN, qqM, qqL, qqE] at aK1
  refine OpE.val (W := NoB) (OpV.fieldAddrO 1 rfl Tryz.underlying35 rfl rfl Tryz.sizeOf9 rfl) rfl ?_
  refine VO.opY rfl rfl rfl rfl aK1b ?_
  refine OpE.val (W := NoB) (OpV.load_own (i := 0) rfl hB Tryz.isAgg9 rfl rfl rfl (fun h => h)) rfl ?_
  refine VO.opY rfl rfl rfl rfl aK1b ?_
  refine OpE.call rfl hB rfl Tryz.call62 rfl (SpecN.spec (rf_Key (by omega))) ?_
  rintro _ rfl
  refine VO.opY rfl rfl rfl rfl aK1b ?_
  refine OpE.val (W := NoB) (OpV.not rfl rfl) rfl ?_
  refine VO.val rfl rfl (OpV.pickF rfl rfl rfl rfl aK1b) ?_
  refine VO.ma rfl rfl rfl rfl ?_
  refine VO.nil ?_
  refine VC.cond rfl (fun aH2b => ?_) (fun aH2b => ?_)
  ·have aH2 := aH2b
   try simp only [qqT, qqF, qqN, qqM, qqL, qqE] at aH2
   refine VC.sr ?_
   refine VO.ma rfl rfl rfl rfl ?_
   refine VO.nil ?_
   refine VC.ret ?_
   exact Exists.intro _ (And.intro (RetN.one Tryz.results139 (ResN.v rfl)) (by first | rw [ordO_5a (by assumption)] | rw [ordO_5b (by assumption)]))
  ·have aH2 := aH2b
   try simp only [qqT, qqF, qqN, qqM, qqL, qqE] at aH2
   refine VC.sr ?_
   refine VO.val rfl rfl (OpV.fieldAddrO 2 rfl Tryz.underlying35 rfl rfl Tryz.sizeOf3 rfl) ?_
   refine VO.val rfl rfl (OpV.load_own (i := 0) rfl hB Tryz.isAgg3 rfl rfl rfl (fun h => h)) ?_
   refine VO.op rfl (OpE.call rfl hB rfl Tryz.call123 rfl (SpecN.spec (rf_in)) ?_)
   rintro _ rfl
   refine VO.val rfl rfl (OpV.not rfl rfl) ?_
   refine VO.mv rfl rfl rfl rfl ?_
   refine VO.opG rfl rfl rfl rfl (fun aK3b => ?_) (fun aK3b => ?_)
   ·replace aK3b : _ = false := aK3b
    have aK3 := aK3b
    try simp only [qqT, qqF, qqN, qqM, qqL, qqE] at aK3
    refine OpE.val (W := NoB) (OpV.fieldAddrO 3 rfl Tryz.underlying35 rfl rfl Tryz.sizeOf3 rfl) rfl ?_
    refine VO.opY rfl rfl rfl rfl aK3b ?_
    refine OpE.val (W := NoB) (OpV.load_own (i := 0) rfl hB Tryz.isAgg3 rfl rfl rfl (fun h => h)) rfl ?_
    refine VO.opY rfl rfl rfl rfl aK3b ?_
    refine OpE.call rfl hB rfl Tryz.call63 rfl (SpecN.spec (rf_Moment)) ?_
    rintro _ rfl
    refine VO.opY rfl rfl rfl rfl aK3b ?_
    refine OpE.val (W := NoB) (OpV.not rfl rfl) rfl ?_
    refine VO.val rfl rfl (OpV.pickF rfl rfl rfl rfl aK3b) ?_
    refine VO.mv rfl rfl rfl rfl ?_
    refine VO.opG rfl rfl rfl rfl (fun aK4b => ?_) (fun aK4b => ?_)
    ·replace aK4b : _ = false := aK4b
     have aK4 := aK4b
     try simp only [qqT, qqF, qqN, qqM, qqL, qqE] at aK4
     refine OpE.val (W := NoB) (OpV.fieldAddrO 4 rfl Tryz.underlying35 rfl rfl Tryz.sizeOf3 rfl) rfl ?_
     refine VO.opY rfl rfl rfl rfl aK4b ?_
     refine OpE.val (W := NoB) (OpV.load_own (i := 0) rfl hB Tryz.isAgg3 rfl rfl rfl (fun h => h)) rfl ?_
     refine VO.opY rfl rfl rfl rfl aK4b ?_
     refine OpE.call rfl hB rfl Tryz.call63 rfl (SpecN.spec (rf_Moment)) ?_
     rintro _ rfl
     refine VO.opY rfl rfl rfl rfl aK4b ?_
     refine OpE.val (W := NoB) (OpV.not rfl rfl) rfl ?_
     refine VO.val rfl rfl (OpV.pickF rfl rfl rfl rfl aK4b) ?_
     refine VO.ma rfl rfl rfl rfl ?_
     refine VO.nil ?_
     refine VC.cond rfl (fun aH5b => ?_) (fun aH5b => ?_)
     ·have aH5 := aH5b
      try simp only [qqT, qqF, qqN, qqM, qqL, qqE] at aH5
      refine VC.sr ?_
      refine VO.ma rfl rfl rfl rfl ?_
      refine VO.nil ?_
      refine VC.ret ?_
      exact Exists.intro _ (And.intro (RetN.one Tryz.results139 (ResN.v rfl)) (by rw [ordO_1 (by assumption) (by assumption) (by first | exact or3a (out_t (by assumption)) | exact or3b (out_t (by assumption)) | exact or3c (out_t (by assumption)))]))
     ·have aH5 := aH5b
      try simp only [qqT, qqF, qqN, qqM, qqL, qqE] at aH5
      refine VC.skip ?_
      refine VC.sr ?_
      refine VO.ma rfl rfl rfl rfl ?_
      refine VO.nil ?_
      refine VC.ret ?_
      exact Exists.intro _ (And.intro (RetN.one Tryz.results139 (ResN.v rfl)) (by rw [ordO_0 (by assumption) (by assumption) (or3f (out_f (by assumption)) (out_f (by assumption)) (out_f (by assumption)))]))
    ·replace aK4b : _ = true := aK4b
     have aK4 := aK4b
     try simp only [qqT, qqF, qqN, qqM, qqL, qqE] at aK4
     refine VO.opX rfl rfl rfl rfl aK4b ?_
     refine VO.opX rfl rfl rfl rfl aK4b ?_
     refine VO.opX rfl rfl rfl rfl aK4b ?_
     refine VO.val rfl rfl (OpV.pickT rfl rfl rfl rfl aK4b) ?_
     refine VO.ma rfl rfl rfl rfl ?_
     refine VO.nil ?_
     refine VC.condT rfl rfl ?_
     refine VC.sr ?_
     refine VO.ma rfl rfl rfl rfl ?_
     refine VO.nil ?_
     refine VC.ret ?_
     exact Exists.intro _ (And.intro (RetN.one Tryz.results139 (ResN.v rfl)) (by rw [ordO_1 (by assumption) (by assumption) (by first | exact or3a (out_t (by assumption)) | exact or3b (out_t (by assumption)) | exact or3c (out_t (by assumption)))]))
   ·replace aK3b : _ = true := aK3b
    have aK3 := aK3b
    try simp only [qqT, qqF, qqN, qqM, qqL, qqE] at aK3
    refine VO.opX rfl rfl rfl rfl aK3b ?_
    refine VO.opX rfl rfl rfl rfl aK3b ?_
    refine VO.opX rfl rfl rfl rfl aK3b ?_
    refine VO.val rfl rfl (OpV.pickT rfl rfl rfl rfl aK3b) ?_
    refine VO.mv rfl rfl rfl rfl ?_
    refine VO.opX rfl rfl rfl rfl rfl ?_
    refine VO.opX rfl rfl rfl rfl rfl ?_
    refine VO.opX rfl rfl rfl rfl rfl ?_
    refine VO.opX rfl rfl rfl rfl rfl ?_
    refine VO.val rfl rfl (OpV.pickT rfl rfl rfl rfl rfl) ?_
    refine VO.ma rfl rfl rfl rfl ?_
    refine VO.nil ?_
    refine VC.condT rfl rfl ?_
    refine VC.sr ?_
    refine VO.ma rfl rfl rfl rfl ?_
    refine VO.nil ?_
    refine VC.ret ?_
    exact Exists.intro _ (And.intro (RetN.one Tryz.results139 (ResN.v rfl)) (by rw [ordO_1 (by assumption) (by assumption) (by first | exact or3a (out_t (by assumption)) | exact or3b (out_t (by assumption)) | exact or3c (out_t (by assumption)))]))
 ·replace aK1b : _ = true := aK1b
  have aK1 := aK1b
  try simp only [qqT, qqF, qqN, qqM, qqL, qqE] at aK1
  refine VO.opX rfl rfl rfl rfl aK1b ?_
  refine VO.opX rfl rfl rfl rfl aK1b ?_
  refine VO.opX rfl rfl rfl rfl aK1b ?_
  refine VO.val rfl rfl (OpV.pickT rfl rfl rfl rfl aK1b) ?_
  refine VO.ma rfl rfl rfl rfl ?_
  refine VO.nil ?_
  refine VC.condT rfl rfl ?_
  refine VC.sr ?_
  refine VO.ma rfl rfl rfl rfl ?_
  refine VO.nil ?_
  refine VC.ret ?_
  exact Exists.intro _ (And.intro (RetN.one Tryz.results139 (ResN.v rfl)) (by first | rw [ordO_5a (by assumption)] | rw [ordO_5b (by assumption)]))
set_option maxRecDepth 100000 in
set_option maxHeartbeats 4000000 in
theorem rf_OrdersFault {o : List OrdrS} (hs : SmOr o) :
  SpecN Tryz.prog 92 [avL o] (fun y => y = avI (ordrF o)) := by
 refine SpecN.of_VCN Tryz.func92 rfl Tryz.ntmps92 (Nle rfl) fun w A hB => ?_
 have hnew : True := trivial
 refine VC.seq ?_
 have hl := hs.len
 refine VC.region ?_
 refine VO.ma rfl rfl rfl rfl ?_
 refine VO.nil ?_
 refine VC.seq ?_
 refine VC.sr ?_
 refine VO.mv rfl rfl rfl rfl ?_
 refine VO.val rfl rfl (OpV.len_im rfl Tryz.underlying28 rfl) ?_
 refine VO.val rfl rfl (OpV.gtr rfl rfl rfl) ?_
 refine VO.nil ?_
 refine VC.cond rfl (fun aH1b => ?_) (fun aH1b => ?_)
 ·have aH1 := aH1b
  try simp only [qqT, qqF, qqN, qqM, qqL, qqE] at aH1
  refine VC.sr ?_
  refine VO.ma rfl rfl rfl rfl ?_
  refine VO.nil ?_
  refine VC.ret ?_
  exact Exists.intro _ (And.intro (RetN.one Tryz.results92 (ResN.v rfl)) (by rw [ordrF_2 (by omega)]))
 ·have aH1 := aH1b
  try simp only [qqT, qqF, qqN, qqM, qqL, qqE] at aH1
  refine VC.skip ?_
  refine VC.sr ?_
  refine VO.ma rfl rfl rfl rfl ?_
  refine VO.nil ?_
  refine VC.seq ?_
  refine VC.sr ?_
  refine VO.mv rfl rfl rfl rfl ?_
  refine VO.val rfl rfl (OpV.len_im rfl Tryz.underlying28 rfl) ?_
  refine VO.mv rfl rfl rfl rfl ?_
  refine VO.nil ?_
  refine VC.block ?_
  refine VC.loopK [(10, _), (11, _)] ⟨rfl, rfl, trivial⟩ ({q : Nat // q ≤ o.length ∧ ∀ j, j < q → ordrE o j = 0}) (fun (iZ : {q : Nat // q ≤ o.length ∧ ∀ j, j < q → ordrE o j = 0}) => match iZ with | ⟨q, hq, hn⟩ => [(3, avS (lastK OrdrS.key o q)), (12, avI (q : Int))]) (fun (iZ : {q : Nat // q ≤ o.length ∧ ∀ j, j < q → ordrE o j = 0}) => match iZ with | ⟨q, hq, hn⟩ => []) (fun (iZ : {q : Nat // q ≤ o.length ∧ ∀ j, j < q → ordrE o j = 0}) => match iZ with | ⟨q, hq, hn⟩ => 0) (fun (iZ : {q : Nat // q ≤ o.length ∧ ∀ j, j < q → ordrE o j = 0}) => match iZ with | ⟨q, hq, hn⟩ => o.length - q) ⟨0, Nat.zero_le _, fun j hj => absurd hj (Nat.not_lt_zero j)⟩ (Le.mk hB [] ⟨rfl, rfl, rfl, rfl, trivial⟩ rfl rfl (Nat.le_refl _)) ?_
  rintro ⟨q, hq, hn⟩
  show VC _ _ _ _ ⟨[(3, avS (lastK OrdrS.key o q)), (12, avI (q : Int))] ++ [(10, _), (11, _)], [], 0⟩
  refine VC.sr ?_
  refine VO.val rfl rfl (OpV.lss rfl rfl rfl) ?_
  refine VO.nil ?_
  refine VC.seq ?_
  refine VC.cond rfl (fun aH2b => ?_) (fun aH2b => ?_)
  ·have aH2 := aH2b
   try simp only [qqT, qqF, qqN, qqM, qqL, qqE] at aH2
   refine VC.skip ?_
   refine VC.seq ?_
   refine VC.block ?_
   refine VC.sr ?_
   refine VO.val rfl rfl (OpV.indexAddr_E rfl Tryz.underlying28 Tryz.sizeOf35 rfl rfl rfl (by omega)) ?_
   refine VO.val rfl rfl (OpV.loadK_at rfl hB OutW.no Tryz.isAgg35 Tryz.sizeOf35 rfl rfl) ?_
   refine VO.op rfl (OpE.alloc rfl hB rfl Tryz.zeroValue35 rfl ?_)
   intro g5
   refine VO.op rfl (OpE.store (i := 0) rfl hB rfl Tryz.sizeOf35 rfl rfl rfl rfl rfl rfl (Nle rfl) trivial ?_)
   refine VO.nil ?_
   refine VC.seq ?_
   refine VC.sr ?_
   refine VO.val rfl rfl (OpV.loadK_own (i := 0) rfl hB Tryz.isAgg35 Tryz.sizeOf35 rfl rfl rfl (fun h => h)) ?_
   refine VO.op rfl (OpE.call rfl hB rfl Tryz.call139 rfl (SpecN.spec (rf_orderFault (x := o.getD q default) (hs.key q) (hs.prod q))) ?_)
   rintro _ rfl
   refine VO.ma rfl rfl rfl rfl ?_
   refine VO.nil ?_
   refine VC.sr ?_
   refine VO.mv rfl rfl rfl rfl ?_
   refine VO.val rfl rfl (OpV.neq rfl rfl rfl) ?_
   refine VO.nil ?_
   refine VC.cond rfl (fun h2b => ?_) (fun h2b => ?_)
   ·have h2 := h2b
    try simp only [qqT, qqF, qqN, qqM, qqL, qqE] at h2
    refine VC.sr ?_
    refine VO.mv rfl rfl rfl rfl ?_
    refine VO.ma rfl rfl rfl rfl ?_
    refine VO.nil ?_
    refine VC.ret ?_
    exact Exists.intro _ (And.intro (RetN.one Tryz.results92 (ResN.v rfl)) (by rw [ordrF_at (by omega) (by omega) hn (ordrE_oe rfl h2) h2]))
   ·have h2 := h2b
    try simp only [qqT, qqF, qqN, qqM, qqL, qqE] at h2
    refine VC.skip ?_
    refine VC.seq ?_
    refine VC.sr ?_
    refine VO.val rfl rfl (OpV.fieldAddrO 0 rfl Tryz.underlying35 rfl rfl Tryz.sizeOf9 rfl) ?_
    refine VO.val rfl rfl (OpV.load_own (i := 0) rfl hB Tryz.isAgg9 rfl rfl rfl (fun h => h)) ?_
    refine VO.mv rfl rfl rfl rfl ?_
    refine VO.val rfl rfl (OpV.sleq rfl rfl rfl) ?_
    refine VO.nil ?_
    refine VC.cond rfl (fun h3b => ?_) (fun h3b => ?_)
    ·have h3 := h3b
     try simp only [qqT, qqF, qqN, qqM, qqL, qqE] at h3
     refine VC.sr ?_
     refine VO.ma rfl rfl rfl rfl ?_
     refine VO.nil ?_
     refine VC.ret ?_
     exact Exists.intro _ (And.intro (RetN.one Tryz.results92 (ResN.v rfl)) (by rw [ordrF_at (by omega) (by omega) hn (ordrE_o7 (by omega) h3) (by decide)]))
    ·have h3 := h3b
     try simp only [qqT, qqF, qqN, qqM, qqL, qqE] at h3
     refine VC.skip ?_
     refine VC.region ?_
     refine VO.val rfl rfl (OpV.fieldAddrO 0 rfl Tryz.underlying35 rfl rfl Tryz.sizeOf9 rfl) ?_
     refine VO.val rfl rfl (OpV.load_own (i := 0) rfl hB Tryz.isAgg9 rfl rfl rfl (fun h => h)) ?_
     refine VO.ma rfl rfl rfl rfl ?_
     refine VO.nil ?_
     refine VC.region ?_
     refine VO.val rfl rfl (OpV.add rfl rfl rfl (by unfold fits; omega)) ?_
     refine VO.mv rfl rfl rfl rfl ?_
     refine VO.nil ?_
     exact Exists.intro (⟨q + 1, by omega, lt_succ_cases hn ((ordrE_o0 (by omega) h3))⟩) (And.intro (Le.mk hB [] ⟨(by dsimp only; rw [lastK_succ]; rfl), rfl, rfl, rfl, trivial⟩ rfl rfl (Nat.le_refl _)) (by first | omega | (show _ < _; omega) | (simp only []; omega)))
  ·have aH2 := aH2b
   try simp only [qqT, qqF, qqN, qqM, qqL, qqE] at aH2
   refine VC.exit ?_
   refine VC.sr ?_
   refine VO.ma rfl rfl rfl rfl ?_
   refine VO.nil ?_
   refine VC.ret ?_
   exact Exists.intro _ (And.intro (RetN.one Tryz.results92 (ResN.v rfl)) (by rw [ordrF_ok (by omega) (fun j hj => hn j (by omega))]))
set_option maxRecDepth 100000 in
set_option maxHeartbeats 4000000 in
theorem rf_PacesFault {p : List PaceS} (hs : SmPc p) :
  SpecN Tryz.prog 94 [avL p] (fun y => y = avI (paceF p)) := by
 refine SpecN.of_VCN Tryz.func94 rfl Tryz.ntmps94 (Nle rfl) fun w A hB => ?_
 have hnew : True := trivial
 refine VC.seq ?_
 have hl := hs.len
 refine VC.region ?_
 refine VO.ma rfl rfl rfl rfl ?_
 refine VO.nil ?_
 refine VC.seq ?_
 refine VC.sr ?_
 refine VO.mv rfl rfl rfl rfl ?_
 refine VO.val rfl rfl (OpV.len_im rfl Tryz.underlying26 rfl) ?_
 refine VO.val rfl rfl (OpV.gtr rfl rfl rfl) ?_
 refine VO.nil ?_
 refine VC.cond rfl (fun aH1b => ?_) (fun aH1b => ?_)
 ·have aH1 := aH1b
  try simp only [qqT, qqF, qqN, qqM, qqL, qqE] at aH1
  refine VC.sr ?_
  refine VO.ma rfl rfl rfl rfl ?_
  refine VO.nil ?_
  refine VC.ret ?_
  exact Exists.intro _ (And.intro (RetN.one Tryz.results94 (ResN.v rfl)) (by rw [paceF_2 (by omega)]))
 ·have aH1 := aH1b
  try simp only [qqT, qqF, qqN, qqM, qqL, qqE] at aH1
  refine VC.skip ?_
  refine VC.sr ?_
  refine VO.ma rfl rfl rfl rfl ?_
  refine VO.nil ?_
  refine VC.seq ?_
  refine VC.sr ?_
  refine VO.mv rfl rfl rfl rfl ?_
  refine VO.val rfl rfl (OpV.len_im rfl Tryz.underlying26 rfl) ?_
  refine VO.mv rfl rfl rfl rfl ?_
  refine VO.nil ?_
  refine VC.block ?_
  refine VC.loopK [(10, _), (11, _)] ⟨rfl, rfl, trivial⟩ ({q : Nat // q ≤ p.length ∧ ∀ j, j < q → paceE p j = 0}) (fun (iZ : {q : Nat // q ≤ p.length ∧ ∀ j, j < q → paceE p j = 0}) => match iZ with | ⟨q, hq, hn⟩ => [(3, avS (lastK PaceS.product p q)), (12, avI (q : Int))]) (fun (iZ : {q : Nat // q ≤ p.length ∧ ∀ j, j < q → paceE p j = 0}) => match iZ with | ⟨q, hq, hn⟩ => []) (fun (iZ : {q : Nat // q ≤ p.length ∧ ∀ j, j < q → paceE p j = 0}) => match iZ with | ⟨q, hq, hn⟩ => 0) (fun (iZ : {q : Nat // q ≤ p.length ∧ ∀ j, j < q → paceE p j = 0}) => match iZ with | ⟨q, hq, hn⟩ => p.length - q) ⟨0, Nat.zero_le _, fun j hj => absurd hj (Nat.not_lt_zero j)⟩ (Le.mk hB [] ⟨rfl, rfl, rfl, rfl, trivial⟩ rfl rfl (Nat.le_refl _)) ?_
  rintro ⟨q, hq, hn⟩
  show VC _ _ _ _ ⟨[(3, avS (lastK PaceS.product p q)), (12, avI (q : Int))] ++ [(10, _), (11, _)], [], 0⟩
  refine VC.sr ?_
  refine VO.val rfl rfl (OpV.lss rfl rfl rfl) ?_
  refine VO.nil ?_
  refine VC.seq ?_
  refine VC.cond rfl (fun aH2b => ?_) (fun aH2b => ?_)
  ·have aH2 := aH2b
   try simp only [qqT, qqF, qqN, qqM, qqL, qqE] at aH2
   refine VC.skip ?_
   refine VC.seq ?_
   refine VC.block ?_
   refine VC.sr ?_
   refine VO.val rfl rfl (OpV.indexAddr_E rfl Tryz.underlying26 Tryz.sizeOf142 rfl rfl rfl (by omega)) ?_
   refine VO.val rfl rfl (OpV.loadK_at rfl hB OutW.no Tryz.isAgg142 Tryz.sizeOf142 rfl rfl) ?_
   refine VO.op rfl (OpE.alloc rfl hB rfl Tryz.zeroValue142 rfl ?_)
   intro g5
   refine VO.op rfl (OpE.store (i := 0) rfl hB rfl Tryz.sizeOf142 rfl rfl rfl rfl rfl rfl (Nle rfl) trivial ?_)
   refine VO.nil ?_
   refine VC.seq ?_
   refine VC.block ?_
   refine VC.sr ?_
   refine VO.val rfl rfl (OpV.fieldAddrO 0 rfl Tryz.underlying142 rfl rfl Tryz.sizeOf9 rfl) ?_
   refine VO.val rfl rfl (OpV.load_own (i := 0) rfl hB Tryz.isAgg9 rfl rfl rfl (fun h => h)) ?_
   refine VO.op rfl (OpE.call rfl hB rfl Tryz.call62 rfl (SpecN.spec (rf_Key (by have := hs.prod q; omega))) ?_)
   rintro _ rfl
   refine VO.val rfl rfl (OpV.not rfl rfl) ?_
   refine VO.ma rfl rfl rfl rfl ?_
   refine VO.nil ?_
   refine VC.cond rfl (fun k2b => ?_) (fun k2b => ?_)
   ·have k2 := k2b
    try simp only [qqT, qqF, qqN, qqM, qqL, qqE] at k2
    refine VC.sr ?_
    refine VO.ma rfl rfl rfl rfl ?_
    refine VO.nil ?_
    refine VC.ret ?_
    exact Exists.intro _ (And.intro (RetN.one Tryz.results94 (ResN.v rfl)) (by rw [paceF_at (by omega) (by omega) hn (paceE_5 k2) (by decide)]))
   ·have k2 := k2b
    try simp only [qqT, qqF, qqN, qqM, qqL, qqE] at k2
    refine VC.sr ?_
    refine VO.val rfl rfl (OpV.fieldAddrO 0 rfl Tryz.underlying142 rfl rfl Tryz.sizeOf9 rfl) ?_
    refine VO.val rfl rfl (OpV.load_own (i := 0) rfl hB Tryz.isAgg9 rfl rfl rfl (fun h => h)) ?_
    refine VO.mv rfl rfl rfl rfl ?_
    refine VO.val rfl rfl (OpV.sleq rfl rfl rfl) ?_
    refine VO.ma rfl rfl rfl rfl ?_
    refine VO.nil ?_
    refine VC.cond rfl (fun k3b => ?_) (fun k3b => ?_)
    ·have k3 := k3b
     try simp only [qqT, qqF, qqN, qqM, qqL, qqE] at k3
     refine VC.sr ?_
     refine VO.ma rfl rfl rfl rfl ?_
     refine VO.nil ?_
     refine VC.ret ?_
     exact Exists.intro _ (And.intro (RetN.one Tryz.results94 (ResN.v rfl)) (by rw [paceF_at (by omega) (by omega) hn (paceE_k7 k2 k3) (by decide)]))
    ·have k3 := k3b
     try simp only [qqT, qqF, qqN, qqM, qqL, qqE] at k3
     refine VC.sr ?_
     refine VO.val rfl rfl (OpV.fieldAddrO 1 rfl Tryz.underlying142 rfl rfl Tryz.sizeOf3 rfl) ?_
     refine VO.val rfl rfl (OpV.load_own (i := 0) rfl hB Tryz.isAgg3 rfl rfl rfl (fun h => h)) ?_
     refine VO.op rfl (OpE.call rfl hB rfl Tryz.call123 rfl (SpecN.spec (rf_in)) ?_)
     rintro _ rfl
     refine VO.val rfl rfl (OpV.not rfl rfl) ?_
     refine VO.ma rfl rfl rfl rfl ?_
     refine VO.nil ?_
     refine VC.cond rfl (fun k4b => ?_) (fun k4b => ?_)
     ·have k4 := k4b
      try simp only [qqT, qqF, qqN, qqM, qqL, qqE] at k4
      refine VC.sr ?_
      refine VO.ma rfl rfl rfl rfl ?_
      refine VO.nil ?_
      refine VC.ret ?_
      exact Exists.intro _ (And.intro (RetN.one Tryz.results94 (ResN.v rfl)) (by rw [paceF_at (by omega) (by omega) hn (paceE_1 k2 (paceE_k k2 k3) (out_t k4)) (by decide)]))
     ·have k4 := k4b
      try simp only [qqT, qqF, qqN, qqM, qqL, qqE] at k4
      refine VC.skip ?_
      refine VC.seq ?_
      refine VC.sr ?_
      refine VO.val rfl rfl (OpV.fieldAddrO 2 rfl Tryz.underlying142 rfl rfl Tryz.sizeOf109 rfl) ?_
      refine VO.val rfl rfl (OpV.load_own (i := 0) rfl hB Tryz.isAgg109 rfl rfl rfl (fun h => h)) ?_
      refine VO.op rfl (OpE.call rfl hB rfl Tryz.call210 rfl (SpecN.spec (rf_NeedsFault (by have := hs.nlen q; omega) (fun j => by have := hs.nkey q j; omega))) ?_)
      rintro _ rfl
      refine VO.ma rfl rfl rfl rfl ?_
      refine VO.nil ?_
      refine VC.sr ?_
      refine VO.mv rfl rfl rfl rfl ?_
      refine VO.val rfl rfl (OpV.neq rfl rfl rfl) ?_
      refine VO.nil ?_
      refine VC.cond rfl (fun k5b => ?_) (fun k5b => ?_)
      ·have k5 := k5b
       try simp only [qqT, qqF, qqN, qqM, qqL, qqE] at k5
       refine VC.sr ?_
       refine VO.mv rfl rfl rfl rfl ?_
       refine VO.ma rfl rfl rfl rfl ?_
       refine VO.nil ?_
       refine VC.ret ?_
       exact Exists.intro _ (And.intro (RetN.one Tryz.results94 (ResN.v rfl)) (by rw [paceF_at (by omega) (by omega) hn (paceE_n k2 (paceE_k k2 k3) (out_f k4)) k5]))
      ·have k5 := k5b
       try simp only [qqT, qqF, qqN, qqM, qqL, qqE] at k5
       refine VC.skip ?_
       refine VC.region ?_
       refine VO.val rfl rfl (OpV.fieldAddrO 0 rfl Tryz.underlying142 rfl rfl Tryz.sizeOf9 rfl) ?_
       refine VO.val rfl rfl (OpV.load_own (i := 0) rfl hB Tryz.isAgg9 rfl rfl rfl (fun h => h)) ?_
       refine VO.ma rfl rfl rfl rfl ?_
       refine VO.nil ?_
       refine VC.region ?_
       refine VO.val rfl rfl (OpV.add rfl rfl rfl (by unfold fits; omega)) ?_
       refine VO.mv rfl rfl rfl rfl ?_
       refine VO.nil ?_
       exact Exists.intro (⟨q + 1, by omega, lt_succ_cases hn ((by rw [paceE_n k2 (paceE_k k2 k3) (out_f k4)]; omega))⟩) (And.intro (Le.mk hB [] ⟨(by dsimp only; rw [lastK_succ]; rfl), rfl, rfl, rfl, trivial⟩ rfl rfl (Nat.le_refl _)) (by first | omega | (show _ < _; omega) | (simp only []; omega)))
  ·have aH2 := aH2b
   try simp only [qqT, qqF, qqN, qqM, qqL, qqE] at aH2
   refine VC.exit ?_
   refine VC.sr ?_
   refine VO.ma rfl rfl rfl rfl ?_
   refine VO.nil ?_
   refine VC.ret ?_
   exact Exists.intro _ (And.intro (RetN.one Tryz.results94 (ResN.v rfl)) (by rw [paceF_ok (by omega) (fun j hj => hn j (by omega))]))
set_option maxRecDepth 100000 in
theorem slices_IndexFunc_pace {xs : List PaceS} {F : FuncId} {cs : List AV} {p : PaceS → Bool} (hl : xs.length ≤ 1000000000) (hcall : ∀ us w, (callFunc F us).run Tryz.prog w = .ok (.enter F us) w) (hF : ∀ x, Spec Tryz.prog F ([avT x] ++ cs) (fun y => y = avB (p x))) :
  SpecN Tryz.prog 242 [avL xs, .fn F cs] (fun y => y = avI (fidx p xs)) := by
 refine SpecN.of_VCN Tryz.func242 rfl Tryz.ntmps242 (Nle rfl) fun w A hB => ?_
 have hnew : True := trivial
 refine VC.sr ?_
 refine VO.ma rfl rfl rfl rfl ?_
 refine VO.nil ?_
 refine VC.seq ?_
 refine VC.sr ?_
 refine VO.mv rfl rfl rfl rfl ?_
 refine VO.val rfl rfl (OpV.len_im rfl Tryz.underlying26 rfl) ?_
 refine VO.mv rfl rfl rfl rfl ?_
 refine VO.nil ?_
 refine VC.block ?_
 refine VC.loopK [(0, _), (1, _), (7, _)] ⟨rfl, rfl, rfl, trivial⟩ ({q : Nat // q ≤ xs.length ∧ ∀ j, j < q → p (xs.getD j default) = false}) (fun (iZ : {q : Nat // q ≤ xs.length ∧ ∀ j, j < q → p (xs.getD j default) = false}) => match iZ with | ⟨q, hq, hn⟩ => [(8, avI (q : Int))]) (fun (iZ : {q : Nat // q ≤ xs.length ∧ ∀ j, j < q → p (xs.getD j default) = false}) => match iZ with | ⟨q, hq, hn⟩ => []) (fun (iZ : {q : Nat // q ≤ xs.length ∧ ∀ j, j < q → p (xs.getD j default) = false}) => match iZ with | ⟨q, hq, hn⟩ => 0) (fun (iZ : {q : Nat // q ≤ xs.length ∧ ∀ j, j < q → p (xs.getD j default) = false}) => match iZ with | ⟨q, hq, hn⟩ => xs.length - q) ⟨0, Nat.zero_le _, fun j hj => absurd hj (Nat.not_lt_zero j)⟩ (Le.mk hB [] ⟨rfl, rfl, rfl, rfl, trivial⟩ rfl rfl (Nat.le_refl _)) ?_
 rintro ⟨q, hq, hn⟩
 show VC _ _ _ _ ⟨[(8, avI (q : Int))] ++ [(0, _), (1, _), (7, _)], [], 0⟩
 refine VC.sr ?_
 refine VO.val rfl rfl (OpV.lss rfl rfl rfl) ?_
 refine VO.nil ?_
 refine VC.seq ?_
 refine VC.cond rfl (fun aH1b => ?_) (fun aH1b => ?_)
 ·have aH1 := aH1b
  try simp only [qqT, qqF, qqN, qqM, qqL, qqE] at aH1
  refine VC.skip ?_
  refine VC.seq ?_
  refine VC.block ?_
  refine VC.sr ?_
  refine VO.mv rfl rfl rfl rfl ?_
  refine VO.ma rfl rfl rfl rfl ?_
  refine VO.nil ?_
  refine VC.sr ?_
  refine VO.mv rfl rfl rfl rfl ?_
  refine VO.mv rfl rfl rfl rfl ?_
  refine VO.mv rfl rfl rfl rfl ?_
  refine VO.val rfl rfl (OpV.indexAddr_E rfl Tryz.underlying26 Tryz.sizeOf142 rfl rfl rfl (by omega)) ?_
  refine VO.val rfl rfl (OpV.loadK_at rfl hB OutW.no Tryz.isAgg142 Tryz.sizeOf142 rfl rfl) ?_
  refine VO.op rfl (OpE.callF rfl hB rfl hcall rfl rfl (hF _) ?_)
  rintro _ rfl
  refine VO.nil ?_
  refine VC.cond rfl (fun aH2b => ?_) (fun aH2b => ?_)
  ·have aH2 := aH2b
   try simp only [qqT, qqF, qqN, qqM, qqL, qqE] at aH2
   refine VC.sr ?_
   refine VO.mv rfl rfl rfl rfl ?_
   refine VO.ma rfl rfl rfl rfl ?_
   refine VO.nil ?_
   refine VC.ret ?_
   exact Exists.intro _ (And.intro (RetN.one Tryz.results242 (ResN.v rfl)) (by first | (rw [fidx_found (d := default) (q := q) (by omega) hn (by assumption)]) | (rw [fidx_none (d := default) (fun j hj => hn j (by omega))])))
  ·have aH2 := aH2b
   try simp only [qqT, qqF, qqN, qqM, qqL, qqE] at aH2
   refine VC.skip ?_
   refine VC.region ?_
   refine VO.val rfl rfl (OpV.add rfl rfl rfl (by unfold fits; omega)) ?_
   refine VO.mv rfl rfl rfl rfl ?_
   refine VO.nil ?_
   exact Exists.intro (⟨q + 1, by omega, lt_succ_cases hn ((by assumption))⟩) (And.intro (Le.mk hB [] ⟨rfl, rfl, rfl, rfl, trivial⟩ rfl rfl (Nat.le_refl _)) (by first | omega | (show _ < _; omega) | (simp only []; omega)))
 ·have aH1 := aH1b
  try simp only [qqT, qqF, qqN, qqM, qqL, qqE] at aH1
  refine VC.exit ?_
  refine VC.sr ?_
  refine VO.ma rfl rfl rfl rfl ?_
  refine VO.nil ?_
  refine VC.ret ?_
  exact Exists.intro _ (And.intro (RetN.one Tryz.results242 (ResN.v rfl)) (by first | (rw [fidx_found (d := default) (q := q) (by omega) hn (by assumption)]) | (rw [fidx_none (d := default) (fun j hj => hn j (by omega))])))
set_option maxRecDepth 100000 in
theorem rf_PaceOf1 {x : PaceS} {k : ByteArray}  :
  SpecN Tryz.prog 243 [avT x, .at_ 1 (fun _ => avS k)] (fun y => y = avB (sEq x.product k)) := by
 refine SpecN.of_VCN Tryz.func243 rfl Tryz.ntmps243 (Nle rfl) fun w A hB => ?_
 have hnew : True := trivial
 refine VC.sr ?_
 refine VO.op rfl (OpE.box rfl hB rfl rfl rfl ?_)
 intro g2
 refine VO.ma rfl rfl rfl rfl ?_
 refine VO.nil ?_
 refine VC.sr ?_
 refine VO.val rfl rfl (OpV.fieldAddrO 0 rfl Tryz.underlying142 rfl rfl Tryz.sizeOf9 rfl) ?_
 refine VO.val rfl rfl (OpV.load_own (i := 0) rfl hB Tryz.isAgg9 rfl rfl rfl (fun h => h)) ?_
 refine VO.val rfl rfl (OpV.load_at rfl hB OutW.no Tryz.isAgg9 rfl rfl) ?_
 refine VO.val rfl rfl (OpV.seql rfl rfl rfl) ?_
 refine VO.ma rfl rfl rfl rfl ?_
 refine VO.nil ?_
 refine VC.ret ?_
 exact Exists.intro _ (And.intro (RetN.one Tryz.results243 (ResN.v rfl)) (rfl))
theorem find_fidx {α : Type} [Inhabited α] {p : α → Bool} : ∀ {l : List α}, 0 ≤ fidx p l → (l.find? p).getD default = l.getD (fidx p l).toNat default
 | [], h => by simp [fidx] at h
 | x :: r, h => by
  cases hp : p x with
  | true => simp [List.find?, fidx, hp]
  | false =>
   simp only [List.find?, hp, fidx] at h ⊢
   cases hf : fidx p r with
   | ofNat n =>
    have ih := find_fidx (p := p) (l := r) (by rw [hf]; exact Int.natCast_nonneg n)
    rw [hf] at ih
    rw [ih]
    simp
   | negSucc n => rw [hf] at h; simp at h
set_option maxRecDepth 100000 in
theorem rf_PaceOf {p : List PaceS} {k : ByteArray} (hl : p.length ≤ 1000000) :
  Spec Tryz.prog 122 [avL p, avS k] (fun y => y = .tup [avPc (paceO p k), avB (hasP p k)]) := by
 refine Spec.of_VC Tryz.func122 rfl Tryz.ntmps122 (Nle rfl) fun w A hB => ?_
 have hnew : True := trivial
 refine VC.sr ?_
 refine VO.op rfl (OpE.box rfl hB rfl rfl rfl ?_)
 intro g3
 refine VO.op rfl (OpE.alloc rfl hB rfl Tryz.zeroValue142 rfl ?_)
 intro g4
 refine VO.ma rfl rfl rfl rfl ?_
 refine VO.nil ?_
 refine VC.sr ?_
 refine VO.mv rfl rfl rfl rfl ?_
 refine VO.val rfl rfl (OpV.makeFunc1 rfl rfl) ?_
 refine VO.op rfl (OpE.callL rfl hB rfl Tryz.call242 (slices_IndexFunc_pace (p := fun x => sEq x.product k) (by omega) Tryz.call243 (fun x => rf_PaceOf1.spec)) (ArgsP.cons (ArgP.ev rfl) (ArgsP.cons (ArgP.fn1 (i := 0) (m := 1) (f := fun _ => avS k) rfl rfl (Nle rfl) (lt1 rfl)) (ArgsP.nil))) ?_)
 rintro _ rfl
 refine VO.ma rfl rfl rfl rfl ?_
 refine VO.nil ?_
 refine VC.seq ?_
 refine VC.sr ?_
 refine VO.mv rfl rfl rfl rfl ?_
 refine VO.val rfl rfl (OpV.lss rfl rfl rfl) ?_
 refine VO.nil ?_
 refine VC.cond rfl (fun h0b => ?_) (fun h0b => ?_)
 ·have h0 := h0b
  try simp only [qqT, qqF, qqN, qqM, qqL, qqE] at h0
  have hh : hasP p k = false := by unfold hasP; rw [← fidx_any]; exact decide_eq_false (by omega)
  have ho : paceO p k = default := by rw [paceO, find_none' hh]
  refine VC.sr ?_
  refine VO.val rfl rfl (OpV.build (pls := #[(0, 1), (1, 1), (2, 1)]) rfl Tryz.zeroValue142 Tryz.underlying142 (fun w => by kernel_rfl) rfl rfl) ?_
  refine VO.le _ (Le.recast (t := 12) (y := avPc default) rfl (fun w Z u h => nil_pace h)) ?_
  refine VO.op rfl (OpE.store (i := 1) rfl hB rfl Tryz.sizeOf142 rfl rfl rfl rfl rfl rfl (Nle rfl) trivial ?_)
  refine VO.ma rfl rfl rfl rfl ?_
  refine VO.nil ?_
  refine VC.ret ?_
  exact Exists.intro _ (And.intro (RetV.two Tryz.results122 ((by first | exact ResV.cellK (i := 0) Tryz.isAgg142 Tryz.sizeOf142 rfl rfl rfl | exact ResV.cellK (i := 1) Tryz.isAgg142 Tryz.sizeOf142 rfl rfl rfl)) (ResV.tmp rfl)) (by rw [hh, ho]; rfl))
 ·have h0 := h0b
  try simp only [qqT, qqF, qqN, qqM, qqL, qqE] at h0
  have hh : hasP p k = true := by unfold hasP; rw [← fidx_any]; exact decide_eq_true (by omega)
  have ho : paceO p k = p.getD (fidx (fun x => sEq x.product k) p).toNat default := find_fidx (by omega)
  have hb := (fidx_at (d := default) (p := fun x : PaceS => sEq x.product k) (xs := p) (by omega)).1
  refine VC.skip ?_
  refine VC.sr ?_
  refine VO.mv rfl rfl rfl rfl ?_
  refine VO.mv rfl rfl rfl rfl ?_
  refine VO.val rfl rfl (OpV.indexAddr_E rfl Tryz.underlying26 Tryz.sizeOf142 rfl rfl (Int.toNat_of_nonneg (by omega)).symm hb) ?_
  refine VO.val rfl rfl (OpV.loadK_at rfl hB OutW.no Tryz.isAgg142 Tryz.sizeOf142 rfl rfl) ?_
  refine VO.op rfl (OpE.store (i := 1) rfl hB rfl Tryz.sizeOf142 rfl rfl rfl rfl rfl rfl (Nle rfl) trivial ?_)
  refine VO.ma rfl rfl rfl rfl ?_
  refine VO.nil ?_
  refine VC.ret ?_
  exact Exists.intro _ (And.intro (RetV.two Tryz.results122 ((by first | exact ResV.cellK (i := 0) Tryz.isAgg142 Tryz.sizeOf142 rfl rfl rfl | exact ResV.cellK (i := 1) Tryz.isAgg142 Tryz.sizeOf142 rfl rfl rfl)) (ResV.tmp rfl)) (by rw [hh, ho]; rfl))
set_option maxRecDepth 100000 in
set_option maxHeartbeats 4000000 in
theorem rf_BothFault {p : List PaceS} {o : List OrdrS} (hp : SmPc p) (ho : SmOr o) :
  SpecN Tryz.prog 25 [avL p, avL o] (fun y => y = avI (bothF p o)) := by
 refine SpecN.of_VCN Tryz.func25 rfl Tryz.ntmps25 (Nle rfl) fun w A hB => ?_
 have hnew : True := trivial
 refine VC.seq ?_
 have hl := hp.len
 have hl2 := ho.len
 refine VC.region ?_
 refine VO.ma rfl rfl rfl rfl ?_
 refine VO.nil ?_
 refine VC.seq ?_
 refine VC.sr ?_
 refine VO.mv rfl rfl rfl rfl ?_
 refine VO.op rfl (OpE.call rfl hB rfl Tryz.call94 rfl (SpecN.spec (rf_PacesFault hp)) ?_)
 rintro _ rfl
 refine VO.ma rfl rfl rfl rfl ?_
 refine VO.nil ?_
 refine VC.sr ?_
 refine VO.mv rfl rfl rfl rfl ?_
 refine VO.val rfl rfl (OpV.neq rfl rfl rfl) ?_
 refine VO.nil ?_
 refine VC.cond rfl (fun h0b => ?_) (fun h0b => ?_)
 ·have h0 := h0b
  try simp only [qqT, qqF, qqN, qqM, qqL, qqE] at h0
  refine VC.sr ?_
  refine VO.mv rfl rfl rfl rfl ?_
  refine VO.ma rfl rfl rfl rfl ?_
  refine VO.nil ?_
  refine VC.ret ?_
  exact Exists.intro _ (And.intro (RetN.one Tryz.results25 (ResN.v rfl)) (by rw [bothF_1 h0]))
 ·have h0 := h0b
  try simp only [qqT, qqF, qqN, qqM, qqL, qqE] at h0
  refine VC.skip ?_
  refine VC.seq ?_
  refine VC.sr ?_
  refine VO.mv rfl rfl rfl rfl ?_
  refine VO.op rfl (OpE.call rfl hB rfl Tryz.call92 rfl (SpecN.spec (rf_OrdersFault ho)) ?_)
  rintro _ rfl
  refine VO.ma rfl rfl rfl rfl ?_
  refine VO.nil ?_
  refine VC.sr ?_
  refine VO.mv rfl rfl rfl rfl ?_
  refine VO.val rfl rfl (OpV.neq rfl rfl rfl) ?_
  refine VO.nil ?_
  refine VC.cond rfl (fun h1b => ?_) (fun h1b => ?_)
  ·have h1 := h1b
   try simp only [qqT, qqF, qqN, qqM, qqL, qqE] at h1
   refine VC.sr ?_
   refine VO.mv rfl rfl rfl rfl ?_
   refine VO.ma rfl rfl rfl rfl ?_
   refine VO.nil ?_
   refine VC.ret ?_
   exact Exists.intro _ (And.intro (RetN.one Tryz.results25 (ResN.v rfl)) (by rw [bothF_2 (by omega) h1]))
  ·have h1 := h1b
   try simp only [qqT, qqF, qqN, qqM, qqL, qqE] at h1
   refine VC.skip ?_
   refine VC.seq ?_
   refine VC.sr ?_
   refine VO.mv rfl rfl rfl rfl ?_
   refine VO.val rfl rfl (OpV.len_im rfl Tryz.underlying28 rfl) ?_
   refine VO.mv rfl rfl rfl rfl ?_
   refine VO.nil ?_
   refine VC.block ?_
   refine VC.loopK [(0, _), (21, _), (22, _)] ⟨rfl, rfl, rfl, trivial⟩ ({q : Nat // q ≤ o.length ∧ ∀ j, j < q → hasP p (o.getD j default).product = true}) (fun (iZ : {q : Nat // q ≤ o.length ∧ ∀ j, j < q → hasP p (o.getD j default).product = true}) => match iZ with | ⟨q, hq, hn⟩ => [(23, avI (q : Int))]) (fun (iZ : {q : Nat // q ≤ o.length ∧ ∀ j, j < q → hasP p (o.getD j default).product = true}) => match iZ with | ⟨q, hq, hn⟩ => []) (fun (iZ : {q : Nat // q ≤ o.length ∧ ∀ j, j < q → hasP p (o.getD j default).product = true}) => match iZ with | ⟨q, hq, hn⟩ => 0) (fun (iZ : {q : Nat // q ≤ o.length ∧ ∀ j, j < q → hasP p (o.getD j default).product = true}) => match iZ with | ⟨q, hq, hn⟩ => o.length - q) ⟨0, Nat.zero_le _, fun j hj => absurd hj (Nat.not_lt_zero j)⟩ (Le.mk hB [] ⟨rfl, rfl, rfl, rfl, trivial⟩ rfl rfl (Nat.le_refl _)) ?_
   rintro ⟨q, hq, hn⟩
   show VC _ _ _ _ ⟨[(23, avI (q : Int))] ++ [(0, _), (21, _), (22, _)], [], 0⟩
   refine VC.sr ?_
   refine VO.val rfl rfl (OpV.lss rfl rfl rfl) ?_
   refine VO.nil ?_
   refine VC.seq ?_
   refine VC.cond rfl (fun aH1b => ?_) (fun aH1b => ?_)
   ·have aH1 := aH1b
    try simp only [qqT, qqF, qqN, qqM, qqL, qqE] at aH1
    refine VC.skip ?_
    refine VC.seq ?_
    refine VC.block ?_
    refine VC.sr ?_
    refine VO.val rfl rfl (OpV.indexAddr_E rfl Tryz.underlying28 Tryz.sizeOf35 rfl rfl rfl (by omega)) ?_
    refine VO.val rfl rfl (OpV.loadK_at rfl hB OutW.no Tryz.isAgg35 Tryz.sizeOf35 rfl rfl) ?_
    refine VO.op rfl (OpE.alloc rfl hB rfl Tryz.zeroValue35 rfl ?_)
    intro g8
    refine VO.op rfl (OpE.store (i := 0) rfl hB rfl Tryz.sizeOf35 rfl rfl rfl rfl rfl rfl (Nle rfl) trivial ?_)
    refine VO.nil ?_
    refine VC.sr ?_
    refine VO.mv rfl rfl rfl rfl ?_
    refine VO.val rfl rfl (OpV.fieldAddrO 1 rfl Tryz.underlying35 rfl rfl Tryz.sizeOf9 rfl) ?_
    refine VO.val rfl rfl (OpV.load_own (i := 0) rfl hB Tryz.isAgg9 rfl rfl rfl (fun h => h)) ?_
    refine VO.op rfl (OpE.call rfl hB rfl Tryz.call122 rfl (rf_PaceOf (k := (o.getD q default).product) (by omega)) ?_)
    rintro _ rfl
    refine VO.mv rfl rfl rfl rfl ?_
    refine VO.val rfl rfl (OpV.extract rfl rfl rfl) ?_
    refine VO.val rfl rfl (OpV.extract rfl rfl rfl) ?_
    refine VO.op rfl (OpE.alloc rfl hB rfl Tryz.zeroValue142 rfl ?_)
    intro g9
    refine VO.op rfl (OpE.store (i := 1) rfl hB rfl Tryz.sizeOf142 rfl rfl rfl rfl rfl rfl (Nle rfl) trivial ?_)
    refine VO.ma rfl rfl rfl rfl ?_
    refine VO.nil ?_
    refine VC.sr ?_
    refine VO.mv rfl rfl rfl rfl ?_
    refine VO.val rfl rfl (OpV.not rfl rfl) ?_
    refine VO.nil ?_
    refine VC.cond rfl (fun h3b => ?_) (fun h3b => ?_)
    ·have h3 := h3b
     try simp only [qqT, qqF, qqN, qqM, qqL, qqE] at h3
     refine VC.sr ?_
     refine VO.ma rfl rfl rfl rfl ?_
     refine VO.nil ?_
     refine VC.ret ?_
     exact Exists.intro _ (And.intro (RetN.one Tryz.results25 (ResN.v rfl)) (by rw [bothF_3 (by omega) (by omega), if_neg (by rw [all_no (d := default) (q := q) (by omega) h3]; simp)]))
    ·have h3 := h3b
     try simp only [qqT, qqF, qqN, qqM, qqL, qqE] at h3
     refine VC.skip ?_
     refine VC.region ?_
     refine VO.val rfl rfl (OpV.add rfl rfl rfl (by unfold fits; omega)) ?_
     refine VO.mv rfl rfl rfl rfl ?_
     refine VO.nil ?_
     exact Exists.intro (⟨q + 1, by omega, lt_succ_cases hn (h3)⟩) (And.intro (Le.mk hB [] ⟨rfl, rfl, rfl, rfl, trivial⟩ rfl rfl (Nat.le_refl _)) (by first | omega | (show _ < _; omega) | (simp only []; omega)))
   ·have aH1 := aH1b
    try simp only [qqT, qqF, qqN, qqM, qqL, qqE] at aH1
    refine VC.exit ?_
    refine VC.sr ?_
    refine VO.ma rfl rfl rfl rfl ?_
    refine VO.nil ?_
    refine VC.ret ?_
    exact Exists.intro _ (And.intro (RetN.one Tryz.results25 (ResN.v rfl)) (by rw [bothF_3 (by omega) (by omega), if_pos (all_yes (d := default) (fun j hj => hn j (by omega)))]))
end Go.Proofs.YtmahammdnmmmoaaGreatDoor
namespace Go.Proofs.YtmahammdnmmmoaaGreatDoor
open Go.RowKit
set_option linter.unusedVariables false
set_option linter.unusedSimpArgs false
theorem idO_ordL (n : Nat) : OrdL ltI (idO n) := by
 unfold OrdL idO
 rw [List.pairwise_map]
 refine List.Pairwise.imp (fun {a b} h => ?_) List.pairwise_lt_range
 exact decide_eq_false (by omega)
theorem sch_sorted {n : Nat} {l s : List Int} (hp : s.Perm l) (ho : OrdL ltI s) (h0 : schF n l = 0) : s = idO n := by
 obtain ⟨h1, h2⟩ := schF_0 h0
 have hpi := hp.trans (h2.perm h1)
 refine ord_unique hpi (hp.nodup_iff.2 h2.nd) (fun a _ b _ hne h => ?_) ho (idO_ordL n)
 have := of_decide_eq_false h
 exact decide_eq_true (by omega)
theorem sch_no {n q : Nat} {l s : List Int} (hp : s.Perm l) (ho : OrdL ltI s) (hq : q < s.length) (h : s.getD q 0 ≠ (q : Int)) : schF n l = 3 := by
 by_cases h0 : schF n l = 0
 ·have e := sch_sorted hp ho h0
  subst e
  rw [idO_len] at hq
  exact absurd (idO_get hq) h
 ·unfold schF at h0 ⊢
  split
  ·rename_i h1; rw [if_pos h1] at h0; exact absurd rfl h0
  ·rfl
theorem sch_yes {n : Nat} {l s : List Int} (hp : s.Perm l) (hn : ∀ j, j < s.length → s.getD j 0 = (j : Int)) (hl : l.length = n) : schF n l = 0 := by
 have e : s = idO n := by
  have hs : s.length = n := by rw [hp.length_eq, hl]
  apply List.ext_getElem (by rw [hs, idO_len])
  intro i h1 h2
  have := hn i h1
  rw [List.getD_eq_getElem?_getD, List.getElem?_eq_getElem h1] at this
  simp only [Option.getD_some] at this
  rw [this]
  simp [idO]
 subst e
 refine schF_ok hl ⟨hp.nodup_iff.1 (idO_ord n).nd, fun x hx => (idO_ord n).lt x (hp.symm.subset hx)⟩
set_option maxRecDepth 100000 in
set_option maxHeartbeats 4000000 in
theorem rf_ScheduleFault {o : List OrdrS} {l : List Int} (ho : o.length ≤ 1000000) (hl : l.length ≤ 12) :
  SpecN Tryz.prog 35 [avL o, avInts l] (fun y => y = avI (schF o.length l)) := by
 refine SpecN.of_VCN Tryz.func35 rfl Tryz.ntmps35 (Nle rfl) fun w A hB => ?_
 have hnew : True := trivial
 refine VC.sr ?_
 refine VO.ma rfl rfl rfl rfl ?_
 refine VO.nil ?_
 refine VC.sr ?_
 refine VO.mv rfl rfl rfl rfl ?_
 refine VO.op rfl (OpE.callR rfl hB rfl Tryz.call120 (slices_Clone_R (by omega)) (ArgsP.cons (ArgP.ev rfl) (ArgsP.nil)) ?_)
 intro u
 refine VO.ma rfl rfl rfl rfl ?_
 refine VO.nil ?_
 refine VC.sr ?_
 refine VO.mv rfl rfl rfl rfl ?_
 refine VO.op rfl (OpE.callH0 rfl hB rfl Tryz.call80 rfl rfl (sort_int (l0 := l) hl) (List.Perm.refl _) (fun _ _ => trivial) ?_)
 rintro _ _ ⟨s, ⟨hsp, hso⟩, rfl, rfl⟩
 refine VO.nil ?_
 refine VC.seq ?_
 refine VC.seq ?_
 have hsl := hsp.length_eq
 refine VC.le _ (Le.rowI (t := 5) (i := 0) hB hnew rfl rfl hsl.symm) ?_
 refine VC.region ?_
 refine VO.mv rfl rfl rfl rfl ?_
 refine VO.val rfl rfl (OpV.len_im rfl Tryz.underlying22 rfl) ?_
 refine VO.mv rfl rfl rfl rfl ?_
 refine VO.nil ?_
 refine VC.block ?_
 refine VC.loopK [(0, _), (5, _), (12, _), (13, _)] ⟨rfl, rfl, rfl, rfl, trivial⟩ ({q : Nat // q ≤ s.length ∧ ∀ j, j < q → s.getD j 0 = (j : Int)}) (fun (iZ : {q : Nat // q ≤ s.length ∧ ∀ j, j < q → s.getD j 0 = (j : Int)}) => match iZ with | ⟨q, hq, hn⟩ => [(14, avI (q : Int))]) (fun (iZ : {q : Nat // q ≤ s.length ∧ ∀ j, j < q → s.getD j 0 = (j : Int)}) => match iZ with | ⟨q, hq, hn⟩ => []) (fun (iZ : {q : Nat // q ≤ s.length ∧ ∀ j, j < q → s.getD j 0 = (j : Int)}) => match iZ with | ⟨q, hq, hn⟩ => 0) (fun (iZ : {q : Nat // q ≤ s.length ∧ ∀ j, j < q → s.getD j 0 = (j : Int)}) => match iZ with | ⟨q, hq, hn⟩ => s.length - q) ⟨0, Nat.zero_le _, fun j hj => absurd hj (Nat.not_lt_zero j)⟩ (Le.mk hB [] ⟨rfl, rfl, rfl, rfl, rfl, trivial⟩ rfl rfl (Nat.le_refl _)) ?_
 rintro ⟨q, hq, hn⟩
 show VC _ _ _ _ ⟨[(14, avI (q : Int))] ++ [(0, _), (5, _), (12, _), (13, _)], [], 0⟩
 refine VC.sr ?_
 refine VO.val rfl rfl (OpV.lss rfl rfl rfl) ?_
 refine VO.nil ?_
 refine VC.seq ?_
 refine VC.cond rfl (fun aH1b => ?_) (fun aH1b => ?_)
 ·have aH1 := aH1b
  try simp only [qqT, qqF, qqN, qqM, qqL, qqE] at aH1
  refine VC.skip ?_
  refine VC.seq ?_
  refine VC.block ?_
  refine VC.sr ?_
  refine VO.mv rfl rfl rfl rfl ?_
  refine VO.val rfl rfl (OpV.indexAddr_1 rfl Tryz.underlying22 Tryz.sizeOf3 rfl rfl rfl (by omega)) ?_
  refine VO.val rfl rfl (OpV.load_at rfl hB OutW.no Tryz.isAgg3 rfl rfl) ?_
  refine VO.ma rfl rfl rfl rfl ?_
  refine VO.ma rfl rfl rfl rfl ?_
  refine VO.nil ?_
  refine VC.sr ?_
  refine VO.mv rfl rfl rfl rfl ?_
  refine VO.mv rfl rfl rfl rfl ?_
  refine VO.val rfl rfl (OpV.neq rfl rfl rfl) ?_
  refine VO.nil ?_
  refine VC.cond rfl (fun aH2b => ?_) (fun aH2b => ?_)
  ·have aH2 := aH2b
   try simp only [qqT, qqF, qqN, qqM, qqL, qqE] at aH2
   refine VC.sr ?_
   refine VO.ma rfl rfl rfl rfl ?_
   refine VO.nil ?_
   refine VC.ret ?_
   exact Exists.intro _ (And.intro (RetN.one Tryz.results35 (ResN.v rfl)) (by rw [sch_no hsp hso (q := q) (by omega) (by omega)]))
  ·have aH2 := aH2b
   try simp only [qqT, qqF, qqN, qqM, qqL, qqE] at aH2
   refine VC.skip ?_
   refine VC.region ?_
   refine VO.val rfl rfl (OpV.add rfl rfl rfl (by unfold fits; omega)) ?_
   refine VO.mv rfl rfl rfl rfl ?_
   refine VO.nil ?_
   exact Exists.intro (⟨q + 1, by omega, lt_succ_cases hn ((by omega))⟩) (And.intro (Le.mk hB [] ⟨rfl, rfl, rfl, rfl, rfl, trivial⟩ rfl rfl (Nat.le_refl _)) (by first | omega | (show _ < _; omega) | (simp only []; omega)))
 ·have aH1 := aH1b
  try simp only [qqT, qqF, qqN, qqM, qqL, qqE] at aH1
  refine VC.exit ?_
  refine VC.seq ?_
  refine VC.sr ?_
  refine VO.mv rfl rfl rfl rfl ?_
  refine VO.val rfl rfl (OpV.len_im rfl Tryz.underlying22 rfl) ?_
  refine VO.mv rfl rfl rfl rfl ?_
  refine VO.val rfl rfl (OpV.len_im rfl Tryz.underlying28 rfl) ?_
  refine VO.val rfl rfl (OpV.neq rfl rfl rfl) ?_
  refine VO.nil ?_
  refine VC.cond rfl (fun aH3b => ?_) (fun aH3b => ?_)
  ·have aH3 := aH3b
   try simp only [qqT, qqF, qqN, qqM, qqL, qqE] at aH3
   refine VC.sr ?_
   refine VO.ma rfl rfl rfl rfl ?_
   refine VO.nil ?_
   refine VC.ret ?_
   exact Exists.intro _ (And.intro (RetN.one Tryz.results35 (ResN.v rfl)) (by rw [schF_len (by omega)]))
  ·have aH3 := aH3b
   try simp only [qqT, qqF, qqN, qqM, qqL, qqE] at aH3
   refine VC.skip ?_
   refine VC.sr ?_
   refine VO.ma rfl rfl rfl rfl ?_
   refine VO.nil ?_
   refine VC.ret ?_
   exact Exists.intro _ (And.intro (RetN.one Tryz.results35 (ResN.v rfl)) (by rw [sch_yes hsp (fun j hj => hn j (by omega)) (by omega)]))
end Go.Proofs.YtmahammdnmmmoaaGreatDoor
namespace Go.Proofs.YtmahammdnmmmoaaGreatDoor
open Go.RowKit
set_option linter.unusedVariables false
set_option linter.unusedSimpArgs false

abbrev pt (g : Nat) : AV := .v (.pointer (some ⟨g, 0, none⟩))
abbrev ptv (g : Nat) : Value := .pointer (some ⟨g, 0, none⟩)
theorem take_succ_getD {α : Type} {xs : List α} {q : Nat} {d : α} (h : q < xs.length) : xs.take (q + 1) = xs.take q ++ [xs.getD q d] := by
 rw [List.take_succ_eq_append_getElem h]
 simp [h]
theorem getD_set_ne {α : Type} {b : List α} {i k : Nat} {x d : α} (h : i ≠ k) : (b.set i x).getD k d = b.getD k d := by
 simp only [List.getD_eq_getElem?_getD, List.getElem?_set, if_neg h]
end Go.Proofs.YtmahammdnmmmoaaGreatDoor
namespace Go.Proofs.YtmahammdnmmmoaaGreatDoor
open Go.RowKit
set_option linter.unusedVariables false
set_option linter.unusedSimpArgs false
set_option maxRecDepth 100000 in
theorem plan_result1 {i : Int} {x : WinS} (h : True) :
  SpecH Tryz.prog 238 [avI i, .agg [avI x.fr, avI x.to]] [] (fun y hp' => hp' = []) := by
 refine SpecH.of_VC Tryz.func238 rfl Tryz.ntmps238 (Nle rfl) fun w A hB => ?_
 have hnew : True := trivial
 refine VC.region ?_
 refine VO.op rfl (OpE.box rfl hB rfl rfl rfl ?_)
 intro g3
 refine VO.le _ (Le.drop 1) ?_
 refine VO.nil ?_
 exact Exists.intro _ (And.intro (RetV.none Tryz.results238) (rfl))
theorem res_does (n : Nat) : DoesW n (fun (a : Unit) h => h = []) (fun a i w => ()) Tryz.prog 238 #[] := by
 rintro i w a h h0 h1 rfl
 exact (plan_result1 (i := i) (x := w) trivial)
set_option maxRecDepth 100000 in
theorem plan_result {p : List PaceS} {o : List OrdrS} {l : List Int} {start each : Int} (hk : SchOk p o l start each) :
  SpecN Tryz.prog 117 [.at_ 3 (schC p o each), avInts l, avI start] (fun y => y = .agg [avI (resP p o l start each l.length).late, avI (resP p o l start each l.length).many, avI (resP p o l start each l.length).en]) := by
 refine SpecN.of_VCN Tryz.func117 rfl Tryz.ntmps117 (Nle rfl) fun w A hB => ?_
 have hnew : True := trivial
 refine VC.sr ?_
 refine VO.op rfl (OpE.alloc rfl hB rfl Tryz.zeroValue150 rfl ?_)
 intro g6
 refine VO.nil ?_
 refine VC.sr ?_
 refine VO.mv rfl rfl rfl rfl ?_
 refine VO.mv rfl rfl rfl rfl ?_
 refine VO.mv rfl rfl rfl rfl ?_
 refine VO.op rfl (OpE.callH (rest := [.box g6 ⟨_, _, _⟩]) rfl hB rfl Tryz.call136 rfl rfl (plan_run (h := []) hk Tryz.call238 (res_does _) (a := ()) rfl) (List.Perm.refl _) (fun _ _ => trivial) ?_)
 rintro _ _ ⟨_, e1, e2, rfl, rfl, rfl⟩
 refine VO.le _ (Le.drop 2) ?_
 refine VO.op rfl (OpE.store (i := 0) rfl hB rfl Tryz.sizeOf150 rfl rfl rfl rfl rfl rfl (Nle rfl) trivial ?_)
 refine VO.nil ?_
 refine VC.ret ?_
 exact Exists.intro _ (And.intro (RetN.one Tryz.results117 ((by first | exact ResN.cellF (i := 0) Tryz.isAgg150 Tryz.sizeOf150 rfl rfl rfl (flat_ofB rfl)))) (rfl))
def lateR (p : List PaceS) (o : List OrdrS) (l : List Int) (s e : Int) : Int := if scheF p o l s e = 0 then (resP p o l s e l.length).late else 0
def manyR (p : List PaceS) (o : List OrdrS) (l : List Int) (s e : Int) : Int := if scheF p o l s e = 0 then (resP p o l s e l.length).many else 0
set_option maxRecDepth 100000 in
set_option maxHeartbeats 4000000 in
theorem plan_Late {p : List PaceS} {o : List OrdrS} {l : List Int} {start each : Int} (hp : SmPc p) (ho : SmOr o) (hl : l.length ≤ 1000000) :
  SpecN Tryz.prog 81 [avL p, avL o, avInts l, avI start, avI each] (fun y => y = .tup [avI (lateR p o l start each), avI (manyR p o l start each), avI (scheF p o l start each)]) := by
 refine SpecN.of_VCN Tryz.func81 rfl Tryz.ntmps81 (Nle rfl) fun w A hB => ?_
 have hnew : True := trivial
 refine VC.sr ?_
 refine VO.ma rfl rfl rfl rfl ?_
 refine VO.ma rfl rfl rfl rfl ?_
 refine VO.ma rfl rfl rfl rfl ?_
 refine VO.nil ?_
 refine VC.sr ?_
 refine VO.mv rfl rfl rfl rfl ?_
 refine VO.mv rfl rfl rfl rfl ?_
 refine VO.mv rfl rfl rfl rfl ?_
 refine VO.mv rfl rfl rfl rfl ?_
 refine VO.mv rfl rfl rfl rfl ?_
 refine VO.op rfl (OpE.call rfl hB rfl Tryz.call131 rfl (plan_scheduled hp ho hl) ?_)
 rintro _ rfl
 refine VO.mv rfl rfl rfl rfl ?_
 refine VO.val rfl rfl (OpV.extract rfl rfl rfl) ?_
 refine VO.val rfl rfl (OpV.extract rfl rfl rfl) ?_
 refine VO.ma rfl rfl rfl rfl ?_
 refine VO.ma rfl rfl rfl rfl ?_
 refine VO.nil ?_
 refine VC.seq ?_
 refine VC.sr ?_
 refine VO.mv rfl rfl rfl rfl ?_
 refine VO.val rfl rfl (OpV.neq rfl rfl rfl) ?_
 refine VO.nil ?_
 refine VC.cond rfl (fun h0b => ?_) (fun h0b => ?_)
 ·have h0 := h0b
  try simp only [qqT, qqF, qqN, qqM, qqL, qqE] at h0
  have hE : lateR p o l start each = 0 ∧ manyR p o l start each = 0 := by rw [lateR, if_neg h0, manyR, if_neg h0]; exact ⟨rfl, rfl⟩
  refine VC.sr ?_
  refine VO.mv rfl rfl rfl rfl ?_
  refine VO.ma rfl rfl rfl rfl ?_
  refine VO.ma rfl rfl rfl rfl ?_
  refine VO.ma rfl rfl rfl rfl ?_
  refine VO.nil ?_
  refine VC.ret ?_
  exact Exists.intro _ (And.intro (RetN.three Tryz.results81 (ResN.v rfl) (ResN.v rfl) (ResN.v rfl)) (by rw [hE.1, hE.2]))
 ·have h0 := h0b
  try simp only [qqT, qqF, qqN, qqM, qqL, qqE] at h0
  have h00 : scheF p o l start each = 0 := by omega
  have hk := schOk h00
  have hE : lateR p o l start each = (resP p o l start each l.length).late ∧ manyR p o l start each = (resP p o l start each l.length).many := by rw [lateR, if_pos h00, manyR, if_pos h00]; exact ⟨rfl, rfl⟩
  refine VC.le _ (Le.recast (t := 13) (y := .at_ 3 (schC p o each)) rfl (fun w Z u h => by rw [← schAV_ok h00]; exact h)) ?_
  refine VC.skip ?_
  refine VC.sr ?_
  refine VO.mv rfl rfl rfl rfl ?_
  refine VO.mv rfl rfl rfl rfl ?_
  refine VO.mv rfl rfl rfl rfl ?_
  refine VO.op rfl (OpE.call rfl hB rfl Tryz.call117 rfl (SpecN.spec (plan_result hk)) ?_)
  rintro _ rfl
  refine VO.op rfl (OpE.alloc rfl hB rfl Tryz.zeroValue150 rfl ?_)
  intro g15
  refine VO.op rfl (OpE.store (i := 0) rfl hB rfl Tryz.sizeOf150 rfl rfl rfl rfl rfl rfl (Nle rfl) trivial ?_)
  refine VO.nil ?_
  refine VC.seq ?_
  refine VC.draw (fun _ => NoB) hB (by kernel_rfl) ?_
  refine VA.take (i := 0) rfl (by kernel_rfl) (by kernel_rfl) (by kernel_rfl) rfl rfl (OpV.fieldAddrO 0 rfl Tryz.underlying150 rfl rfl Tryz.sizeOf3 rfl) ?_
  refine VA.take (i := 1) rfl (by kernel_rfl) (by kernel_rfl) (by kernel_rfl) rfl rfl (OpV.load_own (i := 0) rfl hB Tryz.isAgg3 rfl rfl rfl Wi.not0) ?_
  refine VA.take (i := 2) rfl (by kernel_rfl) (by kernel_rfl) (by kernel_rfl) rfl rfl (OpV.fieldAddrO 1 rfl Tryz.underlying150 rfl rfl Tryz.sizeOf3 rfl) ?_
  refine VA.take (i := 3) rfl (by kernel_rfl) (by kernel_rfl) (by kernel_rfl) rfl rfl (OpV.load_own (i := 0) rfl hB Tryz.isAgg3 rfl rfl rfl Wi.not0) ?_
  refine VA.take (i := 4) rfl (by kernel_rfl) (by kernel_rfl) (by kernel_rfl) rfl rfl (OpV.move (.inr rfl) rfl) ?_
  refine VA.take (i := 5) rfl (by kernel_rfl) (by kernel_rfl) (by kernel_rfl) rfl rfl (OpV.move (.inr rfl) rfl) ?_
  refine VA.take (i := 6) rfl (by kernel_rfl) (by kernel_rfl) (by kernel_rfl) rfl rfl (OpV.move (.inr rfl) rfl) ?_
  refine VA.done (by kernel_rfl) ?_
  refine VC.ret ?_
  exact Exists.intro _ (And.intro (RetN.three Tryz.results81 (ResN.v rfl) (ResN.v rfl) (ResN.v rfl)) (by rw [hE.1, hE.2, h00]))
end Go.Proofs.YtmahammdnmmmoaaGreatDoor
namespace Go.Proofs.YtmahammdnmmmoaaGreatDoor
open Go.RowKit
set_option linter.unusedVariables false
set_option linter.unusedSimpArgs false
def lateZ (p : List PaceS) (o : List OrdrS) (l : List Int) (e s : Int) : Int := (resP p o l s e l.length).late
theorem late_mono {p : List PaceS} {o : List OrdrS} {l : List Int} {e s s' : Int} (h : s ≤ s') : lateZ p o l e s ≤ lateZ p o l e s' := by
 have key : ∀ q, (resP p o l s e q).late ≤ (resP p o l s' e q).late := by
  intro q
  induction q with
  | zero => exact Int.le_refl _
  | succ q ih =>
   have := (later_end (p := p) (o := o) (l := l) (each := e) h q).2
   rw [resP_late, resP_late]
   split <;> split <;> omega
 exact key _
theorem late_up {p : List PaceS} {o : List OrdrS} {l : List Int} {e m s : Int} (h : 0 < lateZ p o l e m) (hs : m ≤ s) : 0 < lateZ p o l e s := by
 have := late_mono (p := p) (o := o) (l := l) (e := e) hs
 omega
theorem SchOk.start_at {p : List PaceS} {o : List OrdrS} {l : List Int} {s e : Int} (h : SchOk p o l s e) {s' : Int} (h1 : 0 ≤ s') (h2 : s' ≤ 345686399999) : SchOk p o l s' e := ⟨h.pok, h.ook, h.has, h.len, h.ord, ⟨h1, h2⟩, h.ea⟩
def latP (p : List PaceS) (o : List OrdrS) (l : List Int) (e : Int) (a : Int) (k : Bool) : Prop :=
 if scheF p o l 0 e ≠ 0 then a = 0 ∧ k = false else if 0 < lateZ p o l e 0 then a = 0 ∧ k = false else k = true ∧ (0 ≤ a ∧ a ≤ 345686399999) ∧ lateZ p o l e a ≤ 0 ∧ ∀ s, a < s → s ≤ 345686399999 → 0 < lateZ p o l e s
section
variable {p : List PaceS} {o : List OrdrS} {l : List Int} {e : Int}
theorem latP_bad (h : scheF p o l 0 e ≠ 0) : latP p o l e 0 false := by unfold latP; rw [if_pos h]; exact ⟨rfl, rfl⟩
theorem latP_no (h : scheF p o l 0 e = 0) (h2 : 0 < lateZ p o l e 0) : latP p o l e 0 false := by unfold latP; rw [if_neg (by omega), if_pos h2]; exact ⟨rfl, rfl⟩
theorem latP_yes {a : Int} (h : scheF p o l 0 e = 0) (h2 : ¬ 0 < lateZ p o l e 0) (h3 : (0 ≤ a ∧ a ≤ 345686399999) ∧ lateZ p o l e a ≤ 0 ∧ ∀ s, a < s → s ≤ 345686399999 → 0 < lateZ p o l e s) : latP p o l e a true := by unfold latP; rw [if_neg (by omega), if_neg h2]; exact ⟨rfl, h3⟩
theorem latP_true {a : Int} (h : latP p o l e a true) : scheF p o l 0 e = 0 ∧ (0 ≤ a ∧ a ≤ 345686399999) ∧ lateZ p o l e a ≤ 0 ∧ ∀ s, a < s → s ≤ 345686399999 → 0 < lateZ p o l e s := by
 unfold latP at h
 split at h
 ·cases h.2
 ·split at h
  ·cases h.2
  ·exact ⟨by omega, h.2⟩
end
theorem half_in {a b : Int} (h0 : 0 ≤ a) (h1 : a < b) : ∃ m : Int, (a + b).tdiv 2 = m ∧ a ≤ m ∧ m < b ∧ (a + 1 < b → a < m) := ⟨_, rfl, by rw [Int.tdiv_eq_ediv_of_nonneg (by omega)]; omega, by rw [Int.tdiv_eq_ediv_of_nonneg (by omega)]; omega, by intro _; rw [Int.tdiv_eq_ediv_of_nonneg (by omega)]; omega⟩
set_option maxRecDepth 100000 in
set_option maxHeartbeats 8000000 in
theorem plan_Latest {p : List PaceS} {o : List OrdrS} {l : List Int} {each : Int} (hp : SmPc p) (ho : SmOr o) (hl : l.length ≤ 1000000) :
  Spec Tryz.prog 33 [avL p, avL o, avInts l, avI each] (fun y => ∃ a k, latP p o l each a k ∧ y = .tup [avI a, avB k, avI (scheF p o l 0 each)]) := by
 refine Spec.of_VC Tryz.func33 rfl Tryz.ntmps33 (Nle rfl) fun w A hB => ?_
 have hnew : True := trivial
 refine VC.sr ?_
 refine VO.ma rfl rfl rfl rfl ?_
 refine VO.ma rfl rfl rfl rfl ?_
 refine VO.ma rfl rfl rfl rfl ?_
 refine VO.nil ?_
 refine VC.sr ?_
 refine VO.mv rfl rfl rfl rfl ?_
 refine VO.mv rfl rfl rfl rfl ?_
 refine VO.mv rfl rfl rfl rfl ?_
 refine VO.mv rfl rfl rfl rfl ?_
 refine VO.op rfl (OpE.call rfl hB rfl Tryz.call131 rfl (plan_scheduled hp ho hl) ?_)
 rintro _ rfl
 refine VO.mv rfl rfl rfl rfl ?_
 refine VO.val rfl rfl (OpV.extract rfl rfl rfl) ?_
 refine VO.val rfl rfl (OpV.extract rfl rfl rfl) ?_
 refine VO.ma rfl rfl rfl rfl ?_
 refine VO.ma rfl rfl rfl rfl ?_
 refine VO.nil ?_
 refine VC.seq ?_
 refine VC.sr ?_
 refine VO.mv rfl rfl rfl rfl ?_
 refine VO.val rfl rfl (OpV.neq rfl rfl rfl) ?_
 refine VO.nil ?_
 refine VC.cond rfl (fun h0b => ?_) (fun h0b => ?_)
 ·have h0 := h0b
  try simp only [qqT, qqF, qqN, qqM, qqL, qqE] at h0
  refine VC.sr ?_
  refine VO.mv rfl rfl rfl rfl ?_
  refine VO.ma rfl rfl rfl rfl ?_
  refine VO.ma rfl rfl rfl rfl ?_
  refine VO.ma rfl rfl rfl rfl ?_
  refine VO.nil ?_
  refine VC.ret ?_
  exact Exists.intro _ (And.intro (RetV.three Tryz.results33 (ResV.tmp rfl) (ResV.tmp rfl) (ResV.tmp rfl)) (⟨0, false, latP_bad h0, rfl⟩))
 ·have h0 := h0b
  try simp only [qqT, qqF, qqN, qqM, qqL, qqE] at h0
  have h00 : scheF p o l 0 each = 0 := by omega
  have hk := schOk h00
  refine VC.le _ (Le.recast (t := 11) (y := .at_ 3 (schC p o each)) rfl (fun w Z u h => by rw [← schAV_ok h00]; exact h)) ?_
  refine VC.skip ?_
  refine VC.seq ?_
  refine VC.sr ?_
  refine VO.mv rfl rfl rfl rfl ?_
  refine VO.mv rfl rfl rfl rfl ?_
  refine VO.op rfl (OpE.call rfl hB rfl Tryz.call117 rfl (SpecN.spec (plan_result hk)) ?_)
  rintro _ rfl
  refine VO.val rfl rfl (OpV.field1 rfl Tryz.underlying150 rfl Tryz.isAgg3 rfl rfl) ?_
  refine VO.le _ (Le.recast (t := 30) (y := avI (lateZ p o l each 0)) rfl (fun w Z u h => h)) ?_
  refine VO.val rfl rfl (OpV.gtr rfl rfl rfl) ?_
  refine VO.nil ?_
  refine VC.cond rfl (fun h1b => ?_) (fun h1b => ?_)
  ·have h1 := h1b
   try simp only [qqT, qqF, qqN, qqM, qqL, qqE] at h1
   refine VC.sr ?_
   refine VO.ma rfl rfl rfl rfl ?_
   refine VO.ma rfl rfl rfl rfl ?_
   refine VO.ma rfl rfl rfl rfl ?_
   refine VO.nil ?_
   refine VC.ret ?_
   exact Exists.intro _ (And.intro (RetV.three Tryz.results33 (ResV.tmp rfl) (ResV.tmp rfl) (ResV.tmp rfl)) (⟨0, false, latP_no h00 (by omega), by rw [h00]⟩))
  ·have h1 := h1b
   try simp only [qqT, qqF, qqN, qqM, qqL, qqE] at h1
   have h10 : ¬ 0 < lateZ p o l each 0 := by omega
   refine VC.skip ?_
   refine VC.sr ?_
   refine VO.ma rfl rfl rfl rfl ?_
   refine VO.ma rfl rfl rfl rfl ?_
   refine VO.nil ?_
   refine VC.seq ?_
   refine VC.block ?_
   refine VC.loopK [(2, _), (11, _)] ⟨rfl, rfl, trivial⟩ ({t : Int × Int // (0 ≤ t.1 ∧ t.1 ≤ t.2 ∧ t.2 ≤ 345686399999) ∧ lateZ p o l each t.1 ≤ 0 ∧ ∀ s, t.2 < s → s ≤ 345686399999 → 0 < lateZ p o l each s}) (fun (iZ : {t : Int × Int // (0 ≤ t.1 ∧ t.1 ≤ t.2 ∧ t.2 ≤ 345686399999) ∧ lateZ p o l each t.1 ≤ 0 ∧ ∀ s, t.2 < s → s ≤ 345686399999 → 0 < lateZ p o l each s}) => match iZ with | ⟨⟨lo, hi⟩, hlh, hlo, hhi⟩ => [(13, avI lo), (14, avI hi)]) (fun (iZ : {t : Int × Int // (0 ≤ t.1 ∧ t.1 ≤ t.2 ∧ t.2 ≤ 345686399999) ∧ lateZ p o l each t.1 ≤ 0 ∧ ∀ s, t.2 < s → s ≤ 345686399999 → 0 < lateZ p o l each s}) => match iZ with | ⟨⟨lo, hi⟩, hlh, hlo, hhi⟩ => []) (fun (iZ : {t : Int × Int // (0 ≤ t.1 ∧ t.1 ≤ t.2 ∧ t.2 ≤ 345686399999) ∧ lateZ p o l each t.1 ≤ 0 ∧ ∀ s, t.2 < s → s ≤ 345686399999 → 0 < lateZ p o l each s}) => match iZ with | ⟨⟨lo, hi⟩, hlh, hlo, hhi⟩ => 0) (fun (iZ : {t : Int × Int // (0 ≤ t.1 ∧ t.1 ≤ t.2 ∧ t.2 ≤ 345686399999) ∧ lateZ p o l each t.1 ≤ 0 ∧ ∀ s, t.2 < s → s ≤ 345686399999 → 0 < lateZ p o l each s}) => match iZ with | ⟨⟨lo, hi⟩, hlh, hlo, hhi⟩ => (hi - lo).toNat) ⟨(0, 345686399999), by decide, by show lateZ p o l each 0 ≤ 0; omega, fun s h1 h2 => by simp only at h1; omega⟩ (Le.mk hB [] ⟨rfl, rfl, rfl, rfl, trivial⟩ rfl rfl (Nat.le_refl _)) ?_
   rintro ⟨⟨lo, hi⟩, hlh, hlo, hhi⟩
   show VC _ _ _ _ ⟨[(13, avI lo), (14, avI hi)] ++ [(2, _), (11, _)], [], 0⟩
   simp only at hlh hlo hhi
   refine VC.seq ?_
   refine VC.sr ?_
   refine VO.mv rfl rfl rfl rfl ?_
   refine VO.mv rfl rfl rfl rfl ?_
   refine VO.val rfl rfl (OpV.lss rfl rfl rfl) ?_
   refine VO.nil ?_
   refine VC.cond rfl (fun aH1b => ?_) (fun aH1b => ?_)
   ·have aH1 := aH1b
    try simp only [qqT, qqF, qqN, qqM, qqL, qqE] at aH1
    refine VC.skip ?_
    refine VC.block ?_
    refine VC.sr ?_
    refine VO.mv rfl rfl rfl rfl ?_
    refine VO.mv rfl rfl rfl rfl ?_
    refine VO.val rfl rfl (OpV.add rfl rfl rfl (by unfold fits; omega)) ?_
    refine VO.val rfl rfl (OpV.add rfl rfl rfl (by unfold fits; omega)) ?_
    refine VO.val rfl rfl (OpV.quo rfl rfl rfl (by omega) ((by have := half_in (a := lo) (b := hi + 1) (by omega) (by omega); obtain ⟨m, hm, _⟩ := this; rw [show lo + hi + 1 = lo + (hi + 1) by omega, hm]; unfold fits; omega))) ?_
    obtain ⟨m, hme, hm1, hm2, hm3⟩ := half_in (a := lo) (b := hi + 1) (by omega) (by omega)
    refine VO.le _ (Le.recast (t := 39) (y := avI m) rfl (fun w Z u h => by rw [← hme, show lo + (hi + 1) = lo + hi + 1 by omega]; exact h)) ?_
    refine VO.ma rfl rfl rfl rfl ?_
    refine VO.nil ?_
    refine VC.sr ?_
    refine VO.mv rfl rfl rfl rfl ?_
    refine VO.mv rfl rfl rfl rfl ?_
    refine VO.mv rfl rfl rfl rfl ?_
    refine VO.op rfl (OpE.call rfl hB rfl Tryz.call117 rfl (SpecN.spec (plan_result (hk.start_at (s' := m) (by omega) (by omega)))) ?_)
    rintro _ rfl
    refine VO.val rfl rfl (OpV.field1 rfl Tryz.underlying150 rfl Tryz.isAgg3 rfl rfl) ?_
    refine VO.le _ (Le.recast (t := 44) (y := avI (lateZ p o l each m)) rfl (fun w Z u h => h)) ?_
    refine VO.val rfl rfl (OpV.gtr rfl rfl rfl) ?_
    refine VO.nil ?_
    refine VC.cond rfl (fun aH2b => ?_) (fun aH2b => ?_)
    ·have aH2 := aH2b
     try simp only [qqT, qqF, qqN, qqM, qqL, qqE] at aH2
     refine VC.region ?_
     refine VO.mv rfl rfl rfl rfl ?_
     refine VO.val rfl rfl (OpV.sub rfl rfl rfl (by unfold fits; omega)) ?_
     refine VO.ma rfl rfl rfl rfl ?_
     refine VO.nil ?_
     exact Exists.intro (⟨(lo, m - 1), by show 0 ≤ lo ∧ lo ≤ m - 1 ∧ m - 1 ≤ _; omega, hlo, fun s k1 k2 => late_up (m := m) (by omega) (by have : m - 1 < s := k1; omega)⟩) (And.intro (Le.mk hB [] ⟨rfl, rfl, rfl, rfl, trivial⟩ rfl rfl (Nat.le_refl _)) (by first | omega | (show _ < _; omega) | (simp only []; omega)))
    ·have aH2 := aH2b
     try simp only [qqT, qqF, qqN, qqM, qqL, qqE] at aH2
     refine VC.region ?_
     refine VO.mv rfl rfl rfl rfl ?_
     refine VO.ma rfl rfl rfl rfl ?_
     refine VO.nil ?_
     exact Exists.intro (⟨(m, hi), by show 0 ≤ m ∧ m ≤ hi ∧ hi ≤ _; omega, by show lateZ p o l each m ≤ 0; omega, hhi⟩) (And.intro (Le.mk hB [] ⟨rfl, rfl, rfl, rfl, trivial⟩ rfl rfl (Nat.le_refl _)) (by first | omega | (show _ < _; omega) | (simp only []; omega)))
   ·have aH1 := aH1b
    try simp only [qqT, qqF, qqN, qqM, qqL, qqE] at aH1
    refine VC.exit ?_
    refine VC.sr ?_
    refine VO.mv rfl rfl rfl rfl ?_
    refine VO.ma rfl rfl rfl rfl ?_
    refine VO.ma rfl rfl rfl rfl ?_
    refine VO.ma rfl rfl rfl rfl ?_
    refine VO.nil ?_
    refine VC.ret ?_
    exact Exists.intro _ (And.intro (RetV.three Tryz.results33 (ResV.tmp rfl) (ResV.tmp rfl) (ResV.tmp rfl)) (⟨lo, true, latP_yes h00 h10 ⟨by omega, hlo, fun s k1 k2 => hhi s (by omega) k2⟩, by rw [h00]⟩))
end Go.Proofs.YtmahammdnmmmoaaGreatDoor
namespace Go.Proofs.YtmahammdnmmmoaaGreatDoor
open Go.RowKit
set_option linter.unusedVariables false
set_option linter.unusedSimpArgs false
section
variable {P : Program} {B : Bs} {W : Nat → Prop} {s s' : St'} {o : Oper} {K : St' → Prop} {a : Act} {w w' : World} {Q : Exit → St' → Prop}
theorem OpE.appendZP {x y : Operand} {T Tn e bytes cap k i g n : Nat} {o' : Own'} {z : Value} {vs : List Value} {kn kq : IntKind} {kk : Int} (ho : o.op = .call { callee := .builtin .append, args := #[x, y], argTypes := #[T, Tn] }) (hB : B.Ok) (hd : okd B.nt o.dst = true)
  (hu : P.underlying T = some (.slice e)) (hun : P.underlying Tn = some (.int kn)) (hinfo : (P.info? e).map (fun i => (i.zero, i.size, i.bytes)) = some (some z, 1, bytes)) (hz : z.cells.size = 1) (hby : bytes ≤ 4096)
  (hx : evO s x = some (.v (.slice (some ⟨g, 0, none⟩) n cap))) (hi : s.hp[i]? = some (.box g o')) (hvs : o'.cs.take n = vs.map .v) (hvl : vs.length = n) (hy : evO s y = some (.v (.int kq kk))) (hkk : kk = k) (hk : 0 < k) (hcap : cap < n + k) (hlen : n + k ≤ 10000000000)
  (hK : ∀ u, K ((St'.mk s.sl (s.hp ++ [.row u (n + k) 1 (vs.map .v ++ List.replicate k .any) e]) s.k).put o.dst (.v u))) : OpE P B W s o K := by
 subst hkk
 obtain ⟨ii, hii, hz0, hz1, hz2⟩ := info_parts hinfo
 subst hz2
 intro a w hr next Qx hn
 obtain ⟨c0, h1, h2, h3, h4⟩ := hr.blocks _ (List.mem_of_getElem? hi)
 have hnl : n ≤ o'.cs.length := by
  have := congrArg List.length hvs
  rw [List.length_take, List.length_map] at this
  omega
 have hold : ∀ j, (hj : j < n) → c0[j]? = some (vs[j]'(by omega)) := fun j hj => by
  obtain ⟨v, k1, k2⟩ := h4 j (by omega)
  have e1 : o'.cs[j]'(by omega) = .v (vs[j]'(by omega)) := by
   have := congrArg (fun l => l[j]?) hvs
   simp only [List.getElem?_take_of_lt hj, List.getElem?_map, List.getElem?_eq_getElem (by omega : j < o'.cs.length), List.getElem?_eq_getElem (by omega : j < vs.length), Option.map_some] at this
   exact Option.some.inj this
  rw [e1] at k2
  rw [k1, k2.eq_v]
 have hb47 : (n + k) * ii.bytes ≤ 140737488355328 := by
  have : (n + k) * ii.bytes ≤ 10000000000 * 4096 := Nat.mul_le_mul hlen hby
  omega
 have hb48 : k * ii.bytes ≤ (n + k) * ii.bytes := Nat.mul_le_mul_right _ (by omega)
 have hrun := Lib.run_append_grow_zeros (P := P) w T Tn o.type e ii z kq kn hu hun hii hz0 (some ⟨g, 0, none⟩) n cap vs (by
  have hc := run_loadCells_list (P := P) w.drew ⟨g, 0, none⟩ vs (fun j v hj => by
   have hjl := (List.getElem?_eq_some_iff.1 hj).1
   have := hold j (by omega)
   have hv : vs[j]'hjl = v := (List.getElem?_eq_some_iff.1 hj).2
   have e0 : (⟨g, 0, none⟩ : Addr).add j = ⟨g, j, none⟩ := by unfold Addr.add; split <;> simp_all
   have hh : w.drew.heap[g]? = w.heap[g]? := rfl
   rw [e0]
   simp [World.cell?, hh, h1, this, hv])
  simpa [Builtin.firstCells, hz1, hvl] using hc) k hk (by omega) hcap (by omega) (by omega) (growslice_fits hcap hb47)
 have hge := grownCap_ge w (n + k) cap e
 have hcm := grownCap_le_maxLen w (n + k) cap e (by simp only [maxLen]; omega)
 have hr' : R B ⟨s.sl, s.hp ++ [.row (.slice (some ⟨w.heap.size, 0, none⟩) (n + k) (grownCap w (n + k) cap e)) (n + k) 1 (vs.map .v ++ List.replicate k .any) e], s.k⟩ a _ :=
  hr.newRow hB (((Chg.refl NoB w).drew).alloc (.cells (vs.toArray ++ Builtin.zeroCells z.cells k ++ Builtin.zeroCells z.cells (grownCap w (n + k) cap e - (n + k))) e)) (fun g hg => by simp [Ent.blk, Value.ownBlock] at hg; omega) ⟨by simp [hvl], .inr ⟨_, _, _, rfl, hge, hcm, heap_alloc_new _ _, by
   simp only [Array.size_append, size_zeroCells, hz, List.size_toArray]
   omega, fun j hj => by
   simp only [List.length_append, List.length_map, List.length_replicate] at hj
   have hlt : j < (vs.toArray ++ Builtin.zeroCells z.cells k ++ Builtin.zeroCells z.cells (grownCap w (n + k) cap e - (n + k))).size := by
    simp only [Array.size_append, size_zeroCells, hz, List.size_toArray]
    omega
   by_cases hjn : j < vs.length
   ·refine ⟨vs[j], ?_, by rw [List.getElem_append_left (by simpa using hjn), List.getElem_map]; exact .v _⟩
    rw [Array.getElem?_eq_getElem hlt]
    rw [Array.getElem_append_left (by simp; omega), Array.getElem_append_left (by simpa using hjn)]
    simp
   ·exact ⟨_, Array.getElem?_eq_getElem hlt, by rw [List.getElem_append_right (by simp; omega), List.getElem_replicate]; exact .any _⟩⟩⟩
 unfold Oper.wp
 simp only [execOp, ho, resolve, invoke, builtin, List.map_toArray, List.map_cons, List.map_nil, hr.evv hx, hr.evv hy, Sem.run_bind, Sem.run_pure, Result.andThen_ok, hrun]
 exact hn _ _ _ (hK _) (hr'.put _ hd _ _ (.v _)) (.ofN (((Chg.refl NoB w).drew).alloc _))
end
def insX (p : List Int) (k : Nat) (x : Int) : List Int := p.take k ++ x :: p.drop k
theorem insK_one {A rest : List AV} {F : Nat → AV} {X : AV} {k : Nat} (hA : A.length = k) (hr : 0 < rest.length) (hF : F 0 = X) : (A ++ rest).take (0 + k * 1) ++ tab (1 * 1) F ++ (A ++ rest).drop (0 + k * 1 + 1 * 1) = A ++ X :: rest.drop 1 := by
 have e1 : (A ++ rest).take (0 + k * 1) = A := by rw [show 0 + k * 1 = A.length by omega, List.take_left']; rfl
 have e2 : (A ++ rest).drop (0 + k * 1 + 1 * 1) = rest.drop 1 := by rw [show 0 + k * 1 + 1 * 1 = A.length + 1 by omega, List.drop_append]; simp
 rw [e1, e2]
 simp [tab, hF]
theorem insK_many {A rest : List AV} {F : Nat → AV} {y : AV} {k : Nat} {p : List Int} (hA : A.length = k) (hk : k ≤ p.length) (hr : rest.length ≤ p.length - k) (hF : ∀ j, j < p.length - k → F j = avI (p.getD (k + j) 0)) :
  (A ++ y :: rest).take (0 + (k + 1) * 1) ++ tab ((p.length - k) * 1) F ++ (A ++ y :: rest).drop (0 + (k + 1) * 1 + (p.length - k) * 1) = A ++ y :: intsL (p.drop k) := by
 have e1 : (A ++ y :: rest).take (0 + (k + 1) * 1) = A ++ [y] := by
  rw [show A ++ y :: rest = (A ++ [y]) ++ rest by simp, List.take_left']
  simp; omega
 have e2 : (A ++ y :: rest).drop (0 + (k + 1) * 1 + (p.length - k) * 1) = [] := List.drop_eq_nil_of_le (by simp; omega)
 have e3 : tab ((p.length - k) * 1) F = intsL (p.drop k) := by
  apply List.ext_getElem (by rw [tab_len, intsL_len, Nat.mul_one, List.length_drop])
  intro i h1 h2
  rw [tab_get]
  rw [intsL_len, List.length_drop] at h2
  rw [hF i h2]
  simp [intsL, show k + i < p.length by omega]
 rw [e1, e2, e3, List.append_nil, List.append_assoc]
 rfl
theorem insX_eq (p : List Int) (k : Nat) (x : Int) : intsL (p.take k) ++ avI x :: intsL (p.drop k) = intsL (insX p k x) := by simp [intsL, insX]
def vsK (p : List Int) (k : Nat) : List Value := (p.take k).map fun n => Value.int .i64 n
theorem vsK_eq (p : List Int) (k : Nat) : (vsK p k).map AV.v = intsL (p.take k) := by unfold vsK intsL; rw [List.map_map]; rfl
theorem insK_pad {p : List Int} {k : Nat} (h : k < p.length) : intsL p ++ List.replicate 1 AV.any = intsL (p.take k) ++ avI (p.getD k 0) :: (intsL (p.drop (k + 1)) ++ [AV.any]) := by
 have e : p = p.take k ++ p.getD k 0 :: p.drop (k + 1) := by
  rw [show p.getD k 0 = p[k] by simp [h], ← List.drop_eq_getElem_cons h, List.take_append_drop]
 conv => lhs; rw [e]
 simp [intsL]
set_option maxRecDepth 100000 in
set_option maxHeartbeats 4000000 in
theorem slices_InsertI {p : List Int} {x : Int} {k : Nat} {u : Value} (hl : p.length ≤ 1000000000) (hk : k ≤ p.length) :
  SpecH Tryz.prog 137 [.v u, avI (k : Int), avInts [x]] [.row u p.length 1 (intsL p) 3] (fun y hp' => ∃ u', y = .v u' ∧ hp' = [.row u' (p.length + 1) 1 (intsL (insX p k x)) 3]) := by
 have hx1 : [x].length = 1 := rfl
 refine SpecH.of_VC Tryz.func137 rfl Tryz.ntmps137 (Nle rfl) fun w A hB => ?_
 have hnew : True := trivial
 refine VC.sr ?_
 refine VO.ma rfl rfl rfl rfl ?_
 refine VO.nil ?_
 refine VC.sr ?_
 refine VO.mv rfl rfl rfl rfl ?_
 refine VO.mv rfl rfl rfl rfl ?_
 refine VO.val rfl rfl (OpV.slice_rowA (i := 0) (l := k) rfl Tryz.underlying22 Tryz.sizeOf3 rfl rfl ⟨_, _, rfl, rfl⟩ rfl (by omega) (by omega)) ?_
 refine VO.nil ?_
 refine VC.sr ?_
 refine VO.mv rfl rfl rfl rfl ?_
 refine VO.val rfl rfl (OpV.len_im rfl Tryz.underlying22 rfl) ?_
 refine VO.ma rfl rfl rfl rfl ?_
 refine VO.nil ?_
 refine VC.seq ?_
 refine VC.sr ?_
 refine VO.mv rfl rfl rfl rfl ?_
 refine VO.val rfl rfl (OpV.eql rfl rfl rfl) ?_
 refine VO.nil ?_
 refine VC.cond rfl (fun aH1b => ?_) (fun aH1b => ?_)
 ·have aH1 := aH1b
  try simp only [qqT, qqF, qqN, qqM, qqL, qqE] at aH1
  exact VC.absurd (by omega)
 ·have aH1 := aH1b
  try simp only [qqT, qqF, qqN, qqM, qqL, qqE] at aH1
  refine VC.skip ?_
  refine VC.sr ?_
  refine VO.mv rfl rfl rfl rfl ?_
  refine VO.val rfl rfl (OpV.len_row (i := 0) rfl Tryz.underlying22 rfl rfl) ?_
  refine VO.ma rfl rfl rfl rfl ?_
  refine VO.nil ?_
  refine VC.seq ?_
  refine VC.sr ?_
  refine VO.mv rfl rfl rfl rfl ?_
  refine VO.mv rfl rfl rfl rfl ?_
  refine VO.val rfl rfl (OpV.eql rfl rfl rfl) ?_
  refine VO.nil ?_
  refine VC.cond rfl (fun h1b => ?_) (fun h1b => ?_)
  ·have h1 := h1b
   try simp only [qqT, qqF, qqN, qqM, qqL, qqE] at h1
   obtain rfl : k = p.length := by omega
   refine VC.sr ?_
   refine VO.mv rfl rfl rfl rfl ?_
   refine VO.mv rfl rfl rfl rfl ?_
   refine VO.op rfl (OpE.appendP (i := 0) rfl hB rfl Tryz.underlying22 (infoOf Tryz.t3 1 (by kernel_rfl) rfl rfl) rfl (by decide) (by decide) rfl rfl (.im rfl) (fun _ _ => rfl) (by omega) ((show intsL p ++ tab (1 * 1) (fun j => avI ([x].getD j 0)) = intsL (insX p p.length x) from by rw [← insX_eq, List.take_length, List.drop_length]; rfl)) (fun _ _ => trivial) ?_)
   intro u25
   refine VO.ma rfl rfl rfl rfl ?_
   refine VO.nil ?_
   refine VC.ret ?_
   exact Exists.intro _ (And.intro (RetV.one Tryz.results137 (ResV.tmp rfl)) (⟨_, rfl, rfl⟩))
  ·have h1 := h1b
   try simp only [qqT, qqF, qqN, qqM, qqL, qqE] at h1
   refine VC.asBox (i := 0) rfl (by omega) (fun g cap hu hcap hmx => ?_)
   subst hu
   refine VC.skip ?_
   refine VC.seq ?_
   refine VC.sr ?_
   refine VO.mv rfl rfl rfl rfl ?_
   refine VO.mv rfl rfl rfl rfl ?_
   refine VO.val rfl rfl (OpV.add rfl rfl rfl (by unfold fits; omega)) ?_
   refine VO.mv rfl rfl rfl rfl ?_
   refine VO.val rfl rfl (OpV.cap_v rfl Tryz.underlying22 rfl) ?_
   refine VO.val rfl rfl (OpV.gtr rfl rfl rfl) ?_
   refine VO.nil ?_
   refine VC.cond rfl (fun h2b => ?_) (fun h2b => ?_)
   ·have h2 := h2b
    try simp only [qqT, qqF, qqN, qqM, qqL, qqE] at h2
    refine VC.sr ?_
    refine VO.mv rfl rfl rfl rfl ?_
    refine VO.mv rfl rfl rfl rfl ?_
    refine VO.val rfl rfl (OpV.slice_own (h := k) rfl Tryz.underlying22 Tryz.sizeOf3 rfl rfl ⟨_, _, rfl, rfl⟩ (by omega) (by omega) (by omega)) ?_
    refine VO.mv rfl rfl rfl rfl ?_
    refine VO.mv rfl rfl rfl rfl ?_
    refine VO.val rfl rfl (OpV.add rfl rfl rfl (by unfold fits; omega)) ?_
    refine VO.mv rfl rfl rfl rfl ?_
    refine VO.val rfl rfl (OpV.sub rfl rfl rfl (by unfold fits; omega)) ?_
    refine VO.op rfl (OpE.appendZP (i := 0) (k := p.length + 1 - k) (vs := vsK p k) rfl hB rfl Tryz.underlying22 Tryz.underlying3 (infoOf Tryz.t3 1 (by kernel_rfl) rfl rfl) rfl (by decide) rfl rfl ((by rw [vsK_eq]; simp [intsL, List.map_take])) ((by simp [vsK]; omega)) rfl (by omega) (by omega) (by omega) (by omega) ?_)
    intro u40
    have hvl : ((vsK p k).map AV.v).length = k := by rw [vsK_eq, intsL_len, List.length_take]; omega
    refine VO.asBox (i := 1) rfl (by omega) (fun g3 cap3 hu3 hcap3 hmx3 => ?_)
    subst hu3
    refine VO.ma rfl rfl rfl rfl ?_
    refine VO.nil ?_
    refine VC.sr ?_
    refine VO.mv rfl rfl rfl rfl ?_
    refine VO.mv rfl rfl rfl rfl ?_
    refine VO.val rfl rfl (OpV.slice_own (l := k) rfl Tryz.underlying22 Tryz.sizeOf3 rfl ⟨_, _, rfl, rfl⟩ rfl (by omega) (by omega) (by omega)) ?_
    refine VO.mv rfl rfl rfl rfl ?_
    refine VO.op rfl (OpE.copy (i := 1) rfl hB rfl Tryz.underlying22 Tryz.sizeOf3 rfl rfl (SrcP.im rfl) (c := 1) (by omega) (fun _ _ => rfl) (by simp [vsK]; omega) (insK_one (X := avI x) hvl (by simp; omega) rfl) trivial ?_)
    refine VO.nil ?_
    refine VC.seq ?_
    refine VC.draw (fun j b => j = 8 ∧ b = g3) hB (by kernel_rfl) ?_
    refine VA.take (i := 0) rfl (by kernel_rfl) (by kernel_rfl) (by kernel_rfl) rfl rfl (OpV.move (.inl rfl) rfl) ?_
    refine VA.take (i := 1) rfl (by kernel_rfl) (by kernel_rfl) (by kernel_rfl) rfl rfl (OpV.move (.inl rfl) rfl) ?_
    refine VA.take (i := 2) rfl (by kernel_rfl) (by kernel_rfl) (by kernel_rfl) rfl rfl (OpV.move (.inl rfl) rfl) ?_
    refine VA.take (i := 3) rfl (by kernel_rfl) (by kernel_rfl) (by kernel_rfl) rfl rfl (OpV.add rfl rfl rfl (by unfold fits; omega)) ?_
    refine VA.take (i := 4) rfl (by kernel_rfl) (by kernel_rfl) (by kernel_rfl) rfl rfl (OpV.slice_own (l := k + 1) rfl Tryz.underlying22 Tryz.sizeOf3 rfl ⟨_, _, rfl, by omega⟩ rfl (by omega) (by omega) (by omega)) ?_
    refine VA.take (i := 5) rfl (by kernel_rfl) (by kernel_rfl) (by kernel_rfl) rfl rfl (OpV.move (.inl rfl) rfl) ?_
    refine VA.take (i := 6) rfl (by kernel_rfl) (by kernel_rfl) (by kernel_rfl) rfl rfl (OpV.move (.inl rfl) rfl) ?_
    refine VA.take (i := 7) rfl (by kernel_rfl) (by kernel_rfl) (by kernel_rfl) rfl rfl (OpV.slice_own (l := k) rfl Tryz.underlying22 Tryz.sizeOf3 rfl ⟨_, _, rfl, rfl⟩ rfl (by omega) (by omega) (by omega)) ?_
    refine VA.all (rs := [8]) (by kernel_rfl) (by decide) ?_
    refine ⟨⟨_, rfl, .inl rfl, ?_⟩, trivial⟩
    refine OpE.copy (i := 1) rfl hB rfl Tryz.underlying22 Tryz.sizeOf3 rfl rfl (SrcP.box (i := 0) rfl rfl (by rw [intsL_len]; omega)) (c := p.length - k) (cs' := intsL (insX p k x)) (by omega) (fun j hj => by dsimp only; rw [List.getD_eq_getElem?_getD, show 0 + k * 1 + j = k + j by omega, intsL_get (by omega)]; rfl) (by first | (simp [vsK]; done) | (simp [vsK]; omega)) ((insK_many hvl hk (by simp; omega) (fun j hj => by dsimp only; rw [List.getD_eq_getElem?_getD, show 0 + k * 1 + j = k + j by omega, intsL_get (by omega)]; rfl)).trans (by rw [vsK_eq]; exact insX_eq p k x)) (by first | exact ⟨rfl, rfl⟩ | exact .inl ⟨rfl, rfl⟩ | exact .inr ⟨rfl, rfl⟩ | exact ⟨rfl, trivial⟩ | exact .inl ⟨rfl, trivial⟩ | exact .inr ⟨rfl, trivial⟩ | exact ⟨by decide, rfl⟩) ?_
    refine VA.done (by kernel_rfl) ?_
    refine VC.sr ?_
    refine VO.mv rfl rfl rfl rfl ?_
    refine VO.ma rfl rfl rfl rfl ?_
    refine VO.nil ?_
    refine VC.le _ ((Le.pickH [1] rfl rfl).trans (Le.boxRow (i := 0) (n := k + (p.length + 1 - k)) (sz := 1) (cap := cap3) rfl (by first | (simp [intsL_len, insX]; done) | (simp [intsL_len, insX]; omega)) (by omega) hmx3)) ?_
    refine VC.ret ?_
    exact Exists.intro _ (And.intro (RetV.one Tryz.results137 (ResV.tmp rfl)) (⟨_, rfl, congrArg (fun n => [Ent.row _ n 1 _ _]) (by omega : k + (p.length + 1 - k) = p.length + 1)⟩))
   ·have h2 := h2b
    try simp only [qqT, qqF, qqN, qqM, qqL, qqE] at h2
    refine VC.le _ (Le.padBox (i := 0) 1 rfl (by rw [intsL_len]; omega)) ?_
    refine VC.skip ?_
    refine VC.sr ?_
    refine VO.mv rfl rfl rfl rfl ?_
    refine VO.mv rfl rfl rfl rfl ?_
    refine VO.mv rfl rfl rfl rfl ?_
    refine VO.val rfl rfl (OpV.add rfl rfl rfl (by unfold fits; omega)) ?_
    refine VO.val rfl rfl (OpV.slice_own (h := p.length + 1) rfl Tryz.underlying22 Tryz.sizeOf3 rfl rfl ⟨_, _, rfl, by omega⟩ (by omega) (by omega) (by omega)) ?_
    refine VO.ma rfl rfl rfl rfl ?_
    refine VO.nil ?_
    refine VC.seq ?_
    refine VC.sr ?_
    refine VO.mv rfl rfl rfl rfl ?_
    refine VO.mv rfl rfl rfl rfl ?_
    refine VO.mv rfl rfl rfl rfl ?_
    refine VO.mv rfl rfl rfl rfl ?_
    refine VO.val rfl rfl (OpV.add rfl rfl rfl (by unfold fits; omega)) ?_
    refine VO.val rfl rfl (OpV.slice_own (l := k + 1) rfl Tryz.underlying22 Tryz.sizeOf3 rfl ⟨_, _, rfl, by omega⟩ rfl (by omega) (by omega) (by omega)) ?_
    refine VO.op rfl (OpE.overlaps (i := 0) rfl hB rfl (fun us w => run_callFunc_extern Tryz.func252 (by kernel_rfl) (by kernel_rfl) (by kernel_rfl) (e := Extern.SlicesOverlaps.overlaps #[22, 22] #[4]) (by kernel_rfl) us w) Tryz.underlying22 Tryz.sizeOf3 rfl (Nat.succ_pos _) rfl rfl (by show 0 < cap * 1; omega) ?_)
    refine VO.val rfl rfl (OpV.not rfl rfl) ?_
    refine VO.nil ?_
    refine VC.condT rfl rfl ?_
    refine VC.seq ?_
    refine VC.draw (fun j b => j = 8 ∧ b = g) hB (by kernel_rfl) ?_
    refine VA.take (i := 0) rfl (by kernel_rfl) (by kernel_rfl) (by kernel_rfl) rfl rfl (OpV.move (.inl rfl) rfl) ?_
    refine VA.take (i := 1) rfl (by kernel_rfl) (by kernel_rfl) (by kernel_rfl) rfl rfl (OpV.move (.inl rfl) rfl) ?_
    refine VA.take (i := 2) rfl (by kernel_rfl) (by kernel_rfl) (by kernel_rfl) rfl rfl (OpV.move (.inl rfl) rfl) ?_
    refine VA.take (i := 3) rfl (by kernel_rfl) (by kernel_rfl) (by kernel_rfl) rfl rfl (OpV.add rfl rfl rfl (by unfold fits; omega)) ?_
    refine VA.take (i := 4) rfl (by kernel_rfl) (by kernel_rfl) (by kernel_rfl) rfl rfl (OpV.slice_own (l := k + 1) rfl Tryz.underlying22 Tryz.sizeOf3 rfl ⟨_, _, rfl, by omega⟩ rfl (by omega) (by omega) (by omega)) ?_
    refine VA.take (i := 5) rfl (by kernel_rfl) (by kernel_rfl) (by kernel_rfl) rfl rfl (OpV.move (.inl rfl) rfl) ?_
    refine VA.take (i := 6) rfl (by kernel_rfl) (by kernel_rfl) (by kernel_rfl) rfl rfl (OpV.move (.inl rfl) rfl) ?_
    refine VA.take (i := 7) rfl (by kernel_rfl) (by kernel_rfl) (by kernel_rfl) rfl rfl (OpV.slice_own (l := k) rfl Tryz.underlying22 Tryz.sizeOf3 rfl ⟨_, _, rfl, rfl⟩ rfl (by omega) (by omega) (by omega)) ?_
    refine VA.all (rs := [8]) (by kernel_rfl) (by decide) ?_
    refine ⟨⟨_, rfl, .inl rfl, ?_⟩, trivial⟩
    refine OpE.copy (i := 0) rfl hB rfl Tryz.underlying22 Tryz.sizeOf3 rfl rfl (SrcP.box (i := 0) rfl rfl (by simp [intsL_len]; omega)) (c := p.length - k) (cs' := intsL (p.take k) ++ avI (p.getD k 0) :: intsL (p.drop k)) (by omega) (fun j hj => by dsimp only; rw [List.getD_eq_getElem?_getD, show 0 + k * 1 + j = k + j by omega, List.getElem?_append_left (by rw [intsL_len]; omega), intsL_get (by omega)]; rfl) (by first | (simp [intsL_len]; done) | (simp [intsL_len]; omega)) (by rw [insK_pad (by omega : k < p.length)]; exact insK_many (by rw [intsL_len, List.length_take]; omega) hk (by simp [intsL_len]; omega) (fun j hj => by dsimp only; rw [← insK_pad (by omega : k < p.length), List.getD_eq_getElem?_getD, show 0 + k * 1 + j = k + j by omega, List.getElem?_append_left (by rw [intsL_len]; omega), intsL_get (by omega)]; rfl)) (by first | exact ⟨rfl, rfl⟩ | exact .inl ⟨rfl, rfl⟩ | exact .inr ⟨rfl, rfl⟩ | exact ⟨rfl, trivial⟩ | exact .inl ⟨rfl, trivial⟩ | exact .inr ⟨rfl, trivial⟩ | exact ⟨by decide, rfl⟩) ?_
    refine VA.done (by kernel_rfl) ?_
    refine VC.sr ?_
    refine VO.mv rfl rfl rfl rfl ?_
    refine VO.mv rfl rfl rfl rfl ?_
    refine VO.val rfl rfl (OpV.slice_own (l := k) rfl Tryz.underlying22 Tryz.sizeOf3 rfl ⟨_, _, rfl, rfl⟩ rfl (by omega) (by omega) (by omega)) ?_
    refine VO.mv rfl rfl rfl rfl ?_
    refine VO.op rfl (OpE.copy (i := 0) rfl hB rfl Tryz.underlying22 Tryz.sizeOf3 rfl rfl (SrcP.im rfl) (c := 1) (cs' := intsL (insX p k x)) (by omega) (fun _ _ => rfl) (by first | (simp [intsL_len]; done) | (simp [intsL_len]; omega)) ((insK_one (X := avI x) (by rw [intsL_len, List.length_take]; omega) (by simp) rfl).trans (insX_eq p k x)) trivial ?_)
    refine VO.nil ?_
    refine VC.sr ?_
    refine VO.mv rfl rfl rfl rfl ?_
    refine VO.ma rfl rfl rfl rfl ?_
    refine VO.nil ?_
    refine VC.le _ (Le.boxRow (i := 0) (n := p.length + 1) (sz := 1) (cap := cap) rfl (by first | (simp [intsL_len, insX]; done) | (simp [intsL_len, insX]; omega)) (by omega) hmx) ?_
    refine VC.ret ?_
    exact Exists.intro _ (And.intro (RetV.one Tryz.results137 (ResV.tmp rfl)) (⟨_, rfl, rfl⟩))
end Go.Proofs.YtmahammdnmmmoaaGreatDoor
namespace Go.Proofs.YtmahammdnmmmoaaGreatDoor
open Go.RowKit
set_option linter.unusedVariables false
set_option linter.unusedSimpArgs false
theorem flat_or (xs : List OrdrS) : FlatA (rowL xs) := flat_rowL (fun x j hj => by
 match j, hj with
 | 0, _ => exact ⟨_, rfl⟩
 | 1, _ => exact ⟨_, rfl⟩
 | 2, _ => exact ⟨_, rfl⟩
 | 3, _ => exact ⟨_, rfl⟩
 | 4, _ => exact ⟨_, rfl⟩) xs
theorem or_one (xs : List OrdrS) (x : Nat) (h : x < xs.length * 5) : ((fun q => Sxc.cell (xs.getD q default)) (x / Sxc.k OrdrS) (x % Sxc.k OrdrS)).one = true := by
 have : x % Sxc.k OrdrS < 5 := Nat.mod_lt _ (by decide)
 match x % Sxc.k OrdrS, this with
 | 0, _ => rfl
 | 1, _ => rfl
 | 2, _ => rfl
 | 3, _ => rfl
 | 4, _ => rfl
set_option maxRecDepth 100000 in
theorem slices_CloneO_R {xs : List OrdrS} (hl : xs.length ≤ 1000000000) :
  SpecR Tryz.prog 135 [avL xs] xs.length 5 (rowL xs) 35 := by
 refine SpecR.of_VC Tryz.func135 rfl Tryz.ntmps135 (Nle rfl) (flat_or xs) fun w A hB => ?_
 have hnew : True := trivial
 refine VC.sr ?_
 refine VO.ma rfl rfl rfl rfl ?_
 refine VO.nil ?_
 refine VC.seq ?_
 refine VC.sr ?_
 refine VO.mv rfl rfl rfl rfl ?_
 refine VO.op rfl (OpE.eqNil rfl rfl Tryz.underlying28 rfl ?_)
 intro b4 hb4
 refine VO.nil ?_
 refine VC.cond rfl (fun h0b => ?_) (fun h0b => ?_)
 ·have h0 := h0b
  try simp only [qqT, qqF, qqN, qqM, qqL, qqE] at h0
  refine VC.sr ?_
  refine VO.ma rfl rfl rfl rfl ?_
  refine VO.nil ?_
  obtain rfl : xs = [] := List.eq_nil_of_length_eq_zero (hb4 h0)
  refine VC.le _ (Le.nilRow 5 35) ?_
  refine VC.ret ?_
  exact Exists.intro _ (And.intro (RetV.one Tryz.results135 (ResV.tmp rfl)) (⟨_, rfl, List.Mem.head _⟩))
 ·have h0 := h0b
  try simp only [qqT, qqF, qqN, qqM, qqL, qqE] at h0
  refine VC.skip ?_
  refine VC.sr ?_
  refine VO.op rfl (OpE.buildSlice0 rfl hB rfl Tryz.underlying28 Tryz.sizeOf35 ?_)
  intro g5
  refine VO.mv rfl rfl rfl rfl ?_
  refine VO.op rfl (OpE.appendP (i := 0) rfl hB rfl Tryz.underlying28 (infoOf Tryz.t35 5 (by kernel_rfl) rfl rfl) rfl (by decide) (by decide) rfl rfl (.im rfl) (or_one xs) (by omega) (tab_L xs) (fun _ _ => trivial) ?_)
  intro u7
  refine VO.ma rfl rfl rfl rfl ?_
  refine VO.nil ?_
  rw [Nat.zero_add]
  refine VC.ret ?_
  exact Exists.intro _ (And.intro (RetV.one Tryz.results135 (ResV.tmp rfl)) (⟨_, rfl, List.Mem.head _⟩))
set_option maxRecDepth 100000 in
theorem slices_IndexFunc_or {xs : List OrdrS} {F : FuncId} {cs : List AV} {p : OrdrS → Bool} (hl : xs.length ≤ 1000000000) (hcall : ∀ us w, (callFunc F us).run Tryz.prog w = .ok (.enter F us) w) (hF : ∀ x, Spec Tryz.prog F ([avT x] ++ cs) (fun y => y = avB (p x))) :
  SpecN Tryz.prog 111 [avL xs, .fn F cs] (fun y => y = avI (fidx p xs)) := by
 refine SpecN.of_VCN Tryz.func111 rfl Tryz.ntmps111 (Nle rfl) fun w A hB => ?_
 have hnew : True := trivial
 refine VC.sr ?_
 refine VO.ma rfl rfl rfl rfl ?_
 refine VO.nil ?_
 refine VC.seq ?_
 refine VC.sr ?_
 refine VO.mv rfl rfl rfl rfl ?_
 refine VO.val rfl rfl (OpV.len_im rfl Tryz.underlying28 rfl) ?_
 refine VO.mv rfl rfl rfl rfl ?_
 refine VO.nil ?_
 refine VC.block ?_
 refine VC.loopK [(0, _), (1, _), (7, _)] ⟨rfl, rfl, rfl, trivial⟩ ({q : Nat // q ≤ xs.length ∧ ∀ j, j < q → p (xs.getD j default) = false}) (fun (iZ : {q : Nat // q ≤ xs.length ∧ ∀ j, j < q → p (xs.getD j default) = false}) => match iZ with | ⟨q, hq, hn⟩ => [(8, avI (q : Int))]) (fun (iZ : {q : Nat // q ≤ xs.length ∧ ∀ j, j < q → p (xs.getD j default) = false}) => match iZ with | ⟨q, hq, hn⟩ => []) (fun (iZ : {q : Nat // q ≤ xs.length ∧ ∀ j, j < q → p (xs.getD j default) = false}) => match iZ with | ⟨q, hq, hn⟩ => 0) (fun (iZ : {q : Nat // q ≤ xs.length ∧ ∀ j, j < q → p (xs.getD j default) = false}) => match iZ with | ⟨q, hq, hn⟩ => xs.length - q) ⟨0, Nat.zero_le _, fun j hj => absurd hj (Nat.not_lt_zero j)⟩ (Le.mk hB [] ⟨rfl, rfl, rfl, rfl, trivial⟩ rfl rfl (Nat.le_refl _)) ?_
 rintro ⟨q, hq, hn⟩
 show VC _ _ _ _ ⟨[(8, avI (q : Int))] ++ [(0, _), (1, _), (7, _)], [], 0⟩
 refine VC.sr ?_
 refine VO.val rfl rfl (OpV.lss rfl rfl rfl) ?_
 refine VO.nil ?_
 refine VC.seq ?_
 refine VC.cond rfl (fun aH1b => ?_) (fun aH1b => ?_)
 ·have aH1 := aH1b
  try simp only [qqT, qqF, qqN, qqM, qqL, qqE] at aH1
  refine VC.skip ?_
  refine VC.seq ?_
  refine VC.block ?_
  refine VC.sr ?_
  refine VO.mv rfl rfl rfl rfl ?_
  refine VO.ma rfl rfl rfl rfl ?_
  refine VO.nil ?_
  refine VC.sr ?_
  refine VO.mv rfl rfl rfl rfl ?_
  refine VO.mv rfl rfl rfl rfl ?_
  refine VO.mv rfl rfl rfl rfl ?_
  refine VO.val rfl rfl (OpV.indexAddr_E rfl Tryz.underlying28 Tryz.sizeOf35 rfl rfl rfl (by omega)) ?_
  refine VO.val rfl rfl (OpV.loadK_at rfl hB OutW.no Tryz.isAgg35 Tryz.sizeOf35 rfl rfl) ?_
  refine VO.op rfl (OpE.callF rfl hB rfl hcall rfl rfl (hF _) ?_)
  rintro _ rfl
  refine VO.nil ?_
  refine VC.cond rfl (fun aH2b => ?_) (fun aH2b => ?_)
  ·have aH2 := aH2b
   try simp only [qqT, qqF, qqN, qqM, qqL, qqE] at aH2
   refine VC.sr ?_
   refine VO.mv rfl rfl rfl rfl ?_
   refine VO.ma rfl rfl rfl rfl ?_
   refine VO.nil ?_
   refine VC.ret ?_
   exact Exists.intro _ (And.intro (RetN.one Tryz.results111 (ResN.v rfl)) (by first | (rw [fidx_found (d := default) (q := q) (by omega) hn (by assumption)]) | (rw [fidx_none (d := default) (fun j hj => hn j (by omega))])))
  ·have aH2 := aH2b
   try simp only [qqT, qqF, qqN, qqM, qqL, qqE] at aH2
   refine VC.skip ?_
   refine VC.region ?_
   refine VO.val rfl rfl (OpV.add rfl rfl rfl (by unfold fits; omega)) ?_
   refine VO.mv rfl rfl rfl rfl ?_
   refine VO.nil ?_
   exact Exists.intro (⟨q + 1, by omega, lt_succ_cases hn ((by assumption))⟩) (And.intro (Le.mk hB [] ⟨rfl, rfl, rfl, rfl, trivial⟩ rfl rfl (Nat.le_refl _)) (by first | omega | (show _ < _; omega) | (simp only []; omega)))
 ·have aH1 := aH1b
  try simp only [qqT, qqF, qqN, qqM, qqL, qqE] at aH1
  refine VC.exit ?_
  refine VC.sr ?_
  refine VO.ma rfl rfl rfl rfl ?_
  refine VO.nil ?_
  refine VC.ret ?_
  exact Exists.intro _ (And.intro (RetN.one Tryz.results111 (ResN.v rfl)) (by first | (rw [fidx_found (d := default) (q := q) (by omega) hn (by assumption)]) | (rw [fidx_none (d := default) (fun j hj => hn j (by omega))])))
set_option maxRecDepth 100000 in
theorem slices_ContainsFunc_or {xs : List OrdrS} {F : FuncId} {cs : List AV} {p : OrdrS → Bool} (hl : xs.length ≤ 1000000000) (hcall : ∀ us w, (callFunc F us).run Tryz.prog w = .ok (.enter F us) w) (hF : ∀ x, Spec Tryz.prog F ([avT x] ++ cs) (fun y => y = avB (p x))) :
  SpecN Tryz.prog 132 [avL xs, .fn F cs] (fun y => y = avB (xs.any p)) := by
 refine SpecN.of_VCN Tryz.func132 rfl Tryz.ntmps132 (Nle rfl) fun w A hB => ?_
 have hnew : True := trivial
 refine VC.sr ?_
 refine VO.ma rfl rfl rfl rfl ?_
 refine VO.nil ?_
 refine VC.sr ?_
 refine VO.mv rfl rfl rfl rfl ?_
 refine VO.mv rfl rfl rfl rfl ?_
 refine VO.op rfl (OpE.call rfl hB rfl Tryz.call111 rfl (SpecN.spec (slices_IndexFunc_or hl hcall hF)) ?_)
 rintro _ rfl
 refine VO.val rfl rfl (OpV.geq rfl rfl rfl) ?_
 refine VO.ma rfl rfl rfl rfl ?_
 refine VO.nil ?_
 refine VC.ret ?_
 exact Exists.intro _ (And.intro (RetN.one Tryz.results132 (ResN.v rfl)) (by rw [← fidx_any]))
set_option maxRecDepth 100000 in
theorem plan_Promise1 {x y0 : OrdrS}  :
  SpecN Tryz.prog 133 [avT y0, .at_ 5 (Sxc.cell x)] (fun y => y = avB (sEq y0.key x.key)) := by
 refine SpecN.of_VCN Tryz.func133 rfl Tryz.ntmps133 (Nle rfl) fun w A hB => ?_
 have hnew : True := trivial
 refine VC.sr ?_
 refine VO.op rfl (OpE.box rfl hB rfl rfl rfl ?_)
 intro g2
 refine VO.ma rfl rfl rfl rfl ?_
 refine VO.nil ?_
 refine VC.sr ?_
 refine VO.val rfl rfl (OpV.fieldAddrO 0 rfl Tryz.underlying35 rfl rfl Tryz.sizeOf9 rfl) ?_
 refine VO.val rfl rfl (OpV.load_own (i := 0) rfl hB Tryz.isAgg9 rfl rfl rfl (fun h => h)) ?_
 refine VO.val rfl rfl (OpV.fieldAddr_atO 0 rfl Tryz.underlying35 rfl rfl Tryz.sizeOf9 rfl rfl) ?_
 refine VO.val rfl rfl (OpV.load_at rfl hB OutW.no Tryz.isAgg9 rfl rfl) ?_
 refine VO.val rfl rfl (OpV.seql rfl rfl rfl) ?_
 refine VO.ma rfl rfl rfl rfl ?_
 refine VO.nil ?_
 refine VC.ret ?_
 exact Exists.intro _ (And.intro (RetN.one Tryz.results133 (ResN.v rfl)) (rfl))
def stpE (n : Nat) (a : Int) (i : Int) (w : WinS) : Int := if i = (n : Int) then w.to else a
abbrev bxE (o : List OrdrS) (a : Int) (Tq Ti : TypeId) (g7 g25 : Nat) : List Ent := [.box g7 ⟨[avL o], Tq, 1⟩, .box g25 ⟨[avI a], Ti, 1⟩]
set_option maxRecDepth 100000 in
theorem plan_Promise2 {o : List OrdrS} {i a : Int} {x : WinS} {g7 g25 : Nat} {Tq Ti : TypeId} (hl : o.length ≤ 1000000) :
  SpecH Tryz.prog 138 [avI i, .agg [avI x.fr, avI x.to], pt g7, pt g25] (bxE o a Tq Ti g7 g25) (fun y hp' => hp' = bxE o (stpE o.length a i x) Tq Ti g7 g25) := by
 refine SpecH.of_VC Tryz.func138 rfl Tryz.ntmps138 (Nle rfl) fun w A hB => ?_
 have hnew : True := trivial
 refine VC.sr ?_
 refine VO.op rfl (OpE.box rfl hB rfl rfl rfl ?_)
 intro g5
 refine VO.nil ?_
 refine VC.sr ?_
 refine VO.mv rfl rfl rfl rfl ?_
 refine VO.val rfl rfl (OpV.load_own (i := 0) rfl hB Tryz.isAgg28 rfl rfl rfl (fun h => h)) ?_
 refine VO.val rfl rfl (OpV.len_im rfl Tryz.underlying28 rfl) ?_
 refine VO.val rfl rfl (OpV.eql rfl rfl rfl) ?_
 refine VO.nil ?_
 refine VC.cond rfl (fun h0b => ?_) (fun h0b => ?_)
 ·have h0 := h0b
  try simp only [qqT, qqF, qqN, qqM, qqL, qqE] at h0
  refine VC.region ?_
  refine VO.val rfl rfl (OpV.fieldAddrO 1 rfl Tryz.underlying165 rfl rfl Tryz.sizeOf3 rfl) ?_
  refine VO.val rfl rfl (OpV.load_own (i := 2) rfl hB Tryz.isAgg3 rfl rfl rfl (fun h => h)) ?_
  refine VO.le _ (Le.pickH [0, 1] rfl rfl) ?_
  refine VO.op rfl (OpE.store (i := 1) rfl hB rfl Tryz.sizeOf3 rfl rfl rfl rfl rfl rfl (Nle rfl) trivial ?_)
  refine VO.nil ?_
  exact Exists.intro _ (And.intro (RetV.none Tryz.results138) (by unfold stpE; first | (rw [if_pos (by omega)]; rfl) | (rw [if_neg (by omega)]; rfl)))
 ·have h0 := h0b
  try simp only [qqT, qqF, qqN, qqM, qqL, qqE] at h0
  refine VC.le _ (Le.pickH [0, 1] rfl rfl) ?_
  refine VC.skip ?_
  exact Exists.intro _ (And.intro (RetV.none Tryz.results138) (by unfold stpE; first | (rw [if_pos (by omega)]; rfl) | (rw [if_neg (by omega)]; rfl)))
theorem prom_does {o : List OrdrS} {g7 g25 n : Nat} {Tq Ti : TypeId} (hl : o.length ≤ 1000000) : DoesW n (fun (a : Int) h => h = bxE o a Tq Ti g7 g25) (stpE o.length) Tryz.prog 138 #[ptv g7, ptv g25] := by
 rintro i w a h h0 h1 rfl
 exact plan_Promise2 (x := w) (i := i) (a := a) hl
section
variable (p : List PaceS) (o : List OrdrS) (l : List Int) (s e : Int) (x : OrdrS)
def prL (k : Nat) : Int := (resP p (o ++ [x]) (insL l k o.length) s e (insL l k o.length).length).late
def prE (k : Nat) : Int := endP p (o ++ [x]) (insL l k o.length) s e k
def prS : Nat → Int × Int
 | 0 => (-1, 0)
 | q + 1 => if (prS q).1 < 0 ∨ prL p o l s e x q < (prS q).1 ∨ (prL p o l s e x q = (prS q).1 ∧ prE p o l s e x q < (prS q).2) then (prL p o l s e x q, prE p o l s e x q) else prS q
def prmE : Int := if scheF p o l s e ≠ 0 then scheF p o l s e else if ordrF [x] ≠ 0 then ordrF [x] else if o.any (fun y => sEq y.key x.key) = true then 6 else if hasP p x.product = true then 0 else 8
def prmA : Int := if prmE p o l s e x = 0 then (prS p o l s e x (l.length + 1)).2 else 0
def prmG : Int := if prmE p o l s e x = 0 then (prS p o l s e x (l.length + 1)).1 - lateZ p o l e s else 0
end
section
variable {p : List PaceS} {o : List OrdrS} {l : List Int} {s e : Int} {x : OrdrS}
theorem prS_t {q : Nat} (h : (prS p o l s e x q).1 < 0 ∨ prL p o l s e x q < (prS p o l s e x q).1 ∨ (prL p o l s e x q = (prS p o l s e x q).1 ∧ prE p o l s e x q < (prS p o l s e x q).2)) : prS p o l s e x (q + 1) = (prL p o l s e x q, prE p o l s e x q) := by rw [prS, if_pos h]
theorem prS_f {q : Nat} (h : ¬ ((prS p o l s e x q).1 < 0 ∨ prL p o l s e x q < (prS p o l s e x q).1 ∨ (prL p o l s e x q = (prS p o l s e x q).1 ∧ prE p o l s e x q < (prS p o l s e x q).2))) : prS p o l s e x (q + 1) = prS p o l s e x q := by rw [prS, if_neg h]
theorem prS_is {q : Nat} (hL : ∀ k, k < q → 0 ≤ prL p o l s e x k) (h0 : 0 < q) : ∃ k, k < q ∧ prS p o l s e x q = (prL p o l s e x k, prE p o l s e x k) := by
 induction q with
 | zero => omega
 | succ q ih =>
  by_cases h : (prS p o l s e x q).1 < 0 ∨ prL p o l s e x q < (prS p o l s e x q).1 ∨ (prL p o l s e x q = (prS p o l s e x q).1 ∧ prE p o l s e x q < (prS p o l s e x q).2)
  ·exact ⟨q, Nat.lt_succ_self _, prS_t h⟩
  ·rw [prS_f h]
   cases q with
   | zero => exact absurd (.inl (by show (-1 : Int) < 0; decide)) h
   | succ q =>
    obtain ⟨k, hk, hke⟩ := ih (fun k hk => hL k (by omega)) (Nat.succ_pos _)
    exact ⟨k, by omega, hke⟩
theorem prmE_1 (h : scheF p o l s e ≠ 0) : prmE p o l s e x = scheF p o l s e := by rw [prmE, if_pos h]
theorem prmE_2 (h : scheF p o l s e = 0) (h2 : ordrF [x] ≠ 0) : prmE p o l s e x = ordrF [x] := by rw [prmE, if_neg (by omega), if_pos h2]
theorem prmE_6 (h : scheF p o l s e = 0) (h2 : ordrF [x] = 0) (h3 : o.any (fun y => sEq y.key x.key) = true) : prmE p o l s e x = 6 := by rw [prmE, if_neg (by omega), if_neg (by omega), if_pos h3]
theorem prmE_8 (h : scheF p o l s e = 0) (h2 : ordrF [x] = 0) (h3 : o.any (fun y => sEq y.key x.key) = false) (h4 : hasP p x.product = false) : prmE p o l s e x = 8 := by rw [prmE, if_neg (by omega), if_neg (by omega), if_neg (by rw [h3]; decide), if_neg (by rw [h4]; decide)]
theorem prmE_0 (h : scheF p o l s e = 0) (h2 : ordrF [x] = 0) (h3 : o.any (fun y => sEq y.key x.key) = false) (h4 : hasP p x.product = true) : prmE p o l s e x = 0 := by rw [prmE, if_neg (by omega), if_neg (by omega), if_neg (by rw [h3]; decide), if_pos h4]
theorem prm_no (h : prmE p o l s e x ≠ 0) : prmA p o l s e x = 0 ∧ prmG p o l s e x = 0 := by rw [prmA, if_neg h, prmG, if_neg h]; exact ⟨rfl, rfl⟩
theorem prm_ok (h : prmE p o l s e x = 0) : prmA p o l s e x = (prS p o l s e x (l.length + 1)).2 ∧ prmG p o l s e x = (prS p o l s e x (l.length + 1)).1 - lateZ p o l e s := by rw [prmA, if_pos h, prmG, if_pos h]; exact ⟨rfl, rfl⟩
theorem one_ok (h : ordrF [x] = 0) : (1 ≤ x.count ∧ x.count ≤ 100000) ∧ (0 ≤ x.ready ∧ x.ready ≤ 345686399999) ∧ (0 ≤ x.due ∧ x.due ≤ 345686399999) := (ordrE_zero ((ordrsOk h).all 0 (Nat.succ_pos _))).2.2
theorem runA_end {k : Nat} (h : SchOk p (o ++ [x]) (insL l k o.length) s e) (hk : k ≤ l.length) (hl : Ord o.length l) : ∀ q, q ≤ l.length + 1 → runA (stpE o.length) p (o ++ [x]) (insL l k o.length) s e 0 q = if k < q then prE p o l s e x k else 0
 | 0, _ => by rw [if_neg (by omega)]; rfl
 | q + 1, hq => by
  rw [runA, runA_end h hk hl q (by omega)]
  unfold stpE
  by_cases hkq : q = k
  ·subst hkq
   rw [insL_at hk, if_pos rfl, if_pos (Nat.lt_succ_self _)]
   rfl
  ·have hne : (insL l k o.length).getD q 0 ≠ (o.length : Int) := by
    by_cases h2 : q < k
    ·rw [insL_lo hk h2]
     have := hl.lt (l.getD q 0) (by rw [List.getD_eq_getElem?_getD, List.getElem?_eq_getElem (by omega)]; exact List.getElem_mem _)
     omega
    ·obtain ⟨m, rfl⟩ : ∃ m, q = m + 1 := ⟨q - 1, by omega⟩
     rw [insL_hi hk (by omega)]
     have := hl.lt (l.getD m 0) (by rw [List.getD_eq_getElem?_getD, List.getElem?_eq_getElem (by omega)]; exact List.getElem_mem _)
     omega
   rw [if_neg hne]
   by_cases h3 : k < q
   ·rw [if_pos h3, if_pos (by omega)]
   ·rw [if_neg h3, if_neg (by omega)]
end
end Go.Proofs.YtmahammdnmmmoaaGreatDoor
namespace Go.Proofs.YtmahammdnmmmoaaGreatDoor
open Go.RowKit
set_option linter.unusedVariables false
set_option linter.unusedSimpArgs false
section
variable {P : Program} {ops : Array Oper} {Q : Act → World → Prop} {md : Region.Mode} {E : Nat → World → World → Prop}
theorem wpAnyE_firstT {S : Nat → Bool} {F : World → World → Prop} (htr : ∀ x y z, F x y → F y z → F x z) (hrf : ∀ x, F x x) {i : Nat} (hEr : ∀ x, E i x x)
  (hEF : ∀ j oj, ops[j]? = some oj → S j = false → ∀ w w', E j w w' → F w w') (hcl : ∀ k, S k = true → k ≠ i → ∃ ok, ops[k]? = some ok ∧ ∃ e ∈ ok.after, Region.binds md e = true ∧ S e.on = true)
  {oi : Oper} {v : Value} (hi : ops[i]? = some oi) (hsel : ∀ (j : Nat) (o : Oper) cs b, ops[j]? = some o → o.op ≠ .select cs b) :
  ∀ (fuel : Nat) (listed : Array Bool) (a : Act) (w : World), (∀ k, S k = true → listed.getD k true = false) →
   (∀ j oj, ops[j]? = some oj → j ≠ i → listed.getD j true = false → (∀ e ∈ oj.after, Region.binds md e = true → e.on ≠ i) → oi.apart ops oj = true) →
   i ∈ Region.ready md ops listed → YieldsE P ops F oi v a w →
   wpAnyE P md ops Q E fuel (listed.setIfInBounds i true) (a.put oi.dst v) w → wpAnyE P md ops Q E (fuel + 1) listed a w := by
 intro fuel
 induction fuel with
 | zero =>
  intro listed a w _ _ hr hy H
  refine ⟨fun h => (by rw [h] at hr; cases hr), fun j hj => ?_⟩
  by_cases hji : j = i
  ·subst hji; exact YieldsIf.wpOp hi hy.iff (hrf w) ⟨hEr w, H⟩
  ·have := ready_mono hj hji
   rw [H.1] at this
   cases this
 | succ fuel ih =>
  intro listed a w hS hfree hr hy H
  refine ⟨fun h => (by rw [h] at hr; cases hr), fun j hj => ?_⟩
  by_cases hji : j = i
  ·subst hji; exact YieldsIf.wpOp hi hy.iff (hrf w) ⟨hEr w, H⟩
  ·have h1 := H.2 j (ready_mono hj hji)
   obtain ⟨hjun, oj, hoj, hall⟩ := mem_ready.1 hj
   have hnot : ∀ e ∈ oj.after, Region.binds md e = true → e.on ≠ i := fun e he hb heq => by
    have h1 := hall e he hb
    have h0 := (mem_ready.1 hr).1
    rw [heq] at h1
    rcases Nat.lt_or_ge i listed.size with h' | h'
    ·simp [h'] at h0 h1; rw [h0] at h1; cases h1
    ·simp [Array.getElem?_eq_none h'] at h1
   have hjS : S j = false := by
    cases hc : S j with
    | false => rfl
    | true =>
     obtain ⟨ok, k1, e, he, hb, k2⟩ := hcl j hc hji
     obtain rfl : oj = ok := Option.some.inj (hoj.symm.trans k1)
     have h1 := hall e he hb
     have h0 := hS e.on k2
     rcases Nat.lt_or_ge e.on listed.size with h' | h'
     ·simp [h'] at h0 h1; rw [h0] at h1; cases h1
     ·simp [Array.getElem?_eq_none h'] at h1
   have h2 := wpOp_putIf (S := F w) hoj (hfree j oj hoj hji hjun hnot) (fun cs b => hsel i oi cs b hi) (fun cs b => hsel j oj cs b hoj) (fun c a w h => h.elim) hy.iff h1
   have hfree' : ∀ k ok, ops[k]? = some ok → k ≠ i → (listed.setIfInBounds j true).getD k true = false →
     (∀ e ∈ ok.after, Region.binds md e = true → e.on ≠ i) → oi.apart ops ok = true := fun k ok hk hki hun hno => by
    refine hfree k ok hk hki ?_ hno
    by_cases hjk : j = k
    ·subst hjk; exact hjun
    ·rw [Go.getD_set_ne true hjk] at hun; exact hun
   have hS' : ∀ k, S k = true → (listed.setIfInBounds j true).getD k true = false := fun k hk => by
    have hjk : j ≠ k := fun e => by rw [e, hk] at hjS; cases hjS
    rw [Go.getD_set_ne true hjk]; exact hS k hk
   refine wpOp_mono (fun a' w' h3 => ⟨h3.2.1, ih (listed.setIfInBounds j true) a' w' hS' hfree' (ready_mono hr (Ne.symm hji)) ?_ ?_⟩) h2
   ·rcases h3.1 with ⟨k1, k2⟩ | k
    ·exact .inl ⟨k1, fun w'' hw'' => k2 w'' (htr _ _ _ (hEF j oj hoj hjS _ _ h3.2.1) hw'')⟩
    ·exact .inr k
   rw [Array.setIfInBounds_comm _ _ hji]
   exact h3.2.2
end
section
variable {P : Program} {B : Bs} {V : Nat → Nat → Prop} {ops : Array Oper} {s : St'} {Q : Exit → St' → Prop} {n : Nat} {L : Array Bool}
def WS (V : Nat → Nat → Prop) (S : List Nat) : Nat → Prop := fun b => ∃ j, S.contains j = false ∧ V j b
def hangB (ops : Array Oper) (S : List Nat) (i : Nat) : Bool := S.all fun k => k == i || match ops[k]? with
 | some o => o.after.any fun e => Region.binds .any e && S.contains e.on
 | none => false
theorem VA.takeT (S : List Nat) {i : Nat} {o : Oper} {x : AV} (hS : hangB ops S i = true) (hL : (S.all fun k => !(L.getD k true)) = true) (hi : ops[i]? = some o) (hs : Region.noSelect ops = true) (hf : Region.free .any ops L i = true) (hr : (Region.ready .any ops L).contains i = true) (hg : o.guard = none) (hd : okd B.nt o.dst = true)
  (hv : OpV P B (WS V S) s o x) (h : VA P B V ops Q n (L.setIfInBounds i true) (s.put o.dst x)) : VA P B V ops Q (n + 1) L s := fun a w hR => by
 obtain ⟨v, h1, h2⟩ := hv a w hR
 refine wpAnyE_firstT (S := fun k => S.contains k) (F := Ew B (WS V S)) Ew.tr Ew.rf (fun x => Ew.rf x) (fun j oj hj hjS w w' h => h.mono fun b _ hb => hb.imp id fun hv => ⟨j, hjS, hv⟩) (fun k hk hki => ?_) hi (Region.noSelect_spec hs) n L a w (fun k hk => ?_) (Region.free_spec hi hf) (by simpa using hr) (.inl ⟨by simp [Region.wanted, hg], h1⟩) (h _ _ (hR.put _ hd _ _ h2))
 ·have hk' : k ∈ S := by simpa using hk
  have := List.all_eq_true.1 hS k hk'
  simp only [Bool.or_eq_true, beq_iff_eq] at this
  have := this.resolve_left hki
  cases ho : ops[k]? with
  | none => rw [ho] at this; cases this
  | some ok =>
   rw [ho] at this
   obtain ⟨e, he, h3⟩ := Array.any_eq_true'.1 this
   simp only [Bool.and_eq_true] at h3
   exact ⟨ok, rfl, e, he, h3.1, h3.2⟩
 ·have hk' : k ∈ S := by simpa using hk
  have := List.all_eq_true.1 hL k hk'
  simpa using this
end
end Go.Proofs.YtmahammdnmmmoaaGreatDoor
namespace Go.Proofs.YtmahammdnmmmoaaGreatDoor
open Go.RowKit
set_option linter.unusedVariables false
set_option linter.unusedSimpArgs false
theorem perm_mid {α : Type} {a b r c : α} : [a, b, r, c].Perm ([r] ++ [a, b, c]) := by
 have : ([a, b] ++ r :: [c]).Perm (r :: ([a, b] ++ [c])) := List.perm_middle
 exact this
set_option maxRecDepth 100000 in
set_option maxHeartbeats 40000000 in
theorem plan_Promise {p : List PaceS} {o : List OrdrS} {l : List Int} {start each : Int} {x : OrdrS} (hp : SmPc p) (ho : SmOr o) (hl : l.length ≤ 1000000) (hx1 : SmOr [x]) :
    Spec Tryz.prog 34 [avL p, avL o, avInts l, avI start, avI each, avOr x] (fun y => y = .tup [avI (prmA p o l start each x), avI (prmG p o l start each x), avI (prmE p o l start each x)]) := by
  refine Spec.of_VC Tryz.func34 rfl Tryz.ntmps34 (Nle rfl) fun w A hB => ?_
  have hnew : True := trivial
  refine VC.sr ?_
  refine VO.op rfl (OpE.box rfl hB rfl rfl rfl ?_)
  intro g7
  refine VO.op rfl (OpE.box rfl hB rfl rfl rfl ?_)
  intro g11
  refine VO.ma rfl rfl rfl rfl ?_
  refine VO.ma rfl rfl rfl rfl ?_
  refine VO.ma rfl rfl rfl rfl ?_
  refine VO.nil ?_
  refine VC.sr ?_
  refine VO.mv rfl rfl rfl rfl ?_
  refine VO.val rfl rfl (OpV.load_own (i := 0) rfl hB Tryz.isAgg28 rfl rfl rfl (fun h => h)) ?_
  refine VO.mv rfl rfl rfl rfl ?_
  refine VO.mv rfl rfl rfl rfl ?_
  refine VO.mv rfl rfl rfl rfl ?_
  refine VO.op rfl (OpE.call rfl hB rfl Tryz.call131 rfl (plan_scheduled hp ho hl) ?_)
  rintro _ rfl
  refine VO.mv rfl rfl rfl rfl ?_
  refine VO.val rfl rfl (OpV.extract rfl rfl rfl) ?_
  refine VO.val rfl rfl (OpV.extract rfl rfl rfl) ?_
  refine VO.ma rfl rfl rfl rfl ?_
  refine VO.ma rfl rfl rfl rfl ?_
  refine VO.nil ?_
  refine VC.seq ?_
  refine VC.sr ?_
  refine VO.mv rfl rfl rfl rfl ?_
  refine VO.val rfl rfl (OpV.neq rfl rfl rfl) ?_
  refine VO.nil ?_
  refine VC.cond rfl (fun h0b => ?_) (fun h0b => ?_)
  · have h0 := h0b
    try simp only [qqT, qqF, qqN, qqM, qqL, qqE] at h0
    have hE := prmE_1 (x := x) h0
    have hN := prm_no (p := p) (o := o) (l := l) (s := start) (e := each) (x := x) (by rw [hE]; exact h0)
    refine VC.sr ?_
    refine VO.mv rfl rfl rfl rfl ?_
    refine VO.ma rfl rfl rfl rfl ?_
    refine VO.ma rfl rfl rfl rfl ?_
    refine VO.ma rfl rfl rfl rfl ?_
    refine VO.nil ?_
    refine VC.ret ?_
    exact Exists.intro _ (And.intro (RetV.three Tryz.results34 (ResV.tmp rfl) (ResV.tmp rfl) (ResV.tmp rfl)) (by rw [hN.1, hN.2, hE]))
  · have h0 := h0b
    try simp only [qqT, qqF, qqN, qqM, qqL, qqE] at h0
    have h00 : scheF p o l start each = 0 := by omega
    have hk := schOk h00
    have hkl := hk.len
    have hpl := hp.len
    have hol := ho.len
    refine VC.le _ (Le.recast (t := 15) (y := .at_ 3 (schC p o each)) rfl (fun w Z u h => by rw [← schAV_ok h00]; exact h)) ?_
    refine VC.skip ?_
    refine VC.seq ?_
    refine VC.sr ?_
    refine VO.val rfl rfl (OpV.loadK_own (i := 1) rfl hB Tryz.isAgg35 Tryz.sizeOf35 rfl rfl rfl (fun h => h)) ?_
    refine VO.op rfl (OpE.buildSlice (zc := #[.string ⟨#[]⟩, .string ⟨#[]⟩, .int .i64 0, .int .i64 0, .int .i64 0]) rfl hB rfl Tryz.underlying28 Tryz.sizeOf35 Tryz.zeroValue35 (by decide) (by decide) (by kernel_rfl) rfl rfl ?_)
    refine VO.le _ (Le.recast (t := 40) (y := avL [x]) rfl (fun w Z u h => Rep.rowL (xs := [x]) rfl h)) ?_
    refine VO.op rfl (OpE.call rfl hB rfl Tryz.call91 rfl (SpecN.spec (plan_CheckOrders hx1)) ?_)
    rintro _ rfl
    refine VO.ma rfl rfl rfl rfl ?_
    refine VO.nil ?_
    refine VC.sr ?_
    refine VO.mv rfl rfl rfl rfl ?_
    refine VO.val rfl rfl (OpV.neq rfl rfl rfl) ?_
    refine VO.nil ?_
    refine VC.cond rfl (fun h1b => ?_) (fun h1b => ?_)
    · have h1 := h1b
      try simp only [qqT, qqF, qqN, qqM, qqL, qqE] at h1
      have hE := prmE_2 h00 h1
      have hN := prm_no (p := p) (o := o) (l := l) (s := start) (e := each) (x := x) (by rw [hE]; exact h1)
      refine VC.sr ?_
      refine VO.mv rfl rfl rfl rfl ?_
      refine VO.ma rfl rfl rfl rfl ?_
      refine VO.ma rfl rfl rfl rfl ?_
      refine VO.ma rfl rfl rfl rfl ?_
      refine VO.nil ?_
      refine VC.ret ?_
      exact Exists.intro _ (And.intro (RetV.three Tryz.results34 (ResV.tmp rfl) (ResV.tmp rfl) (ResV.tmp rfl)) (by rw [hN.1, hN.2, hE]))
    · have h1 := h1b
      try simp only [qqT, qqF, qqN, qqM, qqL, qqE] at h1
      have h10 : ordrF [x] = 0 := by omega
      have hxb := one_ok h10
      refine VC.skip ?_
      refine VC.seq ?_
      refine VC.sr ?_
      refine VO.val rfl rfl (OpV.load_own (i := 0) rfl hB Tryz.isAgg28 rfl rfl rfl (fun h => h)) ?_
      refine VO.val rfl rfl (OpV.makeFunc1 rfl rfl) ?_
      refine VO.op rfl (OpE.callL rfl hB rfl Tryz.call132 (slices_ContainsFunc_or (p := fun y => sEq y.key x.key) (by omega) Tryz.call133 (fun y => plan_Promise1.spec)) (ArgsP.cons (ArgP.ev rfl) (ArgsP.cons (ArgP.fn1 (i := 1) (m := 5) (f := Sxc.cell x) rfl rfl (Nle rfl) (lt5 rfl rfl rfl rfl rfl)) (ArgsP.nil))) ?_)
      rintro _ rfl
      refine VO.nil ?_
      refine VC.cond rfl (fun h2b => ?_) (fun h2b => ?_)
      · have h2 := h2b
        try simp only [qqT, qqF, qqN, qqM, qqL, qqE] at h2
        have hE := prmE_6 h00 h10 h2
        have hN := prm_no (p := p) (o := o) (l := l) (s := start) (e := each) (x := x) (by rw [hE]; decide)
        refine VC.sr ?_
        refine VO.ma rfl rfl rfl rfl ?_
        refine VO.ma rfl rfl rfl rfl ?_
        refine VO.ma rfl rfl rfl rfl ?_
        refine VO.nil ?_
        refine VC.ret ?_
        exact Exists.intro _ (And.intro (RetV.three Tryz.results34 (ResV.tmp rfl) (ResV.tmp rfl) (ResV.tmp rfl)) (by rw [hN.1, hN.2, hE]))
      · have h2 := h2b
        try simp only [qqT, qqF, qqN, qqM, qqL, qqE] at h2
        refine VC.skip ?_
        refine VC.seq ?_
        refine VC.sr ?_
        refine VO.mv rfl rfl rfl rfl ?_
        refine VO.val rfl rfl (OpV.fieldAddrO 1 rfl Tryz.underlying35 rfl rfl Tryz.sizeOf9 rfl) ?_
        refine VO.val rfl rfl (OpV.load_own (i := 1) rfl hB Tryz.isAgg9 rfl rfl rfl (fun h => h)) ?_
        refine VO.op rfl (OpE.call rfl hB rfl Tryz.call134 rfl (plan_paceOf (by omega) (pace_rise hk.pok)) ?_)
        rintro _ rfl
        refine VO.mv rfl rfl rfl rfl ?_
        refine VO.val rfl rfl (OpV.extract rfl rfl rfl) ?_
        refine VO.val rfl rfl (OpV.extract rfl rfl rfl) ?_
        refine VO.op rfl (OpE.alloc rfl hB rfl Tryz.zeroValue142 rfl ?_)
        intro g18
        refine VO.op rfl (OpE.store (i := 2) rfl hB rfl Tryz.sizeOf142 rfl rfl rfl rfl rfl rfl (Nle rfl) trivial ?_)
        refine VO.ma rfl rfl rfl rfl ?_
        refine VO.nil ?_
        refine VC.sr ?_
        refine VO.mv rfl rfl rfl rfl ?_
        refine VO.val rfl rfl (OpV.not rfl rfl) ?_
        refine VO.nil ?_
        refine VC.cond rfl (fun h3b => ?_) (fun h3b => ?_)
        · have h3 := h3b
          try simp only [qqT, qqF, qqN, qqM, qqL, qqE] at h3
          have h30 : hasP p x.product = false := by simp_all
          have hE := prmE_8 h00 h10 (by simp_all) h30
          have hN := prm_no (p := p) (o := o) (l := l) (s := start) (e := each) (x := x) (by rw [hE]; decide)
          refine VC.sr ?_
          refine VO.ma rfl rfl rfl rfl ?_
          refine VO.ma rfl rfl rfl rfl ?_
          refine VO.ma rfl rfl rfl rfl ?_
          refine VO.nil ?_
          refine VC.ret ?_
          exact Exists.intro _ (And.intro (RetV.three Tryz.results34 (ResV.tmp rfl) (ResV.tmp rfl) (ResV.tmp rfl)) (by rw [hN.1, hN.2, hE]))
        · have h3 := h3b
          try simp only [qqT, qqF, qqN, qqM, qqL, qqE] at h3
          have h30 : hasP p x.product = true := by simp_all
          have hE := prmE_0 h00 h10 (by simp_all) h30
          have hY := prm_ok hE
          have h200 := (ordrsOk (bothF_0 (by unfold scheF at h00; split at h00; contradiction; omega : bothF p o = 0)).2.1).len
          have hins := fun (k : Nat) (hk' : k ≤ l.length) => hk.ins h30 hxb h200 hk'
          have hi0 := hins 0 (Nat.zero_le _)
          refine VC.skip ?_
          refine VC.sr ?_
          refine VO.mv rfl rfl rfl rfl ?_
          refine VO.mv rfl rfl rfl rfl ?_
          refine VO.mv rfl rfl rfl rfl ?_
          refine VO.op rfl (OpE.call rfl hB rfl Tryz.call117 rfl (SpecN.spec (plan_result hk)) ?_)
          rintro _ rfl
          refine VO.val rfl rfl (OpV.field1 rfl Tryz.underlying150 rfl Tryz.isAgg3 rfl rfl) ?_
          refine VO.le _ (Le.recast (t := 61) (y := avI (lateZ p o l each start)) rfl (fun w Z u h => h)) ?_
          refine VO.ma rfl rfl rfl rfl ?_
          refine VO.nil ?_
          refine VC.seq ?_
          refine VC.hap (fun hap => ?_)
          refine VC.draw (fun j b => j ∈ [5] ∧ b ≠ g11) hB (by kernel_rfl) ?_
          refine VA.take (i := 0) rfl (by kernel_rfl) (by kernel_rfl) (by kernel_rfl) rfl rfl (OpV.move (.inl rfl) rfl) ?_
          refine VA.takeT [1, 2, 5] (i := 1) (by kernel_rfl) (by kernel_rfl) rfl (by kernel_rfl) (by kernel_rfl) (by kernel_rfl) rfl rfl (OpV.load_own (i := 0) rfl hB Tryz.isAgg28 rfl rfl rfl (fun ⟨j, h1, h2, _⟩ => by simp at h2; subst h2; simp at h1)) ?_
          refine VA.take (i := 3) rfl (by kernel_rfl) (by kernel_rfl) (by kernel_rfl) rfl rfl (OpV.loadK_own (i := 1) rfl hB Tryz.isAgg35 Tryz.sizeOf35 rfl rfl rfl (fun ⟨_, _, _, h⟩ => h rfl)) ?_
          refine VA.take (i := 6) rfl (by kernel_rfl) (by kernel_rfl) (by kernel_rfl) rfl rfl (OpV.move (.inl rfl) rfl) ?_
          refine VA.all (rs := [2, 4]) (by kernel_rfl) (by decide) ?_
          refine ⟨⟨_, rfl, .inl rfl, ?_⟩, ⟨_, rfl, .inl rfl, ?_⟩, trivial⟩
          ·
            refine OpE.callR rfl hB rfl Tryz.call135 (slices_CloneO_R (by omega)) (ArgsP.cons (ArgP.ev rfl) (ArgsP.nil)) ?_
            intro u64
            refine VA.all (rs := [4]) (by kernel_rfl) (by decide) ?_
            refine ⟨⟨_, rfl, .inl rfl, ?_⟩, trivial⟩
            refine OpE.buildSlice (zc := #[.string ⟨#[]⟩, .string ⟨#[]⟩, .int .i64 0, .int .i64 0, .int .i64 0]) rfl hB rfl Tryz.underlying28 Tryz.sizeOf35 Tryz.zeroValue35 (by decide) (by decide) (by kernel_rfl) rfl rfl ?_
            refine VA.all (rs := [5]) (by kernel_rfl) (by decide) ?_
            refine ⟨⟨_, rfl, .inl rfl, ?_⟩, trivial⟩
            refine OpE.hap (fun hap => ?_)
            refine OpE.append1 (i := 3) rfl hB rfl Tryz.underlying28 (infoOf Tryz.t35 5 (by kernel_rfl) rfl rfl) rfl (by decide) (by decide) rfl rfl rfl rfl (rowL_snoc o x) (by omega) (fun g' hg => ⟨by decide, apart_ne hap (i := 3) (j := 1) hg rfl (by decide)⟩) ?_
            intro u67
            refine VA.le _ (Le.rowT (t := 67) (xs := o ++ [x]) (i := 3) hB hnew rfl rfl (by simp)) ?_
            refine VA.all (rs := [7]) (by kernel_rfl) (by decide) ?_
            refine ⟨⟨_, rfl, .inl rfl, ?_⟩, trivial⟩
            refine OpE.call rfl hB rfl Tryz.call114 rfl (plan_newScheduler hp hi0.pok hi0.ook hi0.has hi0.ea) ?_
            rintro _ rfl
            refine VA.take (i := 8) rfl (by kernel_rfl) (by kernel_rfl) (by kernel_rfl) rfl rfl (OpV.move (.inr rfl) rfl) ?_
            refine VA.done (by kernel_rfl) ?_
            refine VC.seq ?_
            clear hap
            refine VC.region ?_
            refine VO.ma rfl rfl rfl rfl ?_
            refine VO.ma rfl rfl rfl rfl ?_
            refine VO.nil ?_
            refine VC.seq ?_
            refine VC.sr ?_
            refine VO.mv rfl rfl rfl rfl ?_
            refine VO.val rfl rfl (OpV.len_im rfl Tryz.underlying22 rfl) ?_
            refine VO.val rfl rfl (OpV.add rfl rfl rfl (by unfold fits; omega)) ?_
            refine VO.mv rfl rfl rfl rfl ?_
            refine VO.nil ?_
            refine VC.block ?_
            refine VC.loopK [(2, _), (3, _), (7, _), (20, _), (21, _), (72, _)] ⟨rfl, rfl, rfl, rfl, rfl, rfl, trivial⟩ ({q : Nat // q ≤ l.length + 1}) (fun (iZ : {q : Nat // q ≤ l.length + 1}) => match iZ with | ⟨q, hq⟩ => [(22, avI (prS p o l start each x q).1), (23, avI (prS p o l start each x q).2), (73, avI (q : Int))]) (fun (iZ : {q : Nat // q ≤ l.length + 1}) => match iZ with | ⟨q, hq⟩ => [.box g7 ⟨[avL o], 28, 1⟩]) (fun (iZ : {q : Nat // q ≤ l.length + 1}) => match iZ with | ⟨q, hq⟩ => 0) (fun (iZ : {q : Nat // q ≤ l.length + 1}) => match iZ with | ⟨q, hq⟩ => l.length + 1 - q) ⟨0, Nat.zero_le _⟩ (Le.mk hB [0] ⟨rfl, rfl, rfl, rfl, rfl, rfl, rfl, rfl, rfl, trivial⟩ rfl rfl (Nat.le_refl _)) ?_
            rintro ⟨q, hq⟩
            show VC _ _ _ _ ⟨[(22, avI (prS p o l start each x q).1), (23, avI (prS p o l start each x q).2), (73, avI (q : Int))] ++ [(2, _), (3, _), (7, _), (20, _), (21, _), (72, _)], [.box g7 ⟨[avL o], 28, 1⟩], 0⟩
            refine VC.sr ?_
            refine VO.val rfl rfl (OpV.lss rfl rfl rfl) ?_
            refine VO.nil ?_
            refine VC.seq ?_
            refine VC.cond rfl (fun aH1b => ?_) (fun aH1b => ?_)
            · have aH1 := aH1b
              try simp only [qqT, qqF, qqN, qqM, qqL, qqE] at aH1
              refine VC.skip ?_
              refine VC.seq ?_
              refine VC.block ?_
              refine VC.sr ?_
              refine VO.mv rfl rfl rfl rfl ?_
              refine VO.ma rfl rfl rfl rfl ?_
              refine VO.nil ?_
              refine VC.sr ?_
              refine VO.op rfl (OpE.alloc rfl hB rfl Tryz.zeroValue3 rfl ?_)
              intro g25
              refine VO.op rfl (OpE.store (i := 1) rfl hB rfl Tryz.sizeOf3 rfl rfl rfl rfl rfl rfl (Nle rfl) trivial ?_)
              refine VO.nil ?_
              refine VC.joinI (Nat) (fun (iZ : Nat) => match iZ with | g26 => ⟨[(2, avInts l), (3, avI start), (7, pt g7), (20, avI (lateZ p o l each start)), (21, .at_ 3 (schC p (o ++ [x]) each)), (22, avI (prS p o l start each x q).1), (23, avI (prS p o l start each x q).2), (25, pt g25), (26, pt g26), (72, avI ((l.length : Int) + 1)), (73, avI (q : Int))], [.box g7 ⟨[avL o], 28, 1⟩, .box g25 ⟨[avI (runA (stpE o.length) p (o ++ [x]) (insL l q o.length) start each 0 (insL l q o.length).length)], 3, 1⟩, .box g26 ⟨[avI (resP p (o ++ [x]) (insL l q o.length) start each (insL l q o.length).length).late, avI (resP p (o ++ [x]) (insL l q o.length) start each (insL l q o.length).length).many, avI (resP p (o ++ [x]) (insL l q o.length) start each (insL l q o.length).length).en], 150, 3⟩], 0⟩) ?_ ?_
              ·
                have hiq := hins q (by omega)
                refine VC.draw (fun j b => j ∈ [7, 10, 12] ∧ True) hB (by kernel_rfl) ?_
                refine VA.take (i := 0) rfl (by kernel_rfl) (by kernel_rfl) (by kernel_rfl) rfl rfl (OpV.move (.inl rfl) rfl) ?_
                refine VA.take (i := 1) rfl (by kernel_rfl) (by kernel_rfl) (by kernel_rfl) rfl rfl (OpV.move (.inl rfl) rfl) ?_
                refine VA.take (i := 3) rfl (by kernel_rfl) (by kernel_rfl) (by kernel_rfl) rfl rfl (OpV.move (.inl rfl) rfl) ?_
                refine VA.takeT [4, 5, 6, 7, 10, 12] (i := 4) (by kernel_rfl) (by kernel_rfl) rfl (by kernel_rfl) (by kernel_rfl) (by kernel_rfl) rfl rfl (OpV.load_own (i := 0) rfl hB Tryz.isAgg28 rfl rfl rfl (fun ⟨j, h1, h2, _⟩ => by simp at h2; rcases h2 with rfl | rfl | rfl <;> simp at h1)) ?_
                refine VA.take (i := 5) rfl (by kernel_rfl) (by kernel_rfl) (by kernel_rfl) rfl rfl (OpV.len_im rfl Tryz.underlying28 rfl) ?_
                refine VA.take (i := 8) rfl (by kernel_rfl) (by kernel_rfl) (by kernel_rfl) rfl rfl (OpV.move (.inl rfl) rfl) ?_
                refine VA.take (i := 9) rfl (by kernel_rfl) (by kernel_rfl) (by kernel_rfl) rfl rfl (OpV.makeFunc2 rfl rfl rfl) ?_
                refine VA.all (rs := [2, 6, 11]) (by kernel_rfl) (by decide) ?_
                refine ⟨⟨_, rfl, .inl rfl, ?_⟩, ⟨_, rfl, .inl rfl, ?_⟩, ⟨_, rfl, .inl rfl, ?_⟩, trivial⟩
                ·
                  refine OpE.callR rfl hB rfl Tryz.call120 (slices_Clone_R (by omega)) (ArgsP.cons (ArgP.ev rfl) (ArgsP.nil)) ?_
                  intro u78
                  refine VA.all (rs := [6, 11]) (by kernel_rfl) (by decide) ?_
                  refine ⟨⟨_, rfl, .inl rfl, ?_⟩, ⟨_, rfl, .inl rfl, ?_⟩, trivial⟩
                  ·
                    refine OpE.buildSlice (zc := #[.int .i64 0]) rfl hB rfl Tryz.underlying22 Tryz.sizeOf3 Tryz.zeroValue3 (by decide) (by decide) (by kernel_rfl) rfl rfl ?_
                    refine VA.le _ (Le.lits (t := 82) (xs := [(o.length : Int)]) rfl rfl) ?_
                    refine VA.all (rs := [7, 11]) (by kernel_rfl) (by decide) ?_
                    refine ⟨⟨_, rfl, .inl rfl, ?_⟩, ⟨_, rfl, .inl rfl, ?_⟩, trivial⟩
                    ·
                      refine OpE.callH (rest := [_, _]) rfl hB rfl Tryz.call137 rfl rfl (slices_InsertI (p := l) (x := (o.length : Int)) (k := q) (by omega) (by omega)) (List.perm_append_comm (l₁ := [_, _]) (l₂ := [_])) (fun _ _ => ⟨by decide, trivial⟩) ?_
                      rintro _ _ ⟨u83, rfl, rfl⟩
                      refine VA.le _ (Le.rowI (t := 83) (i := 0) (xs := insL l q o.length) hB hnew rfl rfl (by rw [insL_len (by omega)])) ?_
                      refine VA.all (rs := [10, 11]) (by kernel_rfl) (by decide) ?_
                      refine ⟨⟨_, rfl, .inl rfl, ?_⟩, ⟨_, rfl, .inl rfl, ?_⟩, trivial⟩
                      ·
                        refine OpE.callH0 rfl hB rfl Tryz.call136 rfl rfl (plan_run (K := fun a h => h = bxE o a 28 3 g7 g25) (a := 0) hiq Tryz.call138 (prom_does (by omega)) rfl) (List.Perm.refl _) (fun _ _ => ⟨by decide, trivial⟩) ?_
                        rintro _ _ ⟨_, e1, e2, rfl, rfl, rfl⟩
                        refine VA.le _ (Le.drop 2) ?_
                        refine VA.all (rs := [11]) (by kernel_rfl) (by decide) ?_
                        refine ⟨⟨_, rfl, .inl rfl, ?_⟩, trivial⟩
                        refine OpE.alloc rfl hB rfl Tryz.zeroValue150 rfl ?_
                        intro g26
                        refine VA.all (rs := [12]) (by kernel_rfl) (by decide) ?_
                        refine ⟨⟨_, rfl, .inl rfl, ?_⟩, trivial⟩
                        refine OpE.store (i := 2) rfl hB rfl Tryz.sizeOf150 rfl rfl rfl rfl rfl rfl (Nle rfl) (⟨by decide, trivial⟩) ?_
                        refine VA.done (by kernel_rfl) ?_
                        exact Exists.intro (g26) (Le.mk hB [0, 1, 2] ⟨rfl, rfl, rfl, rfl, rfl, rfl, rfl, rfl, rfl, rfl, rfl, trivial⟩ rfl rfl (Nat.le_refl _))
                      ·
                        refine OpE.alloc rfl hB rfl Tryz.zeroValue150 rfl ?_
                        intro g26
                        refine VA.all (rs := [10]) (by kernel_rfl) (by decide) ?_
                        refine ⟨⟨_, rfl, .inl rfl, ?_⟩, trivial⟩
                        refine OpE.callH (rest := [_]) rfl hB rfl Tryz.call136 rfl rfl (plan_run (K := fun a h => h = bxE o a 28 3 g7 g25) (a := 0) hiq Tryz.call138 (prom_does (by omega)) rfl) (List.Perm.refl _) (fun _ _ => ⟨by decide, trivial⟩) ?_
                        rintro _ _ ⟨_, e1, e2, rfl, rfl, rfl⟩
                        refine VA.le _ (Le.drop 2) ?_
                        refine VA.all (rs := [12]) (by kernel_rfl) (by decide) ?_
                        refine ⟨⟨_, rfl, .inl rfl, ?_⟩, trivial⟩
                        refine OpE.store (i := 2) rfl hB rfl Tryz.sizeOf150 rfl rfl rfl rfl rfl rfl (Nle rfl) (⟨by decide, trivial⟩) ?_
                        refine VA.done (by kernel_rfl) ?_
                        exact Exists.intro (g26) (Le.mk hB [0, 1, 2] ⟨rfl, rfl, rfl, rfl, rfl, rfl, rfl, rfl, rfl, rfl, rfl, trivial⟩ rfl rfl (Nat.le_refl _))
                    ·
                      refine OpE.alloc rfl hB rfl Tryz.zeroValue150 rfl ?_
                      intro g26
                      refine VA.all (rs := [7]) (by kernel_rfl) (by decide) ?_
                      refine ⟨⟨_, rfl, .inl rfl, ?_⟩, trivial⟩
                      refine OpE.callH (rest := [_, _, _]) rfl hB rfl Tryz.call137 rfl rfl (slices_InsertI (p := l) (x := (o.length : Int)) (k := q) (by omega) (by omega)) (perm_mid) (fun _ _ => ⟨by decide, trivial⟩) ?_
                      rintro _ _ ⟨u83, rfl, rfl⟩
                      refine VA.le _ (Le.rowI (t := 83) (i := 0) (xs := insL l q o.length) hB hnew rfl rfl (by rw [insL_len (by omega)])) ?_
                      refine VA.all (rs := [10]) (by kernel_rfl) (by decide) ?_
                      refine ⟨⟨_, rfl, .inl rfl, ?_⟩, trivial⟩
                      refine OpE.callH (rest := [_]) rfl hB rfl Tryz.call136 rfl rfl (plan_run (K := fun a h => h = bxE o a 28 3 g7 g25) (a := 0) hiq Tryz.call138 (prom_does (by omega)) rfl) (List.Perm.refl _) (fun _ _ => ⟨by decide, trivial⟩) ?_
                      rintro _ _ ⟨_, e1, e2, rfl, rfl, rfl⟩
                      refine VA.le _ (Le.drop 2) ?_
                      refine VA.all (rs := [12]) (by kernel_rfl) (by decide) ?_
                      refine ⟨⟨_, rfl, .inl rfl, ?_⟩, trivial⟩
                      refine OpE.store (i := 2) rfl hB rfl Tryz.sizeOf150 rfl rfl rfl rfl rfl rfl (Nle rfl) (⟨by decide, trivial⟩) ?_
                      refine VA.done (by kernel_rfl) ?_
                      exact Exists.intro (g26) (Le.mk hB [0, 1, 2] ⟨rfl, rfl, rfl, rfl, rfl, rfl, rfl, rfl, rfl, rfl, rfl, trivial⟩ rfl rfl (Nat.le_refl _))
                  ·
                    refine OpE.alloc rfl hB rfl Tryz.zeroValue150 rfl ?_
                    intro g26
                    refine VA.all (rs := [6]) (by kernel_rfl) (by decide) ?_
                    refine ⟨⟨_, rfl, .inl rfl, ?_⟩, trivial⟩
                    refine OpE.buildSlice (zc := #[.int .i64 0]) rfl hB rfl Tryz.underlying22 Tryz.sizeOf3 Tryz.zeroValue3 (by decide) (by decide) (by kernel_rfl) rfl rfl ?_
                    refine VA.le _ (Le.lits (t := 82) (xs := [(o.length : Int)]) rfl rfl) ?_
                    refine VA.all (rs := [7]) (by kernel_rfl) (by decide) ?_
                    refine ⟨⟨_, rfl, .inl rfl, ?_⟩, trivial⟩
                    refine OpE.callH (rest := [_, _, _]) rfl hB rfl Tryz.call137 rfl rfl (slices_InsertI (p := l) (x := (o.length : Int)) (k := q) (by omega) (by omega)) (perm_mid) (fun _ _ => ⟨by decide, trivial⟩) ?_
                    rintro _ _ ⟨u83, rfl, rfl⟩
                    refine VA.le _ (Le.rowI (t := 83) (i := 0) (xs := insL l q o.length) hB hnew rfl rfl (by rw [insL_len (by omega)])) ?_
                    refine VA.all (rs := [10]) (by kernel_rfl) (by decide) ?_
                    refine ⟨⟨_, rfl, .inl rfl, ?_⟩, trivial⟩
                    refine OpE.callH (rest := [_]) rfl hB rfl Tryz.call136 rfl rfl (plan_run (K := fun a h => h = bxE o a 28 3 g7 g25) (a := 0) hiq Tryz.call138 (prom_does (by omega)) rfl) (List.Perm.refl _) (fun _ _ => ⟨by decide, trivial⟩) ?_
                    rintro _ _ ⟨_, e1, e2, rfl, rfl, rfl⟩
                    refine VA.le _ (Le.drop 2) ?_
                    refine VA.all (rs := [12]) (by kernel_rfl) (by decide) ?_
                    refine ⟨⟨_, rfl, .inl rfl, ?_⟩, trivial⟩
                    refine OpE.store (i := 2) rfl hB rfl Tryz.sizeOf150 rfl rfl rfl rfl rfl rfl (Nle rfl) (⟨by decide, trivial⟩) ?_
                    refine VA.done (by kernel_rfl) ?_
                    exact Exists.intro (g26) (Le.mk hB [0, 1, 2] ⟨rfl, rfl, rfl, rfl, rfl, rfl, rfl, rfl, rfl, rfl, rfl, trivial⟩ rfl rfl (Nat.le_refl _))
                ·
                  refine OpE.buildSlice (zc := #[.int .i64 0]) rfl hB rfl Tryz.underlying22 Tryz.sizeOf3 Tryz.zeroValue3 (by decide) (by decide) (by kernel_rfl) rfl rfl ?_
                  refine VA.le _ (Le.lits (t := 82) (xs := [(o.length : Int)]) rfl rfl) ?_
                  refine VA.all (rs := [2, 11]) (by kernel_rfl) (by decide) ?_
                  refine ⟨⟨_, rfl, .inl rfl, ?_⟩, ⟨_, rfl, .inl rfl, ?_⟩, trivial⟩
                  ·
                    refine OpE.callR rfl hB rfl Tryz.call120 (slices_Clone_R (by omega)) (ArgsP.cons (ArgP.ev rfl) (ArgsP.nil)) ?_
                    intro u78
                    refine VA.all (rs := [7, 11]) (by kernel_rfl) (by decide) ?_
                    refine ⟨⟨_, rfl, .inl rfl, ?_⟩, ⟨_, rfl, .inl rfl, ?_⟩, trivial⟩
                    ·
                      refine OpE.callH (rest := [_, _]) rfl hB rfl Tryz.call137 rfl rfl (slices_InsertI (p := l) (x := (o.length : Int)) (k := q) (by omega) (by omega)) (List.perm_append_comm (l₁ := [_, _]) (l₂ := [_])) (fun _ _ => ⟨by decide, trivial⟩) ?_
                      rintro _ _ ⟨u83, rfl, rfl⟩
                      refine VA.le _ (Le.rowI (t := 83) (i := 0) (xs := insL l q o.length) hB hnew rfl rfl (by rw [insL_len (by omega)])) ?_
                      refine VA.all (rs := [10, 11]) (by kernel_rfl) (by decide) ?_
                      refine ⟨⟨_, rfl, .inl rfl, ?_⟩, ⟨_, rfl, .inl rfl, ?_⟩, trivial⟩
                      ·
                        refine OpE.callH0 rfl hB rfl Tryz.call136 rfl rfl (plan_run (K := fun a h => h = bxE o a 28 3 g7 g25) (a := 0) hiq Tryz.call138 (prom_does (by omega)) rfl) (List.Perm.refl _) (fun _ _ => ⟨by decide, trivial⟩) ?_
                        rintro _ _ ⟨_, e1, e2, rfl, rfl, rfl⟩
                        refine VA.le _ (Le.drop 2) ?_
                        refine VA.all (rs := [11]) (by kernel_rfl) (by decide) ?_
                        refine ⟨⟨_, rfl, .inl rfl, ?_⟩, trivial⟩
                        refine OpE.alloc rfl hB rfl Tryz.zeroValue150 rfl ?_
                        intro g26
                        refine VA.all (rs := [12]) (by kernel_rfl) (by decide) ?_
                        refine ⟨⟨_, rfl, .inl rfl, ?_⟩, trivial⟩
                        refine OpE.store (i := 2) rfl hB rfl Tryz.sizeOf150 rfl rfl rfl rfl rfl rfl (Nle rfl) (⟨by decide, trivial⟩) ?_
                        refine VA.done (by kernel_rfl) ?_
                        exact Exists.intro (g26) (Le.mk hB [0, 1, 2] ⟨rfl, rfl, rfl, rfl, rfl, rfl, rfl, rfl, rfl, rfl, rfl, trivial⟩ rfl rfl (Nat.le_refl _))
                      ·
                        refine OpE.alloc rfl hB rfl Tryz.zeroValue150 rfl ?_
                        intro g26
                        refine VA.all (rs := [10]) (by kernel_rfl) (by decide) ?_
                        refine ⟨⟨_, rfl, .inl rfl, ?_⟩, trivial⟩
                        refine OpE.callH (rest := [_]) rfl hB rfl Tryz.call136 rfl rfl (plan_run (K := fun a h => h = bxE o a 28 3 g7 g25) (a := 0) hiq Tryz.call138 (prom_does (by omega)) rfl) (List.Perm.refl _) (fun _ _ => ⟨by decide, trivial⟩) ?_
                        rintro _ _ ⟨_, e1, e2, rfl, rfl, rfl⟩
                        refine VA.le _ (Le.drop 2) ?_
                        refine VA.all (rs := [12]) (by kernel_rfl) (by decide) ?_
                        refine ⟨⟨_, rfl, .inl rfl, ?_⟩, trivial⟩
                        refine OpE.store (i := 2) rfl hB rfl Tryz.sizeOf150 rfl rfl rfl rfl rfl rfl (Nle rfl) (⟨by decide, trivial⟩) ?_
                        refine VA.done (by kernel_rfl) ?_
                        exact Exists.intro (g26) (Le.mk hB [0, 1, 2] ⟨rfl, rfl, rfl, rfl, rfl, rfl, rfl, rfl, rfl, rfl, rfl, trivial⟩ rfl rfl (Nat.le_refl _))
                    ·
                      refine OpE.alloc rfl hB rfl Tryz.zeroValue150 rfl ?_
                      intro g26
                      refine VA.all (rs := [7]) (by kernel_rfl) (by decide) ?_
                      refine ⟨⟨_, rfl, .inl rfl, ?_⟩, trivial⟩
                      refine OpE.callH (rest := [_, _, _]) rfl hB rfl Tryz.call137 rfl rfl (slices_InsertI (p := l) (x := (o.length : Int)) (k := q) (by omega) (by omega)) (perm_mid) (fun _ _ => ⟨by decide, trivial⟩) ?_
                      rintro _ _ ⟨u83, rfl, rfl⟩
                      refine VA.le _ (Le.rowI (t := 83) (i := 0) (xs := insL l q o.length) hB hnew rfl rfl (by rw [insL_len (by omega)])) ?_
                      refine VA.all (rs := [10]) (by kernel_rfl) (by decide) ?_
                      refine ⟨⟨_, rfl, .inl rfl, ?_⟩, trivial⟩
                      refine OpE.callH (rest := [_]) rfl hB rfl Tryz.call136 rfl rfl (plan_run (K := fun a h => h = bxE o a 28 3 g7 g25) (a := 0) hiq Tryz.call138 (prom_does (by omega)) rfl) (List.Perm.refl _) (fun _ _ => ⟨by decide, trivial⟩) ?_
                      rintro _ _ ⟨_, e1, e2, rfl, rfl, rfl⟩
                      refine VA.le _ (Le.drop 2) ?_
                      refine VA.all (rs := [12]) (by kernel_rfl) (by decide) ?_
                      refine ⟨⟨_, rfl, .inl rfl, ?_⟩, trivial⟩
                      refine OpE.store (i := 2) rfl hB rfl Tryz.sizeOf150 rfl rfl rfl rfl rfl rfl (Nle rfl) (⟨by decide, trivial⟩) ?_
                      refine VA.done (by kernel_rfl) ?_
                      exact Exists.intro (g26) (Le.mk hB [0, 1, 2] ⟨rfl, rfl, rfl, rfl, rfl, rfl, rfl, rfl, rfl, rfl, rfl, trivial⟩ rfl rfl (Nat.le_refl _))
                  ·
                    refine OpE.alloc rfl hB rfl Tryz.zeroValue150 rfl ?_
                    intro g26
                    refine VA.all (rs := [2]) (by kernel_rfl) (by decide) ?_
                    refine ⟨⟨_, rfl, .inl rfl, ?_⟩, trivial⟩
                    refine OpE.callR rfl hB rfl Tryz.call120 (slices_Clone_R (by omega)) (ArgsP.cons (ArgP.ev rfl) (ArgsP.nil)) ?_
                    intro u78
                    refine VA.all (rs := [7]) (by kernel_rfl) (by decide) ?_
                    refine ⟨⟨_, rfl, .inl rfl, ?_⟩, trivial⟩
                    refine OpE.callH (rest := [_, _, _]) rfl hB rfl Tryz.call137 rfl rfl (slices_InsertI (p := l) (x := (o.length : Int)) (k := q) (by omega) (by omega)) (List.perm_append_comm (l₁ := [_, _, _]) (l₂ := [_])) (fun _ _ => ⟨by decide, trivial⟩) ?_
                    rintro _ _ ⟨u83, rfl, rfl⟩
                    refine VA.le _ (Le.rowI (t := 83) (i := 0) (xs := insL l q o.length) hB hnew rfl rfl (by rw [insL_len (by omega)])) ?_
                    refine VA.all (rs := [10]) (by kernel_rfl) (by decide) ?_
                    refine ⟨⟨_, rfl, .inl rfl, ?_⟩, trivial⟩
                    refine OpE.callH (rest := [_]) rfl hB rfl Tryz.call136 rfl rfl (plan_run (K := fun a h => h = bxE o a 28 3 g7 g25) (a := 0) hiq Tryz.call138 (prom_does (by omega)) rfl) (List.Perm.refl _) (fun _ _ => ⟨by decide, trivial⟩) ?_
                    rintro _ _ ⟨_, e1, e2, rfl, rfl, rfl⟩
                    refine VA.le _ (Le.drop 2) ?_
                    refine VA.all (rs := [12]) (by kernel_rfl) (by decide) ?_
                    refine ⟨⟨_, rfl, .inl rfl, ?_⟩, trivial⟩
                    refine OpE.store (i := 2) rfl hB rfl Tryz.sizeOf150 rfl rfl rfl rfl rfl rfl (Nle rfl) (⟨by decide, trivial⟩) ?_
                    refine VA.done (by kernel_rfl) ?_
                    exact Exists.intro (g26) (Le.mk hB [0, 1, 2] ⟨rfl, rfl, rfl, rfl, rfl, rfl, rfl, rfl, rfl, rfl, rfl, trivial⟩ rfl rfl (Nat.le_refl _))
                ·
                  refine OpE.alloc rfl hB rfl Tryz.zeroValue150 rfl ?_
                  intro g26
                  refine VA.all (rs := [2, 6]) (by kernel_rfl) (by decide) ?_
                  refine ⟨⟨_, rfl, .inl rfl, ?_⟩, ⟨_, rfl, .inl rfl, ?_⟩, trivial⟩
                  ·
                    refine OpE.callR rfl hB rfl Tryz.call120 (slices_Clone_R (by omega)) (ArgsP.cons (ArgP.ev rfl) (ArgsP.nil)) ?_
                    intro u78
                    refine VA.all (rs := [6]) (by kernel_rfl) (by decide) ?_
                    refine ⟨⟨_, rfl, .inl rfl, ?_⟩, trivial⟩
                    refine OpE.buildSlice (zc := #[.int .i64 0]) rfl hB rfl Tryz.underlying22 Tryz.sizeOf3 Tryz.zeroValue3 (by decide) (by decide) (by kernel_rfl) rfl rfl ?_
                    refine VA.le _ (Le.lits (t := 82) (xs := [(o.length : Int)]) rfl rfl) ?_
                    refine VA.all (rs := [7]) (by kernel_rfl) (by decide) ?_
                    refine ⟨⟨_, rfl, .inl rfl, ?_⟩, trivial⟩
                    refine OpE.callH (rest := [_, _, _]) rfl hB rfl Tryz.call137 rfl rfl (slices_InsertI (p := l) (x := (o.length : Int)) (k := q) (by omega) (by omega)) (List.perm_append_comm (l₁ := [_, _, _]) (l₂ := [_])) (fun _ _ => ⟨by decide, trivial⟩) ?_
                    rintro _ _ ⟨u83, rfl, rfl⟩
                    refine VA.le _ (Le.rowI (t := 83) (i := 0) (xs := insL l q o.length) hB hnew rfl rfl (by rw [insL_len (by omega)])) ?_
                    refine VA.all (rs := [10]) (by kernel_rfl) (by decide) ?_
                    refine ⟨⟨_, rfl, .inl rfl, ?_⟩, trivial⟩
                    refine OpE.callH (rest := [_]) rfl hB rfl Tryz.call136 rfl rfl (plan_run (K := fun a h => h = bxE o a 28 3 g7 g25) (a := 0) hiq Tryz.call138 (prom_does (by omega)) rfl) (List.Perm.refl _) (fun _ _ => ⟨by decide, trivial⟩) ?_
                    rintro _ _ ⟨_, e1, e2, rfl, rfl, rfl⟩
                    refine VA.le _ (Le.drop 2) ?_
                    refine VA.all (rs := [12]) (by kernel_rfl) (by decide) ?_
                    refine ⟨⟨_, rfl, .inl rfl, ?_⟩, trivial⟩
                    refine OpE.store (i := 2) rfl hB rfl Tryz.sizeOf150 rfl rfl rfl rfl rfl rfl (Nle rfl) (⟨by decide, trivial⟩) ?_
                    refine VA.done (by kernel_rfl) ?_
                    exact Exists.intro (g26) (Le.mk hB [0, 1, 2] ⟨rfl, rfl, rfl, rfl, rfl, rfl, rfl, rfl, rfl, rfl, rfl, trivial⟩ rfl rfl (Nat.le_refl _))
                  ·
                    refine OpE.buildSlice (zc := #[.int .i64 0]) rfl hB rfl Tryz.underlying22 Tryz.sizeOf3 Tryz.zeroValue3 (by decide) (by decide) (by kernel_rfl) rfl rfl ?_
                    refine VA.le _ (Le.lits (t := 82) (xs := [(o.length : Int)]) rfl rfl) ?_
                    refine VA.all (rs := [2]) (by kernel_rfl) (by decide) ?_
                    refine ⟨⟨_, rfl, .inl rfl, ?_⟩, trivial⟩
                    refine OpE.callR rfl hB rfl Tryz.call120 (slices_Clone_R (by omega)) (ArgsP.cons (ArgP.ev rfl) (ArgsP.nil)) ?_
                    intro u78
                    refine VA.all (rs := [7]) (by kernel_rfl) (by decide) ?_
                    refine ⟨⟨_, rfl, .inl rfl, ?_⟩, trivial⟩
                    refine OpE.callH (rest := [_, _, _]) rfl hB rfl Tryz.call137 rfl rfl (slices_InsertI (p := l) (x := (o.length : Int)) (k := q) (by omega) (by omega)) (List.perm_append_comm (l₁ := [_, _, _]) (l₂ := [_])) (fun _ _ => ⟨by decide, trivial⟩) ?_
                    rintro _ _ ⟨u83, rfl, rfl⟩
                    refine VA.le _ (Le.rowI (t := 83) (i := 0) (xs := insL l q o.length) hB hnew rfl rfl (by rw [insL_len (by omega)])) ?_
                    refine VA.all (rs := [10]) (by kernel_rfl) (by decide) ?_
                    refine ⟨⟨_, rfl, .inl rfl, ?_⟩, trivial⟩
                    refine OpE.callH (rest := [_]) rfl hB rfl Tryz.call136 rfl rfl (plan_run (K := fun a h => h = bxE o a 28 3 g7 g25) (a := 0) hiq Tryz.call138 (prom_does (by omega)) rfl) (List.Perm.refl _) (fun _ _ => ⟨by decide, trivial⟩) ?_
                    rintro _ _ ⟨_, e1, e2, rfl, rfl, rfl⟩
                    refine VA.le _ (Le.drop 2) ?_
                    refine VA.all (rs := [12]) (by kernel_rfl) (by decide) ?_
                    refine ⟨⟨_, rfl, .inl rfl, ?_⟩, trivial⟩
                    refine OpE.store (i := 2) rfl hB rfl Tryz.sizeOf150 rfl rfl rfl rfl rfl rfl (Nle rfl) (⟨by decide, trivial⟩) ?_
                    refine VA.done (by kernel_rfl) ?_
                    exact Exists.intro (g26) (Le.mk hB [0, 1, 2] ⟨rfl, rfl, rfl, rfl, rfl, rfl, rfl, rfl, rfl, rfl, rfl, trivial⟩ rfl rfl (Nat.le_refl _))
              ·
                rintro g26
                show VC _ _ _ _ ⟨[(2, avInts l), (3, avI start), (7, pt g7), (20, avI (lateZ p o l each start)), (21, .at_ 3 (schC p (o ++ [x]) each)), (22, avI (prS p o l start each x q).1), (23, avI (prS p o l start each x q).2), (25, pt g25), (26, pt g26), (72, avI ((l.length : Int) + 1)), (73, avI (q : Int))], [.box g7 ⟨[avL o], 28, 1⟩, .box g25 ⟨[avI (runA (stpE o.length) p (o ++ [x]) (insL l q o.length) start each 0 (insL l q o.length).length)], 3, 1⟩, .box g26 ⟨[avI (resP p (o ++ [x]) (insL l q o.length) start each (insL l q o.length).length).late, avI (resP p (o ++ [x]) (insL l q o.length) start each (insL l q o.length).length).many, avI (resP p (o ++ [x]) (insL l q o.length) start each (insL l q o.length).length).en], 150, 3⟩], 0⟩
                refine VC.seq ?_
                have hiq := hins q (by omega)
                have hend : runA (stpE o.length) p (o ++ [x]) (insL l q o.length) start each 0 (insL l q o.length).length = prE p o l start each x q := by rw [insL_len (by omega), runA_end hiq (by omega) hk.ord (l.length + 1) (Nat.le_refl _), if_pos (by omega)]
                refine VC.region ?_
                refine VO.mv rfl rfl rfl rfl ?_
                refine VO.val rfl rfl (OpV.lss rfl rfl rfl) ?_
                refine VO.mv rfl rfl rfl rfl ?_
                refine VO.opG rfl rfl rfl rfl (fun aK2b => ?_) (fun aK2b => ?_)
                · replace aK2b : _ = false := aK2b
                  have aK2 := aK2b
                  try simp only [qqT, qqF, qqN, qqM, qqL, qqE] at aK2
                  refine OpE.val (W := NoB) (OpV.fieldAddrO 0 rfl Tryz.underlying150 rfl rfl Tryz.sizeOf3 rfl) rfl ?_
                  refine VO.opY rfl rfl rfl rfl aK2b ?_
                  refine OpE.val (W := NoB) (OpV.load_own (i := 2) rfl hB Tryz.isAgg3 rfl rfl rfl (fun h => h)) rfl ?_
                  refine VO.le _ (Le.recast (t := 91) (y := avI (prL p o l start each x q)) rfl (fun w Z u h => h)) ?_
                  refine VO.opY rfl rfl rfl rfl aK2b ?_
                  refine OpE.val (W := NoB) (OpV.move (.inl rfl) rfl) rfl ?_
                  refine VO.opY rfl rfl rfl rfl aK2b ?_
                  refine OpE.val (W := NoB) (OpV.lss rfl rfl rfl) rfl ?_
                  refine VO.val rfl rfl (OpV.pickF rfl rfl rfl rfl aK2b) ?_
                  refine VO.mv rfl rfl rfl rfl ?_
                  refine VO.opG rfl rfl rfl rfl (fun aK3b => ?_) (fun aK3b => ?_)
                  · replace aK3b : _ = false := aK3b
                    have aK3 := aK3b
                    try simp only [qqT, qqF, qqN, qqM, qqL, qqE] at aK3
                    refine OpE.val (W := NoB) (OpV.fieldAddrO 0 rfl Tryz.underlying150 rfl rfl Tryz.sizeOf3 rfl) rfl ?_
                    refine VO.opY rfl rfl rfl rfl aK3b ?_
                    refine OpE.val (W := NoB) (OpV.load_own (i := 2) rfl hB Tryz.isAgg3 rfl rfl rfl (fun h => h)) rfl ?_
                    refine VO.le _ (Le.recast (t := 97) (y := avI (prL p o l start each x q)) rfl (fun w Z u h => h)) ?_
                    refine VO.opY rfl rfl rfl rfl aK3b ?_
                    refine OpE.val (W := NoB) (OpV.move (.inl rfl) rfl) rfl ?_
                    refine VO.opY rfl rfl rfl rfl aK3b ?_
                    refine OpE.val (W := NoB) (OpV.eql rfl rfl rfl) rfl ?_
                    refine VO.opY rfl rfl rfl rfl aK3b ?_
                    refine OpE.val (W := NoB) (OpV.move (.inl rfl) rfl) rfl ?_
                    refine VO.opG rfl rfl rfl rfl (fun aK4b => ?_) (fun aK4b => ?_)
                    · replace aK4b : _ = true := aK4b
                      have aK4 := aK4b
                      try simp only [qqT, qqF, qqN, qqM, qqL, qqE] at aK4
                      refine OpE.val (W := NoB) (OpV.load_own (i := 1) rfl hB Tryz.isAgg3 rfl rfl rfl (fun h => h)) rfl ?_
                      refine VO.le _ (Le.recast (t := 101) (y := avI (prE p o l start each x q)) rfl (fun w Z u h => by rw [hend] at h; exact h)) ?_
                      refine VO.opY rfl rfl rfl rfl aK4b ?_
                      refine OpE.val (W := NoB) (OpV.move (.inl rfl) rfl) rfl ?_
                      refine VO.opY rfl rfl rfl rfl aK4b ?_
                      refine OpE.val (W := NoB) (OpV.lss rfl rfl rfl) rfl ?_
                      refine VO.opY rfl rfl rfl rfl aK3b ?_
                      refine OpE.val (W := NoB) (OpV.pickT rfl rfl rfl rfl aK4b) rfl ?_
                      refine VO.val rfl rfl (OpV.pickF rfl rfl rfl rfl aK3b) ?_
                      refine VO.nil ?_
                      refine VC.cond rfl (fun aH5b => ?_) (fun aH5b => ?_)
                      · have aH5 := aH5b
                        try simp only [qqT, qqF, qqN, qqM, qqL, qqE] at aH5
                        refine VC.draw (fun _ => NoB) hB (by kernel_rfl) ?_
                        refine VA.take (i := 0) rfl (by kernel_rfl) (by kernel_rfl) (by kernel_rfl) rfl rfl (OpV.fieldAddrO 0 rfl Tryz.underlying150 rfl rfl Tryz.sizeOf3 rfl) ?_
                        refine VA.take (i := 1) rfl (by kernel_rfl) (by kernel_rfl) (by kernel_rfl) rfl rfl (OpV.load_own (i := 2) rfl hB Tryz.isAgg3 rfl rfl rfl Wi.not0) ?_
                        refine VA.le _ (Le.recast (t := 107) (y := avI (prL p o l start each x q)) rfl (fun w Z u h => h)) ?_
                        refine VA.take (i := 2) rfl (by kernel_rfl) (by kernel_rfl) (by kernel_rfl) rfl rfl (OpV.load_own (i := 1) rfl hB Tryz.isAgg3 rfl rfl rfl Wi.not0) ?_
                        refine VA.le _ (Le.recast (t := 108) (y := avI (prE p o l start each x q)) rfl (fun w Z u h => by rw [hend] at h; exact h)) ?_
                        refine VA.take (i := 3) rfl (by kernel_rfl) (by kernel_rfl) (by kernel_rfl) rfl rfl (OpV.move (.inr rfl) rfl) ?_
                        refine VA.take (i := 4) rfl (by kernel_rfl) (by kernel_rfl) (by kernel_rfl) rfl rfl (OpV.move (.inr rfl) rfl) ?_
                        refine VA.done (by kernel_rfl) ?_
                        refine VC.region ?_
                        refine VO.val rfl rfl (OpV.add rfl rfl rfl (by unfold fits; omega)) ?_
                        refine VO.mv rfl rfl rfl rfl ?_
                        refine VO.nil ?_
                        exact Exists.intro (⟨q + 1, by omega⟩) (And.intro (Le.mk hB [0] ⟨(by dsimp only; first | (rw [prS_t (by omega)]; rfl) | (rw [prS_f (by omega)]; rfl)), (by dsimp only; first | (rw [prS_t (by omega)]; rfl) | (rw [prS_f (by omega)]; rfl)), rfl, rfl, rfl, rfl, rfl, rfl, rfl, trivial⟩ rfl rfl (Nat.le_refl _)) (by first | omega | (show _ < _; omega) | (simp only []; omega)))
                      · have aH5 := aH5b
                        try simp only [qqT, qqF, qqN, qqM, qqL, qqE] at aH5
                        refine VC.skip ?_
                        refine VC.region ?_
                        refine VO.val rfl rfl (OpV.add rfl rfl rfl (by unfold fits; omega)) ?_
                        refine VO.mv rfl rfl rfl rfl ?_
                        refine VO.nil ?_
                        exact Exists.intro (⟨q + 1, by omega⟩) (And.intro (Le.mk hB [0] ⟨(by dsimp only; first | (rw [prS_t (by omega)]; rfl) | (rw [prS_f (by omega)]; rfl)), (by dsimp only; first | (rw [prS_t (by omega)]; rfl) | (rw [prS_f (by omega)]; rfl)), rfl, rfl, rfl, rfl, rfl, rfl, rfl, trivial⟩ rfl rfl (Nat.le_refl _)) (by first | omega | (show _ < _; omega) | (simp only []; omega)))
                    · replace aK4b : _ = false := aK4b
                      have aK4 := aK4b
                      try simp only [qqT, qqF, qqN, qqM, qqL, qqE] at aK4
                      refine VO.opX rfl rfl rfl rfl aK4b ?_
                      refine VO.opX rfl rfl rfl rfl aK4b ?_
                      refine VO.opY rfl rfl rfl rfl aK3b ?_
                      refine OpE.val (W := NoB) (OpV.pickF rfl rfl rfl rfl aK4b) rfl ?_
                      refine VO.val rfl rfl (OpV.pickF rfl rfl rfl rfl aK3b) ?_
                      refine VO.nil ?_
                      refine VC.condF rfl rfl ?_
                      refine VC.skip ?_
                      refine VC.region ?_
                      refine VO.val rfl rfl (OpV.add rfl rfl rfl (by unfold fits; omega)) ?_
                      refine VO.mv rfl rfl rfl rfl ?_
                      refine VO.nil ?_
                      exact Exists.intro (⟨q + 1, by omega⟩) (And.intro (Le.mk hB [0] ⟨(by dsimp only; first | (rw [prS_t (by omega)]; rfl) | (rw [prS_f (by omega)]; rfl)), (by dsimp only; first | (rw [prS_t (by omega)]; rfl) | (rw [prS_f (by omega)]; rfl)), rfl, rfl, rfl, rfl, rfl, rfl, rfl, trivial⟩ rfl rfl (Nat.le_refl _)) (by first | omega | (show _ < _; omega) | (simp only []; omega)))
                  · replace aK3b : _ = true := aK3b
                    have aK3 := aK3b
                    try simp only [qqT, qqF, qqN, qqM, qqL, qqE] at aK3
                    refine VO.opX rfl rfl rfl rfl aK3b ?_
                    refine VO.opX rfl rfl rfl rfl aK3b ?_
                    refine VO.opX rfl rfl rfl rfl aK3b ?_
                    refine VO.opX rfl rfl rfl rfl aK3b ?_
                    refine VO.opU rfl rfl rfl rfl ?_
                    refine VO.opU rfl rfl rfl rfl ?_
                    refine VO.opU rfl rfl rfl rfl ?_
                    refine VO.opX rfl rfl rfl rfl aK3b ?_
                    refine VO.val rfl rfl (OpV.pickT rfl rfl rfl rfl aK3b) ?_
                    refine VO.nil ?_
                    refine VC.condT rfl rfl ?_
                    refine VC.draw (fun _ => NoB) hB (by kernel_rfl) ?_
                    refine VA.take (i := 0) rfl (by kernel_rfl) (by kernel_rfl) (by kernel_rfl) rfl rfl (OpV.fieldAddrO 0 rfl Tryz.underlying150 rfl rfl Tryz.sizeOf3 rfl) ?_
                    refine VA.take (i := 1) rfl (by kernel_rfl) (by kernel_rfl) (by kernel_rfl) rfl rfl (OpV.load_own (i := 2) rfl hB Tryz.isAgg3 rfl rfl rfl Wi.not0) ?_
                    refine VA.le _ (Le.recast (t := 107) (y := avI (prL p o l start each x q)) rfl (fun w Z u h => h)) ?_
                    refine VA.take (i := 2) rfl (by kernel_rfl) (by kernel_rfl) (by kernel_rfl) rfl rfl (OpV.load_own (i := 1) rfl hB Tryz.isAgg3 rfl rfl rfl Wi.not0) ?_
                    refine VA.le _ (Le.recast (t := 108) (y := avI (prE p o l start each x q)) rfl (fun w Z u h => by rw [hend] at h; exact h)) ?_
                    refine VA.take (i := 3) rfl (by kernel_rfl) (by kernel_rfl) (by kernel_rfl) rfl rfl (OpV.move (.inr rfl) rfl) ?_
                    refine VA.take (i := 4) rfl (by kernel_rfl) (by kernel_rfl) (by kernel_rfl) rfl rfl (OpV.move (.inr rfl) rfl) ?_
                    refine VA.done (by kernel_rfl) ?_
                    refine VC.region ?_
                    refine VO.val rfl rfl (OpV.add rfl rfl rfl (by unfold fits; omega)) ?_
                    refine VO.mv rfl rfl rfl rfl ?_
                    refine VO.nil ?_
                    exact Exists.intro (⟨q + 1, by omega⟩) (And.intro (Le.mk hB [0] ⟨(by dsimp only; first | (rw [prS_t (by omega)]; rfl) | (rw [prS_f (by omega)]; rfl)), (by dsimp only; first | (rw [prS_t (by omega)]; rfl) | (rw [prS_f (by omega)]; rfl)), rfl, rfl, rfl, rfl, rfl, rfl, rfl, trivial⟩ rfl rfl (Nat.le_refl _)) (by first | omega | (show _ < _; omega) | (simp only []; omega)))
                · replace aK2b : _ = true := aK2b
                  have aK2 := aK2b
                  try simp only [qqT, qqF, qqN, qqM, qqL, qqE] at aK2
                  refine VO.opX rfl rfl rfl rfl aK2b ?_
                  refine VO.opX rfl rfl rfl rfl aK2b ?_
                  refine VO.opX rfl rfl rfl rfl aK2b ?_
                  refine VO.val rfl rfl (OpV.pickT rfl rfl rfl rfl aK2b) ?_
                  refine VO.mv rfl rfl rfl rfl ?_
                  refine VO.opX rfl rfl rfl rfl rfl ?_
                  refine VO.opX rfl rfl rfl rfl rfl ?_
                  refine VO.opX rfl rfl rfl rfl rfl ?_
                  refine VO.opX rfl rfl rfl rfl rfl ?_
                  refine VO.opX rfl rfl rfl rfl rfl ?_
                  refine VO.opU rfl rfl rfl rfl ?_
                  refine VO.opU rfl rfl rfl rfl ?_
                  refine VO.opU rfl rfl rfl rfl ?_
                  refine VO.opX rfl rfl rfl rfl rfl ?_
                  refine VO.val rfl rfl (OpV.pickT rfl rfl rfl rfl rfl) ?_
                  refine VO.nil ?_
                  refine VC.condT rfl rfl ?_
                  refine VC.draw (fun _ => NoB) hB (by kernel_rfl) ?_
                  refine VA.take (i := 0) rfl (by kernel_rfl) (by kernel_rfl) (by kernel_rfl) rfl rfl (OpV.fieldAddrO 0 rfl Tryz.underlying150 rfl rfl Tryz.sizeOf3 rfl) ?_
                  refine VA.take (i := 1) rfl (by kernel_rfl) (by kernel_rfl) (by kernel_rfl) rfl rfl (OpV.load_own (i := 2) rfl hB Tryz.isAgg3 rfl rfl rfl Wi.not0) ?_
                  refine VA.le _ (Le.recast (t := 107) (y := avI (prL p o l start each x q)) rfl (fun w Z u h => h)) ?_
                  refine VA.take (i := 2) rfl (by kernel_rfl) (by kernel_rfl) (by kernel_rfl) rfl rfl (OpV.load_own (i := 1) rfl hB Tryz.isAgg3 rfl rfl rfl Wi.not0) ?_
                  refine VA.le _ (Le.recast (t := 108) (y := avI (prE p o l start each x q)) rfl (fun w Z u h => by rw [hend] at h; exact h)) ?_
                  refine VA.take (i := 3) rfl (by kernel_rfl) (by kernel_rfl) (by kernel_rfl) rfl rfl (OpV.move (.inr rfl) rfl) ?_
                  refine VA.take (i := 4) rfl (by kernel_rfl) (by kernel_rfl) (by kernel_rfl) rfl rfl (OpV.move (.inr rfl) rfl) ?_
                  refine VA.done (by kernel_rfl) ?_
                  refine VC.region ?_
                  refine VO.val rfl rfl (OpV.add rfl rfl rfl (by unfold fits; omega)) ?_
                  refine VO.mv rfl rfl rfl rfl ?_
                  refine VO.nil ?_
                  exact Exists.intro (⟨q + 1, by omega⟩) (And.intro (Le.mk hB [0] ⟨(by dsimp only; first | (rw [prS_t (by omega)]; rfl) | (rw [prS_f (by omega)]; rfl)), (by dsimp only; first | (rw [prS_t (by omega)]; rfl) | (rw [prS_f (by omega)]; rfl)), rfl, rfl, rfl, rfl, rfl, rfl, rfl, trivial⟩ rfl rfl (Nat.le_refl _)) (by first | omega | (show _ < _; omega) | (simp only []; omega)))
            · have aH1 := aH1b
              try simp only [qqT, qqF, qqN, qqM, qqL, qqE] at aH1
              obtain rfl : q = l.length + 1 := by omega
              refine VC.exit ?_
              refine VC.seq ?_
              have hB1 : 0 ≤ lateZ p o l each start ∧ lateZ p o l each start ≤ 300 * 300000000000000 := by
                have := (hk.res l.length (Nat.le_refl _)).1
                unfold lateZ
                omega
              have hB2 : 0 ≤ (prS p o l start each x (l.length + 1)).1 ∧ (prS p o l start each x (l.length + 1)).1 ≤ 300 * 300000000000000 := by
                obtain ⟨k, hk1, hk2⟩ := prS_is (p := p) (o := o) (l := l) (s := start) (e := each) (x := x) (q := l.length + 1) (fun k hk' => ((hins k (by omega)).res _ (Nat.le_refl _)).1.1) (Nat.succ_pos _)
                have h1 := ((hins k (by omega)).res _ (Nat.le_refl _)).1
                have h2 := insL_len (l := l) (k := k) (n := o.length) (by omega)
                rw [hk2]
                show 0 ≤ prL p o l start each x k ∧ prL p o l start each x k ≤ _
                unfold prL
                omega
              refine VC.region ?_
              refine VO.mv rfl rfl rfl rfl ?_
              refine VO.mv rfl rfl rfl rfl ?_
              refine VO.mv rfl rfl rfl rfl ?_
              refine VO.val rfl rfl (OpV.sub rfl rfl rfl (by unfold fits; omega)) ?_
              refine VO.ma rfl rfl rfl rfl ?_
              refine VO.ma rfl rfl rfl rfl ?_
              refine VO.ma rfl rfl rfl rfl ?_
              refine VO.nil ?_
              refine VC.ret ?_
              exact Exists.intro _ (And.intro (RetV.three Tryz.results34 (ResV.tmp rfl) (ResV.tmp rfl) (ResV.tmp rfl)) (by rw [hY.1, hY.2, hE]))
          ·
            refine OpE.buildSlice (zc := #[.string ⟨#[]⟩, .string ⟨#[]⟩, .int .i64 0, .int .i64 0, .int .i64 0]) rfl hB rfl Tryz.underlying28 Tryz.sizeOf35 Tryz.zeroValue35 (by decide) (by decide) (by kernel_rfl) rfl rfl ?_
            refine VA.all (rs := [2]) (by kernel_rfl) (by decide) ?_
            refine ⟨⟨_, rfl, .inl rfl, ?_⟩, trivial⟩
            refine OpE.callR rfl hB rfl Tryz.call135 (slices_CloneO_R (by omega)) (ArgsP.cons (ArgP.ev rfl) (ArgsP.nil)) ?_
            intro u64
            refine VA.all (rs := [5]) (by kernel_rfl) (by decide) ?_
            refine ⟨⟨_, rfl, .inl rfl, ?_⟩, trivial⟩
            refine OpE.hap (fun hap => ?_)
            refine OpE.append1 (i := 3) rfl hB rfl Tryz.underlying28 (infoOf Tryz.t35 5 (by kernel_rfl) rfl rfl) rfl (by decide) (by decide) rfl rfl rfl rfl (rowL_snoc o x) (by omega) (fun g' hg => ⟨by decide, apart_ne hap (i := 3) (j := 1) hg rfl (by decide)⟩) ?_
            intro u67
            refine VA.le _ (Le.rowT (t := 67) (xs := o ++ [x]) (i := 3) hB hnew rfl rfl (by simp)) ?_
            refine VA.all (rs := [7]) (by kernel_rfl) (by decide) ?_
            refine ⟨⟨_, rfl, .inl rfl, ?_⟩, trivial⟩
            refine OpE.call rfl hB rfl Tryz.call114 rfl (plan_newScheduler hp hi0.pok hi0.ook hi0.has hi0.ea) ?_
            rintro _ rfl
            refine VA.take (i := 8) rfl (by kernel_rfl) (by kernel_rfl) (by kernel_rfl) rfl rfl (OpV.move (.inr rfl) rfl) ?_
            refine VA.done (by kernel_rfl) ?_
            refine VC.seq ?_
            clear hap
            refine VC.region ?_
            refine VO.ma rfl rfl rfl rfl ?_
            refine VO.ma rfl rfl rfl rfl ?_
            refine VO.nil ?_
            refine VC.seq ?_
            refine VC.sr ?_
            refine VO.mv rfl rfl rfl rfl ?_
            refine VO.val rfl rfl (OpV.len_im rfl Tryz.underlying22 rfl) ?_
            refine VO.val rfl rfl (OpV.add rfl rfl rfl (by unfold fits; omega)) ?_
            refine VO.mv rfl rfl rfl rfl ?_
            refine VO.nil ?_
            refine VC.block ?_
            refine VC.loopK [(2, _), (3, _), (7, _), (20, _), (21, _), (72, _)] ⟨rfl, rfl, rfl, rfl, rfl, rfl, trivial⟩ ({q : Nat // q ≤ l.length + 1}) (fun (iZ : {q : Nat // q ≤ l.length + 1}) => match iZ with | ⟨q, hq⟩ => [(22, avI (prS p o l start each x q).1), (23, avI (prS p o l start each x q).2), (73, avI (q : Int))]) (fun (iZ : {q : Nat // q ≤ l.length + 1}) => match iZ with | ⟨q, hq⟩ => [.box g7 ⟨[avL o], 28, 1⟩]) (fun (iZ : {q : Nat // q ≤ l.length + 1}) => match iZ with | ⟨q, hq⟩ => 0) (fun (iZ : {q : Nat // q ≤ l.length + 1}) => match iZ with | ⟨q, hq⟩ => l.length + 1 - q) ⟨0, Nat.zero_le _⟩ (Le.mk hB [0] ⟨rfl, rfl, rfl, rfl, rfl, rfl, rfl, rfl, rfl, trivial⟩ rfl rfl (Nat.le_refl _)) ?_
            rintro ⟨q, hq⟩
            show VC _ _ _ _ ⟨[(22, avI (prS p o l start each x q).1), (23, avI (prS p o l start each x q).2), (73, avI (q : Int))] ++ [(2, _), (3, _), (7, _), (20, _), (21, _), (72, _)], [.box g7 ⟨[avL o], 28, 1⟩], 0⟩
            refine VC.sr ?_
            refine VO.val rfl rfl (OpV.lss rfl rfl rfl) ?_
            refine VO.nil ?_
            refine VC.seq ?_
            refine VC.cond rfl (fun aH6b => ?_) (fun aH6b => ?_)
            · have aH6 := aH6b
              try simp only [qqT, qqF, qqN, qqM, qqL, qqE] at aH6
              refine VC.skip ?_
              refine VC.seq ?_
              refine VC.block ?_
              refine VC.sr ?_
              refine VO.mv rfl rfl rfl rfl ?_
              refine VO.ma rfl rfl rfl rfl ?_
              refine VO.nil ?_
              refine VC.sr ?_
              refine VO.op rfl (OpE.alloc rfl hB rfl Tryz.zeroValue3 rfl ?_)
              intro g25
              refine VO.op rfl (OpE.store (i := 1) rfl hB rfl Tryz.sizeOf3 rfl rfl rfl rfl rfl rfl (Nle rfl) trivial ?_)
              refine VO.nil ?_
              refine VC.joinI (Nat) (fun (iZ : Nat) => match iZ with | g26 => ⟨[(2, avInts l), (3, avI start), (7, pt g7), (20, avI (lateZ p o l each start)), (21, .at_ 3 (schC p (o ++ [x]) each)), (22, avI (prS p o l start each x q).1), (23, avI (prS p o l start each x q).2), (25, pt g25), (26, pt g26), (72, avI ((l.length : Int) + 1)), (73, avI (q : Int))], [.box g7 ⟨[avL o], 28, 1⟩, .box g25 ⟨[avI (runA (stpE o.length) p (o ++ [x]) (insL l q o.length) start each 0 (insL l q o.length).length)], 3, 1⟩, .box g26 ⟨[avI (resP p (o ++ [x]) (insL l q o.length) start each (insL l q o.length).length).late, avI (resP p (o ++ [x]) (insL l q o.length) start each (insL l q o.length).length).many, avI (resP p (o ++ [x]) (insL l q o.length) start each (insL l q o.length).length).en], 150, 3⟩], 0⟩) ?_ ?_
              ·
                have hiq := hins q (by omega)
                refine VC.draw (fun j b => j ∈ [7, 10, 12] ∧ True) hB (by kernel_rfl) ?_
                refine VA.take (i := 0) rfl (by kernel_rfl) (by kernel_rfl) (by kernel_rfl) rfl rfl (OpV.move (.inl rfl) rfl) ?_
                refine VA.take (i := 1) rfl (by kernel_rfl) (by kernel_rfl) (by kernel_rfl) rfl rfl (OpV.move (.inl rfl) rfl) ?_
                refine VA.take (i := 3) rfl (by kernel_rfl) (by kernel_rfl) (by kernel_rfl) rfl rfl (OpV.move (.inl rfl) rfl) ?_
                refine VA.takeT [4, 5, 6, 7, 10, 12] (i := 4) (by kernel_rfl) (by kernel_rfl) rfl (by kernel_rfl) (by kernel_rfl) (by kernel_rfl) rfl rfl (OpV.load_own (i := 0) rfl hB Tryz.isAgg28 rfl rfl rfl (fun ⟨j, h1, h2, _⟩ => by simp at h2; rcases h2 with rfl | rfl | rfl <;> simp at h1)) ?_
                refine VA.take (i := 5) rfl (by kernel_rfl) (by kernel_rfl) (by kernel_rfl) rfl rfl (OpV.len_im rfl Tryz.underlying28 rfl) ?_
                refine VA.take (i := 8) rfl (by kernel_rfl) (by kernel_rfl) (by kernel_rfl) rfl rfl (OpV.move (.inl rfl) rfl) ?_
                refine VA.take (i := 9) rfl (by kernel_rfl) (by kernel_rfl) (by kernel_rfl) rfl rfl (OpV.makeFunc2 rfl rfl rfl) ?_
                refine VA.all (rs := [2, 6, 11]) (by kernel_rfl) (by decide) ?_
                refine ⟨⟨_, rfl, .inl rfl, ?_⟩, ⟨_, rfl, .inl rfl, ?_⟩, ⟨_, rfl, .inl rfl, ?_⟩, trivial⟩
                ·
                  refine OpE.callR rfl hB rfl Tryz.call120 (slices_Clone_R (by omega)) (ArgsP.cons (ArgP.ev rfl) (ArgsP.nil)) ?_
                  intro u78
                  refine VA.all (rs := [6, 11]) (by kernel_rfl) (by decide) ?_
                  refine ⟨⟨_, rfl, .inl rfl, ?_⟩, ⟨_, rfl, .inl rfl, ?_⟩, trivial⟩
                  ·
                    refine OpE.buildSlice (zc := #[.int .i64 0]) rfl hB rfl Tryz.underlying22 Tryz.sizeOf3 Tryz.zeroValue3 (by decide) (by decide) (by kernel_rfl) rfl rfl ?_
                    refine VA.le _ (Le.lits (t := 82) (xs := [(o.length : Int)]) rfl rfl) ?_
                    refine VA.all (rs := [7, 11]) (by kernel_rfl) (by decide) ?_
                    refine ⟨⟨_, rfl, .inl rfl, ?_⟩, ⟨_, rfl, .inl rfl, ?_⟩, trivial⟩
                    ·
                      refine OpE.callH (rest := [_, _]) rfl hB rfl Tryz.call137 rfl rfl (slices_InsertI (p := l) (x := (o.length : Int)) (k := q) (by omega) (by omega)) (List.perm_append_comm (l₁ := [_, _]) (l₂ := [_])) (fun _ _ => ⟨by decide, trivial⟩) ?_
                      rintro _ _ ⟨u83, rfl, rfl⟩
                      refine VA.le _ (Le.rowI (t := 83) (i := 0) (xs := insL l q o.length) hB hnew rfl rfl (by rw [insL_len (by omega)])) ?_
                      refine VA.all (rs := [10, 11]) (by kernel_rfl) (by decide) ?_
                      refine ⟨⟨_, rfl, .inl rfl, ?_⟩, ⟨_, rfl, .inl rfl, ?_⟩, trivial⟩
                      ·
                        refine OpE.callH0 rfl hB rfl Tryz.call136 rfl rfl (plan_run (K := fun a h => h = bxE o a 28 3 g7 g25) (a := 0) hiq Tryz.call138 (prom_does (by omega)) rfl) (List.Perm.refl _) (fun _ _ => ⟨by decide, trivial⟩) ?_
                        rintro _ _ ⟨_, e1, e2, rfl, rfl, rfl⟩
                        refine VA.le _ (Le.drop 2) ?_
                        refine VA.all (rs := [11]) (by kernel_rfl) (by decide) ?_
                        refine ⟨⟨_, rfl, .inl rfl, ?_⟩, trivial⟩
                        refine OpE.alloc rfl hB rfl Tryz.zeroValue150 rfl ?_
                        intro g26
                        refine VA.all (rs := [12]) (by kernel_rfl) (by decide) ?_
                        refine ⟨⟨_, rfl, .inl rfl, ?_⟩, trivial⟩
                        refine OpE.store (i := 2) rfl hB rfl Tryz.sizeOf150 rfl rfl rfl rfl rfl rfl (Nle rfl) (⟨by decide, trivial⟩) ?_
                        refine VA.done (by kernel_rfl) ?_
                        exact Exists.intro (g26) (Le.mk hB [0, 1, 2] ⟨rfl, rfl, rfl, rfl, rfl, rfl, rfl, rfl, rfl, rfl, rfl, trivial⟩ rfl rfl (Nat.le_refl _))
                      ·
                        refine OpE.alloc rfl hB rfl Tryz.zeroValue150 rfl ?_
                        intro g26
                        refine VA.all (rs := [10]) (by kernel_rfl) (by decide) ?_
                        refine ⟨⟨_, rfl, .inl rfl, ?_⟩, trivial⟩
                        refine OpE.callH (rest := [_]) rfl hB rfl Tryz.call136 rfl rfl (plan_run (K := fun a h => h = bxE o a 28 3 g7 g25) (a := 0) hiq Tryz.call138 (prom_does (by omega)) rfl) (List.Perm.refl _) (fun _ _ => ⟨by decide, trivial⟩) ?_
                        rintro _ _ ⟨_, e1, e2, rfl, rfl, rfl⟩
                        refine VA.le _ (Le.drop 2) ?_
                        refine VA.all (rs := [12]) (by kernel_rfl) (by decide) ?_
                        refine ⟨⟨_, rfl, .inl rfl, ?_⟩, trivial⟩
                        refine OpE.store (i := 2) rfl hB rfl Tryz.sizeOf150 rfl rfl rfl rfl rfl rfl (Nle rfl) (⟨by decide, trivial⟩) ?_
                        refine VA.done (by kernel_rfl) ?_
                        exact Exists.intro (g26) (Le.mk hB [0, 1, 2] ⟨rfl, rfl, rfl, rfl, rfl, rfl, rfl, rfl, rfl, rfl, rfl, trivial⟩ rfl rfl (Nat.le_refl _))
                    ·
                      refine OpE.alloc rfl hB rfl Tryz.zeroValue150 rfl ?_
                      intro g26
                      refine VA.all (rs := [7]) (by kernel_rfl) (by decide) ?_
                      refine ⟨⟨_, rfl, .inl rfl, ?_⟩, trivial⟩
                      refine OpE.callH (rest := [_, _, _]) rfl hB rfl Tryz.call137 rfl rfl (slices_InsertI (p := l) (x := (o.length : Int)) (k := q) (by omega) (by omega)) (perm_mid) (fun _ _ => ⟨by decide, trivial⟩) ?_
                      rintro _ _ ⟨u83, rfl, rfl⟩
                      refine VA.le _ (Le.rowI (t := 83) (i := 0) (xs := insL l q o.length) hB hnew rfl rfl (by rw [insL_len (by omega)])) ?_
                      refine VA.all (rs := [10]) (by kernel_rfl) (by decide) ?_
                      refine ⟨⟨_, rfl, .inl rfl, ?_⟩, trivial⟩
                      refine OpE.callH (rest := [_]) rfl hB rfl Tryz.call136 rfl rfl (plan_run (K := fun a h => h = bxE o a 28 3 g7 g25) (a := 0) hiq Tryz.call138 (prom_does (by omega)) rfl) (List.Perm.refl _) (fun _ _ => ⟨by decide, trivial⟩) ?_
                      rintro _ _ ⟨_, e1, e2, rfl, rfl, rfl⟩
                      refine VA.le _ (Le.drop 2) ?_
                      refine VA.all (rs := [12]) (by kernel_rfl) (by decide) ?_
                      refine ⟨⟨_, rfl, .inl rfl, ?_⟩, trivial⟩
                      refine OpE.store (i := 2) rfl hB rfl Tryz.sizeOf150 rfl rfl rfl rfl rfl rfl (Nle rfl) (⟨by decide, trivial⟩) ?_
                      refine VA.done (by kernel_rfl) ?_
                      exact Exists.intro (g26) (Le.mk hB [0, 1, 2] ⟨rfl, rfl, rfl, rfl, rfl, rfl, rfl, rfl, rfl, rfl, rfl, trivial⟩ rfl rfl (Nat.le_refl _))
                  ·
                    refine OpE.alloc rfl hB rfl Tryz.zeroValue150 rfl ?_
                    intro g26
                    refine VA.all (rs := [6]) (by kernel_rfl) (by decide) ?_
                    refine ⟨⟨_, rfl, .inl rfl, ?_⟩, trivial⟩
                    refine OpE.buildSlice (zc := #[.int .i64 0]) rfl hB rfl Tryz.underlying22 Tryz.sizeOf3 Tryz.zeroValue3 (by decide) (by decide) (by kernel_rfl) rfl rfl ?_
                    refine VA.le _ (Le.lits (t := 82) (xs := [(o.length : Int)]) rfl rfl) ?_
                    refine VA.all (rs := [7]) (by kernel_rfl) (by decide) ?_
                    refine ⟨⟨_, rfl, .inl rfl, ?_⟩, trivial⟩
                    refine OpE.callH (rest := [_, _, _]) rfl hB rfl Tryz.call137 rfl rfl (slices_InsertI (p := l) (x := (o.length : Int)) (k := q) (by omega) (by omega)) (perm_mid) (fun _ _ => ⟨by decide, trivial⟩) ?_
                    rintro _ _ ⟨u83, rfl, rfl⟩
                    refine VA.le _ (Le.rowI (t := 83) (i := 0) (xs := insL l q o.length) hB hnew rfl rfl (by rw [insL_len (by omega)])) ?_
                    refine VA.all (rs := [10]) (by kernel_rfl) (by decide) ?_
                    refine ⟨⟨_, rfl, .inl rfl, ?_⟩, trivial⟩
                    refine OpE.callH (rest := [_]) rfl hB rfl Tryz.call136 rfl rfl (plan_run (K := fun a h => h = bxE o a 28 3 g7 g25) (a := 0) hiq Tryz.call138 (prom_does (by omega)) rfl) (List.Perm.refl _) (fun _ _ => ⟨by decide, trivial⟩) ?_
                    rintro _ _ ⟨_, e1, e2, rfl, rfl, rfl⟩
                    refine VA.le _ (Le.drop 2) ?_
                    refine VA.all (rs := [12]) (by kernel_rfl) (by decide) ?_
                    refine ⟨⟨_, rfl, .inl rfl, ?_⟩, trivial⟩
                    refine OpE.store (i := 2) rfl hB rfl Tryz.sizeOf150 rfl rfl rfl rfl rfl rfl (Nle rfl) (⟨by decide, trivial⟩) ?_
                    refine VA.done (by kernel_rfl) ?_
                    exact Exists.intro (g26) (Le.mk hB [0, 1, 2] ⟨rfl, rfl, rfl, rfl, rfl, rfl, rfl, rfl, rfl, rfl, rfl, trivial⟩ rfl rfl (Nat.le_refl _))
                ·
                  refine OpE.buildSlice (zc := #[.int .i64 0]) rfl hB rfl Tryz.underlying22 Tryz.sizeOf3 Tryz.zeroValue3 (by decide) (by decide) (by kernel_rfl) rfl rfl ?_
                  refine VA.le _ (Le.lits (t := 82) (xs := [(o.length : Int)]) rfl rfl) ?_
                  refine VA.all (rs := [2, 11]) (by kernel_rfl) (by decide) ?_
                  refine ⟨⟨_, rfl, .inl rfl, ?_⟩, ⟨_, rfl, .inl rfl, ?_⟩, trivial⟩
                  ·
                    refine OpE.callR rfl hB rfl Tryz.call120 (slices_Clone_R (by omega)) (ArgsP.cons (ArgP.ev rfl) (ArgsP.nil)) ?_
                    intro u78
                    refine VA.all (rs := [7, 11]) (by kernel_rfl) (by decide) ?_
                    refine ⟨⟨_, rfl, .inl rfl, ?_⟩, ⟨_, rfl, .inl rfl, ?_⟩, trivial⟩
                    ·
                      refine OpE.callH (rest := [_, _]) rfl hB rfl Tryz.call137 rfl rfl (slices_InsertI (p := l) (x := (o.length : Int)) (k := q) (by omega) (by omega)) (List.perm_append_comm (l₁ := [_, _]) (l₂ := [_])) (fun _ _ => ⟨by decide, trivial⟩) ?_
                      rintro _ _ ⟨u83, rfl, rfl⟩
                      refine VA.le _ (Le.rowI (t := 83) (i := 0) (xs := insL l q o.length) hB hnew rfl rfl (by rw [insL_len (by omega)])) ?_
                      refine VA.all (rs := [10, 11]) (by kernel_rfl) (by decide) ?_
                      refine ⟨⟨_, rfl, .inl rfl, ?_⟩, ⟨_, rfl, .inl rfl, ?_⟩, trivial⟩
                      ·
                        refine OpE.callH0 rfl hB rfl Tryz.call136 rfl rfl (plan_run (K := fun a h => h = bxE o a 28 3 g7 g25) (a := 0) hiq Tryz.call138 (prom_does (by omega)) rfl) (List.Perm.refl _) (fun _ _ => ⟨by decide, trivial⟩) ?_
                        rintro _ _ ⟨_, e1, e2, rfl, rfl, rfl⟩
                        refine VA.le _ (Le.drop 2) ?_
                        refine VA.all (rs := [11]) (by kernel_rfl) (by decide) ?_
                        refine ⟨⟨_, rfl, .inl rfl, ?_⟩, trivial⟩
                        refine OpE.alloc rfl hB rfl Tryz.zeroValue150 rfl ?_
                        intro g26
                        refine VA.all (rs := [12]) (by kernel_rfl) (by decide) ?_
                        refine ⟨⟨_, rfl, .inl rfl, ?_⟩, trivial⟩
                        refine OpE.store (i := 2) rfl hB rfl Tryz.sizeOf150 rfl rfl rfl rfl rfl rfl (Nle rfl) (⟨by decide, trivial⟩) ?_
                        refine VA.done (by kernel_rfl) ?_
                        exact Exists.intro (g26) (Le.mk hB [0, 1, 2] ⟨rfl, rfl, rfl, rfl, rfl, rfl, rfl, rfl, rfl, rfl, rfl, trivial⟩ rfl rfl (Nat.le_refl _))
                      ·
                        refine OpE.alloc rfl hB rfl Tryz.zeroValue150 rfl ?_
                        intro g26
                        refine VA.all (rs := [10]) (by kernel_rfl) (by decide) ?_
                        refine ⟨⟨_, rfl, .inl rfl, ?_⟩, trivial⟩
                        refine OpE.callH (rest := [_]) rfl hB rfl Tryz.call136 rfl rfl (plan_run (K := fun a h => h = bxE o a 28 3 g7 g25) (a := 0) hiq Tryz.call138 (prom_does (by omega)) rfl) (List.Perm.refl _) (fun _ _ => ⟨by decide, trivial⟩) ?_
                        rintro _ _ ⟨_, e1, e2, rfl, rfl, rfl⟩
                        refine VA.le _ (Le.drop 2) ?_
                        refine VA.all (rs := [12]) (by kernel_rfl) (by decide) ?_
                        refine ⟨⟨_, rfl, .inl rfl, ?_⟩, trivial⟩
                        refine OpE.store (i := 2) rfl hB rfl Tryz.sizeOf150 rfl rfl rfl rfl rfl rfl (Nle rfl) (⟨by decide, trivial⟩) ?_
                        refine VA.done (by kernel_rfl) ?_
                        exact Exists.intro (g26) (Le.mk hB [0, 1, 2] ⟨rfl, rfl, rfl, rfl, rfl, rfl, rfl, rfl, rfl, rfl, rfl, trivial⟩ rfl rfl (Nat.le_refl _))
                    ·
                      refine OpE.alloc rfl hB rfl Tryz.zeroValue150 rfl ?_
                      intro g26
                      refine VA.all (rs := [7]) (by kernel_rfl) (by decide) ?_
                      refine ⟨⟨_, rfl, .inl rfl, ?_⟩, trivial⟩
                      refine OpE.callH (rest := [_, _, _]) rfl hB rfl Tryz.call137 rfl rfl (slices_InsertI (p := l) (x := (o.length : Int)) (k := q) (by omega) (by omega)) (perm_mid) (fun _ _ => ⟨by decide, trivial⟩) ?_
                      rintro _ _ ⟨u83, rfl, rfl⟩
                      refine VA.le _ (Le.rowI (t := 83) (i := 0) (xs := insL l q o.length) hB hnew rfl rfl (by rw [insL_len (by omega)])) ?_
                      refine VA.all (rs := [10]) (by kernel_rfl) (by decide) ?_
                      refine ⟨⟨_, rfl, .inl rfl, ?_⟩, trivial⟩
                      refine OpE.callH (rest := [_]) rfl hB rfl Tryz.call136 rfl rfl (plan_run (K := fun a h => h = bxE o a 28 3 g7 g25) (a := 0) hiq Tryz.call138 (prom_does (by omega)) rfl) (List.Perm.refl _) (fun _ _ => ⟨by decide, trivial⟩) ?_
                      rintro _ _ ⟨_, e1, e2, rfl, rfl, rfl⟩
                      refine VA.le _ (Le.drop 2) ?_
                      refine VA.all (rs := [12]) (by kernel_rfl) (by decide) ?_
                      refine ⟨⟨_, rfl, .inl rfl, ?_⟩, trivial⟩
                      refine OpE.store (i := 2) rfl hB rfl Tryz.sizeOf150 rfl rfl rfl rfl rfl rfl (Nle rfl) (⟨by decide, trivial⟩) ?_
                      refine VA.done (by kernel_rfl) ?_
                      exact Exists.intro (g26) (Le.mk hB [0, 1, 2] ⟨rfl, rfl, rfl, rfl, rfl, rfl, rfl, rfl, rfl, rfl, rfl, trivial⟩ rfl rfl (Nat.le_refl _))
                  ·
                    refine OpE.alloc rfl hB rfl Tryz.zeroValue150 rfl ?_
                    intro g26
                    refine VA.all (rs := [2]) (by kernel_rfl) (by decide) ?_
                    refine ⟨⟨_, rfl, .inl rfl, ?_⟩, trivial⟩
                    refine OpE.callR rfl hB rfl Tryz.call120 (slices_Clone_R (by omega)) (ArgsP.cons (ArgP.ev rfl) (ArgsP.nil)) ?_
                    intro u78
                    refine VA.all (rs := [7]) (by kernel_rfl) (by decide) ?_
                    refine ⟨⟨_, rfl, .inl rfl, ?_⟩, trivial⟩
                    refine OpE.callH (rest := [_, _, _]) rfl hB rfl Tryz.call137 rfl rfl (slices_InsertI (p := l) (x := (o.length : Int)) (k := q) (by omega) (by omega)) (List.perm_append_comm (l₁ := [_, _, _]) (l₂ := [_])) (fun _ _ => ⟨by decide, trivial⟩) ?_
                    rintro _ _ ⟨u83, rfl, rfl⟩
                    refine VA.le _ (Le.rowI (t := 83) (i := 0) (xs := insL l q o.length) hB hnew rfl rfl (by rw [insL_len (by omega)])) ?_
                    refine VA.all (rs := [10]) (by kernel_rfl) (by decide) ?_
                    refine ⟨⟨_, rfl, .inl rfl, ?_⟩, trivial⟩
                    refine OpE.callH (rest := [_]) rfl hB rfl Tryz.call136 rfl rfl (plan_run (K := fun a h => h = bxE o a 28 3 g7 g25) (a := 0) hiq Tryz.call138 (prom_does (by omega)) rfl) (List.Perm.refl _) (fun _ _ => ⟨by decide, trivial⟩) ?_
                    rintro _ _ ⟨_, e1, e2, rfl, rfl, rfl⟩
                    refine VA.le _ (Le.drop 2) ?_
                    refine VA.all (rs := [12]) (by kernel_rfl) (by decide) ?_
                    refine ⟨⟨_, rfl, .inl rfl, ?_⟩, trivial⟩
                    refine OpE.store (i := 2) rfl hB rfl Tryz.sizeOf150 rfl rfl rfl rfl rfl rfl (Nle rfl) (⟨by decide, trivial⟩) ?_
                    refine VA.done (by kernel_rfl) ?_
                    exact Exists.intro (g26) (Le.mk hB [0, 1, 2] ⟨rfl, rfl, rfl, rfl, rfl, rfl, rfl, rfl, rfl, rfl, rfl, trivial⟩ rfl rfl (Nat.le_refl _))
                ·
                  refine OpE.alloc rfl hB rfl Tryz.zeroValue150 rfl ?_
                  intro g26
                  refine VA.all (rs := [2, 6]) (by kernel_rfl) (by decide) ?_
                  refine ⟨⟨_, rfl, .inl rfl, ?_⟩, ⟨_, rfl, .inl rfl, ?_⟩, trivial⟩
                  ·
                    refine OpE.callR rfl hB rfl Tryz.call120 (slices_Clone_R (by omega)) (ArgsP.cons (ArgP.ev rfl) (ArgsP.nil)) ?_
                    intro u78
                    refine VA.all (rs := [6]) (by kernel_rfl) (by decide) ?_
                    refine ⟨⟨_, rfl, .inl rfl, ?_⟩, trivial⟩
                    refine OpE.buildSlice (zc := #[.int .i64 0]) rfl hB rfl Tryz.underlying22 Tryz.sizeOf3 Tryz.zeroValue3 (by decide) (by decide) (by kernel_rfl) rfl rfl ?_
                    refine VA.le _ (Le.lits (t := 82) (xs := [(o.length : Int)]) rfl rfl) ?_
                    refine VA.all (rs := [7]) (by kernel_rfl) (by decide) ?_
                    refine ⟨⟨_, rfl, .inl rfl, ?_⟩, trivial⟩
                    refine OpE.callH (rest := [_, _, _]) rfl hB rfl Tryz.call137 rfl rfl (slices_InsertI (p := l) (x := (o.length : Int)) (k := q) (by omega) (by omega)) (List.perm_append_comm (l₁ := [_, _, _]) (l₂ := [_])) (fun _ _ => ⟨by decide, trivial⟩) ?_
                    rintro _ _ ⟨u83, rfl, rfl⟩
                    refine VA.le _ (Le.rowI (t := 83) (i := 0) (xs := insL l q o.length) hB hnew rfl rfl (by rw [insL_len (by omega)])) ?_
                    refine VA.all (rs := [10]) (by kernel_rfl) (by decide) ?_
                    refine ⟨⟨_, rfl, .inl rfl, ?_⟩, trivial⟩
                    refine OpE.callH (rest := [_]) rfl hB rfl Tryz.call136 rfl rfl (plan_run (K := fun a h => h = bxE o a 28 3 g7 g25) (a := 0) hiq Tryz.call138 (prom_does (by omega)) rfl) (List.Perm.refl _) (fun _ _ => ⟨by decide, trivial⟩) ?_
                    rintro _ _ ⟨_, e1, e2, rfl, rfl, rfl⟩
                    refine VA.le _ (Le.drop 2) ?_
                    refine VA.all (rs := [12]) (by kernel_rfl) (by decide) ?_
                    refine ⟨⟨_, rfl, .inl rfl, ?_⟩, trivial⟩
                    refine OpE.store (i := 2) rfl hB rfl Tryz.sizeOf150 rfl rfl rfl rfl rfl rfl (Nle rfl) (⟨by decide, trivial⟩) ?_
                    refine VA.done (by kernel_rfl) ?_
                    exact Exists.intro (g26) (Le.mk hB [0, 1, 2] ⟨rfl, rfl, rfl, rfl, rfl, rfl, rfl, rfl, rfl, rfl, rfl, trivial⟩ rfl rfl (Nat.le_refl _))
                  ·
                    refine OpE.buildSlice (zc := #[.int .i64 0]) rfl hB rfl Tryz.underlying22 Tryz.sizeOf3 Tryz.zeroValue3 (by decide) (by decide) (by kernel_rfl) rfl rfl ?_
                    refine VA.le _ (Le.lits (t := 82) (xs := [(o.length : Int)]) rfl rfl) ?_
                    refine VA.all (rs := [2]) (by kernel_rfl) (by decide) ?_
                    refine ⟨⟨_, rfl, .inl rfl, ?_⟩, trivial⟩
                    refine OpE.callR rfl hB rfl Tryz.call120 (slices_Clone_R (by omega)) (ArgsP.cons (ArgP.ev rfl) (ArgsP.nil)) ?_
                    intro u78
                    refine VA.all (rs := [7]) (by kernel_rfl) (by decide) ?_
                    refine ⟨⟨_, rfl, .inl rfl, ?_⟩, trivial⟩
                    refine OpE.callH (rest := [_, _, _]) rfl hB rfl Tryz.call137 rfl rfl (slices_InsertI (p := l) (x := (o.length : Int)) (k := q) (by omega) (by omega)) (List.perm_append_comm (l₁ := [_, _, _]) (l₂ := [_])) (fun _ _ => ⟨by decide, trivial⟩) ?_
                    rintro _ _ ⟨u83, rfl, rfl⟩
                    refine VA.le _ (Le.rowI (t := 83) (i := 0) (xs := insL l q o.length) hB hnew rfl rfl (by rw [insL_len (by omega)])) ?_
                    refine VA.all (rs := [10]) (by kernel_rfl) (by decide) ?_
                    refine ⟨⟨_, rfl, .inl rfl, ?_⟩, trivial⟩
                    refine OpE.callH (rest := [_]) rfl hB rfl Tryz.call136 rfl rfl (plan_run (K := fun a h => h = bxE o a 28 3 g7 g25) (a := 0) hiq Tryz.call138 (prom_does (by omega)) rfl) (List.Perm.refl _) (fun _ _ => ⟨by decide, trivial⟩) ?_
                    rintro _ _ ⟨_, e1, e2, rfl, rfl, rfl⟩
                    refine VA.le _ (Le.drop 2) ?_
                    refine VA.all (rs := [12]) (by kernel_rfl) (by decide) ?_
                    refine ⟨⟨_, rfl, .inl rfl, ?_⟩, trivial⟩
                    refine OpE.store (i := 2) rfl hB rfl Tryz.sizeOf150 rfl rfl rfl rfl rfl rfl (Nle rfl) (⟨by decide, trivial⟩) ?_
                    refine VA.done (by kernel_rfl) ?_
                    exact Exists.intro (g26) (Le.mk hB [0, 1, 2] ⟨rfl, rfl, rfl, rfl, rfl, rfl, rfl, rfl, rfl, rfl, rfl, trivial⟩ rfl rfl (Nat.le_refl _))
              ·
                rintro g26
                show VC _ _ _ _ ⟨[(2, avInts l), (3, avI start), (7, pt g7), (20, avI (lateZ p o l each start)), (21, .at_ 3 (schC p (o ++ [x]) each)), (22, avI (prS p o l start each x q).1), (23, avI (prS p o l start each x q).2), (25, pt g25), (26, pt g26), (72, avI ((l.length : Int) + 1)), (73, avI (q : Int))], [.box g7 ⟨[avL o], 28, 1⟩, .box g25 ⟨[avI (runA (stpE o.length) p (o ++ [x]) (insL l q o.length) start each 0 (insL l q o.length).length)], 3, 1⟩, .box g26 ⟨[avI (resP p (o ++ [x]) (insL l q o.length) start each (insL l q o.length).length).late, avI (resP p (o ++ [x]) (insL l q o.length) start each (insL l q o.length).length).many, avI (resP p (o ++ [x]) (insL l q o.length) start each (insL l q o.length).length).en], 150, 3⟩], 0⟩
                refine VC.seq ?_
                have hiq := hins q (by omega)
                have hend : runA (stpE o.length) p (o ++ [x]) (insL l q o.length) start each 0 (insL l q o.length).length = prE p o l start each x q := by rw [insL_len (by omega), runA_end hiq (by omega) hk.ord (l.length + 1) (Nat.le_refl _), if_pos (by omega)]
                refine VC.region ?_
                refine VO.mv rfl rfl rfl rfl ?_
                refine VO.val rfl rfl (OpV.lss rfl rfl rfl) ?_
                refine VO.mv rfl rfl rfl rfl ?_
                refine VO.opG rfl rfl rfl rfl (fun aK7b => ?_) (fun aK7b => ?_)
                · replace aK7b : _ = false := aK7b
                  have aK7 := aK7b
                  try simp only [qqT, qqF, qqN, qqM, qqL, qqE] at aK7
                  refine OpE.val (W := NoB) (OpV.fieldAddrO 0 rfl Tryz.underlying150 rfl rfl Tryz.sizeOf3 rfl) rfl ?_
                  refine VO.opY rfl rfl rfl rfl aK7b ?_
                  refine OpE.val (W := NoB) (OpV.load_own (i := 2) rfl hB Tryz.isAgg3 rfl rfl rfl (fun h => h)) rfl ?_
                  refine VO.le _ (Le.recast (t := 91) (y := avI (prL p o l start each x q)) rfl (fun w Z u h => h)) ?_
                  refine VO.opY rfl rfl rfl rfl aK7b ?_
                  refine OpE.val (W := NoB) (OpV.move (.inl rfl) rfl) rfl ?_
                  refine VO.opY rfl rfl rfl rfl aK7b ?_
                  refine OpE.val (W := NoB) (OpV.lss rfl rfl rfl) rfl ?_
                  refine VO.val rfl rfl (OpV.pickF rfl rfl rfl rfl aK7b) ?_
                  refine VO.mv rfl rfl rfl rfl ?_
                  refine VO.opG rfl rfl rfl rfl (fun aK8b => ?_) (fun aK8b => ?_)
                  · replace aK8b : _ = false := aK8b
                    have aK8 := aK8b
                    try simp only [qqT, qqF, qqN, qqM, qqL, qqE] at aK8
                    refine OpE.val (W := NoB) (OpV.fieldAddrO 0 rfl Tryz.underlying150 rfl rfl Tryz.sizeOf3 rfl) rfl ?_
                    refine VO.opY rfl rfl rfl rfl aK8b ?_
                    refine OpE.val (W := NoB) (OpV.load_own (i := 2) rfl hB Tryz.isAgg3 rfl rfl rfl (fun h => h)) rfl ?_
                    refine VO.le _ (Le.recast (t := 97) (y := avI (prL p o l start each x q)) rfl (fun w Z u h => h)) ?_
                    refine VO.opY rfl rfl rfl rfl aK8b ?_
                    refine OpE.val (W := NoB) (OpV.move (.inl rfl) rfl) rfl ?_
                    refine VO.opY rfl rfl rfl rfl aK8b ?_
                    refine OpE.val (W := NoB) (OpV.eql rfl rfl rfl) rfl ?_
                    refine VO.opY rfl rfl rfl rfl aK8b ?_
                    refine OpE.val (W := NoB) (OpV.move (.inl rfl) rfl) rfl ?_
                    refine VO.opG rfl rfl rfl rfl (fun aK9b => ?_) (fun aK9b => ?_)
                    · replace aK9b : _ = true := aK9b
                      have aK9 := aK9b
                      try simp only [qqT, qqF, qqN, qqM, qqL, qqE] at aK9
                      refine OpE.val (W := NoB) (OpV.load_own (i := 1) rfl hB Tryz.isAgg3 rfl rfl rfl (fun h => h)) rfl ?_
                      refine VO.le _ (Le.recast (t := 101) (y := avI (prE p o l start each x q)) rfl (fun w Z u h => by rw [hend] at h; exact h)) ?_
                      refine VO.opY rfl rfl rfl rfl aK9b ?_
                      refine OpE.val (W := NoB) (OpV.move (.inl rfl) rfl) rfl ?_
                      refine VO.opY rfl rfl rfl rfl aK9b ?_
                      refine OpE.val (W := NoB) (OpV.lss rfl rfl rfl) rfl ?_
                      refine VO.opY rfl rfl rfl rfl aK8b ?_
                      refine OpE.val (W := NoB) (OpV.pickT rfl rfl rfl rfl aK9b) rfl ?_
                      refine VO.val rfl rfl (OpV.pickF rfl rfl rfl rfl aK8b) ?_
                      refine VO.nil ?_
                      refine VC.cond rfl (fun aH10b => ?_) (fun aH10b => ?_)
                      · have aH10 := aH10b
                        try simp only [qqT, qqF, qqN, qqM, qqL, qqE] at aH10
                        refine VC.draw (fun _ => NoB) hB (by kernel_rfl) ?_
                        refine VA.take (i := 0) rfl (by kernel_rfl) (by kernel_rfl) (by kernel_rfl) rfl rfl (OpV.fieldAddrO 0 rfl Tryz.underlying150 rfl rfl Tryz.sizeOf3 rfl) ?_
                        refine VA.take (i := 1) rfl (by kernel_rfl) (by kernel_rfl) (by kernel_rfl) rfl rfl (OpV.load_own (i := 2) rfl hB Tryz.isAgg3 rfl rfl rfl Wi.not0) ?_
                        refine VA.le _ (Le.recast (t := 107) (y := avI (prL p o l start each x q)) rfl (fun w Z u h => h)) ?_
                        refine VA.take (i := 2) rfl (by kernel_rfl) (by kernel_rfl) (by kernel_rfl) rfl rfl (OpV.load_own (i := 1) rfl hB Tryz.isAgg3 rfl rfl rfl Wi.not0) ?_
                        refine VA.le _ (Le.recast (t := 108) (y := avI (prE p o l start each x q)) rfl (fun w Z u h => by rw [hend] at h; exact h)) ?_
                        refine VA.take (i := 3) rfl (by kernel_rfl) (by kernel_rfl) (by kernel_rfl) rfl rfl (OpV.move (.inr rfl) rfl) ?_
                        refine VA.take (i := 4) rfl (by kernel_rfl) (by kernel_rfl) (by kernel_rfl) rfl rfl (OpV.move (.inr rfl) rfl) ?_
                        refine VA.done (by kernel_rfl) ?_
                        refine VC.region ?_
                        refine VO.val rfl rfl (OpV.add rfl rfl rfl (by unfold fits; omega)) ?_
                        refine VO.mv rfl rfl rfl rfl ?_
                        refine VO.nil ?_
                        exact Exists.intro (⟨q + 1, by omega⟩) (And.intro (Le.mk hB [0] ⟨(by dsimp only; first | (rw [prS_t (by omega)]; rfl) | (rw [prS_f (by omega)]; rfl)), (by dsimp only; first | (rw [prS_t (by omega)]; rfl) | (rw [prS_f (by omega)]; rfl)), rfl, rfl, rfl, rfl, rfl, rfl, rfl, trivial⟩ rfl rfl (Nat.le_refl _)) (by first | omega | (show _ < _; omega) | (simp only []; omega)))
                      · have aH10 := aH10b
                        try simp only [qqT, qqF, qqN, qqM, qqL, qqE] at aH10
                        refine VC.skip ?_
                        refine VC.region ?_
                        refine VO.val rfl rfl (OpV.add rfl rfl rfl (by unfold fits; omega)) ?_
                        refine VO.mv rfl rfl rfl rfl ?_
                        refine VO.nil ?_
                        exact Exists.intro (⟨q + 1, by omega⟩) (And.intro (Le.mk hB [0] ⟨(by dsimp only; first | (rw [prS_t (by omega)]; rfl) | (rw [prS_f (by omega)]; rfl)), (by dsimp only; first | (rw [prS_t (by omega)]; rfl) | (rw [prS_f (by omega)]; rfl)), rfl, rfl, rfl, rfl, rfl, rfl, rfl, trivial⟩ rfl rfl (Nat.le_refl _)) (by first | omega | (show _ < _; omega) | (simp only []; omega)))
                    · replace aK9b : _ = false := aK9b
                      have aK9 := aK9b
                      try simp only [qqT, qqF, qqN, qqM, qqL, qqE] at aK9
                      refine VO.opX rfl rfl rfl rfl aK9b ?_
                      refine VO.opX rfl rfl rfl rfl aK9b ?_
                      refine VO.opY rfl rfl rfl rfl aK8b ?_
                      refine OpE.val (W := NoB) (OpV.pickF rfl rfl rfl rfl aK9b) rfl ?_
                      refine VO.val rfl rfl (OpV.pickF rfl rfl rfl rfl aK8b) ?_
                      refine VO.nil ?_
                      refine VC.condF rfl rfl ?_
                      refine VC.skip ?_
                      refine VC.region ?_
                      refine VO.val rfl rfl (OpV.add rfl rfl rfl (by unfold fits; omega)) ?_
                      refine VO.mv rfl rfl rfl rfl ?_
                      refine VO.nil ?_
                      exact Exists.intro (⟨q + 1, by omega⟩) (And.intro (Le.mk hB [0] ⟨(by dsimp only; first | (rw [prS_t (by omega)]; rfl) | (rw [prS_f (by omega)]; rfl)), (by dsimp only; first | (rw [prS_t (by omega)]; rfl) | (rw [prS_f (by omega)]; rfl)), rfl, rfl, rfl, rfl, rfl, rfl, rfl, trivial⟩ rfl rfl (Nat.le_refl _)) (by first | omega | (show _ < _; omega) | (simp only []; omega)))
                  · replace aK8b : _ = true := aK8b
                    have aK8 := aK8b
                    try simp only [qqT, qqF, qqN, qqM, qqL, qqE] at aK8
                    refine VO.opX rfl rfl rfl rfl aK8b ?_
                    refine VO.opX rfl rfl rfl rfl aK8b ?_
                    refine VO.opX rfl rfl rfl rfl aK8b ?_
                    refine VO.opX rfl rfl rfl rfl aK8b ?_
                    refine VO.opU rfl rfl rfl rfl ?_
                    refine VO.opU rfl rfl rfl rfl ?_
                    refine VO.opU rfl rfl rfl rfl ?_
                    refine VO.opX rfl rfl rfl rfl aK8b ?_
                    refine VO.val rfl rfl (OpV.pickT rfl rfl rfl rfl aK8b) ?_
                    refine VO.nil ?_
                    refine VC.condT rfl rfl ?_
                    refine VC.draw (fun _ => NoB) hB (by kernel_rfl) ?_
                    refine VA.take (i := 0) rfl (by kernel_rfl) (by kernel_rfl) (by kernel_rfl) rfl rfl (OpV.fieldAddrO 0 rfl Tryz.underlying150 rfl rfl Tryz.sizeOf3 rfl) ?_
                    refine VA.take (i := 1) rfl (by kernel_rfl) (by kernel_rfl) (by kernel_rfl) rfl rfl (OpV.load_own (i := 2) rfl hB Tryz.isAgg3 rfl rfl rfl Wi.not0) ?_
                    refine VA.le _ (Le.recast (t := 107) (y := avI (prL p o l start each x q)) rfl (fun w Z u h => h)) ?_
                    refine VA.take (i := 2) rfl (by kernel_rfl) (by kernel_rfl) (by kernel_rfl) rfl rfl (OpV.load_own (i := 1) rfl hB Tryz.isAgg3 rfl rfl rfl Wi.not0) ?_
                    refine VA.le _ (Le.recast (t := 108) (y := avI (prE p o l start each x q)) rfl (fun w Z u h => by rw [hend] at h; exact h)) ?_
                    refine VA.take (i := 3) rfl (by kernel_rfl) (by kernel_rfl) (by kernel_rfl) rfl rfl (OpV.move (.inr rfl) rfl) ?_
                    refine VA.take (i := 4) rfl (by kernel_rfl) (by kernel_rfl) (by kernel_rfl) rfl rfl (OpV.move (.inr rfl) rfl) ?_
                    refine VA.done (by kernel_rfl) ?_
                    refine VC.region ?_
                    refine VO.val rfl rfl (OpV.add rfl rfl rfl (by unfold fits; omega)) ?_
                    refine VO.mv rfl rfl rfl rfl ?_
                    refine VO.nil ?_
                    exact Exists.intro (⟨q + 1, by omega⟩) (And.intro (Le.mk hB [0] ⟨(by dsimp only; first | (rw [prS_t (by omega)]; rfl) | (rw [prS_f (by omega)]; rfl)), (by dsimp only; first | (rw [prS_t (by omega)]; rfl) | (rw [prS_f (by omega)]; rfl)), rfl, rfl, rfl, rfl, rfl, rfl, rfl, trivial⟩ rfl rfl (Nat.le_refl _)) (by first | omega | (show _ < _; omega) | (simp only []; omega)))
                · replace aK7b : _ = true := aK7b
                  have aK7 := aK7b
                  try simp only [qqT, qqF, qqN, qqM, qqL, qqE] at aK7
                  refine VO.opX rfl rfl rfl rfl aK7b ?_
                  refine VO.opX rfl rfl rfl rfl aK7b ?_
                  refine VO.opX rfl rfl rfl rfl aK7b ?_
                  refine VO.val rfl rfl (OpV.pickT rfl rfl rfl rfl aK7b) ?_
                  refine VO.mv rfl rfl rfl rfl ?_
                  refine VO.opX rfl rfl rfl rfl rfl ?_
                  refine VO.opX rfl rfl rfl rfl rfl ?_
                  refine VO.opX rfl rfl rfl rfl rfl ?_
                  refine VO.opX rfl rfl rfl rfl rfl ?_
                  refine VO.opX rfl rfl rfl rfl rfl ?_
                  refine VO.opU rfl rfl rfl rfl ?_
                  refine VO.opU rfl rfl rfl rfl ?_
                  refine VO.opU rfl rfl rfl rfl ?_
                  refine VO.opX rfl rfl rfl rfl rfl ?_
                  refine VO.val rfl rfl (OpV.pickT rfl rfl rfl rfl rfl) ?_
                  refine VO.nil ?_
                  refine VC.condT rfl rfl ?_
                  refine VC.draw (fun _ => NoB) hB (by kernel_rfl) ?_
                  refine VA.take (i := 0) rfl (by kernel_rfl) (by kernel_rfl) (by kernel_rfl) rfl rfl (OpV.fieldAddrO 0 rfl Tryz.underlying150 rfl rfl Tryz.sizeOf3 rfl) ?_
                  refine VA.take (i := 1) rfl (by kernel_rfl) (by kernel_rfl) (by kernel_rfl) rfl rfl (OpV.load_own (i := 2) rfl hB Tryz.isAgg3 rfl rfl rfl Wi.not0) ?_
                  refine VA.le _ (Le.recast (t := 107) (y := avI (prL p o l start each x q)) rfl (fun w Z u h => h)) ?_
                  refine VA.take (i := 2) rfl (by kernel_rfl) (by kernel_rfl) (by kernel_rfl) rfl rfl (OpV.load_own (i := 1) rfl hB Tryz.isAgg3 rfl rfl rfl Wi.not0) ?_
                  refine VA.le _ (Le.recast (t := 108) (y := avI (prE p o l start each x q)) rfl (fun w Z u h => by rw [hend] at h; exact h)) ?_
                  refine VA.take (i := 3) rfl (by kernel_rfl) (by kernel_rfl) (by kernel_rfl) rfl rfl (OpV.move (.inr rfl) rfl) ?_
                  refine VA.take (i := 4) rfl (by kernel_rfl) (by kernel_rfl) (by kernel_rfl) rfl rfl (OpV.move (.inr rfl) rfl) ?_
                  refine VA.done (by kernel_rfl) ?_
                  refine VC.region ?_
                  refine VO.val rfl rfl (OpV.add rfl rfl rfl (by unfold fits; omega)) ?_
                  refine VO.mv rfl rfl rfl rfl ?_
                  refine VO.nil ?_
                  exact Exists.intro (⟨q + 1, by omega⟩) (And.intro (Le.mk hB [0] ⟨(by dsimp only; first | (rw [prS_t (by omega)]; rfl) | (rw [prS_f (by omega)]; rfl)), (by dsimp only; first | (rw [prS_t (by omega)]; rfl) | (rw [prS_f (by omega)]; rfl)), rfl, rfl, rfl, rfl, rfl, rfl, rfl, trivial⟩ rfl rfl (Nat.le_refl _)) (by first | omega | (show _ < _; omega) | (simp only []; omega)))
            · have aH6 := aH6b
              try simp only [qqT, qqF, qqN, qqM, qqL, qqE] at aH6
              obtain rfl : q = l.length + 1 := by omega
              refine VC.exit ?_
              refine VC.seq ?_
              have hB1 : 0 ≤ lateZ p o l each start ∧ lateZ p o l each start ≤ 300 * 300000000000000 := by
                have := (hk.res l.length (Nat.le_refl _)).1
                unfold lateZ
                omega
              have hB2 : 0 ≤ (prS p o l start each x (l.length + 1)).1 ∧ (prS p o l start each x (l.length + 1)).1 ≤ 300 * 300000000000000 := by
                obtain ⟨k, hk1, hk2⟩ := prS_is (p := p) (o := o) (l := l) (s := start) (e := each) (x := x) (q := l.length + 1) (fun k hk' => ((hins k (by omega)).res _ (Nat.le_refl _)).1.1) (Nat.succ_pos _)
                have h1 := ((hins k (by omega)).res _ (Nat.le_refl _)).1
                have h2 := insL_len (l := l) (k := k) (n := o.length) (by omega)
                rw [hk2]
                show 0 ≤ prL p o l start each x k ∧ prL p o l start each x k ≤ _
                unfold prL
                omega
              refine VC.region ?_
              refine VO.mv rfl rfl rfl rfl ?_
              refine VO.mv rfl rfl rfl rfl ?_
              refine VO.mv rfl rfl rfl rfl ?_
              refine VO.val rfl rfl (OpV.sub rfl rfl rfl (by unfold fits; omega)) ?_
              refine VO.ma rfl rfl rfl rfl ?_
              refine VO.ma rfl rfl rfl rfl ?_
              refine VO.ma rfl rfl rfl rfl ?_
              refine VO.nil ?_
              refine VC.ret ?_
              exact Exists.intro _ (And.intro (RetV.three Tryz.results34 (ResV.tmp rfl) (ResV.tmp rfl) (ResV.tmp rfl)) (by rw [hY.1, hY.2, hE]))
end Go.Proofs.YtmahammdnmmmoaaGreatDoor
namespace Go.Proofs.YtmahammdnmmmoaaGreatDoor
open Go.RowKit
set_option linter.unusedVariables false
set_option linter.unusedSimpArgs false
def k3P : List ByteArray := [⟨#[112]⟩, ⟨#[113]⟩, ⟨#[114]⟩]
theorem k3P_size (q : Nat) : (k3P.getD q ByteArray.empty).size ≤ 1000 := by
 match q with
 | 0 => decide
 | 1 => decide
 | 2 => decide
 | q + 3 => simp [k3P]
def k4P : List ByteArray := [⟨#[97]⟩, ⟨#[98]⟩, ⟨#[99]⟩, ⟨#[100]⟩]
theorem k4P_size (q : Nat) : (k4P.getD q ByteArray.empty).size ≤ 1000 := by
 match q with
 | 0 => decide
 | 1 => decide
 | 2 => decide
 | 3 => decide
 | q + 4 => simp [k4P]
def NsOk (m : Nat) (l : List NeedS) : Prop := l.length ≤ m ∧ ∀ y ∈ l, y.key.size ≤ 1000
theorem NsOk.snoc {m : Nat} {l : List NeedS} (h : NsOk m l) {x : NeedS} (hx : x.key.size ≤ 1000) : NsOk (m + 1) (l ++ [x]) := ⟨by have := h.1; simp; omega, fun y hy => by
 rcases List.mem_append.1 hy with hy | hy
 ·exact h.2 y hy
 ·simp at hy; subst hy; exact hx⟩
theorem NsOk.mono {m n : Nat} {l : List NeedS} (h : NsOk m l) (hn : m ≤ n) : NsOk n l := ⟨Nat.le_trans h.1 hn, h.2⟩
def PcOk (m : Nat) (x : PaceS) : Prop := x.product.size ≤ 1000 ∧ NsOk m x.needs
theorem PcOk.mono {m n : Nat} {x : PaceS} (h : PcOk m x) (hn : m ≤ n) : PcOk n x := ⟨h.1, h.2.mono hn⟩
theorem PcOk.getD {m : Nat} {l : List PaceS} (h : ∀ x ∈ l, PcOk m x) (i : Nat) : PcOk m (l.getD i default) := by
 rw [List.getD_eq_getElem?_getD]
 cases hi : l[i]? with
 | none => exact ⟨by decide, Nat.zero_le _, fun y hy => by cases hy⟩
 | some x => exact h x (List.mem_of_getElem? hi)
theorem PcOk.sm {l : List PaceS} (h : ∀ x ∈ l, PcOk 5 x) (hl : l.length ≤ 1000) : SmPc l := ⟨by omega, fun i => by have := (PcOk.getD h i).1; omega, fun i => by have := (PcOk.getD h i).2.1; omega, fun i j => by
 have := (PcOk.getD h i).2.2
 rw [List.getD_eq_getElem?_getD (l := (l.getD i default).needs)]
 cases hj : (l.getD i default).needs[j]? with
 | none => decide
 | some x => have := this x (List.mem_of_getElem? hj); simp; omega⟩
theorem PcOk.setD {m : Nat} {l : List PaceS} (h : ∀ x ∈ l, PcOk m x) (q : Nat) {x : PaceS} (hx : PcOk m x) : ∀ y ∈ l.set q x, PcOk m y := fun y hy => by
 rcases List.mem_or_eq_of_mem_set hy with h' | rfl
 ·exact h y h'
 ·exact hx
theorem pc_upd {a b : PaceS} {k : Nat} (h0 : k = 0 ∨ a.product = b.product) (h1 : k = 1 ∨ a.cycle = b.cycle) (h2 : k = 2 ∨ a.needs = b.needs) : ∀ i, i < 3 → i ≠ k → Sxc.cell a i = Sxc.cell b i := fun i hi hn => by
 match i, hi with
 | 0, _ => show avS a.product = avS b.product; rw [h0.resolve_left fun h => hn h.symm]
 | 1, _ => show avI a.cycle = avI b.cycle; rw [h1.resolve_left fun h => hn h.symm]
 | 2, _ => show avL a.needs = avL b.needs; rw [h2.resolve_left fun h => hn h.symm]
theorem getSetP {α : Type} {xs : List α} {q : Nat} {x d : α} (h : q < xs.length) : (xs.set q x).getD q d = x := by simp [h]
theorem flat_nd (xs : List NeedS) : FlatA (rowL xs) := flat_rowL (fun x j hj => by
 match j, hj with
 | 0, _ => exact ⟨_, rfl⟩
 | 1, _ => exact ⟨_, rfl⟩) xs
theorem nd_one (xs : List NeedS) (x : Nat) (h : x < xs.length * 2) : ((fun q => Sxc.cell (xs.getD q default)) (x / Sxc.k NeedS) (x % Sxc.k NeedS)).one = true := by
 have : x % Sxc.k NeedS < 2 := Nat.mod_lt _ (by decide)
 match x % Sxc.k NeedS, this with
 | 0, _ => rfl
 | 1, _ => rfl
set_option maxRecDepth 100000 in
theorem slices_CloneN_R {xs : List NeedS} (hl : xs.length ≤ 1000000000) :
  SpecR Tryz.prog 110 [avL xs] xs.length 2 (rowL xs) 125 := by
 refine SpecR.of_VC Tryz.func110 rfl Tryz.ntmps110 (Nle rfl) (flat_nd xs) fun w A hB => ?_
 have hnew : True := trivial
 refine VC.sr ?_
 refine VO.ma rfl rfl rfl rfl ?_
 refine VO.nil ?_
 refine VC.seq ?_
 refine VC.sr ?_
 refine VO.mv rfl rfl rfl rfl ?_
 refine VO.op rfl (OpE.eqNil rfl rfl Tryz.underlying109 rfl ?_)
 intro b4 hb4
 refine VO.nil ?_
 refine VC.cond rfl (fun h0b => ?_) (fun h0b => ?_)
 ·have h0 := h0b
  try simp only [qqT, qqF, qqN, qqM, qqL, qqE] at h0
  refine VC.sr ?_
  refine VO.ma rfl rfl rfl rfl ?_
  refine VO.nil ?_
  obtain rfl : xs = [] := List.eq_nil_of_length_eq_zero (hb4 h0)
  refine VC.le _ (Le.nilRow 2 125) ?_
  refine VC.ret ?_
  exact Exists.intro _ (And.intro (RetV.one Tryz.results110 (ResV.tmp rfl)) (⟨_, rfl, List.Mem.head _⟩))
 ·have h0 := h0b
  try simp only [qqT, qqF, qqN, qqM, qqL, qqE] at h0
  refine VC.skip ?_
  refine VC.sr ?_
  refine VO.op rfl (OpE.buildSlice0 rfl hB rfl Tryz.underlying109 Tryz.sizeOf125 ?_)
  intro g5
  refine VO.mv rfl rfl rfl rfl ?_
  refine VO.op rfl (OpE.appendP (i := 0) rfl hB rfl Tryz.underlying109 (infoOf Tryz.t125 2 (by kernel_rfl) rfl rfl) rfl (by decide) (by decide) rfl rfl (.im rfl) (nd_one xs) (by omega) (tab_L xs) (fun _ _ => trivial) ?_)
  intro u7
  refine VO.ma rfl rfl rfl rfl ?_
  refine VO.nil ?_
  rw [Nat.zero_add]
  refine VC.ret ?_
  exact Exists.intro _ (And.intro (RetV.one Tryz.results110 (ResV.tmp rfl)) (⟨_, rfl, List.Mem.head _⟩))
set_option maxRecDepth 100000 in
set_option maxHeartbeats 40000000 in
theorem paces_T {p : Nat} {L : List Int}  :
    SpecT Tryz.prog (TT p L) (fun b => b = p) 15 [sp p] 100 (fun y => ∃ l : List PaceS, (l.length ≤ 3 ∧ ∀ x ∈ l, PcOk 5 x) ∧ y = avL l) := by
  refine SpecT.of_VC Tryz.func15 rfl Tryz.ntmps15 (Nle rfl) (low := (fun b => b ≤ p)) (fun w A k h => h.ok) fun w A k hk hB => ?_
  have hnew : True := trivial
  refine VC.sr ?_
  refine VO.ma rfl rfl rfl rfl ?_
  refine VO.nil ?_
  refine VC.sr ?_
  refine VO.ma rfl rfl rfl rfl ?_
  refine VO.nil ?_
  refine VC.seq ?_
  refine VC.sr ?_
  refine VO.op rfl (OpE.buildSlice (zc := #[.string ⟨#[]⟩, .string ⟨#[]⟩, .string ⟨#[]⟩]) rfl hB rfl Tryz.underlying95 Tryz.sizeOf9 Tryz.zeroValue9 (by decide) (by decide) (by kernel_rfl) rfl rfl ?_)
  refine VO.le _ (Le.recast (t := 10) (y := avStrs k3P) rfl (fun w Z u h => Rep.strs (xs := k3P) rfl h)) ?_
  refine VO.val rfl rfl (OpV.len_im rfl Tryz.underlying95 rfl) ?_
  refine VO.mv rfl rfl rfl rfl ?_
  refine VO.nil ?_
  refine VC.block ?_
  refine VC.le _ (Le.nilRow 3 142) ?_
  refine VC.loopK [(0, _)] ⟨rfl, trivial⟩ ({t : Value × List PaceS × Nat // t.2.2 ≤ 3 ∧ t.2.1.length ≤ t.2.2 ∧ ∀ x ∈ t.2.1, PcOk 4 x}) (fun (iZ : {t : Value × List PaceS × Nat // t.2.2 ≤ 3 ∧ t.2.1.length ≤ t.2.2 ∧ ∀ x ∈ t.2.1, PcOk 4 x}) => match iZ with | ⟨⟨u, l, q⟩, hq, hl, hok⟩ => [(3, .v u), (10, avStrs k3P), (11, avI 3), (12, avI (q : Int))]) (fun (iZ : {t : Value × List PaceS × Nat // t.2.2 ≤ 3 ∧ t.2.1.length ≤ t.2.2 ∧ ∀ x ∈ t.2.1, PcOk 4 x}) => match iZ with | ⟨⟨u, l, q⟩, hq, hl, hok⟩ => [.row u l.length 3 (rowL l) 142]) (fun (iZ : {t : Value × List PaceS × Nat // t.2.2 ≤ 3 ∧ t.2.1.length ≤ t.2.2 ∧ ∀ x ∈ t.2.1, PcOk 4 x}) => match iZ with | ⟨⟨u, l, q⟩, hq, hl, hok⟩ => k + 12 * q) (fun (iZ : {t : Value × List PaceS × Nat // t.2.2 ≤ 3 ∧ t.2.1.length ≤ t.2.2 ∧ ∀ x ∈ t.2.1, PcOk 4 x}) => match iZ with | ⟨⟨u, l, q⟩, hq, hl, hok⟩ => 3 - q) ⟨(.slice none 0 0, [], 0), by decide, by decide, fun x h => by simp at h⟩ (Le.mk hB [0] ⟨rfl, rfl, rfl, rfl, rfl, trivial⟩ rfl rfl (show k ≤ k + 12 * 0 by omega)) ?_
  rintro ⟨⟨u, l, q⟩, hq, hl, hok⟩
  show VC _ _ _ _ ⟨[(3, .v u), (10, avStrs k3P), (11, avI 3), (12, avI (q : Int))] ++ [(0, _)], [.row u l.length 3 (rowL l) 142], k + 12 * q⟩
  simp only at hq hl hok
  refine VC.sr ?_
  refine VO.val rfl rfl (OpV.lss rfl rfl rfl) ?_
  refine VO.nil ?_
  refine VC.seq ?_
  refine VC.cond rfl (fun aH1b => ?_) (fun aH1b => ?_)
  · have aH1 := aH1b
    try simp only [qqT, qqF, qqN, qqM, qqL, qqE] at aH1
    refine VC.skip ?_
    refine VC.seq ?_
    refine VC.block ?_
    refine VC.sr ?_
    refine VO.val rfl rfl (OpV.indexAddr_1 rfl Tryz.underlying95 Tryz.sizeOf9 rfl rfl rfl (by show _ < 3; omega)) ?_
    refine VO.val rfl rfl (OpV.load_at rfl hB OutW.no Tryz.isAgg9 rfl rfl) ?_
    refine VO.ma rfl rfl rfl rfl ?_
    refine VO.nil ?_
    refine VC.seq ?_
    refine VC.sr ?_
    refine VO.mv rfl rfl rfl rfl ?_
    refine VO.op rfl (OpE.callT' (k + 12 * q) rfl rfl hB rfl Tryz.call17 rfl ((flip_T (by omega))) (by omega) ?_)
    rintro _ ⟨r17, rfl⟩
    refine VO.nil ?_
    refine VC.cond rfl (fun aH2b => ?_) (fun aH2b => ?_)
    · have aH2 := aH2b
      try simp only [qqT, qqF, qqN, qqM, qqL, qqE] at aH2
      refine VC.exit ?_
      refine VC.region ?_
      refine VO.val rfl rfl (OpV.add rfl rfl rfl (by unfold fits; omega)) ?_
      refine VO.mv rfl rfl rfl rfl ?_
      refine VO.nil ?_
      exact Exists.intro (⟨(u, l, q + 1), by show q + 1 ≤ 3; omega, by show l.length ≤ q + 1; omega, hok⟩) (And.intro (Le.mk hB [0] ⟨rfl, rfl, rfl, rfl, rfl, trivial⟩ rfl (by dsimp only; first | rfl | (rw [List.length_append]; rfl)) (show k + 12 * q + 1 ≤ k + 12 * (q + 1) by omega)) (by first | omega | (show _ < _; omega) | (simp only []; omega)))
    · have aH2 := aH2b
      try simp only [qqT, qqF, qqN, qqM, qqL, qqE] at aH2
      refine VC.skip ?_
      refine VC.sr ?_
      refine VO.mv rfl rfl rfl rfl ?_
      refine VO.mv rfl rfl rfl rfl ?_
      refine VO.op rfl (OpE.buildSlice (zc := #[.int .i64 0, .int .i64 0, .int .i64 0, .int .i64 0]) rfl hB rfl Tryz.underlying22 Tryz.sizeOf3 Tryz.zeroValue3 (by decide) (by decide) (by kernel_rfl) rfl rfl ?_)
      refine VO.op rfl (OpE.callT' (k + 12 * q + 1) rfl rfl hB rfl Tryz.call21 rfl (pick_X (by rfl) (by decide) (by decide) (by repeat (first | exact AllX.nil | refine AllX.cons ?_))) (by omega) ?_)
      rintro _ ⟨r21, rfl⟩
      refine VO.val rfl rfl (OpV.build (pls := #[(0, 1), (1, 1), (2, 1)]) rfl Tryz.zeroValue142 Tryz.underlying142 (fun w => by kernel_rfl) rfl rfl) ?_
      refine VO.op rfl (OpE.alloc rfl hB rfl Tryz.zeroValue142 rfl ?_)
      intro g6
      refine VO.op rfl (OpE.store (i := 1) rfl hB rfl Tryz.sizeOf142 rfl rfl rfl rfl rfl rfl (Nle rfl) trivial ?_)
      refine VO.nil ?_
      refine VC.seq ?_
      refine VC.sr ?_
      refine VO.op rfl (OpE.buildSlice (zc := #[.string ⟨#[]⟩, .string ⟨#[]⟩, .string ⟨#[]⟩, .string ⟨#[]⟩]) rfl hB rfl Tryz.underlying95 Tryz.sizeOf9 Tryz.zeroValue9 (by decide) (by decide) (by kernel_rfl) rfl rfl ?_)
      refine VO.le _ (Le.recast (t := 23) (y := avStrs k4P) rfl (fun w Z u h => Rep.strs (xs := k4P) rfl h)) ?_
      refine VO.val rfl rfl (OpV.len_im rfl Tryz.underlying95 rfl) ?_
      refine VO.mv rfl rfl rfl rfl ?_
      refine VO.nil ?_
      refine VC.block ?_
      refine VC.le _ (Le.nilRow 2 125) ?_
      refine VC.loopK [(0, _)] ⟨rfl, trivial⟩ ({t : Option Addr × Nat × List NeedS × Nat // t.2.2.2 ≤ 4 ∧ NsOk t.2.2.2 t.2.2.1}) (fun (iZ : {t : Option Addr × Nat × List NeedS × Nat // t.2.2.2 ≤ 4 ∧ NsOk t.2.2.2 t.2.2.1}) => match iZ with | ⟨⟨b, c, ns, r⟩, hr, hns⟩ => [(3, .v u), (6, .v (.pointer (some ⟨g6, 0, none⟩))), (10, avStrs k3P), (11, avI 3), (12, avI (q : Int)), (23, avStrs k4P), (24, avI 4), (25, avI (r : Int))]) (fun (iZ : {t : Option Addr × Nat × List NeedS × Nat // t.2.2.2 ≤ 4 ∧ NsOk t.2.2.2 t.2.2.1}) => match iZ with | ⟨⟨b, c, ns, r⟩, hr, hns⟩ => [.row u l.length 3 (rowL l) 142, .box g6 ⟨[avS (k3P.getD q ByteArray.empty), avI r21, .v (.slice b ns.length c)], 142, 3⟩, .row (.slice b ns.length c) ns.length 2 (rowL ns) 125]) (fun (iZ : {t : Option Addr × Nat × List NeedS × Nat // t.2.2.2 ≤ 4 ∧ NsOk t.2.2.2 t.2.2.1}) => match iZ with | ⟨⟨b, c, ns, r⟩, hr, hns⟩ => k + 12 * q + 2 + 2 * r) (fun (iZ : {t : Option Addr × Nat × List NeedS × Nat // t.2.2.2 ≤ 4 ∧ NsOk t.2.2.2 t.2.2.1}) => match iZ with | ⟨⟨b, c, ns, r⟩, hr, hns⟩ => 4 - r) ⟨(none, 0, [], 0), by decide, by decide, fun x h => by simp at h⟩ (Le.mk hB [0, 1, 2] ⟨rfl, rfl, rfl, rfl, rfl, rfl, rfl, rfl, rfl, trivial⟩ rfl rfl (show k + 12 * q + 1 + 1 ≤ k + 12 * q + 2 + 2 * 0 by omega)) ?_
      rintro ⟨⟨b, c, ns, r⟩, hr, hns⟩
      show VC _ _ _ _ ⟨[(3, .v u), (6, .v (.pointer (some ⟨g6, 0, none⟩))), (10, avStrs k3P), (11, avI 3), (12, avI (q : Int)), (23, avStrs k4P), (24, avI 4), (25, avI (r : Int))] ++ [(0, _)], [.row u l.length 3 (rowL l) 142, .box g6 ⟨[avS (k3P.getD q ByteArray.empty), avI r21, .v (.slice b ns.length c)], 142, 3⟩, .row (.slice b ns.length c) ns.length 2 (rowL ns) 125], k + 12 * q + 2 + 2 * r⟩
      simp only at hr hns
      have hnl := hns.1
      refine VC.sr ?_
      refine VO.val rfl rfl (OpV.lss rfl rfl rfl) ?_
      refine VO.nil ?_
      refine VC.seq ?_
      refine VC.cond rfl (fun aH3b => ?_) (fun aH3b => ?_)
      · have aH3 := aH3b
        try simp only [qqT, qqF, qqN, qqM, qqL, qqE] at aH3
        refine VC.skip ?_
        refine VC.seq ?_
        refine VC.block ?_
        refine VC.sr ?_
        refine VO.val rfl rfl (OpV.indexAddr_1 rfl Tryz.underlying95 Tryz.sizeOf9 rfl rfl rfl (by show _ < 4; omega)) ?_
        refine VO.val rfl rfl (OpV.load_at rfl hB OutW.no Tryz.isAgg9 rfl rfl) ?_
        refine VO.ma rfl rfl rfl rfl ?_
        refine VO.nil ?_
        refine VC.sr ?_
        refine VO.mv rfl rfl rfl rfl ?_
        refine VO.op rfl (OpE.callT' (k + 12 * q + 2 + 2 * r) rfl rfl hB rfl Tryz.call17 rfl ((flip_T (by omega))) (by omega) ?_)
        rintro _ ⟨r30, rfl⟩
        refine VO.nil ?_
        refine VC.cond rfl (fun aH4b => ?_) (fun aH4b => ?_)
        · have aH4 := aH4b
          try simp only [qqT, qqF, qqN, qqM, qqL, qqE] at aH4
          refine VC.draw (fun j b => (j = 9 ∧ b = g6) ∨ (j = 7 ∧ b ≠ g6)) hB (by kernel_rfl) ?_
          refine VA.take (i := 0) rfl (by decide +kernel) (by decide +kernel) (by decide +kernel) rfl rfl (OpV.fieldAddrO 2 rfl Tryz.underlying142 rfl rfl Tryz.sizeOf109 rfl) ?_
          refine VA.take (i := 1) rfl (by decide +kernel) (by decide +kernel) (by decide +kernel) rfl rfl (OpV.load_own (i := 1) rfl hB Tryz.isAgg109 rfl rfl rfl (Wi.notN (by decide +kernel))) ?_
          refine VA.take (i := 2) rfl (by decide +kernel) (by decide +kernel) (by decide +kernel) rfl rfl (OpV.move (.inl rfl) rfl) ?_
          refine VA.take (i := 3) rfl (by decide +kernel) (by decide +kernel) (by decide +kernel) rfl rfl (OpV.move (.inl rfl) rfl) ?_
          refine VA.all (rs := [4]) (by decide +kernel) (by decide) ?_
          refine ⟨⟨_, rfl, .inl rfl, ?_⟩, trivial⟩
          refine OpE.callT' (k + 12 * q + 2 + 2 * r + 1) rfl rfl hB rfl Tryz.call40 rfl ((range_T (by omega) (by omega) (by omega))) (by omega) ?_
          rintro _ ⟨r35, hr35, rfl⟩
          refine VA.take (i := 5) rfl (by decide +kernel) (by decide +kernel) (by decide +kernel) rfl rfl (OpV.build (pls := #[(0, 1), (1, 1)]) rfl Tryz.zeroValue125 Tryz.underlying125 (fun w => by kernel_rfl) rfl rfl) ?_
          refine VA.all (rs := [6]) (by decide +kernel) (by decide) ?_
          refine ⟨⟨_, rfl, .inl rfl, ?_⟩, trivial⟩
          refine OpE.buildSlice (zc := #[.string ⟨#[]⟩, .int .i64 0]) rfl hB rfl Tryz.underlying109 Tryz.sizeOf125 Tryz.zeroValue125 (by decide) (by decide) (by kernel_rfl) rfl rfl ?_
          refine VA.all (rs := [7]) (by decide +kernel) (by decide) ?_
          refine ⟨⟨_, rfl, .inl rfl, ?_⟩, trivial⟩
          refine OpE.hap (fun hap => ?_)
          refine OpE.append1S (i := 2) rfl hB rfl Tryz.underlying109 (infoOf Tryz.t125 2 (by kernel_rfl) rfl rfl) rfl (by decide) (by decide) rfl rfl rfl rfl (rowL_snoc ns (⟨k4P.getD r ByteArray.empty, r35⟩ : NeedS)) (by omega) (fun g' hg => .inr ⟨rfl, apart_ne hap (i := 2) (j := 1) hg rfl (by decide)⟩) ?_
          intro b2 c2
          refine VA.take (i := 8) rfl (by decide +kernel) (by decide +kernel) (by decide +kernel) rfl rfl (OpV.fieldAddrO 2 rfl Tryz.underlying142 rfl rfl Tryz.sizeOf109 rfl) ?_
          refine VA.all (rs := [9]) (by decide +kernel) (by decide) ?_
          refine ⟨⟨_, rfl, .inl rfl, ?_⟩, trivial⟩
          refine OpE.hap (fun hap => ?_)
          refine OpE.store (i := 1) rfl hB rfl Tryz.sizeOf109 rfl rfl rfl rfl rfl rfl (Nle rfl) (by first | exact .inl ⟨rfl, rfl⟩ | (refine ⟨by first | exact rfl | exact .inl rfl | exact .inr rfl, ?_⟩; repeat (first | (first | exact apart_ne hap (i := 2) (j := 0) rfl rfl (by decide) | exact apart_ne hap (i := 2) (j := 1) rfl rfl (by decide) | exact apart_ne hap (i := 1) (j := 0) rfl rfl (by decide) | exact apart_ne hap (i := 1) (j := 2) rfl rfl (by decide) | exact apart_ne hap (i := 0) (j := 1) rfl rfl (by decide) | exact apart_ne hap (i := 0) (j := 2) rfl rfl (by decide)) | refine And.intro ?_ ?_))) ?_
          refine VA.done (by decide +kernel) ?_
          refine VC.region ?_
          refine VO.val rfl rfl (OpV.add rfl rfl rfl (by unfold fits; omega)) ?_
          refine VO.mv rfl rfl rfl rfl ?_
          refine VO.nil ?_
          exact Exists.intro (⟨(b2, c2, ns ++ [⟨k4P.getD r ByteArray.empty, r35⟩], r + 1), by show r + 1 ≤ 4; omega, hns.snoc (k4P_size r)⟩) (And.intro (Le.mk hB [0, 1, 2] ⟨rfl, rfl, rfl, rfl, rfl, rfl, rfl, rfl, rfl, trivial⟩ rfl (by dsimp only; first | rfl | (rw [List.length_append]; rfl)) (show k + 12 * q + 2 + 2 * r + 1 + 1 ≤ k + 12 * q + 2 + 2 * (r + 1) by omega)) (by first | omega | (show _ < _; omega) | (simp only []; omega)))
        · have aH4 := aH4b
          try simp only [qqT, qqF, qqN, qqM, qqL, qqE] at aH4
          refine VC.skip ?_
          refine VC.region ?_
          refine VO.val rfl rfl (OpV.add rfl rfl rfl (by unfold fits; omega)) ?_
          refine VO.mv rfl rfl rfl rfl ?_
          refine VO.nil ?_
          exact Exists.intro (⟨(b, c, ns, r + 1), by show r + 1 ≤ 4; omega, hns.mono (by show r ≤ r + 1; omega)⟩) (And.intro (Le.mk hB [0, 1, 2] ⟨rfl, rfl, rfl, rfl, rfl, rfl, rfl, rfl, rfl, trivial⟩ rfl (by dsimp only; first | rfl | (rw [List.length_append]; rfl)) (show k + 12 * q + 2 + 2 * r + 1 ≤ k + 12 * q + 2 + 2 * (r + 1) by omega)) (by first | omega | (show _ < _; omega) | (simp only []; omega)))
      · have aH3 := aH3b
        try simp only [qqT, qqF, qqN, qqM, qqL, qqE] at aH3
        refine VC.exit ?_
        refine VC.le _ (Le.cellRow (i := 1) (k := 2) (j := 2) (y := avL ns) hB rfl rfl rfl (by omega) (fun w Z u h => Rep.rowL (xs := ns) rfl h)) ?_
        refine VC.region ?_
        refine VO.mv rfl rfl rfl rfl ?_
        refine VO.val rfl rfl (OpV.loadK_own (i := 1) rfl hB Tryz.isAgg142 Tryz.sizeOf142 rfl rfl rfl (fun h => h)) ?_
        refine VO.op rfl (OpE.buildSlice (zc := #[.string ⟨#[]⟩, .int .i64 0, .slice none 0 0]) rfl hB rfl Tryz.underlying26 Tryz.sizeOf142 Tryz.zeroValue142 (by decide) (by decide) (by kernel_rfl) rfl rfl ?_)
        refine VO.op rfl (OpE.append1 (i := 0) rfl hB rfl Tryz.underlying26 (infoOf Tryz.t142 3 (by kernel_rfl) rfl rfl) rfl (by decide) (by decide) rfl rfl rfl rfl (rowL_snoc l (⟨k3P.getD q ByteArray.empty, r21, ns⟩ : PaceS)) (by omega) (fun _ _ => trivial) ?_)
        intro u2
        refine VO.ma rfl rfl rfl rfl ?_
        refine VO.nil ?_
        refine VC.region ?_
        refine VO.val rfl rfl (OpV.add rfl rfl rfl (by unfold fits; omega)) ?_
        refine VO.mv rfl rfl rfl rfl ?_
        refine VO.nil ?_
        exact Exists.intro (⟨(u2, l ++ [⟨k3P.getD q ByteArray.empty, r21, ns⟩], q + 1), by show q + 1 ≤ 3; omega, by show (l ++ [_]).length ≤ q + 1; simp; omega, fun x hx => by rcases List.mem_append.1 hx with hx | hx; exact hok x hx; (simp at hx; subst hx; exact ⟨k3P_size q, hns.mono (by omega)⟩)⟩) (And.intro (Le.mk hB [0] ⟨rfl, rfl, rfl, rfl, rfl, trivial⟩ rfl (by dsimp only; first | rfl | (rw [List.length_append]; rfl)) (show k + 12 * q + 2 + 2 * r ≤ k + 12 * (q + 1) by omega)) (by first | omega | (show _ < _; omega) | (simp only []; omega)))
  · have aH1 := aH1b
    try simp only [qqT, qqF, qqN, qqM, qqL, qqE] at aH1
    refine VC.exit ?_
    refine VC.seq ?_
    refine VC.sr ?_
    refine VO.mv rfl rfl rfl rfl ?_
    refine VO.val rfl rfl (OpV.len_row (i := 0) rfl Tryz.underlying26 rfl rfl) ?_
    refine VO.val rfl rfl (OpV.gtr rfl rfl rfl) ?_
    refine VO.mv rfl rfl rfl rfl ?_
    refine VO.opG rfl rfl rfl rfl (fun aK5b => ?_) (fun aK5b => ?_)
    · replace aK5b : _ = true := aK5b
      have aK5 := aK5b
      try simp only [qqT, qqF, qqN, qqM, qqL, qqE] at aK5
      refine OpE.val (W := NoB) (OpV.move (.inl rfl) rfl) rfl ?_
      refine VO.opY rfl rfl rfl rfl aK5b ?_
      refine OpE.callT' (k + 12 * q) rfl rfl hB rfl Tryz.call17 rfl ((flip_T (by omega))) (by omega) ?_
      rintro _ ⟨r51, rfl⟩
      refine VO.val rfl rfl (OpV.pickT rfl rfl rfl rfl aK5b) ?_
      refine VO.nil ?_
      refine VC.cond rfl (fun aH6b => ?_) (fun aH6b => ?_)
      · have aH6 := aH6b
        try simp only [qqT, qqF, qqN, qqM, qqL, qqE] at aH6
        refine VC.seq ?_
        refine VC.asBox (i := 0) rfl (by omega) (fun gr cap hu hcap hmx => ?_)
        subst hu
        refine VC.region ?_
        refine VO.mv rfl rfl rfl rfl ?_
        refine VO.mv rfl rfl rfl rfl ?_
        refine VO.mv rfl rfl rfl rfl ?_
        refine VO.val rfl rfl (OpV.len_v rfl Tryz.underlying26 rfl) ?_
        refine VO.op rfl (OpE.callT' (k + 12 * q + 1) rfl rfl hB rfl Tryz.call42 rfl ((next_T (by omega))) (by omega) ?_)
        rintro _ ⟨r57, hr57, rfl⟩
        obtain ⟨i, rfl⟩ : ∃ i : Nat, r57 = i := ⟨r57.toNat, by omega⟩
        refine VO.val rfl rfl (OpV.indexAddr_q rfl Tryz.underlying26 Tryz.sizeOf142 rfl rfl rfl (by omega)) ?_
        refine VO.ma rfl rfl rfl rfl ?_
        refine VO.nil ?_
        refine VC.seq ?_
        refine VC.draw (fun j b => j ∈ [18, 21] ∧ b = gr) hB (by kernel_rfl) ?_
        refine VA.take (i := 0) rfl (by decide +kernel) (by decide +kernel) (by decide +kernel) rfl rfl (OpV.move (.inl rfl) rfl) ?_
        refine VA.take (i := 1) rfl (by decide +kernel) (by decide +kernel) (by decide +kernel) rfl rfl (OpV.move (.inl rfl) rfl) ?_
        refine VA.take (i := 2) rfl (by decide +kernel) (by decide +kernel) (by decide +kernel) rfl rfl (OpV.move (.inl rfl) rfl) ?_
        refine VA.take (i := 3) rfl (by decide +kernel) (by decide +kernel) (by decide +kernel) rfl rfl (OpV.move (.inl rfl) rfl) ?_
        refine VA.take (i := 4) rfl (by decide +kernel) (by decide +kernel) (by decide +kernel) rfl rfl (OpV.nilCheck rfl rfl) ?_
        refine VA.take (i := 5) rfl (by decide +kernel) (by decide +kernel) (by decide +kernel) rfl rfl (OpV.fieldAddrO 0 rfl Tryz.underlying142 rfl rfl Tryz.sizeOf9 rfl) ?_
        refine VA.take (i := 6) rfl (by decide +kernel) (by decide +kernel) (by decide +kernel) rfl rfl (OpV.load_own (i := 0) rfl hB Tryz.isAgg9 rfl rfl (rowL_at rfl (by omega) (by decide)) (Wi.notD (by decide +kernel))) ?_
        refine VA.take (i := 9) rfl (by decide +kernel) (by decide +kernel) (by decide +kernel) rfl rfl (OpV.move (.inl rfl) rfl) ?_
        refine VA.take (i := 10) rfl (by decide +kernel) (by decide +kernel) (by decide +kernel) rfl rfl (OpV.move (.inl rfl) rfl) ?_
        refine VA.take (i := 11) rfl (by decide +kernel) (by decide +kernel) (by decide +kernel) rfl rfl (OpV.nilCheck rfl rfl) ?_
        refine VA.take (i := 12) rfl (by decide +kernel) (by decide +kernel) (by decide +kernel) rfl rfl (OpV.fieldAddrO 1 rfl Tryz.underlying142 rfl rfl Tryz.sizeOf3 rfl) ?_
        refine VA.take (i := 13) rfl (by decide +kernel) (by decide +kernel) (by decide +kernel) rfl rfl (OpV.load_own (i := 0) rfl hB Tryz.isAgg3 rfl rfl (rowL_at rfl (by omega) (by decide)) (Wi.notD (by decide +kernel))) ?_
        refine VA.all (rs := [7, 14]) (by decide +kernel) (by decide) ?_
        refine ⟨⟨_, rfl, .inl rfl, ?_⟩, ⟨_, rfl, .inl rfl, ?_⟩, trivial⟩
        ·
          refine OpE.buildSlice (zc := #[.string ⟨#[]⟩, .string ⟨#[]⟩, .string ⟨#[]⟩]) rfl hB rfl Tryz.underlying95 Tryz.sizeOf9 Tryz.zeroValue9 (by decide) (by decide) (by kernel_rfl) rfl rfl ?_
          refine VA.all (rs := [8, 14]) (by decide +kernel) (by decide) ?_
          refine ⟨⟨_, rfl, .inl rfl, ?_⟩, ⟨_, rfl, .inl rfl, ?_⟩, trivial⟩
          ·
            refine OpE.callT' (k + 12 * q + 1 + 1) rfl rfl hB rfl Tryz.call32 rfl (some_T 1000 (by rfl) (by decide) (by decide) (AllS.cons (PcOk.getD hok i).1 (AllS.cons (by decide) (AllS.cons (by decide) AllS.nil)))) (by omega) ?_
            rintro _ ⟨r67, hr67, rfl⟩
            refine VA.all (rs := [14]) (by decide +kernel) (by decide) ?_
            refine ⟨⟨_, rfl, .inl rfl, ?_⟩, trivial⟩
            refine OpE.buildSlice (zc := #[.int .i64 0, .int .i64 0, .int .i64 0]) rfl hB rfl Tryz.underlying22 Tryz.sizeOf3 Tryz.zeroValue3 (by decide) (by decide) (by kernel_rfl) rfl rfl ?_
            refine VA.all (rs := [15]) (by decide +kernel) (by decide) ?_
            refine ⟨⟨_, rfl, .inl rfl, ?_⟩, trivial⟩
            refine OpE.callT' (k + 12 * q + 1 + 1 + 1) rfl rfl hB rfl Tryz.call21 rfl (pick_X (by rfl) (by decide) (by decide) (by repeat (first | exact AllX.nil | refine AllX.cons ?_))) (by omega) ?_
            rintro _ ⟨r74, rfl⟩
            refine VA.take (i := 16) rfl (by decide +kernel) (by decide +kernel) (by decide +kernel) rfl rfl (OpV.nilCheck rfl rfl) ?_
            refine VA.take (i := 17) rfl (by decide +kernel) (by decide +kernel) (by decide +kernel) rfl rfl (OpV.fieldAddrO 0 rfl Tryz.underlying142 rfl rfl Tryz.sizeOf9 rfl) ?_
            refine VA.all (rs := [18]) (by decide +kernel) (by decide) ?_
            refine ⟨⟨_, rfl, .inl rfl, ?_⟩, trivial⟩
            refine OpE.store1 (i := 0) rfl hB rfl Tryz.sizeOf9 rfl rfl rfl rfl rfl rfl (rowL_in rfl (by omega) (by decide)) (rowL_set (x := ({l.getD i default with product := r67} : PaceS)) rfl (by omega) (by decide) rfl (fun i hi hn => pc_upd (by simp) (by simp) (by simp) i hi hn)) (by first | exact ⟨rfl, rfl⟩ | exact .inl ⟨rfl, rfl⟩ | exact .inr ⟨rfl, rfl⟩ | exact ⟨rfl, trivial⟩ | exact .inl ⟨rfl, trivial⟩ | exact .inr ⟨rfl, trivial⟩ | exact ⟨by decide, rfl⟩) ?_
            refine VA.take (i := 19) rfl (by decide +kernel) (by decide +kernel) (by decide +kernel) rfl rfl (OpV.nilCheck rfl rfl) ?_
            refine VA.take (i := 20) rfl (by decide +kernel) (by decide +kernel) (by decide +kernel) rfl rfl (OpV.fieldAddrO 1 rfl Tryz.underlying142 rfl rfl Tryz.sizeOf3 rfl) ?_
            refine VA.all (rs := [21]) (by decide +kernel) (by decide) ?_
            refine ⟨⟨_, rfl, .inl rfl, ?_⟩, trivial⟩
            refine OpE.store1 (i := 0) rfl hB rfl Tryz.sizeOf3 rfl rfl rfl rfl rfl rfl (rowL_in rfl (by rw [List.length_set]; omega) (by decide)) (rowL_set (x := ({l.getD i default with product := r67, cycle := r74} : PaceS)) rfl (by rw [List.length_set]; omega) (by decide) rfl (fun i hi hn => by rw [getSetP (by omega)]; exact pc_upd (by simp) (by simp) (by simp) i hi hn)) (by first | exact ⟨rfl, rfl⟩ | exact .inl ⟨rfl, rfl⟩ | exact .inr ⟨rfl, rfl⟩ | exact ⟨rfl, trivial⟩ | exact .inl ⟨rfl, trivial⟩ | exact .inr ⟨rfl, trivial⟩ | exact ⟨by decide, rfl⟩) ?_
            refine VA.done (by decide +kernel) ?_
            refine VC.seq ?_
            obtain ⟨l2, e2, h2, ok2⟩ : ∃ l2 : List PaceS, l2 = (l.set i ({l.getD i default with product := r67} : PaceS)).set i ({l.getD i default with product := r67, cycle := r74} : PaceS) ∧ l2.length = l.length ∧ ∀ x ∈ l2, PcOk 4 x := ⟨_, rfl, by simp, PcOk.setD (PcOk.setD hok i (x := ⟨r67, (l.getD i default).cycle, (l.getD i default).needs⟩) ⟨hr67, (PcOk.getD hok i).2⟩) i (x := ⟨r67, r74, (l.getD i default).needs⟩) ⟨hr67, (PcOk.getD hok i).2⟩⟩
            refine VC.le _ (Le.pickH (hp := [.box gr ⟨rowL l2, 142, cap * 3⟩]) [0] rfl (by rw [e2]; rfl)) ?_
            refine VC.region ?_
            refine VO.mv rfl rfl rfl rfl ?_
            refine VO.op rfl (OpE.callT' (k + 12 * q + 1 + 1 + 1 + 1) rfl rfl hB rfl Tryz.call17 rfl ((flip_T (by omega))) (by omega) ?_)
            rintro _ ⟨r80, rfl⟩
            refine VO.nil ?_
            refine VC.cond rfl (fun aH7b => ?_) (fun aH7b => ?_)
            · have aH7 := aH7b
              try simp only [qqT, qqF, qqN, qqM, qqL, qqE] at aH7
              refine VC.region ?_
              refine VO.mv rfl rfl rfl rfl ?_
              refine VO.mv rfl rfl rfl rfl ?_
              refine VO.val rfl rfl (OpV.nilCheck rfl rfl) ?_
              refine VO.val rfl rfl (OpV.fieldAddrO 2 rfl Tryz.underlying142 rfl rfl Tryz.sizeOf109 rfl) ?_
              refine VO.val rfl rfl (OpV.load_own (i := 0) rfl hB Tryz.isAgg109 rfl rfl (rowL_at rfl (by first | omega | (simp only [List.length_set]; omega)) (by decide)) (fun h => h)) ?_
              refine VO.op rfl (OpE.callR rfl hB rfl Tryz.call110 (slices_CloneN_R (by have := (PcOk.getD ok2 i).2.1; omega)) (ArgsP.cons (ArgP.ev rfl) (ArgsP.nil)) ?_)
              intro u86
              refine VO.mv rfl rfl rfl rfl ?_
              refine VO.op rfl (OpE.buildSlice (zc := #[.string ⟨#[]⟩, .string ⟨#[]⟩]) rfl hB rfl Tryz.underlying95 Tryz.sizeOf9 Tryz.zeroValue9 (by decide) (by decide) (by kernel_rfl) rfl rfl ?_)
              refine VO.op rfl (OpE.callT' (k + 12 * q + 1 + 1 + 1 + 1 + 1) rfl rfl hB rfl Tryz.call32 rfl ((some_T 1000 (by rfl) (by decide) (by decide) (by repeat (first | exact AllS.nil | refine AllS.cons (by first | decide | omega) ?_)))) (by omega) ?_)
              rintro _ ⟨r89, hr89, rfl⟩
              refine VO.mv rfl rfl rfl rfl ?_
              refine VO.op rfl (OpE.buildSlice (zc := #[.int .i64 0, .int .i64 0]) rfl hB rfl Tryz.underlying22 Tryz.sizeOf3 Tryz.zeroValue3 (by decide) (by decide) (by kernel_rfl) rfl rfl ?_)
              refine VO.op rfl (OpE.callT' (k + 12 * q + 1 + 1 + 1 + 1 + 1 + 1) rfl rfl hB rfl Tryz.call21 rfl ((pick_T (-100000000) 100000000 (by rfl) (by decide) (by decide) (by repeat (first | exact AllI.nil | refine AllI.cons (by omega) ?_)))) (by omega) ?_)
              rintro _ ⟨r92, hr92, rfl⟩
              refine VO.val rfl rfl (OpV.build (pls := #[(0, 1), (1, 1)]) rfl Tryz.zeroValue125 Tryz.underlying125 (fun w => by kernel_rfl) rfl rfl) ?_
              refine VO.op rfl (OpE.buildSlice (zc := #[.string ⟨#[]⟩, .int .i64 0]) rfl hB rfl Tryz.underlying109 Tryz.sizeOf125 Tryz.zeroValue125 (by decide) (by decide) (by kernel_rfl) rfl rfl ?_)
              refine VO.op rfl (OpE.append1 (i := 1) rfl hB rfl Tryz.underlying109 (infoOf Tryz.t125 2 (by kernel_rfl) rfl rfl) rfl (by decide) (by decide) rfl rfl rfl rfl (rowL_snoc (l2.getD i default).needs (⟨r89, r92⟩ : NeedS)) (by have := (PcOk.getD ok2 i).2.1; omega) (fun _ _ => trivial) ?_)
              intro u95
              refine VO.le _ (Le.rowT (t := 95) (xs := (l2.getD i default).needs ++ [(⟨r89, r92⟩ : NeedS)]) (i := 1) hB hnew rfl rfl (by simp)) ?_
              refine VO.val rfl rfl (OpV.nilCheck rfl rfl) ?_
              refine VO.val rfl rfl (OpV.fieldAddrO 2 rfl Tryz.underlying142 rfl rfl Tryz.sizeOf109 rfl) ?_
              refine VO.op rfl (OpE.store1 (i := 0) rfl hB rfl Tryz.sizeOf109 rfl rfl rfl rfl rfl rfl (rowL_in rfl (by omega) (by decide)) (rowL_set (x := ({l2.getD i default with needs := (l2.getD i default).needs ++ [(⟨r89, r92⟩ : NeedS)]} : PaceS)) rfl (by omega) (by decide) rfl (fun i hi hn => pc_upd (by simp) (by simp) (by simp) i hi hn)) trivial ?_)
              refine VO.nil ?_
              refine VC.sr ?_
              refine VO.mv rfl rfl rfl rfl ?_
              refine VO.ma rfl rfl rfl rfl ?_
              refine VO.nil ?_
              refine VC.le _ (Le.boxT (t := 2) (i := 0) (n := l.length) (xs := l2.set i ({l2.getD i default with needs := (l2.getD i default).needs ++ [(⟨r89, r92⟩ : NeedS)]} : PaceS)) hB hnew rfl rfl (by rw [List.length_set]; omega) hcap hmx) ?_
              refine VC.ret ?_
              exact Exists.intro _ (And.intro (RetV.one Tryz.results15 (ResV.tmp rfl)) (And.intro (by first | exact ⟨l, ⟨by omega, fun x hx => (hok x hx).mono (by omega)⟩, rfl⟩ | exact ⟨l2, ⟨by omega, fun x hx => (ok2 x hx).mono (by omega)⟩, rfl⟩ | exact ⟨l2.set i ({l2.getD i default with needs := (l2.getD i default).needs ++ [(⟨r89, r92⟩ : NeedS)]} : PaceS), ⟨by rw [List.length_set]; omega, PcOk.setD (fun x hx => (ok2 x hx).mono (by omega)) _ ⟨(PcOk.getD ok2 i).1, (PcOk.getD ok2 i).2.snoc hr89⟩⟩, rfl⟩) ((show k + 12 * q + 1 + 1 + 1 + 1 + 1 + 1 + 1 ≤ k + 100 by omega))))
            · have aH7 := aH7b
              try simp only [qqT, qqF, qqN, qqM, qqL, qqE] at aH7
              refine VC.skip ?_
              refine VC.sr ?_
              refine VO.mv rfl rfl rfl rfl ?_
              refine VO.ma rfl rfl rfl rfl ?_
              refine VO.nil ?_
              refine VC.le _ (Le.boxT (t := 2) (i := 0) (n := l.length) (xs := l2) hB hnew rfl rfl (by omega) hcap hmx) ?_
              refine VC.ret ?_
              exact Exists.intro _ (And.intro (RetV.one Tryz.results15 (ResV.tmp rfl)) (And.intro (by first | exact ⟨l, ⟨by omega, fun x hx => (hok x hx).mono (by omega)⟩, rfl⟩ | exact ⟨l2, ⟨by omega, fun x hx => (ok2 x hx).mono (by omega)⟩, rfl⟩ | exact ⟨l2.set i ({l2.getD i default with needs := (l2.getD i default).needs ++ [(⟨r89, r92⟩ : NeedS)]} : PaceS), ⟨by rw [List.length_set]; omega, PcOk.setD (fun x hx => (ok2 x hx).mono (by omega)) _ ⟨(PcOk.getD ok2 i).1, (PcOk.getD ok2 i).2.snoc hr89⟩⟩, rfl⟩) ((show k + 12 * q + 1 + 1 + 1 + 1 + 1 ≤ k + 100 by omega))))
          ·
            refine OpE.buildSlice (zc := #[.int .i64 0, .int .i64 0, .int .i64 0]) rfl hB rfl Tryz.underlying22 Tryz.sizeOf3 Tryz.zeroValue3 (by decide) (by decide) (by kernel_rfl) rfl rfl ?_
            refine VA.all (rs := [8]) (by decide +kernel) (by decide) ?_
            refine ⟨⟨_, rfl, .inl rfl, ?_⟩, trivial⟩
            refine OpE.callT' (k + 12 * q + 1 + 1) rfl rfl hB rfl Tryz.call32 rfl (some_T 1000 (by rfl) (by decide) (by decide) (AllS.cons (PcOk.getD hok i).1 (AllS.cons (by decide) (AllS.cons (by decide) AllS.nil)))) (by omega) ?_
            rintro _ ⟨r67, hr67, rfl⟩
            refine VA.all (rs := [15]) (by decide +kernel) (by decide) ?_
            refine ⟨⟨_, rfl, .inl rfl, ?_⟩, trivial⟩
            refine OpE.callT' (k + 12 * q + 1 + 1 + 1) rfl rfl hB rfl Tryz.call21 rfl (pick_X (by rfl) (by decide) (by decide) (by repeat (first | exact AllX.nil | refine AllX.cons ?_))) (by omega) ?_
            rintro _ ⟨r74, rfl⟩
            refine VA.take (i := 16) rfl (by decide +kernel) (by decide +kernel) (by decide +kernel) rfl rfl (OpV.nilCheck rfl rfl) ?_
            refine VA.take (i := 17) rfl (by decide +kernel) (by decide +kernel) (by decide +kernel) rfl rfl (OpV.fieldAddrO 0 rfl Tryz.underlying142 rfl rfl Tryz.sizeOf9 rfl) ?_
            refine VA.all (rs := [18]) (by decide +kernel) (by decide) ?_
            refine ⟨⟨_, rfl, .inl rfl, ?_⟩, trivial⟩
            refine OpE.store1 (i := 0) rfl hB rfl Tryz.sizeOf9 rfl rfl rfl rfl rfl rfl (rowL_in rfl (by omega) (by decide)) (rowL_set (x := ({l.getD i default with product := r67} : PaceS)) rfl (by omega) (by decide) rfl (fun i hi hn => pc_upd (by simp) (by simp) (by simp) i hi hn)) (by first | exact ⟨rfl, rfl⟩ | exact .inl ⟨rfl, rfl⟩ | exact .inr ⟨rfl, rfl⟩ | exact ⟨rfl, trivial⟩ | exact .inl ⟨rfl, trivial⟩ | exact .inr ⟨rfl, trivial⟩ | exact ⟨by decide, rfl⟩) ?_
            refine VA.take (i := 19) rfl (by decide +kernel) (by decide +kernel) (by decide +kernel) rfl rfl (OpV.nilCheck rfl rfl) ?_
            refine VA.take (i := 20) rfl (by decide +kernel) (by decide +kernel) (by decide +kernel) rfl rfl (OpV.fieldAddrO 1 rfl Tryz.underlying142 rfl rfl Tryz.sizeOf3 rfl) ?_
            refine VA.all (rs := [21]) (by decide +kernel) (by decide) ?_
            refine ⟨⟨_, rfl, .inl rfl, ?_⟩, trivial⟩
            refine OpE.store1 (i := 0) rfl hB rfl Tryz.sizeOf3 rfl rfl rfl rfl rfl rfl (rowL_in rfl (by rw [List.length_set]; omega) (by decide)) (rowL_set (x := ({l.getD i default with product := r67, cycle := r74} : PaceS)) rfl (by rw [List.length_set]; omega) (by decide) rfl (fun i hi hn => by rw [getSetP (by omega)]; exact pc_upd (by simp) (by simp) (by simp) i hi hn)) (by first | exact ⟨rfl, rfl⟩ | exact .inl ⟨rfl, rfl⟩ | exact .inr ⟨rfl, rfl⟩ | exact ⟨rfl, trivial⟩ | exact .inl ⟨rfl, trivial⟩ | exact .inr ⟨rfl, trivial⟩ | exact ⟨by decide, rfl⟩) ?_
            refine VA.done (by decide +kernel) ?_
            refine VC.seq ?_
            obtain ⟨l2, e2, h2, ok2⟩ : ∃ l2 : List PaceS, l2 = (l.set i ({l.getD i default with product := r67} : PaceS)).set i ({l.getD i default with product := r67, cycle := r74} : PaceS) ∧ l2.length = l.length ∧ ∀ x ∈ l2, PcOk 4 x := ⟨_, rfl, by simp, PcOk.setD (PcOk.setD hok i (x := ⟨r67, (l.getD i default).cycle, (l.getD i default).needs⟩) ⟨hr67, (PcOk.getD hok i).2⟩) i (x := ⟨r67, r74, (l.getD i default).needs⟩) ⟨hr67, (PcOk.getD hok i).2⟩⟩
            refine VC.le _ (Le.pickH (hp := [.box gr ⟨rowL l2, 142, cap * 3⟩]) [0] rfl (by rw [e2]; rfl)) ?_
            refine VC.region ?_
            refine VO.mv rfl rfl rfl rfl ?_
            refine VO.op rfl (OpE.callT' (k + 12 * q + 1 + 1 + 1 + 1) rfl rfl hB rfl Tryz.call17 rfl ((flip_T (by omega))) (by omega) ?_)
            rintro _ ⟨r80, rfl⟩
            refine VO.nil ?_
            refine VC.cond rfl (fun aH8b => ?_) (fun aH8b => ?_)
            · have aH8 := aH8b
              try simp only [qqT, qqF, qqN, qqM, qqL, qqE] at aH8
              refine VC.region ?_
              refine VO.mv rfl rfl rfl rfl ?_
              refine VO.mv rfl rfl rfl rfl ?_
              refine VO.val rfl rfl (OpV.nilCheck rfl rfl) ?_
              refine VO.val rfl rfl (OpV.fieldAddrO 2 rfl Tryz.underlying142 rfl rfl Tryz.sizeOf109 rfl) ?_
              refine VO.val rfl rfl (OpV.load_own (i := 0) rfl hB Tryz.isAgg109 rfl rfl (rowL_at rfl (by first | omega | (simp only [List.length_set]; omega)) (by decide)) (fun h => h)) ?_
              refine VO.op rfl (OpE.callR rfl hB rfl Tryz.call110 (slices_CloneN_R (by have := (PcOk.getD ok2 i).2.1; omega)) (ArgsP.cons (ArgP.ev rfl) (ArgsP.nil)) ?_)
              intro u86
              refine VO.mv rfl rfl rfl rfl ?_
              refine VO.op rfl (OpE.buildSlice (zc := #[.string ⟨#[]⟩, .string ⟨#[]⟩]) rfl hB rfl Tryz.underlying95 Tryz.sizeOf9 Tryz.zeroValue9 (by decide) (by decide) (by kernel_rfl) rfl rfl ?_)
              refine VO.op rfl (OpE.callT' (k + 12 * q + 1 + 1 + 1 + 1 + 1) rfl rfl hB rfl Tryz.call32 rfl ((some_T 1000 (by rfl) (by decide) (by decide) (by repeat (first | exact AllS.nil | refine AllS.cons (by first | decide | omega) ?_)))) (by omega) ?_)
              rintro _ ⟨r89, hr89, rfl⟩
              refine VO.mv rfl rfl rfl rfl ?_
              refine VO.op rfl (OpE.buildSlice (zc := #[.int .i64 0, .int .i64 0]) rfl hB rfl Tryz.underlying22 Tryz.sizeOf3 Tryz.zeroValue3 (by decide) (by decide) (by kernel_rfl) rfl rfl ?_)
              refine VO.op rfl (OpE.callT' (k + 12 * q + 1 + 1 + 1 + 1 + 1 + 1) rfl rfl hB rfl Tryz.call21 rfl ((pick_T (-100000000) 100000000 (by rfl) (by decide) (by decide) (by repeat (first | exact AllI.nil | refine AllI.cons (by omega) ?_)))) (by omega) ?_)
              rintro _ ⟨r92, hr92, rfl⟩
              refine VO.val rfl rfl (OpV.build (pls := #[(0, 1), (1, 1)]) rfl Tryz.zeroValue125 Tryz.underlying125 (fun w => by kernel_rfl) rfl rfl) ?_
              refine VO.op rfl (OpE.buildSlice (zc := #[.string ⟨#[]⟩, .int .i64 0]) rfl hB rfl Tryz.underlying109 Tryz.sizeOf125 Tryz.zeroValue125 (by decide) (by decide) (by kernel_rfl) rfl rfl ?_)
              refine VO.op rfl (OpE.append1 (i := 1) rfl hB rfl Tryz.underlying109 (infoOf Tryz.t125 2 (by kernel_rfl) rfl rfl) rfl (by decide) (by decide) rfl rfl rfl rfl (rowL_snoc (l2.getD i default).needs (⟨r89, r92⟩ : NeedS)) (by have := (PcOk.getD ok2 i).2.1; omega) (fun _ _ => trivial) ?_)
              intro u95
              refine VO.le _ (Le.rowT (t := 95) (xs := (l2.getD i default).needs ++ [(⟨r89, r92⟩ : NeedS)]) (i := 1) hB hnew rfl rfl (by simp)) ?_
              refine VO.val rfl rfl (OpV.nilCheck rfl rfl) ?_
              refine VO.val rfl rfl (OpV.fieldAddrO 2 rfl Tryz.underlying142 rfl rfl Tryz.sizeOf109 rfl) ?_
              refine VO.op rfl (OpE.store1 (i := 0) rfl hB rfl Tryz.sizeOf109 rfl rfl rfl rfl rfl rfl (rowL_in rfl (by omega) (by decide)) (rowL_set (x := ({l2.getD i default with needs := (l2.getD i default).needs ++ [(⟨r89, r92⟩ : NeedS)]} : PaceS)) rfl (by omega) (by decide) rfl (fun i hi hn => pc_upd (by simp) (by simp) (by simp) i hi hn)) trivial ?_)
              refine VO.nil ?_
              refine VC.sr ?_
              refine VO.mv rfl rfl rfl rfl ?_
              refine VO.ma rfl rfl rfl rfl ?_
              refine VO.nil ?_
              refine VC.le _ (Le.boxT (t := 2) (i := 0) (n := l.length) (xs := l2.set i ({l2.getD i default with needs := (l2.getD i default).needs ++ [(⟨r89, r92⟩ : NeedS)]} : PaceS)) hB hnew rfl rfl (by rw [List.length_set]; omega) hcap hmx) ?_
              refine VC.ret ?_
              exact Exists.intro _ (And.intro (RetV.one Tryz.results15 (ResV.tmp rfl)) (And.intro (by first | exact ⟨l, ⟨by omega, fun x hx => (hok x hx).mono (by omega)⟩, rfl⟩ | exact ⟨l2, ⟨by omega, fun x hx => (ok2 x hx).mono (by omega)⟩, rfl⟩ | exact ⟨l2.set i ({l2.getD i default with needs := (l2.getD i default).needs ++ [(⟨r89, r92⟩ : NeedS)]} : PaceS), ⟨by rw [List.length_set]; omega, PcOk.setD (fun x hx => (ok2 x hx).mono (by omega)) _ ⟨(PcOk.getD ok2 i).1, (PcOk.getD ok2 i).2.snoc hr89⟩⟩, rfl⟩) ((show k + 12 * q + 1 + 1 + 1 + 1 + 1 + 1 + 1 ≤ k + 100 by omega))))
            · have aH8 := aH8b
              try simp only [qqT, qqF, qqN, qqM, qqL, qqE] at aH8
              refine VC.skip ?_
              refine VC.sr ?_
              refine VO.mv rfl rfl rfl rfl ?_
              refine VO.ma rfl rfl rfl rfl ?_
              refine VO.nil ?_
              refine VC.le _ (Le.boxT (t := 2) (i := 0) (n := l.length) (xs := l2) hB hnew rfl rfl (by omega) hcap hmx) ?_
              refine VC.ret ?_
              exact Exists.intro _ (And.intro (RetV.one Tryz.results15 (ResV.tmp rfl)) (And.intro (by first | exact ⟨l, ⟨by omega, fun x hx => (hok x hx).mono (by omega)⟩, rfl⟩ | exact ⟨l2, ⟨by omega, fun x hx => (ok2 x hx).mono (by omega)⟩, rfl⟩ | exact ⟨l2.set i ({l2.getD i default with needs := (l2.getD i default).needs ++ [(⟨r89, r92⟩ : NeedS)]} : PaceS), ⟨by rw [List.length_set]; omega, PcOk.setD (fun x hx => (ok2 x hx).mono (by omega)) _ ⟨(PcOk.getD ok2 i).1, (PcOk.getD ok2 i).2.snoc hr89⟩⟩, rfl⟩) ((show k + 12 * q + 1 + 1 + 1 + 1 + 1 ≤ k + 100 by omega))))
        ·
          refine OpE.buildSlice (zc := #[.int .i64 0, .int .i64 0, .int .i64 0]) rfl hB rfl Tryz.underlying22 Tryz.sizeOf3 Tryz.zeroValue3 (by decide) (by decide) (by kernel_rfl) rfl rfl ?_
          refine VA.all (rs := [7]) (by decide +kernel) (by decide) ?_
          refine ⟨⟨_, rfl, .inl rfl, ?_⟩, trivial⟩
          refine OpE.buildSlice (zc := #[.string ⟨#[]⟩, .string ⟨#[]⟩, .string ⟨#[]⟩]) rfl hB rfl Tryz.underlying95 Tryz.sizeOf9 Tryz.zeroValue9 (by decide) (by decide) (by kernel_rfl) rfl rfl ?_
          refine VA.all (rs := [8]) (by decide +kernel) (by decide) ?_
          refine ⟨⟨_, rfl, .inl rfl, ?_⟩, trivial⟩
          refine OpE.callT' (k + 12 * q + 1 + 1) rfl rfl hB rfl Tryz.call32 rfl (some_T 1000 (by rfl) (by decide) (by decide) (AllS.cons (PcOk.getD hok i).1 (AllS.cons (by decide) (AllS.cons (by decide) AllS.nil)))) (by omega) ?_
          rintro _ ⟨r67, hr67, rfl⟩
          refine VA.all (rs := [15]) (by decide +kernel) (by decide) ?_
          refine ⟨⟨_, rfl, .inl rfl, ?_⟩, trivial⟩
          refine OpE.callT' (k + 12 * q + 1 + 1 + 1) rfl rfl hB rfl Tryz.call21 rfl (pick_X (by rfl) (by decide) (by decide) (by repeat (first | exact AllX.nil | refine AllX.cons ?_))) (by omega) ?_
          rintro _ ⟨r74, rfl⟩
          refine VA.take (i := 16) rfl (by decide +kernel) (by decide +kernel) (by decide +kernel) rfl rfl (OpV.nilCheck rfl rfl) ?_
          refine VA.take (i := 17) rfl (by decide +kernel) (by decide +kernel) (by decide +kernel) rfl rfl (OpV.fieldAddrO 0 rfl Tryz.underlying142 rfl rfl Tryz.sizeOf9 rfl) ?_
          refine VA.all (rs := [18]) (by decide +kernel) (by decide) ?_
          refine ⟨⟨_, rfl, .inl rfl, ?_⟩, trivial⟩
          refine OpE.store1 (i := 0) rfl hB rfl Tryz.sizeOf9 rfl rfl rfl rfl rfl rfl (rowL_in rfl (by omega) (by decide)) (rowL_set (x := ({l.getD i default with product := r67} : PaceS)) rfl (by omega) (by decide) rfl (fun i hi hn => pc_upd (by simp) (by simp) (by simp) i hi hn)) (by first | exact ⟨rfl, rfl⟩ | exact .inl ⟨rfl, rfl⟩ | exact .inr ⟨rfl, rfl⟩ | exact ⟨rfl, trivial⟩ | exact .inl ⟨rfl, trivial⟩ | exact .inr ⟨rfl, trivial⟩ | exact ⟨by decide, rfl⟩) ?_
          refine VA.take (i := 19) rfl (by decide +kernel) (by decide +kernel) (by decide +kernel) rfl rfl (OpV.nilCheck rfl rfl) ?_
          refine VA.take (i := 20) rfl (by decide +kernel) (by decide +kernel) (by decide +kernel) rfl rfl (OpV.fieldAddrO 1 rfl Tryz.underlying142 rfl rfl Tryz.sizeOf3 rfl) ?_
          refine VA.all (rs := [21]) (by decide +kernel) (by decide) ?_
          refine ⟨⟨_, rfl, .inl rfl, ?_⟩, trivial⟩
          refine OpE.store1 (i := 0) rfl hB rfl Tryz.sizeOf3 rfl rfl rfl rfl rfl rfl (rowL_in rfl (by rw [List.length_set]; omega) (by decide)) (rowL_set (x := ({l.getD i default with product := r67, cycle := r74} : PaceS)) rfl (by rw [List.length_set]; omega) (by decide) rfl (fun i hi hn => by rw [getSetP (by omega)]; exact pc_upd (by simp) (by simp) (by simp) i hi hn)) (by first | exact ⟨rfl, rfl⟩ | exact .inl ⟨rfl, rfl⟩ | exact .inr ⟨rfl, rfl⟩ | exact ⟨rfl, trivial⟩ | exact .inl ⟨rfl, trivial⟩ | exact .inr ⟨rfl, trivial⟩ | exact ⟨by decide, rfl⟩) ?_
          refine VA.done (by decide +kernel) ?_
          refine VC.seq ?_
          obtain ⟨l2, e2, h2, ok2⟩ : ∃ l2 : List PaceS, l2 = (l.set i ({l.getD i default with product := r67} : PaceS)).set i ({l.getD i default with product := r67, cycle := r74} : PaceS) ∧ l2.length = l.length ∧ ∀ x ∈ l2, PcOk 4 x := ⟨_, rfl, by simp, PcOk.setD (PcOk.setD hok i (x := ⟨r67, (l.getD i default).cycle, (l.getD i default).needs⟩) ⟨hr67, (PcOk.getD hok i).2⟩) i (x := ⟨r67, r74, (l.getD i default).needs⟩) ⟨hr67, (PcOk.getD hok i).2⟩⟩
          refine VC.le _ (Le.pickH (hp := [.box gr ⟨rowL l2, 142, cap * 3⟩]) [0] rfl (by rw [e2]; rfl)) ?_
          refine VC.region ?_
          refine VO.mv rfl rfl rfl rfl ?_
          refine VO.op rfl (OpE.callT' (k + 12 * q + 1 + 1 + 1 + 1) rfl rfl hB rfl Tryz.call17 rfl ((flip_T (by omega))) (by omega) ?_)
          rintro _ ⟨r80, rfl⟩
          refine VO.nil ?_
          refine VC.cond rfl (fun aH9b => ?_) (fun aH9b => ?_)
          · have aH9 := aH9b
            try simp only [qqT, qqF, qqN, qqM, qqL, qqE] at aH9
            refine VC.region ?_
            refine VO.mv rfl rfl rfl rfl ?_
            refine VO.mv rfl rfl rfl rfl ?_
            refine VO.val rfl rfl (OpV.nilCheck rfl rfl) ?_
            refine VO.val rfl rfl (OpV.fieldAddrO 2 rfl Tryz.underlying142 rfl rfl Tryz.sizeOf109 rfl) ?_
            refine VO.val rfl rfl (OpV.load_own (i := 0) rfl hB Tryz.isAgg109 rfl rfl (rowL_at rfl (by first | omega | (simp only [List.length_set]; omega)) (by decide)) (fun h => h)) ?_
            refine VO.op rfl (OpE.callR rfl hB rfl Tryz.call110 (slices_CloneN_R (by have := (PcOk.getD ok2 i).2.1; omega)) (ArgsP.cons (ArgP.ev rfl) (ArgsP.nil)) ?_)
            intro u86
            refine VO.mv rfl rfl rfl rfl ?_
            refine VO.op rfl (OpE.buildSlice (zc := #[.string ⟨#[]⟩, .string ⟨#[]⟩]) rfl hB rfl Tryz.underlying95 Tryz.sizeOf9 Tryz.zeroValue9 (by decide) (by decide) (by kernel_rfl) rfl rfl ?_)
            refine VO.op rfl (OpE.callT' (k + 12 * q + 1 + 1 + 1 + 1 + 1) rfl rfl hB rfl Tryz.call32 rfl ((some_T 1000 (by rfl) (by decide) (by decide) (by repeat (first | exact AllS.nil | refine AllS.cons (by first | decide | omega) ?_)))) (by omega) ?_)
            rintro _ ⟨r89, hr89, rfl⟩
            refine VO.mv rfl rfl rfl rfl ?_
            refine VO.op rfl (OpE.buildSlice (zc := #[.int .i64 0, .int .i64 0]) rfl hB rfl Tryz.underlying22 Tryz.sizeOf3 Tryz.zeroValue3 (by decide) (by decide) (by kernel_rfl) rfl rfl ?_)
            refine VO.op rfl (OpE.callT' (k + 12 * q + 1 + 1 + 1 + 1 + 1 + 1) rfl rfl hB rfl Tryz.call21 rfl ((pick_T (-100000000) 100000000 (by rfl) (by decide) (by decide) (by repeat (first | exact AllI.nil | refine AllI.cons (by omega) ?_)))) (by omega) ?_)
            rintro _ ⟨r92, hr92, rfl⟩
            refine VO.val rfl rfl (OpV.build (pls := #[(0, 1), (1, 1)]) rfl Tryz.zeroValue125 Tryz.underlying125 (fun w => by kernel_rfl) rfl rfl) ?_
            refine VO.op rfl (OpE.buildSlice (zc := #[.string ⟨#[]⟩, .int .i64 0]) rfl hB rfl Tryz.underlying109 Tryz.sizeOf125 Tryz.zeroValue125 (by decide) (by decide) (by kernel_rfl) rfl rfl ?_)
            refine VO.op rfl (OpE.append1 (i := 1) rfl hB rfl Tryz.underlying109 (infoOf Tryz.t125 2 (by kernel_rfl) rfl rfl) rfl (by decide) (by decide) rfl rfl rfl rfl (rowL_snoc (l2.getD i default).needs (⟨r89, r92⟩ : NeedS)) (by have := (PcOk.getD ok2 i).2.1; omega) (fun _ _ => trivial) ?_)
            intro u95
            refine VO.le _ (Le.rowT (t := 95) (xs := (l2.getD i default).needs ++ [(⟨r89, r92⟩ : NeedS)]) (i := 1) hB hnew rfl rfl (by simp)) ?_
            refine VO.val rfl rfl (OpV.nilCheck rfl rfl) ?_
            refine VO.val rfl rfl (OpV.fieldAddrO 2 rfl Tryz.underlying142 rfl rfl Tryz.sizeOf109 rfl) ?_
            refine VO.op rfl (OpE.store1 (i := 0) rfl hB rfl Tryz.sizeOf109 rfl rfl rfl rfl rfl rfl (rowL_in rfl (by omega) (by decide)) (rowL_set (x := ({l2.getD i default with needs := (l2.getD i default).needs ++ [(⟨r89, r92⟩ : NeedS)]} : PaceS)) rfl (by omega) (by decide) rfl (fun i hi hn => pc_upd (by simp) (by simp) (by simp) i hi hn)) trivial ?_)
            refine VO.nil ?_
            refine VC.sr ?_
            refine VO.mv rfl rfl rfl rfl ?_
            refine VO.ma rfl rfl rfl rfl ?_
            refine VO.nil ?_
            refine VC.le _ (Le.boxT (t := 2) (i := 0) (n := l.length) (xs := l2.set i ({l2.getD i default with needs := (l2.getD i default).needs ++ [(⟨r89, r92⟩ : NeedS)]} : PaceS)) hB hnew rfl rfl (by rw [List.length_set]; omega) hcap hmx) ?_
            refine VC.ret ?_
            exact Exists.intro _ (And.intro (RetV.one Tryz.results15 (ResV.tmp rfl)) (And.intro (by first | exact ⟨l, ⟨by omega, fun x hx => (hok x hx).mono (by omega)⟩, rfl⟩ | exact ⟨l2, ⟨by omega, fun x hx => (ok2 x hx).mono (by omega)⟩, rfl⟩ | exact ⟨l2.set i ({l2.getD i default with needs := (l2.getD i default).needs ++ [(⟨r89, r92⟩ : NeedS)]} : PaceS), ⟨by rw [List.length_set]; omega, PcOk.setD (fun x hx => (ok2 x hx).mono (by omega)) _ ⟨(PcOk.getD ok2 i).1, (PcOk.getD ok2 i).2.snoc hr89⟩⟩, rfl⟩) ((show k + 12 * q + 1 + 1 + 1 + 1 + 1 + 1 + 1 ≤ k + 100 by omega))))
          · have aH9 := aH9b
            try simp only [qqT, qqF, qqN, qqM, qqL, qqE] at aH9
            refine VC.skip ?_
            refine VC.sr ?_
            refine VO.mv rfl rfl rfl rfl ?_
            refine VO.ma rfl rfl rfl rfl ?_
            refine VO.nil ?_
            refine VC.le _ (Le.boxT (t := 2) (i := 0) (n := l.length) (xs := l2) hB hnew rfl rfl (by omega) hcap hmx) ?_
            refine VC.ret ?_
            exact Exists.intro _ (And.intro (RetV.one Tryz.results15 (ResV.tmp rfl)) (And.intro (by first | exact ⟨l, ⟨by omega, fun x hx => (hok x hx).mono (by omega)⟩, rfl⟩ | exact ⟨l2, ⟨by omega, fun x hx => (ok2 x hx).mono (by omega)⟩, rfl⟩ | exact ⟨l2.set i ({l2.getD i default with needs := (l2.getD i default).needs ++ [(⟨r89, r92⟩ : NeedS)]} : PaceS), ⟨by rw [List.length_set]; omega, PcOk.setD (fun x hx => (ok2 x hx).mono (by omega)) _ ⟨(PcOk.getD ok2 i).1, (PcOk.getD ok2 i).2.snoc hr89⟩⟩, rfl⟩) ((show k + 12 * q + 1 + 1 + 1 + 1 + 1 ≤ k + 100 by omega))))
      · have aH6 := aH6b
        try simp only [qqT, qqF, qqN, qqM, qqL, qqE] at aH6
        refine VC.skip ?_
        refine VC.sr ?_
        refine VO.mv rfl rfl rfl rfl ?_
        refine VO.ma rfl rfl rfl rfl ?_
        refine VO.nil ?_
        refine VC.le _ (Le.rowT (t := 2) (i := 0) (n := l.length) (xs := l) hB hnew rfl rfl rfl) ?_
        refine VC.ret ?_
        exact Exists.intro _ (And.intro (RetV.one Tryz.results15 (ResV.tmp rfl)) (And.intro (by first | exact ⟨l, ⟨by omega, fun x hx => (hok x hx).mono (by omega)⟩, rfl⟩ | exact ⟨l2, ⟨by omega, fun x hx => (ok2 x hx).mono (by omega)⟩, rfl⟩ | exact ⟨l2.set i ({l2.getD i default with needs := (l2.getD i default).needs ++ [(⟨r89, r92⟩ : NeedS)]} : PaceS), ⟨by rw [List.length_set]; omega, PcOk.setD (fun x hx => (ok2 x hx).mono (by omega)) _ ⟨(PcOk.getD ok2 i).1, (PcOk.getD ok2 i).2.snoc hr89⟩⟩, rfl⟩) ((show k + 12 * q + 1 ≤ k + 100 by omega))))
    · replace aK5b : _ = false := aK5b
      have aK5 := aK5b
      try simp only [qqT, qqF, qqN, qqM, qqL, qqE] at aK5
      refine VO.opX rfl rfl rfl rfl aK5b ?_
      refine VO.val rfl rfl (OpV.pickF rfl rfl rfl rfl aK5b) ?_
      refine VO.nil ?_
      refine VC.condF rfl rfl ?_
      refine VC.skip ?_
      refine VC.sr ?_
      refine VO.mv rfl rfl rfl rfl ?_
      refine VO.ma rfl rfl rfl rfl ?_
      refine VO.nil ?_
      refine VC.le _ (Le.rowT (t := 2) (i := 0) (n := l.length) (xs := l) hB hnew rfl rfl rfl) ?_
      refine VC.ret ?_
      exact Exists.intro _ (And.intro (RetV.one Tryz.results15 (ResV.tmp rfl)) (And.intro (by first | exact ⟨l, ⟨by omega, fun x hx => (hok x hx).mono (by omega)⟩, rfl⟩ | exact ⟨l2, ⟨by omega, fun x hx => (ok2 x hx).mono (by omega)⟩, rfl⟩ | exact ⟨l2.set i ({l2.getD i default with needs := (l2.getD i default).needs ++ [(⟨r89, r92⟩ : NeedS)]} : PaceS), ⟨by rw [List.length_set]; omega, PcOk.setD (fun x hx => (ok2 x hx).mono (by omega)) _ ⟨(PcOk.getD ok2 i).1, (PcOk.getD ok2 i).2.snoc hr89⟩⟩, rfl⟩) ((show k + 12 * q ≤ k + 100 by omega))))
end Go.Proofs.YtmahammdnmmmoaaGreatDoor
namespace Go.Proofs.YtmahammdnmmmoaaGreatDoor
open Go.RowKit
set_option linter.unusedVariables false
set_option linter.unusedSimpArgs false
set_option maxRecDepth 100000 in
set_option maxHeartbeats 4000000 in
theorem rightOrders_T {p : Nat} {L : List Int} {m : Nat} (hm : m ≤ 20) :
  SpecT Tryz.prog (TT p L) (fun b => b = p) 18 [sp p, avI (m : Int)] 2000 (fun y => ∃ (pc : List PaceS) (o : List OrdrS), (SmPc pc ∧ o.length ≤ m ∧ OOk o ∧ bothF pc o = 0) ∧ y = .tup [avL pc, avL o]) := by
 refine SpecT.of_VC Tryz.func18 rfl Tryz.ntmps18 (Nle rfl) (low := (fun b => b ≤ p)) (fun w A k h => h.ok) fun w A k hk hB => ?_
 have hnew : True := trivial
 refine VC.sr ?_
 refine VO.ma rfl rfl rfl rfl ?_
 refine VO.ma rfl rfl rfl rfl ?_
 refine VO.nil ?_
 refine VC.seq ?_
 refine VC.sr ?_
 refine VO.mv rfl rfl rfl rfl ?_
 refine VO.nil ?_
 refine VC.block ?_
 refine VC.loopK [(0, _), (1, _)] ⟨rfl, rfl, trivial⟩ ({q : Nat // q ≤ 8}) (fun (iZ : {q : Nat // q ≤ 8}) => match iZ with | ⟨q, hq⟩ => [(8, avI (q : Int))]) (fun (iZ : {q : Nat // q ≤ 8}) => match iZ with | ⟨q, hq⟩ => []) (fun (iZ : {q : Nat // q ≤ 8}) => match iZ with | ⟨q, hq⟩ => k + 200 * q) (fun (iZ : {q : Nat // q ≤ 8}) => match iZ with | ⟨q, hq⟩ => 8 - q) ⟨0, by decide⟩ (Le.mk hB [] ⟨rfl, rfl, rfl, trivial⟩ rfl rfl (show k ≤ k + 200 * 0 by omega)) ?_
 rintro ⟨q, hq⟩
 show VC _ _ _ _ ⟨[(8, avI (q : Int))] ++ [(0, _), (1, _)], [], k + 200 * q⟩
 refine VC.sr ?_
 refine VO.val rfl rfl (OpV.lss rfl rfl rfl) ?_
 refine VO.nil ?_
 refine VC.seq ?_
 refine VC.cond rfl (fun aH1b => ?_) (fun aH1b => ?_)
 ·have aH1 := aH1b
  try simp only [qqT, qqF, qqN, qqM, qqL, qqE] at aH1
  refine VC.skip ?_
  refine VC.seq ?_
  refine VC.block ?_
  refine VC.sr ?_
  refine VO.mv rfl rfl rfl rfl ?_
  refine VO.op rfl (OpE.callT' (k + 200 * q) rfl rfl hB rfl Tryz.call15 rfl (paces_T) (by omega) ?_)
  rintro _ ⟨pc, hpc, rfl⟩
  refine VO.ma rfl rfl rfl rfl ?_
  refine VO.nil ?_
  refine VC.sr ?_
  refine VO.mv rfl rfl rfl rfl ?_
  refine VO.mv rfl rfl rfl rfl ?_
  refine VO.op rfl (OpE.callT' (k + 200 * q + 100) rfl rfl hB rfl Tryz.call16 rfl (orders_M hm) (by omega) ?_)
  rintro _ ⟨o, ho, rfl⟩
  refine VO.ma rfl rfl rfl rfl ?_
  refine VO.nil ?_
  refine VC.sr ?_
  refine VO.mv rfl rfl rfl rfl ?_
  refine VO.mv rfl rfl rfl rfl ?_
  refine VO.op rfl (OpE.call rfl hB rfl Tryz.call25 rfl (SpecN.spec (rf_BothFault (PcOk.sm hpc.2 (by omega)) (ho.2.sm (by omega)))) ?_)
  rintro _ rfl
  refine VO.val rfl rfl (OpV.eql rfl rfl rfl) ?_
  refine VO.nil ?_
  refine VC.cond rfl (fun h1b => ?_) (fun h1b => ?_)
  ·have h1 := h1b
   try simp only [qqT, qqF, qqN, qqM, qqL, qqE] at h1
   refine VC.sr ?_
   refine VO.mv rfl rfl rfl rfl ?_
   refine VO.mv rfl rfl rfl rfl ?_
   refine VO.ma rfl rfl rfl rfl ?_
   refine VO.ma rfl rfl rfl rfl ?_
   refine VO.nil ?_
   refine VC.ret ?_
   exact Exists.intro _ (And.intro (RetV.two Tryz.results18 (ResV.tmp rfl) (ResV.tmp rfl)) (And.intro (⟨pc, o, ⟨PcOk.sm hpc.2 (by omega), ho.1, ho.2, by omega⟩, rfl⟩) ((show k + 200 * q + 100 + 100 ≤ k + 2000 by omega))))
  ·have h1 := h1b
   try simp only [qqT, qqF, qqN, qqM, qqL, qqE] at h1
   refine VC.skip ?_
   refine VC.region ?_
   refine VO.val rfl rfl (OpV.add rfl rfl rfl (by unfold fits; omega)) ?_
   refine VO.mv rfl rfl rfl rfl ?_
   refine VO.nil ?_
   exact Exists.intro (⟨q + 1, by omega⟩) (And.intro (Le.mk hB [] ⟨rfl, rfl, rfl, trivial⟩ rfl rfl (show k + 200 * q + 100 + 100 ≤ k + 200 * (q + 1) by omega)) (by first | omega | (show _ < _; omega) | (simp only []; omega)))
 ·have aH1 := aH1b
  try simp only [qqT, qqF, qqN, qqM, qqL, qqE] at aH1
  refine VC.exit ?_
  refine VC.sr ?_
  refine VO.ma rfl rfl rfl rfl ?_
  refine VO.ma rfl rfl rfl rfl ?_
  refine VO.nil ?_
  refine VC.le _ (Le.recast (t := 4) (y := avL ([] : List PaceS)) rfl (fun w Z u h => by rw [h.eq_v]; exact .nil _ _)) ?_
  refine VC.le _ (Le.recast (t := 5) (y := avL ([] : List OrdrS)) rfl (fun w Z u h => by rw [h.eq_v]; exact .nil _ _)) ?_
  refine VC.ret ?_
  exact Exists.intro _ (And.intro (RetV.two Tryz.results18 (ResV.tmp rfl) (ResV.tmp rfl)) (And.intro (⟨[], [], ⟨PcOk.sm (l := []) (fun x h => absurd h (by simp)) (by decide), Nat.zero_le _, (fun x h => absurd h (by simp)), rfl⟩, rfl⟩) ((show k + 200 * q ≤ k + 2000 by omega))))
end Go.Proofs.YtmahammdnmmmoaaGreatDoor
