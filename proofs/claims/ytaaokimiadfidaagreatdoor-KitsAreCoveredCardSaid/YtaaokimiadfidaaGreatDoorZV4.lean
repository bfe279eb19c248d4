/- Part 4 of a proof: the walks and laws that it needs. -/
import Derived.Test.YtaaokimiadfidaaGreatDoorZV3
namespace Go.Proofs.YtaaokimiadfidaaGreatDoor
open Go.RowKit
set_option linter.unusedVariables false
set_option linter.unusedSimpArgs false
abbrev avNd (x : NeedS) : AV := .agg (tab 2 (Sxc.cell x))
set_option maxRecDepth 100000 in
set_option maxHeartbeats 2000000 in
theorem insSort_need {l0 : List NeedS} {u : Value} {ty : TypeId} {F : FuncId} {cs : List AV} {c : NeedS → NeedS → Int} (hl : l0.length ≤ 1000000) (hcall : ∀ us w, (callFunc F us).run Tryz.prog w = .ok (.enter F us) w) (hF : ∀ x y, Spec Tryz.prog F ([avNd x, avNd y] ++ cs) (fun z => z = avI (c x y))) (ht : ∀ {a b d : NeedS}, decide (c a b < 0) = true → decide (c b d < 0) = true → decide (c a d < 0) = true) (ha : ∀ {a b : NeedS}, decide (c a b < 0) = true → decide (c b a < 0) = false) (hn : ∀ {a b d : NeedS}, decide (c b a < 0) = false → decide (c d b < 0) = false → decide (c d a < 0) = false) :
  SpecH Tryz.prog 327 [.v u, avI 0, avI l0.length, .fn F cs] [.row u l0.length 2 (rowL l0) ty] (fun y hp' => ∃ l, (l.Perm l0 ∧ OrdL (fun x y => decide (c x y < 0)) l) ∧ y = .tup [] ∧ hp' = [.row u l0.length 2 (rowL l) ty]) := by
 refine SpecH.of_VC Tryz.func327 rfl Tryz.ntmps327 (Nle rfl) fun w A hB => ?_
 have hnew : True := trivial
 refine VC.sr ?_
 refine VO.mv rfl rfl rfl rfl ?_
 refine VO.val rfl rfl (OpV.add rfl rfl rfl (by unfold fits; omega)) ?_
 refine VO.ma rfl rfl rfl rfl ?_
 refine VO.nil ?_
 refine VC.block ?_
 refine VC.loopK [(0, _), (1, _), (2, _), (3, _)] ⟨rfl, rfl, rfl, rfl, trivial⟩ ({z : Nat × List NeedS // InvO (fun x y => decide (c x y < 0)) l0 z.1 z.2 ∧ 0 < z.1 ∧ z.1 ≤ max 1 l0.length}) (fun (iZ : {z : Nat × List NeedS // InvO (fun x y => decide (c x y < 0)) l0 z.1 z.2 ∧ 0 < z.1 ∧ z.1 ≤ max 1 l0.length}) => match iZ with | ⟨⟨i, l⟩, hi, hi0, hin⟩ => [(8, avI (i : Int))]) (fun (iZ : {z : Nat × List NeedS // InvO (fun x y => decide (c x y < 0)) l0 z.1 z.2 ∧ 0 < z.1 ∧ z.1 ≤ max 1 l0.length}) => match iZ with | ⟨⟨i, l⟩, hi, hi0, hin⟩ => [.row u l0.length 2 (rowL l) ty]) (fun (iZ : {z : Nat × List NeedS // InvO (fun x y => decide (c x y < 0)) l0 z.1 z.2 ∧ 0 < z.1 ∧ z.1 ≤ max 1 l0.length}) => match iZ with | ⟨⟨i, l⟩, hi, hi0, hin⟩ => 0) (fun (iZ : {z : Nat × List NeedS // InvO (fun x y => decide (c x y < 0)) l0 z.1 z.2 ∧ 0 < z.1 ∧ z.1 ≤ max 1 l0.length}) => match iZ with | ⟨⟨i, l⟩, hi, hi0, hin⟩ => l0.length - i) ⟨(1, l0), InvO.one l0, Nat.one_pos, by show 1 ≤ _; omega⟩ (Le.mk hB [0] ⟨rfl, rfl, rfl, rfl, rfl, trivial⟩ rfl rfl (Nat.le_refl _)) ?_
 rintro ⟨⟨i, l⟩, hi, hi0, hin⟩
 show VC _ _ _ _ ⟨[(8, avI (i : Int))] ++ [(0, _), (1, _), (2, _), (3, _)], [.row u l0.length 2 (rowL l) ty], 0⟩
 simp only at hi hi0 hin
 have hll := hi.len
 refine VC.seq ?_
 refine VC.sr ?_
 refine VO.mv rfl rfl rfl rfl ?_
 refine VO.mv rfl rfl rfl rfl ?_
 refine VO.val rfl rfl (OpV.lss rfl rfl rfl) ?_
 refine VO.nil ?_
 refine VC.cond rfl (fun aH1b => ?_) (fun aH1b => ?_)
 ·have aH1 := aH1b
  try simp only [qqT, qqF, qqN, qqM, qqL, qqE] at aH1
  refine VC.skip ?_
  refine VC.seq ?_
  refine VC.block ?_
  refine VC.sr ?_
  refine VO.mv rfl rfl rfl rfl ?_
  refine VO.ma rfl rfl rfl rfl ?_
  refine VO.nil ?_
  refine VC.block ?_
  refine VC.asBox (i := 0) rfl (by omega) (fun g cap hu hcap hmx => ?_)
  subst hu
  refine VC.loopK [(0, _), (1, _), (2, _), (3, _), (8, _)] ⟨rfl, rfl, rfl, rfl, rfl, trivial⟩ ({z : Nat × List NeedS // InvI (fun x y => decide (c x y < 0)) l0 i z.1 z.2}) (fun (iZ : {z : Nat × List NeedS // InvI (fun x y => decide (c x y < 0)) l0 i z.1 z.2}) => match iZ with | ⟨⟨j, l2⟩, hI⟩ => [(9, avI (j : Int))]) (fun (iZ : {z : Nat × List NeedS // InvI (fun x y => decide (c x y < 0)) l0 i z.1 z.2}) => match iZ with | ⟨⟨j, l2⟩, hI⟩ => [.box g ⟨rowL l2, ty, cap * 2⟩]) (fun (iZ : {z : Nat × List NeedS // InvI (fun x y => decide (c x y < 0)) l0 i z.1 z.2}) => match iZ with | ⟨⟨j, l2⟩, hI⟩ => 0) (fun (iZ : {z : Nat × List NeedS // InvI (fun x y => decide (c x y < 0)) l0 i z.1 z.2}) => match iZ with | ⟨⟨j, l2⟩, hI⟩ => j) ⟨(i, l), hi.start (by omega)⟩ (Le.mk hB [0] ⟨rfl, rfl, rfl, rfl, rfl, rfl, trivial⟩ rfl rfl (Nat.le_refl _)) ?_
  rintro ⟨⟨j, l2⟩, hI⟩
  show VC _ _ _ _ ⟨[(9, avI (j : Int))] ++ [(0, _), (1, _), (2, _), (3, _), (8, _)], [.box g ⟨rowL l2, ty, cap * 2⟩], 0⟩
  simp only at hI
  obtain ⟨hlen2, hil, hji⟩ := hI.len
  refine VC.seq ?_
  refine VC.seq ?_
  refine VC.draw (fun _ => NoB) hB (by kernel_rfl) ?_
  refine VA.take (i := 0) rfl (by kernel_rfl) (by kernel_rfl) (by kernel_rfl) rfl rfl (OpV.move (.inl rfl) rfl) ?_
  refine VA.take (i := 1) rfl (by kernel_rfl) (by kernel_rfl) (by kernel_rfl) rfl rfl (OpV.move (.inl rfl) rfl) ?_
  refine VA.take (i := 2) rfl (by kernel_rfl) (by kernel_rfl) (by kernel_rfl) rfl rfl (OpV.gtr rfl rfl rfl) ?_
  refine VA.take (i := 3) rfl (by kernel_rfl) (by kernel_rfl) (by kernel_rfl) rfl rfl (OpV.move (.inl rfl) rfl) ?_
  refine VA.split (t := 21) rfl (fun aK2b => ?_) (fun aK2b => ?_)
  ·have aK2 := aK2b
   try simp only [qqT, qqF, qqN, qqM, qqL, qqE] at aK2
   refine VA.takeY (i := 4) rfl (by kernel_rfl) (by kernel_rfl) (by kernel_rfl) rfl rfl rfl rfl aK2b (OpV.move (.inl rfl) rfl) ?_
   refine VA.takeY (i := 5) rfl (by kernel_rfl) (by kernel_rfl) (by kernel_rfl) rfl rfl rfl rfl aK2b (OpV.move (.inl rfl) rfl) ?_
   refine VA.takeY (i := 6) rfl (by kernel_rfl) (by kernel_rfl) (by kernel_rfl) rfl rfl rfl rfl aK2b (OpV.move (.inl rfl) rfl) ?_
   refine VA.takeY (i := 7) rfl (by kernel_rfl) (by kernel_rfl) (by kernel_rfl) rfl rfl rfl rfl aK2b (OpV.indexAddr_q rfl Tryz.underlying77 Tryz.sizeOf96 rfl rfl rfl (by omega)) ?_
   refine VA.takeY (i := 8) rfl (by kernel_rfl) (by kernel_rfl) (by kernel_rfl) rfl rfl rfl rfl aK2b (OpV.loadK_own (i := 0) rfl hB Tryz.isAgg96 Tryz.sizeOf96 rfl rfl (rowL_cut rfl (by omega)) Wi.not0) ?_
   refine VA.takeY (i := 9) rfl (by kernel_rfl) (by kernel_rfl) (by kernel_rfl) rfl rfl rfl rfl aK2b (OpV.move (.inl rfl) rfl) ?_
   refine VA.takeY (i := 10) rfl (by kernel_rfl) (by kernel_rfl) (by kernel_rfl) rfl rfl rfl rfl aK2b (OpV.move (.inl rfl) rfl) ?_
   refine VA.takeY (i := 11) rfl (by kernel_rfl) (by kernel_rfl) (by kernel_rfl) rfl rfl rfl rfl aK2b (OpV.sub rfl rfl rfl (by unfold fits; omega)) ?_
   refine VA.takeY (i := 12) rfl (by kernel_rfl) (by kernel_rfl) (by kernel_rfl) rfl rfl rfl rfl aK2b (OpV.indexAddr_q rfl Tryz.underlying77 Tryz.sizeOf96 rfl rfl (show (j : Int) - 1 = ((j - 1 : Nat) : Int) by omega) (by omega)) ?_
   refine VA.takeY (i := 13) rfl (by kernel_rfl) (by kernel_rfl) (by kernel_rfl) rfl rfl rfl rfl aK2b (OpV.loadK_own (i := 0) rfl hB Tryz.isAgg96 Tryz.sizeOf96 rfl rfl (rowL_cut rfl (by omega)) Wi.not0) ?_
   refine VA.all (rs := [14]) (by kernel_rfl) (by decide) ?_
   refine ⟨⟨_, rfl, .inr ⟨_, _, _, rfl, rfl, (look_k rfl aK2b)⟩, ?_⟩, trivial⟩
   refine OpE.callF rfl hB rfl hcall rfl rfl (hF _ _) ?_
   rintro _ rfl
   refine VA.takeY (i := 15) rfl (by kernel_rfl) (by kernel_rfl) (by kernel_rfl) rfl rfl rfl rfl aK2b (OpV.lss rfl rfl rfl) ?_
   refine VA.take (i := 16) rfl (by kernel_rfl) (by kernel_rfl) (by kernel_rfl) rfl rfl (OpV.pickT rfl rfl rfl rfl aK2b) ?_
   refine VA.done (by kernel_rfl) ?_
   refine VC.cond rfl (fun hcb => ?_) (fun hcb => ?_)
   ·have hc := hcb
    try simp only [qqT, qqF, qqN, qqM, qqL, qqE] at hc
    refine VC.skip ?_
    refine VC.seq ?_
    refine VC.block ?_
    refine VC.draw (fun j b => j ∈ [15, 17] ∧ b = g) hB (by kernel_rfl) ?_
    refine VA.take (i := 0) rfl (by kernel_rfl) (by kernel_rfl) (by kernel_rfl) rfl rfl (OpV.move (.inl rfl) rfl) ?_
    refine VA.take (i := 1) rfl (by kernel_rfl) (by kernel_rfl) (by kernel_rfl) rfl rfl (OpV.move (.inl rfl) rfl) ?_
    refine VA.take (i := 2) rfl (by kernel_rfl) (by kernel_rfl) (by kernel_rfl) rfl rfl (OpV.move (.inl rfl) rfl) ?_
    refine VA.take (i := 3) rfl (by kernel_rfl) (by kernel_rfl) (by kernel_rfl) rfl rfl (OpV.move (.inl rfl) rfl) ?_
    refine VA.take (i := 4) rfl (by kernel_rfl) (by kernel_rfl) (by kernel_rfl) rfl rfl (OpV.sub rfl rfl rfl (by unfold fits; omega)) ?_
    refine VA.take (i := 5) rfl (by kernel_rfl) (by kernel_rfl) (by kernel_rfl) rfl rfl (OpV.move (.inl rfl) rfl) ?_
    refine VA.take (i := 6) rfl (by kernel_rfl) (by kernel_rfl) (by kernel_rfl) rfl rfl (OpV.move (.inl rfl) rfl) ?_
    refine VA.take (i := 7) rfl (by kernel_rfl) (by kernel_rfl) (by kernel_rfl) rfl rfl (OpV.sub rfl rfl rfl (by unfold fits; omega)) ?_
    refine VA.take (i := 8) rfl (by kernel_rfl) (by kernel_rfl) (by kernel_rfl) rfl rfl (OpV.indexAddr_q rfl Tryz.underlying77 Tryz.sizeOf96 rfl rfl (show (j : Int) - 1 = ((j - 1 : Nat) : Int) by omega) (by omega)) ?_
    refine VA.take (i := 9) rfl (by kernel_rfl) (by kernel_rfl) (by kernel_rfl) rfl rfl (OpV.loadK_own (i := 0) rfl hB Tryz.isAgg96 Tryz.sizeOf96 rfl rfl (rowL_cut rfl (by omega)) (Wi.notD (by kernel_rfl))) ?_
    refine VA.take (i := 10) rfl (by kernel_rfl) (by kernel_rfl) (by kernel_rfl) rfl rfl (OpV.move (.inl rfl) rfl) ?_
    refine VA.take (i := 11) rfl (by kernel_rfl) (by kernel_rfl) (by kernel_rfl) rfl rfl (OpV.move (.inl rfl) rfl) ?_
    refine VA.take (i := 12) rfl (by kernel_rfl) (by kernel_rfl) (by kernel_rfl) rfl rfl (OpV.indexAddr_q rfl Tryz.underlying77 Tryz.sizeOf96 rfl rfl rfl (by omega)) ?_
    refine VA.take (i := 13) rfl (by kernel_rfl) (by kernel_rfl) (by kernel_rfl) rfl rfl (OpV.loadK_own (i := 0) rfl hB Tryz.isAgg96 Tryz.sizeOf96 rfl rfl (rowL_cut rfl (by omega)) (Wi.notD (by kernel_rfl))) ?_
    refine VA.take (i := 14) rfl (by kernel_rfl) (by kernel_rfl) (by kernel_rfl) rfl rfl (OpV.indexAddr_q rfl Tryz.underlying77 Tryz.sizeOf96 rfl rfl rfl (by omega)) ?_
    refine VA.all (rs := [15]) (by kernel_rfl) (by decide) ?_
    refine ⟨⟨_, rfl, .inl rfl, ?_⟩, trivial⟩
    refine OpE.storeE (i := 0) rfl hB rfl Tryz.sizeOf96 rfl rfl rfl rfl rfl rfl (rowL_inE rfl (by omega)) (rowL_setAll (x := l2.getD (j - 1) default) rfl (by omega)) (by first | exact ⟨rfl, rfl⟩ | exact .inl ⟨rfl, rfl⟩ | exact .inr ⟨rfl, rfl⟩ | exact ⟨rfl, trivial⟩ | exact .inl ⟨rfl, trivial⟩ | exact .inr ⟨rfl, trivial⟩ | exact ⟨by decide, rfl⟩) ?_
    refine VA.take (i := 16) rfl (by kernel_rfl) (by kernel_rfl) (by kernel_rfl) rfl rfl (OpV.indexAddr_q rfl Tryz.underlying77 Tryz.sizeOf96 rfl rfl (show (j : Int) - 1 = ((j - 1 : Nat) : Int) by omega) (by omega)) ?_
    refine VA.all (rs := [17]) (by kernel_rfl) (by decide) ?_
    refine ⟨⟨_, rfl, .inl rfl, ?_⟩, trivial⟩
    refine OpE.storeE (i := 0) rfl hB rfl Tryz.sizeOf96 rfl rfl rfl rfl rfl rfl (rowL_inE rfl (by rw [List.length_set]; omega)) (rowL_setAll (x := l2.getD j default) rfl (by rw [List.length_set]; omega)) (by first | exact ⟨rfl, rfl⟩ | exact .inl ⟨rfl, rfl⟩ | exact .inr ⟨rfl, rfl⟩ | exact ⟨rfl, trivial⟩ | exact .inl ⟨rfl, trivial⟩ | exact .inr ⟨rfl, trivial⟩ | exact ⟨by decide, rfl⟩) ?_
    refine VA.done (by kernel_rfl) ?_
    refine VC.region ?_
    refine VO.mv rfl rfl rfl rfl ?_
    refine VO.val rfl rfl (OpV.sub rfl rfl rfl (by unfold fits; omega)) ?_
    refine VO.ma rfl rfl rfl rfl ?_
    refine VO.nil ?_
    exact Exists.intro (⟨(j - 1, (l2.set j (l2.getD (j - 1) default)).set (j - 1) (l2.getD j default)), hI.next ht (by omega) (decide_eq_true hc)⟩) (And.intro (Le.mk hB [0] ⟨(by rw [show ((j - 1 : Nat) : Int) = (j : Int) - 1 by omega]; rfl), rfl, rfl, rfl, rfl, rfl, trivial⟩ rfl rfl (Nat.le_refl _)) (by first | omega | (show _ < _; omega) | (simp only []; omega)))
   ·have hc := hcb
    try simp only [qqT, qqF, qqN, qqM, qqL, qqE] at hc
    have hex : j = 0 ∨ decide (c (l2.getD j default) (l2.getD (j - 1) default) < 0) = false := by first | exact .inl (by omega) | exact .inr (decide_eq_false (by omega))
    refine VC.le _ (Le.boxRow (i := 0) (n := l0.length) rfl (by rw [rowL_len, hlen2]; rfl) hcap hmx) ?_
    refine VC.exit ?_
    refine VC.region ?_
    refine VO.mv rfl rfl rfl rfl ?_
    refine VO.val rfl rfl (OpV.add rfl rfl rfl (by unfold fits; omega)) ?_
    refine VO.ma rfl rfl rfl rfl ?_
    refine VO.nil ?_
    exact Exists.intro (⟨(i + 1, l2), hI.done ha hn hex, Nat.succ_pos _, by show i + 1 ≤ _; omega⟩) (And.intro (Le.mk hB [0] ⟨rfl, rfl, rfl, rfl, rfl, trivial⟩ rfl (by first | rfl | assumption) (Nat.le_refl _)) (by first | omega | (show _ < _; omega) | (simp only []; omega)))
  ·have aK2 := aK2b
   try simp only [qqT, qqF, qqN, qqM, qqL, qqE] at aK2
   refine VA.takeX (i := 4) rfl (by kernel_rfl) (by kernel_rfl) (by kernel_rfl) rfl rfl rfl rfl aK2b ?_
   refine VA.takeX (i := 5) rfl (by kernel_rfl) (by kernel_rfl) (by kernel_rfl) rfl rfl rfl rfl aK2b ?_
   refine VA.takeX (i := 6) rfl (by kernel_rfl) (by kernel_rfl) (by kernel_rfl) rfl rfl rfl rfl aK2b ?_
   refine VA.takeX (i := 7) rfl (by kernel_rfl) (by kernel_rfl) (by kernel_rfl) rfl rfl rfl rfl aK2b ?_
   refine VA.takeX (i := 8) rfl (by kernel_rfl) (by kernel_rfl) (by kernel_rfl) rfl rfl rfl rfl aK2b ?_
   refine VA.takeX (i := 9) rfl (by kernel_rfl) (by kernel_rfl) (by kernel_rfl) rfl rfl rfl rfl aK2b ?_
   refine VA.takeX (i := 10) rfl (by kernel_rfl) (by kernel_rfl) (by kernel_rfl) rfl rfl rfl rfl aK2b ?_
   refine VA.takeX (i := 11) rfl (by kernel_rfl) (by kernel_rfl) (by kernel_rfl) rfl rfl rfl rfl aK2b ?_
   refine VA.takeX (i := 12) rfl (by kernel_rfl) (by kernel_rfl) (by kernel_rfl) rfl rfl rfl rfl aK2b ?_
   refine VA.takeX (i := 13) rfl (by kernel_rfl) (by kernel_rfl) (by kernel_rfl) rfl rfl rfl rfl aK2b ?_
   refine VA.takeX (i := 14) rfl (by kernel_rfl) (by kernel_rfl) (by kernel_rfl) rfl rfl rfl rfl aK2b ?_
   refine VA.takeX (i := 15) rfl (by kernel_rfl) (by kernel_rfl) (by kernel_rfl) rfl rfl rfl rfl aK2b ?_
   refine VA.take (i := 16) rfl (by kernel_rfl) (by kernel_rfl) (by kernel_rfl) rfl rfl (OpV.pickF rfl rfl rfl rfl aK2b) ?_
   refine VA.done (by kernel_rfl) ?_
   refine VC.condF rfl rfl ?_
   have hex : j = 0 ∨ decide (c (l2.getD j default) (l2.getD (j - 1) default) < 0) = false := by first | exact .inl (by omega) | exact .inr (decide_eq_false (by omega))
   refine VC.le _ (Le.boxRow (i := 0) (n := l0.length) rfl (by rw [rowL_len, hlen2]; rfl) hcap hmx) ?_
   refine VC.exit ?_
   refine VC.region ?_
   refine VO.mv rfl rfl rfl rfl ?_
   refine VO.val rfl rfl (OpV.add rfl rfl rfl (by unfold fits; omega)) ?_
   refine VO.ma rfl rfl rfl rfl ?_
   refine VO.nil ?_
   exact Exists.intro (⟨(i + 1, l2), hI.done ha hn hex, Nat.succ_pos _, by show i + 1 ≤ _; omega⟩) (And.intro (Le.mk hB [0] ⟨rfl, rfl, rfl, rfl, rfl, trivial⟩ rfl (by first | rfl | assumption) (Nat.le_refl _)) (by first | omega | (show _ < _; omega) | (simp only []; omega)))
 ·have aH1 := aH1b
  try simp only [qqT, qqF, qqN, qqM, qqL, qqE] at aH1
  refine VC.exit ?_
  exact Exists.intro _ (And.intro (RetV.none Tryz.results327) (⟨l, hi.all (by omega), rfl, rfl⟩))
set_option maxRecDepth 100000 in
theorem pdqSort_need {l0 : List NeedS} {u : Value} {ty : TypeId} {F : FuncId} {cs : List AV} {c : NeedS → NeedS → Int} {k : Int} (hl : l0.length ≤ 12) (hcall : ∀ us w, (callFunc F us).run Tryz.prog w = .ok (.enter F us) w) (hF : ∀ x y, Spec Tryz.prog F ([avNd x, avNd y] ++ cs) (fun z => z = avI (c x y))) (ht : ∀ {a b d : NeedS}, decide (c a b < 0) = true → decide (c b d < 0) = true → decide (c a d < 0) = true) (ha : ∀ {a b : NeedS}, decide (c a b < 0) = true → decide (c b a < 0) = false) (hn : ∀ {a b d : NeedS}, decide (c b a < 0) = false → decide (c d b < 0) = false → decide (c d a < 0) = false) :
  SpecH Tryz.prog 268 [.v u, avI 0, avI l0.length, avI k, .fn F cs] [.row u l0.length 2 (rowL l0) ty] (fun y hp' => ∃ l, (l.Perm l0 ∧ OrdL (fun x y => decide (c x y < 0)) l) ∧ y = .tup [] ∧ hp' = [.row u l0.length 2 (rowL l) ty]) := by
 refine SpecH.of_VC Tryz.func268 rfl Tryz.ntmps268 (Nle rfl) fun w A hB => ?_
 have hnew : True := trivial
 refine VC.sr ?_
 refine VO.ma rfl rfl rfl rfl ?_
 refine VO.nil ?_
 refine VC.sr ?_
 refine VO.ma rfl rfl rfl rfl ?_
 refine VO.nil ?_
 refine VC.block ?_
 refine VC.loopK [(0, _), (4, _)] ⟨rfl, rfl, trivial⟩ ({z : Nat // z = 0}) (fun (iZ : {z : Nat // z = 0}) => match iZ with | ⟨z, hz⟩ => [(1, avI 0), (2, avI l0.length), (3, avI k), (10, avB true), (11, avB true)]) (fun (iZ : {z : Nat // z = 0}) => match iZ with | ⟨z, hz⟩ => [.row u l0.length 2 (rowL l0) ty]) (fun (iZ : {z : Nat // z = 0}) => match iZ with | ⟨z, hz⟩ => 0) (fun (iZ : {z : Nat // z = 0}) => match iZ with | ⟨z, hz⟩ => z) ⟨0, rfl⟩ (Le.mk hB [0] ⟨rfl, rfl, rfl, rfl, rfl, rfl, rfl, trivial⟩ rfl rfl (Nat.le_refl _)) ?_
 rintro ⟨z, hz⟩
 show VC _ _ _ _ ⟨[(1, avI 0), (2, avI l0.length), (3, avI k), (10, avB true), (11, avB true)] ++ [(0, _), (4, _)], [.row u l0.length 2 (rowL l0) ty], 0⟩
 refine VC.block ?_
 refine VC.sr ?_
 refine VO.mv rfl rfl rfl rfl ?_
 refine VO.mv rfl rfl rfl rfl ?_
 refine VO.val rfl rfl (OpV.sub rfl rfl rfl (by unfold fits; omega)) ?_
 refine VO.ma rfl rfl rfl rfl ?_
 refine VO.nil ?_
 refine VC.seq ?_
 refine VC.sr ?_
 refine VO.mv rfl rfl rfl rfl ?_
 refine VO.val rfl rfl (OpV.leq rfl rfl rfl) ?_
 refine VO.nil ?_
 refine VC.cond rfl (fun aH1b => ?_) (fun aH1b => ?_)
 ·have aH1 := aH1b
  try simp only [qqT, qqF, qqN, qqM, qqL, qqE] at aH1
  refine VC.sr ?_
  refine VO.mv rfl rfl rfl rfl ?_
  refine VO.mv rfl rfl rfl rfl ?_
  refine VO.mv rfl rfl rfl rfl ?_
  refine VO.mv rfl rfl rfl rfl ?_
  refine VO.op rfl (OpE.callH0 rfl hB rfl Tryz.call327 rfl rfl (insSort_need (by omega) hcall hF ht ha hn) (List.Perm.refl _) (fun _ _ => trivial) ?_)
  rintro _ _ ⟨l, hpl, rfl, rfl⟩
  refine VO.nil ?_
  refine VC.ret ?_
  exact Exists.intro _ (And.intro (RetV.none Tryz.results268) (⟨l, hpl, rfl, rfl⟩))
 ·have aH1 := aH1b
  try simp only [qqT, qqF, qqN, qqM, qqL, qqE] at aH1
  exact VC.absurd (by omega)
set_option maxRecDepth 100000 in
theorem sortFunc_need {l0 : List NeedS} {u : Value} {ty : TypeId} {F : FuncId} {cs : List AV} {c : NeedS → NeedS → Int} (hl : l0.length ≤ 12) (hcall : ∀ us w, (callFunc F us).run Tryz.prog w = .ok (.enter F us) w) (hF : ∀ x y, Spec Tryz.prog F ([avNd x, avNd y] ++ cs) (fun z => z = avI (c x y))) (ht : ∀ {a b d : NeedS}, decide (c a b < 0) = true → decide (c b d < 0) = true → decide (c a d < 0) = true) (ha : ∀ {a b : NeedS}, decide (c a b < 0) = true → decide (c b a < 0) = false) (hn : ∀ {a b d : NeedS}, decide (c b a < 0) = false → decide (c d b < 0) = false → decide (c d a < 0) = false) :
  SpecH Tryz.prog 154 [.v u, .fn F cs] [.row u l0.length 2 (rowL l0) ty] (fun y hp' => ∃ l, (l.Perm l0 ∧ OrdL (fun x y => decide (c x y < 0)) l) ∧ y = .tup [] ∧ hp' = [.row u l0.length 2 (rowL l) ty]) := by
 refine SpecH.of_VC Tryz.func154 rfl Tryz.ntmps154 (Nle rfl) fun w A hB => ?_
 have hnew : True := trivial
 refine VC.sr ?_
 refine VO.mv rfl rfl rfl rfl ?_
 refine VO.val rfl rfl (OpV.len_row (i := 0) rfl Tryz.underlying77 rfl rfl) ?_
 refine VO.ma rfl rfl rfl rfl ?_
 refine VO.nil ?_
 refine VC.region ?_
 refine VO.mv rfl rfl rfl rfl ?_
 refine VO.mv rfl rfl rfl rfl ?_
 refine VO.mv rfl rfl rfl rfl ?_
 refine VO.val rfl rfl (OpV.conv rfl Tryz.underlying3 Tryz.underlying191 rfl (IntWalk.u64_in _ (by omega))) ?_
 refine VO.op rfl (OpE.call rfl hB rfl Tryz.call143 rfl (SpecN.spec (bits_Len_S (x := (l0.length : Int)) (by omega) (by omega))) ?_)
 rintro _ ⟨k, rfl⟩
 refine VO.mv rfl rfl rfl rfl ?_
 refine VO.op rfl (OpE.callH0 rfl hB rfl Tryz.call268 rfl rfl (pdqSort_need hl hcall hF ht ha hn) (List.Perm.refl _) (fun _ _ => trivial) ?_)
 rintro _ _ ⟨l, hpl, rfl, rfl⟩
 refine VO.nil ?_
 exact Exists.intro _ (And.intro (RetV.none Tryz.results154) (⟨l, hpl, rfl, rfl⟩))
end Go.Proofs.YtaaokimiadfidaaGreatDoor
namespace Go.Proofs.YtaaokimiadfidaaGreatDoor
open Go.RowKit
set_option linter.unusedVariables false
set_option linter.unusedSimpArgs false
theorem SpecH.fnv {P : Program} {F G : FuncId} {x : AV} {hp : List Ent} {Q : AV → List Ent → Prop} (h : SpecH P F [x, .fn G []] hp Q) : SpecH P F [x, .v (.func (.func G) #[] #[])] hp Q := fun w A us ha h2 h3 h4 => by
 refine h w A us ⟨ha.1, fun j hj => ?_⟩ h2 h3 h4
 match j, hj with
 | 0, hj => exact ha.2 0 (by simp)
 | 1, hj =>
  have h1 := ha.2 1 (by simp)
  have e : us.getD 1 undef = .func (.func G) #[] #[] := h1.eq_v
  show Rep w _ (.fn G []) (us.getD 1 undef)
  rw [e]
  exact .fn G [] #[] rfl fun j hj => by simp at hj
end Go.Proofs.YtaaokimiadfidaaGreatDoor
namespace Go.Proofs.YtaaokimiadfidaaGreatDoor
open Go.RowKit
set_option linter.unusedVariables false
set_option linter.unusedSimpArgs false
structure SmN (l : List NeedS) : Prop where
 len : l.length ≤ 1000000
 key : ∀ i, (l.getD i default).key.size ≤ 1000000
def stkE (p : List PaceS) (o : List OrdrS) (st : List NeedS) : Int := if bothF p o ≠ 0 then bothF p o else needsF st 0 1000000000
theorem stkE_1 {p : List PaceS} {o : List OrdrS} {st : List NeedS} (h : bothF p o ≠ 0) : stkE p o st = bothF p o := by rw [stkE, if_pos h]
theorem stkE_2 {p : List PaceS} {o : List OrdrS} {st : List NeedS} (h : bothF p o = 0) : stkE p o st = needsF st 0 1000000000 := by rw [stkE, if_neg (by omega)]
theorem stk_ok {p : List PaceS} {o : List OrdrS} {st : List NeedS} (h : stkE p o st = 0) : bothF p o = 0 ∧ needsF st 0 1000000000 = 0 := by
 unfold stkE at h
 split at h
 ·contradiction
 ·rename_i h1; exact ⟨by simpa using h1, h⟩
def shortR (p : List PaceS) (o : List OrdrS) (st : List NeedS) : List NeedS := if stkE p o st = 0 then shortL (kitsL p o) st else []
def covE (p : List PaceS) (o : List OrdrS) (st : List NeedS) : List ByteArray := if stkE p o st = 0 then covL p o st else []
theorem both_ok {p : List PaceS} {o : List OrdrS} (h : bothF p o = 0) : paceF p = 0 ∧ ordrF o = 0 := by
 unfold bothF at h
 split at h
 ·contradiction
 ·rename_i h1
  split at h
  ·contradiction
  ·rename_i h2; exact ⟨by simpa using h1, by simpa using h2⟩
theorem pace_needs {p : List PaceS} (h : paceF p = 0) (k : ByteArray) : needsF (paceO p k).needs 1 1000 = 0 := by
 unfold paceO
 cases hf : p.find? (fun x => sEq x.product k) with
 | none => rfl
 | some x =>
  obtain ⟨i, hi, rfl⟩ := List.getElem_of_mem (List.mem_of_find?_eq_some hf)
  have := (paceE_zero ((pacesOk h).all i hi)).2.2.2
  rw [List.getD_eq_getElem?_getD, List.getElem?_eq_getElem hi] at this
  exact this
theorem ordr_count {o : List OrdrS} (h : ordrF o = 0) {i : Nat} (hi : i < o.length) : 1 ≤ (o.getD i default).count ∧ (o.getD i default).count ≤ 100000 := by
 have := (ordrE_zero ((ordrsOk h).all i hi)).2.2
 omega
theorem kit_bd {p : List PaceS} {x : OrdrS} (h : paceF p = 0) (hx : 1 ≤ x.count ∧ x.count ≤ 100000) : ∀ y ∈ kitL p x, 0 ≤ y.count ∧ y.count ≤ 100000000 := fun y hy => by
 obtain ⟨n, hn, rfl⟩ := List.mem_map.1 hy
 have h1 := needs_bd (pace_needs h x.product) n hn
 have h2 : n.count * x.count ≤ 1000 * x.count := Int.mul_le_mul_of_nonneg_right (by omega) (by omega)
 exact ⟨Int.mul_nonneg (by omega) (by omega), by show n.count * x.count ≤ _; omega⟩
theorem kit_len {p : List PaceS} {x : OrdrS} (h : paceF p = 0) : (kitL p x).length ≤ 1000 := by
 unfold kitL; rw [kitN_len]; exact needsF_lenP (pace_needs h x.product)
theorem amt_bd {l : List NeedS} (hl : l.length ≤ 1000000) (hb : ∀ y ∈ l, 0 ≤ y.count ∧ y.count ≤ 1000000000) (q : Nat) (k : ByteArray) : 0 ≤ mgetD (amtP (l.take q)) k 0 ∧ mgetD (amtP (l.take q)) k 0 ≤ 1000000000000000 := by
 rw [amtP_get]
 have h1 := sumK_bd (c := 1000000000) (by decide) (l := l.take q) (fun y hy => hb y (List.mem_of_mem_take hy)) k
 have h2 : (l.take q).length ≤ 1000000 := by rw [List.length_take]; omega
 omega
theorem need_bd {l : List NeedS} {c : Int} (h0 : 0 ≤ c) (hb : ∀ y ∈ l, 0 ≤ y.count ∧ y.count ≤ c) (q : Nat) : 0 ≤ (l.getD q default).count ∧ (l.getD q default).count ≤ c := by
 rw [List.getD_eq_getElem?_getD]
 cases h : l[q]? with
 | none => exact ⟨Int.le_refl _, h0⟩
 | some x => exact hb x (List.mem_of_getElem? h)
theorem mul_fit {l : List NeedS} {c : Int} (hn : needsF l 1 1000 = 0) (hc : 1 ≤ c ∧ c ≤ 100000) (q : Nat) : 0 ≤ (l.getD q default).count * c ∧ (l.getD q default).count * c ≤ 100000000 := by
 have h1 := need_bd (c := 1000) (by decide) (fun y hy => by have := needs_bd hn y hy; omega) q
 have h2 : (l.getD q default).count * c ≤ 1000 * c := Int.mul_le_mul_of_nonneg_right h1.2 (by omega)
 exact ⟨Int.mul_nonneg h1.1 (by omega), by omega⟩
theorem nd_oneK (xs : List NeedS) (x : Nat) (h : x < xs.length * 2) : ((fun q => Sxc.cell (xs.getD q default)) (x / Sxc.k NeedS) (x % Sxc.k NeedS)).one = true := by
 have : x % Sxc.k NeedS < 2 := Nat.mod_lt _ (by decide)
 match x % Sxc.k NeedS, this with
 | 0, _ => rfl
 | 1, _ => rfl
theorem app_kit (A B : List NeedS) : rowL A ++ tab (B.length * 2) (fun x => (fun q => Sxc.cell (B.getD q default)) (x / Sxc.k NeedS) (x % Sxc.k NeedS)) = rowL (A ++ B) := (congrArg (fun z => rowL A ++ z) (tab_L B)).trans (by simp [rowL])
set_option maxRecDepth 100000 in
set_option maxHeartbeats 4000000 in
theorem plan_kitOfX {p : List PaceS} {x : OrdrS} {pc : PaceS} (hl : p.length ≤ 1000000) (hr : RiseK PaceS.product p) (hpc : paceO p x.product = pc) (hn : needsF pc.needs 1 1000 = 0) (hc : 1 ≤ x.count ∧ x.count ≤ 100000) :
  SpecN Tryz.prog 151 [avL p, avOr x] (fun y => y = avL (kitN pc.needs x.count)) := by
 have hnl := needsF_lenP hn
 refine SpecN.of_VCN Tryz.func151 rfl Tryz.ntmps151 (Nle rfl) fun w A hB => ?_
 have hnew : True := trivial
 refine VC.sr ?_
 refine VO.op rfl (OpE.box rfl hB rfl rfl rfl ?_)
 intro g3
 refine VO.ma rfl rfl rfl rfl ?_
 refine VO.nil ?_
 refine VC.sr ?_
 refine VO.mv rfl rfl rfl rfl ?_
 refine VO.val rfl rfl (OpV.fieldAddrO 1 rfl Tryz.underlying89 rfl rfl Tryz.sizeOf9 rfl) ?_
 refine VO.val rfl rfl (OpV.load_own (i := 0) rfl hB Tryz.isAgg9 rfl rfl rfl (fun h => h)) ?_
 refine VO.op rfl (OpE.call rfl hB rfl Tryz.call265 rfl (plan_paceOf hl hr) ?_)
 rintro _ rfl
 refine VO.le _ (Le.recast (t := 14) (y := .tup [avPc pc, avB (hasP p x.product)]) rfl (fun w Z u h => by rw [← hpc]; exact h)) ?_
 refine VO.mv rfl rfl rfl rfl ?_
 refine VO.val rfl rfl (OpV.extract rfl rfl rfl) ?_
 refine VO.val rfl rfl (OpV.extract rfl rfl rfl) ?_
 refine VO.op rfl (OpE.alloc rfl hB rfl Tryz.zeroValue137 rfl ?_)
 intro g5
 refine VO.op rfl (OpE.store (i := 1) rfl hB rfl Tryz.sizeOf137 rfl rfl rfl rfl rfl rfl (Nle rfl) trivial ?_)
 refine VO.ma rfl rfl rfl rfl ?_
 refine VO.nil ?_
 refine VC.sr ?_
 refine VO.ma rfl rfl rfl rfl ?_
 refine VO.nil ?_
 refine VC.seq ?_
 refine VC.sr ?_
 refine VO.val rfl rfl (OpV.fieldAddrO 2 rfl Tryz.underlying137 rfl rfl Tryz.sizeOf77 rfl) ?_
 refine VO.val rfl rfl (OpV.load_own (i := 1) rfl hB Tryz.isAgg77 rfl rfl rfl (fun h => h)) ?_
 refine VO.val rfl rfl (OpV.len_im rfl Tryz.underlying77 rfl) ?_
 refine VO.mv rfl rfl rfl rfl ?_
 refine VO.nil ?_
 refine VC.block ?_
 refine VC.le _ (Le.nilRow 2 96) ?_
 refine VC.loopK [(3, _), (18, _), (19, _)] ⟨rfl, rfl, rfl, trivial⟩ ({zz : Value × Nat // zz.2 ≤ pc.needs.length}) (fun (iZ : {zz : Value × Nat // zz.2 ≤ pc.needs.length}) => match iZ with | ⟨⟨u, q⟩, hq⟩ => [(7, .v u), (20, avI (q : Int))]) (fun (iZ : {zz : Value × Nat // zz.2 ≤ pc.needs.length}) => match iZ with | ⟨⟨u, q⟩, hq⟩ => [boxOr g3 x 89, .box g5 ⟨[avS pc.product, avI pc.cycle, avL pc.needs], 137, 3⟩, .row u (kitN (pc.needs.take q) x.count).length 2 (rowL (kitN (pc.needs.take q) x.count)) 96]) (fun (iZ : {zz : Value × Nat // zz.2 ≤ pc.needs.length}) => match iZ with | ⟨⟨u, q⟩, hq⟩ => 0) (fun (iZ : {zz : Value × Nat // zz.2 ≤ pc.needs.length}) => match iZ with | ⟨⟨u, q⟩, hq⟩ => pc.needs.length - q) ⟨(.slice none 0 0, 0), Nat.zero_le _⟩ (Le.mk hB [0, 1, 2] ⟨rfl, rfl, rfl, rfl, rfl, trivial⟩ rfl rfl (Nat.le_refl _)) ?_
 rintro ⟨⟨u, q⟩, hq⟩
 show VC _ _ _ _ ⟨[(7, .v u), (20, avI (q : Int))] ++ [(3, _), (18, _), (19, _)], [boxOr g3 x 89, .box g5 ⟨[avS pc.product, avI pc.cycle, avL pc.needs], 137, 3⟩, .row u (kitN (pc.needs.take q) x.count).length 2 (rowL (kitN (pc.needs.take q) x.count)) 96], 0⟩
 simp only at hq
 have hkl := kitN_len (pc.needs.take q) x.count
 have htl : (pc.needs.take q).length ≤ 1000 := by rw [List.length_take]; omega
 refine VC.sr ?_
 refine VO.val rfl rfl (OpV.lss rfl rfl rfl) ?_
 refine VO.nil ?_
 refine VC.seq ?_
 refine VC.cond rfl (fun aH1b => ?_) (fun aH1b => ?_)
 ·have aH1 := aH1b
  try simp only [qqT, qqF, qqN, qqM, qqL, qqE] at aH1
  refine VC.skip ?_
  refine VC.seq ?_
  refine VC.block ?_
  refine VC.sr ?_
  refine VO.val rfl rfl (OpV.indexAddr_E rfl Tryz.underlying77 Tryz.sizeOf96 rfl rfl rfl (by omega)) ?_
  refine VO.val rfl rfl (OpV.loadK_at rfl hB OutW.no Tryz.isAgg96 Tryz.sizeOf96 rfl rfl) ?_
  refine VO.op rfl (OpE.alloc rfl hB rfl Tryz.zeroValue96 rfl ?_)
  intro g9
  refine VO.op rfl (OpE.store (i := 3) rfl hB rfl Tryz.sizeOf96 rfl rfl rfl rfl rfl rfl (Nle rfl) trivial ?_)
  refine VO.nil ?_
  refine VC.region ?_
  refine VO.mv rfl rfl rfl rfl ?_
  refine VO.val rfl rfl (OpV.fieldAddrO 0 rfl Tryz.underlying96 rfl rfl Tryz.sizeOf9 rfl) ?_
  refine VO.val rfl rfl (OpV.load_own (i := 3) rfl hB Tryz.isAgg9 rfl rfl rfl (fun h => h)) ?_
  refine VO.val rfl rfl (OpV.fieldAddrO 1 rfl Tryz.underlying96 rfl rfl Tryz.sizeOf3 rfl) ?_
  refine VO.val rfl rfl (OpV.load_own (i := 3) rfl hB Tryz.isAgg3 rfl rfl rfl (fun h => h)) ?_
  refine VO.val rfl rfl (OpV.fieldAddrO 2 rfl Tryz.underlying89 rfl rfl Tryz.sizeOf3 rfl) ?_
  refine VO.val rfl rfl (OpV.load_own (i := 0) rfl hB Tryz.isAgg3 rfl rfl rfl (fun h => h)) ?_
  refine VO.val rfl rfl (OpV.mul rfl rfl rfl (by have h := mul_fit hn hc q; unfold fits; omega)) ?_
  refine VO.val rfl rfl (OpV.build (pls := #[(0, 1), (1, 1)]) rfl Tryz.zeroValue96 Tryz.underlying96 (fun w => by kernel_rfl) rfl rfl) ?_
  refine VO.op rfl (OpE.buildSlice (zc := #[.string ⟨#[]⟩, .int .i64 0]) rfl hB rfl Tryz.underlying77 Tryz.sizeOf96 Tryz.zeroValue96 (by decide) (by decide) (by kernel_rfl) rfl rfl ?_)
  refine VO.op rfl (OpE.append1 (i := 2) rfl hB rfl Tryz.underlying77 (infoOf Tryz.t96 2 (by kernel_rfl) rfl rfl) rfl (by decide) (by decide) rfl rfl rfl rfl (rowL_snoc _ (⟨(pc.needs.getD q default).key, (pc.needs.getD q default).count * x.count⟩ : NeedS)) (by omega) (fun _ _ => trivial) ?_)
  intro u2
  refine VO.ma rfl rfl rfl rfl ?_
  refine VO.nil ?_
  refine VC.region ?_
  refine VO.val rfl rfl (OpV.add rfl rfl rfl (by unfold fits; omega)) ?_
  refine VO.mv rfl rfl rfl rfl ?_
  refine VO.nil ?_
  exact Exists.intro (⟨(u2, q + 1), by show _ ≤ _; omega⟩) (And.intro (Le.mk hB [0, 1, 2] ⟨rfl, rfl, rfl, rfl, rfl, trivial⟩ rfl (by dsimp only; rw [kitN_take (by omega), List.length_append]; rfl) (Nat.le_refl _)) (by first | omega | (show _ < _; omega) | (simp only []; omega)))
 ·have aH1 := aH1b
  try simp only [qqT, qqF, qqN, qqM, qqL, qqE] at aH1
  refine VC.exit ?_
  refine VC.seq ?_
  have hqe : pc.needs.take q = pc.needs := List.take_of_length_le (by omega)
  rw [hqe]
  refine VC.region ?_
  refine VO.mv rfl rfl rfl rfl ?_
  refine VO.ma rfl rfl rfl rfl ?_
  refine VO.nil ?_
  refine VC.ret ?_
  exact Exists.intro _ (And.intro (RetN.one Tryz.results151 (ResN.rowT (i := 2) rfl rfl rfl (flat_need _))) (rfl))
theorem plan_kitOf {p : List PaceS} {x : OrdrS} (hl : p.length ≤ 1000000) (hp : paceF p = 0) (hc : 1 ≤ x.count ∧ x.count ≤ 100000) : SpecN Tryz.prog 151 [avL p, avOr x] (fun y => y = avL (kitL p x)) := plan_kitOfX hl (pace_rise (pacesOk hp)) rfl (pace_needs hp _) hc

set_option maxRecDepth 100000 in
theorem plan_stocked {p : List PaceS} {o : List OrdrS} {st : List NeedS} (hp : SmPc p) (ho : SmOr o) (hs : SmN st) :
  SpecN Tryz.prog 152 [avL p, avL o, avL st] (fun y => y = avI (stkE p o st)) := by
 refine SpecN.of_VCN Tryz.func152 rfl Tryz.ntmps152 (Nle rfl) fun w A hB => ?_
 have hnew : True := trivial
 refine VC.sr ?_
 refine VO.ma rfl rfl rfl rfl ?_
 refine VO.nil ?_
 refine VC.seq ?_
 refine VC.sr ?_
 refine VO.mv rfl rfl rfl rfl ?_
 refine VO.mv rfl rfl rfl rfl ?_
 refine VO.op rfl (OpE.call rfl hB rfl Tryz.call147 rfl (SpecN.spec (plan_fault hp ho)) ?_)
 rintro _ rfl
 refine VO.ma rfl rfl rfl rfl ?_
 refine VO.nil ?_
 refine VC.sr ?_
 refine VO.mv rfl rfl rfl rfl ?_
 refine VO.val rfl rfl (OpV.neq rfl rfl rfl) ?_
 refine VO.nil ?_
 refine VC.cond rfl (fun h0b => ?_) (fun h0b => ?_)
 ·have h0 := h0b
  try simp only [qqT, qqF, qqN, qqM, qqL, qqE] at h0
  refine VC.sr ?_
  refine VO.mv rfl rfl rfl rfl ?_
  refine VO.ma rfl rfl rfl rfl ?_
  refine VO.nil ?_
  refine VC.ret ?_
  exact Exists.intro _ (And.intro (RetN.one Tryz.results152 (ResN.v rfl)) (by rw [stkE_1 h0]))
 ·have h0 := h0b
  try simp only [qqT, qqF, qqN, qqM, qqL, qqE] at h0
  refine VC.skip ?_
  refine VC.sr ?_
  refine VO.mv rfl rfl rfl rfl ?_
  refine VO.op rfl (OpE.call rfl hB rfl Tryz.call267 rfl (SpecN.spec (line_NeedsFault (by have := hs.len; omega) (fun i => by have := hs.key i; omega))) ?_)
  rintro _ rfl
  refine VO.ma rfl rfl rfl rfl ?_
  refine VO.nil ?_
  refine VC.ret ?_
  exact Exists.intro _ (And.intro (RetN.one Tryz.results152 (ResN.v rfl)) (by rw [stkE_2 (by omega)]))
set_option maxRecDepth 100000 in
theorem plan_Kit1 {x : OrdrS} {k : ByteArray}  :
  SpecN Tryz.prog 149 [avT x, avS k] (fun y => y = avI (cmpB x.key k)) := by
 refine SpecN.of_VCN Tryz.func149 rfl Tryz.ntmps149 (Nle rfl) fun w A hB => ?_
 have hnew : True := trivial
 refine VC.sr ?_
 refine VO.op rfl (OpE.box rfl hB rfl rfl rfl ?_)
 intro g2
 refine VO.ma rfl rfl rfl rfl ?_
 refine VO.nil ?_
 refine VC.sr ?_
 refine VO.val rfl rfl (OpV.fieldAddrO 0 rfl Tryz.underlying89 rfl rfl Tryz.sizeOf9 rfl) ?_
 refine VO.val rfl rfl (OpV.load_own (i := 0) rfl hB Tryz.isAgg9 rfl rfl rfl (fun h => h)) ?_
 refine VO.mv rfl rfl rfl rfl ?_
 refine VO.op rfl (OpE.call rfl hB rfl Tryz.call150 rfl (SpecN.spec (strings_Compare_S)) ?_)
 rintro _ rfl
 refine VO.ma rfl rfl rfl rfl ?_
 refine VO.nil ?_
 refine VC.ret ?_
 exact Exists.intro _ (And.intro (RetN.one Tryz.results149 (ResN.v rfl)) (rfl))
set_option maxRecDepth 100000 in
theorem bsf_ordr {xs : List OrdrS} {t : ByteArray} {F : FuncId} {cs : List AV} {c : OrdrS → Int} {s0 : Nat} (hl : xs.length ≤ 1000000) (hcall : ∀ us w, (callFunc F us).run Tryz.prog w = .ok (.enter F us) w) (hF : ∀ x, Spec Tryz.prog F ([avT x, avS t] ++ cs) (fun y => y = avI (c x))) (hs : s0 ≤ xs.length) (hlo : ∀ j, j < s0 → c (xs.getD j default) < 0) (hhi : ∀ j, s0 ≤ j → j < xs.length → 0 ≤ c (xs.getD j default)) :
  SpecN Tryz.prog 148 [avL xs, avS t, .fn F cs] (fun y => y = .tup [avI (s0 : Int), avB (decide (s0 < xs.length) && decide (c (xs.getD s0 default) = 0))]) := by
 refine SpecN.of_VCN Tryz.func148 rfl Tryz.ntmps148 (Nle rfl) fun w A hB => ?_
 have hnew : True := trivial
 refine VC.sr ?_
 refine VO.ma rfl rfl rfl rfl ?_
 refine VO.ma rfl rfl rfl rfl ?_
 refine VO.nil ?_
 refine VC.sr ?_
 refine VO.mv rfl rfl rfl rfl ?_
 refine VO.val rfl rfl (OpV.len_im rfl Tryz.underlying75 rfl) ?_
 refine VO.ma rfl rfl rfl rfl ?_
 refine VO.nil ?_
 refine VC.sr ?_
 refine VO.mv rfl rfl rfl rfl ?_
 refine VO.ma rfl rfl rfl rfl ?_
 refine VO.ma rfl rfl rfl rfl ?_
 refine VO.nil ?_
 refine VC.seq ?_
 refine VC.block ?_
 refine VC.loopK [(0, _), (1, _), (2, _), (8, _)] ⟨rfl, rfl, rfl, rfl, trivial⟩ ({z : Nat × Nat // z.1 ≤ s0 ∧ s0 ≤ z.2 ∧ z.2 ≤ xs.length}) (fun (iZ : {z : Nat × Nat // z.1 ≤ s0 ∧ s0 ≤ z.2 ∧ z.2 ≤ xs.length}) => match iZ with | ⟨⟨i, j⟩, h1, h2, h3⟩ => [(9, avI (i : Int)), (10, avI (j : Int))]) (fun (iZ : {z : Nat × Nat // z.1 ≤ s0 ∧ s0 ≤ z.2 ∧ z.2 ≤ xs.length}) => match iZ with | ⟨⟨i, j⟩, h1, h2, h3⟩ => []) (fun (iZ : {z : Nat × Nat // z.1 ≤ s0 ∧ s0 ≤ z.2 ∧ z.2 ≤ xs.length}) => match iZ with | ⟨⟨i, j⟩, h1, h2, h3⟩ => 0) (fun (iZ : {z : Nat × Nat // z.1 ≤ s0 ∧ s0 ≤ z.2 ∧ z.2 ≤ xs.length}) => match iZ with | ⟨⟨i, j⟩, h1, h2, h3⟩ => j - i) ⟨(0, xs.length), Nat.zero_le _, hs, Nat.le_refl _⟩ (Le.mk hB [] ⟨rfl, rfl, rfl, rfl, rfl, rfl, trivial⟩ rfl rfl (Nat.le_refl _)) ?_
 rintro ⟨⟨i, j⟩, h1, h2, h3⟩
 show VC _ _ _ _ ⟨[(9, avI (i : Int)), (10, avI (j : Int))] ++ [(0, _), (1, _), (2, _), (8, _)], [], 0⟩
 simp only at h1 h2 h3
 refine VC.seq ?_
 refine VC.sr ?_
 refine VO.mv rfl rfl rfl rfl ?_
 refine VO.mv rfl rfl rfl rfl ?_
 refine VO.val rfl rfl (OpV.lss rfl rfl rfl) ?_
 refine VO.nil ?_
 refine VC.cond rfl (fun aH1b => ?_) (fun aH1b => ?_)
 ·have aH1 := aH1b
  try simp only [qqT, qqF, qqN, qqM, qqL, qqE] at aH1
  refine VC.skip ?_
  refine VC.block ?_
  refine VC.sr ?_
  refine VO.mv rfl rfl rfl rfl ?_
  refine VO.mv rfl rfl rfl rfl ?_
  refine VO.val rfl rfl (OpV.add rfl rfl rfl (by unfold fits; omega)) ?_
  refine VO.val rfl rfl (OpV.conv rfl Tryz.underlying3 Tryz.underlying191 rfl (IntWalk.u64_in _ (by omega))) ?_
  refine VO.val rfl rfl (OpV.shr1 rfl rfl rfl rfl (by omega)) ?_
  refine VO.val rfl rfl (OpV.conv rfl Tryz.underlying191 Tryz.underlying3 rfl (IntWalk.i64_in _ (by omega))) ?_
  refine VO.ma rfl rfl rfl rfl ?_
  refine VO.nil ?_
  refine VC.sr ?_
  refine VO.mv rfl rfl rfl rfl ?_
  refine VO.mv rfl rfl rfl rfl ?_
  refine VO.mv rfl rfl rfl rfl ?_
  refine VO.val rfl rfl (OpV.indexAddr_E rfl Tryz.underlying75 Tryz.sizeOf89 rfl rfl (Int.toNat_of_nonneg (by omega)).symm (by omega)) ?_
  refine VO.val rfl rfl (OpV.loadK_at rfl hB OutW.no Tryz.isAgg89 Tryz.sizeOf89 rfl rfl) ?_
  refine VO.mv rfl rfl rfl rfl ?_
  refine VO.op rfl (OpE.callF rfl hB rfl hcall rfl rfl (hF _) ?_)
  rintro _ rfl
  refine VO.val rfl rfl (OpV.lss rfl rfl rfl) ?_
  refine VO.nil ?_
  refine VC.cond rfl (fun hcb => ?_) (fun hcb => ?_)
  ·have hc := hcb
   try simp only [qqT, qqF, qqN, qqM, qqL, qqE] at hc
   refine VC.region ?_
   refine VO.mv rfl rfl rfl rfl ?_
   refine VO.val rfl rfl (OpV.add rfl rfl rfl (by unfold fits; omega)) ?_
   refine VO.ma rfl rfl rfl rfl ?_
   refine VO.nil ?_
   exact Exists.intro (⟨((((i : Int) + j) / 2).toNat + 1, j), bsf_lo hhi (by omega) hc, h2, h3⟩) (And.intro (Le.mk hB [] ⟨(by first | rfl | exact congrArg (fun z => some (avI z)) (by omega)), (by first | rfl | exact congrArg (fun z => some (avI z)) (by omega)), rfl, rfl, rfl, rfl, trivial⟩ rfl rfl (Nat.le_refl _)) (by first | omega | (show _ < _; omega) | (simp only []; omega)))
  ·have hc := hcb
   try simp only [qqT, qqF, qqN, qqM, qqL, qqE] at hc
   refine VC.region ?_
   refine VO.mv rfl rfl rfl rfl ?_
   refine VO.ma rfl rfl rfl rfl ?_
   refine VO.nil ?_
   exact Exists.intro (⟨(i, (((i : Int) + j) / 2).toNat), h1, bsf_hi (h := (((i : Int) + j) / 2).toNat) hlo hc, by show _ ≤ xs.length; omega⟩) (And.intro (Le.mk hB [] ⟨(by first | rfl | exact congrArg (fun z => some (avI z)) (by omega)), (by first | rfl | exact congrArg (fun z => some (avI z)) (by omega)), rfl, rfl, rfl, rfl, trivial⟩ rfl rfl (Nat.le_refl _)) (by first | omega | (show _ < _; omega) | (simp only []; omega)))
 ·have aH1 := aH1b
  try simp only [qqT, qqF, qqN, qqM, qqL, qqE] at aH1
  obtain rfl : i = s0 := by omega
  refine VC.exit ?_
  refine VC.sr ?_
  refine VO.mv rfl rfl rfl rfl ?_
  refine VO.mv rfl rfl rfl rfl ?_
  refine VO.mv rfl rfl rfl rfl ?_
  refine VO.val rfl rfl (OpV.lss rfl rfl rfl) ?_
  refine VO.mv rfl rfl rfl rfl ?_
  refine VO.opG rfl rfl rfl rfl (fun aK2b => ?_) (fun aK2b => ?_)
  ·replace aK2b : _ = true := aK2b
   have aK2 := aK2b
   try simp only [qqT, qqF, qqN, qqM, qqL, qqE] at aK2
   refine OpE.val (W := NoB) (OpV.move (.inl rfl) rfl) rfl ?_
   refine VO.opY rfl rfl rfl rfl aK2b ?_
   refine OpE.val (W := NoB) (OpV.move (.inl rfl) rfl) rfl ?_
   refine VO.opY rfl rfl rfl rfl aK2b ?_
   refine OpE.val (W := NoB) (OpV.move (.inl rfl) rfl) rfl ?_
   refine VO.opY rfl rfl rfl rfl aK2b ?_
   refine OpE.val (W := NoB) (OpV.indexAddr_E rfl Tryz.underlying75 Tryz.sizeOf89 rfl rfl rfl (by omega)) rfl ?_
   refine VO.opY rfl rfl rfl rfl aK2b ?_
   refine OpE.val (W := NoB) (OpV.loadK_at rfl hB OutW.no Tryz.isAgg89 Tryz.sizeOf89 rfl rfl) rfl ?_
   refine VO.opY rfl rfl rfl rfl aK2b ?_
   refine OpE.val (W := NoB) (OpV.move (.inl rfl) rfl) rfl ?_
   refine VO.opY rfl rfl rfl rfl aK2b ?_
   refine OpE.callF rfl hB rfl hcall rfl rfl (hF _) ?_
   rintro _ rfl
   refine VO.opY rfl rfl rfl rfl aK2b ?_
   refine OpE.val (W := NoB) (OpV.eql rfl rfl rfl) rfl ?_
   refine VO.val rfl rfl (OpV.pickT rfl rfl rfl rfl aK2b) ?_
   refine VO.ma rfl rfl rfl rfl ?_
   refine VO.ma rfl rfl rfl rfl ?_
   refine VO.nil ?_
   refine VC.ret ?_
   exact Exists.intro _ (And.intro (RetN.two Tryz.results148 (ResN.v rfl) (ResN.v rfl)) (by first | (rw [decide_eq_true (show i < xs.length by omega)]; rfl) | (rw [decide_eq_false (show ¬ i < xs.length by omega)]; rfl)))
  ·replace aK2b : _ = false := aK2b
   have aK2 := aK2b
   try simp only [qqT, qqF, qqN, qqM, qqL, qqE] at aK2
   refine VO.opX rfl rfl rfl rfl aK2b ?_
   refine VO.opX rfl rfl rfl rfl aK2b ?_
   refine VO.opX rfl rfl rfl rfl aK2b ?_
   refine VO.opX rfl rfl rfl rfl aK2b ?_
   refine VO.opX rfl rfl rfl rfl aK2b ?_
   refine VO.opX rfl rfl rfl rfl aK2b ?_
   refine VO.opX rfl rfl rfl rfl aK2b ?_
   refine VO.val rfl rfl (OpV.pickF rfl rfl rfl rfl aK2b) ?_
   refine VO.ma rfl rfl rfl rfl ?_
   refine VO.ma rfl rfl rfl rfl ?_
   refine VO.nil ?_
   refine VC.ret ?_
   exact Exists.intro _ (And.intro (RetN.two Tryz.results148 (ResN.v rfl) (ResN.v rfl)) (by first | (rw [decide_eq_true (show i < xs.length by omega)]; rfl) | (rw [decide_eq_false (show ¬ i < xs.length by omega)]; rfl)))
def hasO (o : List OrdrS) (k : ByteArray) : Bool := o.any fun x => sEq x.key k
def kitE (p : List PaceS) (o : List OrdrS) (k : ByteArray) : Int := if bothF p o ≠ 0 then bothF p o else if hasO o k = true then 0 else 8
def kitR (p : List PaceS) (o : List OrdrS) (k : ByteArray) : List NeedS := if kitE p o k = 0 then kk0 p o k else []
theorem kitE_1 {p : List PaceS} {o : List OrdrS} {k : ByteArray} (h : bothF p o ≠ 0) : kitE p o k = bothF p o := by rw [kitE, if_pos h]
theorem kitE_8 {p : List PaceS} {o : List OrdrS} {k : ByteArray} (h : bothF p o = 0) (h2 : hasO o k = false) : kitE p o k = 8 := by rw [kitE, if_neg (by omega), if_neg (by rw [h2]; simp)]
theorem kitE_0 {p : List PaceS} {o : List OrdrS} {k : ByteArray} (h : bothF p o = 0) (h2 : hasO o k = true) : kitE p o k = 0 := by rw [kitE, if_neg (by omega), if_pos h2]
theorem kitE_ok {p : List PaceS} {o : List OrdrS} {k : ByteArray} (h : kitE p o k = 0) : bothF p o = 0 ∧ hasO o k = true := by
 unfold kitE at h
 split at h
 ·contradiction
 ·rename_i h1
  split at h
  ·exact ⟨by simpa using h1, by assumption⟩
  ·cases h
theorem kitR_no {p : List PaceS} {o : List OrdrS} {k : ByteArray} (h : kitE p o k ≠ 0) : kitR p o k = [] := by rw [kitR, if_neg h]
theorem kitR_ok {p : List PaceS} {o : List OrdrS} {k : ByteArray} (h : kitE p o k = 0) : kitR p o k = kk0 p o k := by rw [kitR, if_pos h]
theorem low_fidx {o : List OrdrS} {k : ByteArray} (hr : RiseK OrdrS.key o) (h1 : lowK OrdrS.key o k < o.length) (h2 : sEq (o.getD (lowK OrdrS.key o k) default).key k = true) : fidx (fun x => sEq x.key k) o = (lowK OrdrS.key o k : Int) :=
 fidx_found (d := default) h1 (fun j hj => by
  have := lowK_lt (key := OrdrS.key) (l := o) (k := k) hj
  cases h : sEq (o.getD j default).key k with
  | false => rfl
  | true => rw [sEq_eq.1 h, sLt_irr] at this; cases this) h2
set_option maxRecDepth 100000 in
set_option maxHeartbeats 4000000 in
theorem plan_Kit {p : List PaceS} {o : List OrdrS} {k : ByteArray} (hp : SmPc p) (ho : SmOr o) :
  Spec Tryz.prog 47 [avL p, avL o, avS k] (fun y => y = .tup [avL (kitR p o k), avI (kitE p o k)]) := by
 have hol := ho.len
 have hpl := hp.len
 refine Spec.of_VC Tryz.func47 rfl Tryz.ntmps47 (Nle rfl) fun w A hB => ?_
 have hnew : True := trivial
 refine VC.sr ?_
 refine VO.ma rfl rfl rfl rfl ?_
 refine VO.ma rfl rfl rfl rfl ?_
 refine VO.nil ?_
 refine VC.seq ?_
 refine VC.sr ?_
 refine VO.mv rfl rfl rfl rfl ?_
 refine VO.mv rfl rfl rfl rfl ?_
 refine VO.op rfl (OpE.call rfl hB rfl Tryz.call147 rfl (SpecN.spec (plan_fault hp ho)) ?_)
 rintro _ rfl
 refine VO.ma rfl rfl rfl rfl ?_
 refine VO.nil ?_
 refine VC.sr ?_
 refine VO.mv rfl rfl rfl rfl ?_
 refine VO.val rfl rfl (OpV.neq rfl rfl rfl) ?_
 refine VO.nil ?_
 refine VC.cond rfl (fun h0b => ?_) (fun h0b => ?_)
 ·have h0 := h0b
  try simp only [qqT, qqF, qqN, qqM, qqL, qqE] at h0
  refine VC.sr ?_
  refine VO.mv rfl rfl rfl rfl ?_
  refine VO.ma rfl rfl rfl rfl ?_
  refine VO.ma rfl rfl rfl rfl ?_
  refine VO.nil ?_
  refine VC.le _ (Le.recast (t := 6) (y := avL ([] : List NeedS)) rfl (fun w Z u h => by rw [h.eq_v]; exact .nil _ _)) ?_
  refine VC.ret ?_
  exact Exists.intro _ (And.intro (RetV.two Tryz.results47 (ResV.tmp rfl) (ResV.tmp rfl)) (by rw [kitR_no (by rw [kitE_1 h0]; exact h0), kitE_1 h0]))
 ·have h0 := h0b
  try simp only [qqT, qqF, qqN, qqM, qqL, qqE] at h0
  have h00 : bothF p o = 0 := by omega
  have hro := ordr_rise (ordrsOk (both_ok h00).2)
  refine VC.skip ?_
  refine VC.sr ?_
  refine VO.mv rfl rfl rfl rfl ?_
  refine VO.mv rfl rfl rfl rfl ?_
  refine VO.op rfl (OpE.callL rfl hB rfl Tryz.call148 (bsf_ordr (c := fun x => cmpB x.key k) (s0 := lowK OrdrS.key o k) hol Tryz.call149 (fun x => plan_Kit1.spec) lowK_le (lowK_cmp hro).1 (lowK_cmp hro).2) (ArgsP.cons (ArgP.ev rfl) (ArgsP.cons (ArgP.ev rfl) (ArgsP.cons (ArgP.fn0 rfl) (ArgsP.nil)))) ?_)
  rintro _ rfl
  refine VO.mv rfl rfl rfl rfl ?_
  refine VO.val rfl rfl (OpV.extract rfl rfl rfl) ?_
  refine VO.val rfl rfl (OpV.extract rfl rfl rfl) ?_
  refine VO.le _ (Le.recast (t := 22) (y := avB (hasO o k)) rfl (fun w Z u h => by rw [hasO, ← lowK_any hro, ← cmp_zero]; exact h)) ?_
  refine VO.ma rfl rfl rfl rfl ?_
  refine VO.ma rfl rfl rfl rfl ?_
  refine VO.nil ?_
  refine VC.seq ?_
  refine VC.sr ?_
  refine VO.mv rfl rfl rfl rfl ?_
  refine VO.val rfl rfl (OpV.not rfl rfl) ?_
  refine VO.nil ?_
  refine VC.cond rfl (fun h1b => ?_) (fun h1b => ?_)
  ·have h1 := h1b
   try simp only [qqT, qqF, qqN, qqM, qqL, qqE] at h1
   refine VC.sr ?_
   refine VO.ma rfl rfl rfl rfl ?_
   refine VO.ma rfl rfl rfl rfl ?_
   refine VO.nil ?_
   refine VC.le _ (Le.recast (t := 6) (y := avL ([] : List NeedS)) rfl (fun w Z u h => by rw [h.eq_v]; exact .nil _ _)) ?_
   refine VC.ret ?_
   exact Exists.intro _ (And.intro (RetV.two Tryz.results47 (ResV.tmp rfl) (ResV.tmp rfl)) (by rw [kitR_no (by rw [kitE_8 h00 h1]; decide), kitE_8 h00 h1]))
  ·have h1 := h1b
   try simp only [qqT, qqF, qqN, qqM, qqL, qqE] at h1
   have h2 := (lowK_any hro (k := k)).trans h1
   rw [Bool.and_eq_true, decide_eq_true_eq] at h2
   have hfi := low_fidx hro h2.1 h2.2
   refine VC.skip ?_
   refine VC.sr ?_
   refine VO.mv rfl rfl rfl rfl ?_
   refine VO.mv rfl rfl rfl rfl ?_
   refine VO.mv rfl rfl rfl rfl ?_
   refine VO.val rfl rfl (OpV.indexAddr_E rfl Tryz.underlying75 Tryz.sizeOf89 rfl rfl rfl (by omega)) ?_
   refine VO.val rfl rfl (OpV.loadK_at rfl hB OutW.no Tryz.isAgg89 Tryz.sizeOf89 rfl rfl) ?_
   refine VO.op rfl (OpE.call rfl hB rfl Tryz.call151 rfl (SpecN.spec (plan_kitOf hpl (both_ok h00).1 (ordr_count (both_ok h00).2 h2.1))) ?_)
   rintro _ rfl
   refine VO.ma rfl rfl rfl rfl ?_
   refine VO.ma rfl rfl rfl rfl ?_
   refine VO.nil ?_
   refine VC.ret ?_
   exact Exists.intro _ (And.intro (RetV.two Tryz.results47 (ResV.tmp rfl) (ResV.tmp rfl)) (by rw [kitR_ok (kitE_0 h00 h1), kitE_0 h00 h1, kk0, hfi]; rfl))
set_option maxRecDepth 100000 in
theorem plan_amounts {l : List NeedS} (hl : l.length ≤ 1000000) (hb : ∀ y ∈ l, 0 ≤ y.count ∧ y.count ≤ 1000000000) :
  SpecH Tryz.prog 153 [avL l] [] (fun y hp' => ∃ g, y = .v (.map (some g)) ∧ hp' = [mapE kvS g eI (amtP l)]) := by
 refine SpecH.of_VC Tryz.func153 rfl Tryz.ntmps153 (Nle rfl) fun w A hB => ?_
 have hnew : True := trivial
 refine VC.sr ?_
 refine VO.ma rfl rfl rfl rfl ?_
 refine VO.nil ?_
 refine VC.sr ?_
 refine VO.op rfl (OpE.makeMap (kvS) (eI) rfl hB rfl ?_)
 intro g6
 refine VO.ma rfl rfl rfl rfl ?_
 refine VO.nil ?_
 refine VC.seq ?_
 refine VC.sr ?_
 refine VO.mv rfl rfl rfl rfl ?_
 refine VO.val rfl rfl (OpV.len_im rfl Tryz.underlying77 rfl) ?_
 refine VO.mv rfl rfl rfl rfl ?_
 refine VO.nil ?_
 refine VC.block ?_
 refine VC.loopK [(3, _), (7, _), (8, _)] ⟨rfl, rfl, rfl, trivial⟩ ({q : Nat // q ≤ l.length}) (fun (iZ : {q : Nat // q ≤ l.length}) => match iZ with | ⟨q, hq⟩ => [(9, avI (q : Int))]) (fun (iZ : {q : Nat // q ≤ l.length}) => match iZ with | ⟨q, hq⟩ => [mapE kvS g6 eI (amtP (l.take q))]) (fun (iZ : {q : Nat // q ≤ l.length}) => match iZ with | ⟨q, hq⟩ => 0) (fun (iZ : {q : Nat // q ≤ l.length}) => match iZ with | ⟨q, hq⟩ => l.length - q) ⟨0, Nat.zero_le _⟩ (Le.mk hB [0] ⟨rfl, rfl, rfl, rfl, trivial⟩ rfl rfl (Nat.le_refl _)) ?_
 rintro ⟨q, hq⟩
 show VC _ _ _ _ ⟨[(9, avI (q : Int))] ++ [(3, _), (7, _), (8, _)], [mapE kvS g6 eI (amtP (l.take q))], 0⟩
 have hb1 := amt_bd hl hb q
 have hb2 := need_bd (by decide) hb q
 refine VC.sr ?_
 refine VO.val rfl rfl (OpV.lss rfl rfl rfl) ?_
 refine VO.nil ?_
 refine VC.seq ?_
 refine VC.cond rfl (fun aH1b => ?_) (fun aH1b => ?_)
 ·have aH1 := aH1b
  try simp only [qqT, qqF, qqN, qqM, qqL, qqE] at aH1
  refine VC.skip ?_
  refine VC.seq ?_
  refine VC.block ?_
  refine VC.sr ?_
  refine VO.val rfl rfl (OpV.indexAddr_E rfl Tryz.underlying77 Tryz.sizeOf96 rfl rfl rfl (by omega)) ?_
  refine VO.val rfl rfl (OpV.loadK_at rfl hB OutW.no Tryz.isAgg96 Tryz.sizeOf96 rfl rfl) ?_
  refine VO.op rfl (OpE.alloc rfl hB rfl Tryz.zeroValue96 rfl ?_)
  intro g5
  refine VO.op rfl (OpE.store (i := 1) rfl hB rfl Tryz.sizeOf96 rfl rfl rfl rfl rfl rfl (Nle rfl) trivial ?_)
  refine VO.nil ?_
  refine VC.region ?_
  refine VO.mv rfl rfl rfl rfl ?_
  refine VO.val rfl rfl (OpV.fieldAddrO 0 rfl Tryz.underlying96 rfl rfl Tryz.sizeOf9 rfl) ?_
  refine VO.val rfl rfl (OpV.load_own (i := 1) rfl hB Tryz.isAgg9 rfl rfl rfl (fun h => h)) ?_
  refine VO.val rfl rfl (OpV.lookup_own (i := 0) rfl hB Tryz.underlying100 (KeyOk.str Tryz.underlying9) Tryz.zeroValue3 rfl (KeyE.v rfl) rfl (fun h => h)) ?_
  refine VO.le _ (Le.recast (t := 16) (y := avI (mgetD (amtP (l.take q)) (l.getD q default).key 0)) rfl (fun w Z u h => by unfold mgetD; revert h; cases mget (amtP (l.take q)) (l.getD q default).key <;> exact id)) ?_
  refine VO.val rfl rfl (OpV.fieldAddrO 1 rfl Tryz.underlying96 rfl rfl Tryz.sizeOf3 rfl) ?_
  refine VO.val rfl rfl (OpV.load_own (i := 1) rfl hB Tryz.isAgg3 rfl rfl rfl (fun h => h)) ?_
  refine VO.val rfl rfl (OpV.add rfl rfl rfl (by have h := hb1 (l.getD q default).key; unfold fits; omega)) ?_
  refine VO.op rfl (OpE.mapUpdate (i := 0) (xx := mgetD (amtP (l.take q)) (l.getD q default).key 0 + (l.getD q default).count) rfl hB rfl Tryz.underlying100 (KeyOk.str Tryz.underlying9) rfl (KeyE.v rfl) rfl rfl trivial ?_)
  refine VO.nil ?_
  refine VC.region ?_
  refine VO.val rfl rfl (OpV.add rfl rfl rfl (by unfold fits; omega)) ?_
  refine VO.mv rfl rfl rfl rfl ?_
  refine VO.nil ?_
  exact Exists.intro (⟨q + 1, by omega⟩) (And.intro (Le.mk hB [0] ⟨rfl, rfl, rfl, rfl, trivial⟩ rfl (by dsimp only; rw [amtP_take (by omega)]; rfl) (Nat.le_refl _)) (by first | omega | (show _ < _; omega) | (simp only []; omega)))
 ·have aH1 := aH1b
  try simp only [qqT, qqF, qqN, qqM, qqL, qqE] at aH1
  refine VC.exit ?_
  refine VC.seq ?_
  have hqe : l.take q = l := List.take_of_length_le (by omega)
  rw [hqe]
  refine VC.region ?_
  refine VO.mv rfl rfl rfl rfl ?_
  refine VO.ma rfl rfl rfl rfl ?_
  refine VO.nil ?_
  refine VC.ret ?_
  exact Exists.intro _ (And.intro (RetV.one Tryz.results153 (ResV.tmp rfl)) (⟨_, rfl, rfl⟩))
set_option maxRecDepth 100000 in
theorem plan_Short1 {x z : NeedS}  :
  SpecN Tryz.prog 155 [avNd x, avNd z] (fun y => y = avI (cmpB x.key z.key)) := by
 refine SpecN.of_VCN Tryz.func155 rfl Tryz.ntmps155 (Nle rfl) fun w A hB => ?_
 have hnew : True := trivial
 refine VC.sr ?_
 refine VO.op rfl (OpE.box rfl hB rfl rfl rfl ?_)
 intro g2
 refine VO.op rfl (OpE.box rfl hB rfl rfl rfl ?_)
 intro g3
 refine VO.ma rfl rfl rfl rfl ?_
 refine VO.nil ?_
 refine VC.sr ?_
 refine VO.val rfl rfl (OpV.fieldAddrO 0 rfl Tryz.underlying96 rfl rfl Tryz.sizeOf9 rfl) ?_
 refine VO.val rfl rfl (OpV.load_own (i := 0) rfl hB Tryz.isAgg9 rfl rfl rfl (fun h => h)) ?_
 refine VO.val rfl rfl (OpV.fieldAddrO 0 rfl Tryz.underlying96 rfl rfl Tryz.sizeOf9 rfl) ?_
 refine VO.val rfl rfl (OpV.load_own (i := 1) rfl hB Tryz.isAgg9 rfl rfl rfl (fun h => h)) ?_
 refine VO.op rfl (OpE.call rfl hB rfl Tryz.call150 rfl (SpecN.spec (strings_Compare_S)) ?_)
 rintro _ rfl
 refine VO.ma rfl rfl rfl rfl ?_
 refine VO.nil ?_
 refine VC.ret ?_
 exact Exists.intro _ (And.intro (RetN.one Tryz.results155 (ResN.v rfl)) (rfl))
theorem keys_bd {l : List NeedS} {ks : List ByteArray} (h : ∀ y ∈ l, y.key ∈ ks) : (amtP l).length ≤ ks.length := by
 have := nodup_bd (amtP_nodup l) (r := ks) fun x hx => by
  obtain ⟨y, hy, rfl⟩ := amtP_mem.1 hx
  exact h y hy
 simpa using this
theorem amtP_val {l : List NeedS} {j : Nat} (h : j < (amtP l).length) : ((amtP l).getD j default).2 = sumK l ((amtP l).getD j default).1 := by
 rw [← amtP_get, List.getD_eq_getElem?_getD, List.getElem?_eq_getElem h]
 exact (mget_mem (amtP_nodup l) (List.getElem_mem h)).symm
theorem kits_bd {p : List PaceS} {o : List OrdrS} (h : paceF p = 0) (h2 : ordrF o = 0) : ∀ y ∈ kitsL p o, 0 ≤ y.count ∧ y.count ≤ 100000000 := fun y hy => by
 obtain ⟨x, hx, hy⟩ := List.mem_flatMap.1 hy
 obtain ⟨i, hi, rfl⟩ := List.getElem_of_mem hx
 have := ordr_count h2 hi
 rw [List.getD_eq_getElem?_getD, List.getElem?_eq_getElem hi] at this
 exact kit_bd h this y hy
theorem kits_len {p : List PaceS} (h : paceF p = 0) : ∀ (o : List OrdrS), (kitsL p o).length ≤ 1000 * o.length
 | [] => by simp [kitsL]
 | x :: o => by
  have := kits_len h o
  have := kit_len (x := x) h
  unfold kitsL at *
  rw [List.flatMap_cons, List.length_append, List.length_cons]; omega
set_option maxRecDepth 100000 in
set_option maxHeartbeats 8000000 in
theorem plan_Short {p : List PaceS} {o : List OrdrS} {st : List NeedS} {ks : List ByteArray} (hp : SmPc p) (ho : SmOr o) (hs : SmN st) (hks : ∀ y ∈ kitsL p o, y.key ∈ ks) (hkl : ks.length ≤ 12) :
  SpecN Tryz.prog 48 [avL p, avL o, avL st] (fun y => y = .tup [avL (shortR p o st), avI (stkE p o st)]) := by
 have hol := ho.len
 have hpl := hp.len
 have hsl := hs.len
 refine SpecN.of_VCN Tryz.func48 rfl Tryz.ntmps48 (Nle rfl) fun w A hB => ?_
 have hnew : True := trivial
 refine VC.sr ?_
 refine VO.ma rfl rfl rfl rfl ?_
 refine VO.ma rfl rfl rfl rfl ?_
 refine VO.nil ?_
 refine VC.seq ?_
 refine VC.sr ?_
 refine VO.mv rfl rfl rfl rfl ?_
 refine VO.mv rfl rfl rfl rfl ?_
 refine VO.mv rfl rfl rfl rfl ?_
 refine VO.op rfl (OpE.call rfl hB rfl Tryz.call152 rfl (SpecN.spec (plan_stocked hp ho hs)) ?_)
 rintro _ rfl
 refine VO.ma rfl rfl rfl rfl ?_
 refine VO.nil ?_
 refine VC.sr ?_
 refine VO.mv rfl rfl rfl rfl ?_
 refine VO.val rfl rfl (OpV.neq rfl rfl rfl) ?_
 refine VO.nil ?_
 refine VC.cond rfl (fun h0b => ?_) (fun h0b => ?_)
 ·have h0 := h0b
  try simp only [qqT, qqF, qqN, qqM, qqL, qqE] at h0
  refine VC.sr ?_
  refine VO.mv rfl rfl rfl rfl ?_
  refine VO.ma rfl rfl rfl rfl ?_
  refine VO.ma rfl rfl rfl rfl ?_
  refine VO.nil ?_
  refine VC.ret ?_
  exact Exists.intro _ (And.intro (RetN.two Tryz.results48 (ResN.nilE rfl) (ResN.v rfl)) (by rw [shortR, if_neg h0]; rfl))
 ·have h0 := h0b
  try simp only [qqT, qqF, qqN, qqM, qqL, qqE] at h0
  have hz : stkE p o st = 0 := by omega
  obtain ⟨hb, hn⟩ := stk_ok hz
  obtain ⟨hpf, hof⟩ := both_ok hb
  have hol2 := (ordrsOk hof).len
  have hbd := needs_bd hn
  refine VC.skip ?_
  refine VC.sr ?_
  refine VO.ma rfl rfl rfl rfl ?_
  refine VO.nil ?_
  refine VC.seq ?_
  refine VC.sr ?_
  refine VO.mv rfl rfl rfl rfl ?_
  refine VO.val rfl rfl (OpV.len_im rfl Tryz.underlying75 rfl) ?_
  refine VO.mv rfl rfl rfl rfl ?_
  refine VO.nil ?_
  refine VC.block ?_
  refine VC.le _ (Le.nilRow 2 96) ?_
  refine VC.loopK [(0, _), (2, _), (23, _), (24, _)] ⟨rfl, rfl, rfl, rfl, trivial⟩ ({zz : Value × Nat // zz.2 ≤ o.length}) (fun (iZ : {zz : Value × Nat // zz.2 ≤ o.length}) => match iZ with | ⟨⟨u, q⟩, hq⟩ => [(9, .v u), (25, avI (q : Int))]) (fun (iZ : {zz : Value × Nat // zz.2 ≤ o.length}) => match iZ with | ⟨⟨u, q⟩, hq⟩ => [.row u (kitsL p (o.take q)).length 2 (rowL (kitsL p (o.take q))) 96]) (fun (iZ : {zz : Value × Nat // zz.2 ≤ o.length}) => match iZ with | ⟨⟨u, q⟩, hq⟩ => 0) (fun (iZ : {zz : Value × Nat // zz.2 ≤ o.length}) => match iZ with | ⟨⟨u, q⟩, hq⟩ => o.length - q) ⟨(.slice none 0 0, 0), Nat.zero_le _⟩ (Le.mk hB [0] ⟨rfl, rfl, rfl, rfl, rfl, rfl, trivial⟩ rfl rfl (Nat.le_refl _)) ?_
  rintro ⟨⟨u, q⟩, hq⟩
  show VC _ _ _ _ ⟨[(9, .v u), (25, avI (q : Int))] ++ [(0, _), (2, _), (23, _), (24, _)], [.row u (kitsL p (o.take q)).length 2 (rowL (kitsL p (o.take q))) 96], 0⟩
  simp only at hq
  have hk1 := kits_len hpf (o.take q)
  have hk2 : (o.take q).length ≤ q := by rw [List.length_take]; omega
  have hk3 := kit_len (x := o.getD q default) hpf
  refine VC.sr ?_
  refine VO.val rfl rfl (OpV.lss rfl rfl rfl) ?_
  refine VO.nil ?_
  refine VC.seq ?_
  refine VC.cond rfl (fun h1b => ?_) (fun h1b => ?_)
  ·have h1 := h1b
   try simp only [qqT, qqF, qqN, qqM, qqL, qqE] at h1
   refine VC.skip ?_
   refine VC.seq ?_
   refine VC.block ?_
   refine VC.sr ?_
   refine VO.val rfl rfl (OpV.indexAddr_E rfl Tryz.underlying75 Tryz.sizeOf89 rfl rfl rfl (by omega)) ?_
   refine VO.val rfl rfl (OpV.loadK_at rfl hB OutW.no Tryz.isAgg89 Tryz.sizeOf89 rfl rfl) ?_
   refine VO.op rfl (OpE.alloc rfl hB rfl Tryz.zeroValue89 rfl ?_)
   intro g11
   refine VO.op rfl (OpE.store (i := 1) rfl hB rfl Tryz.sizeOf89 rfl rfl rfl rfl rfl rfl (Nle rfl) trivial ?_)
   refine VO.nil ?_
   refine VC.region ?_
   refine VO.mv rfl rfl rfl rfl ?_
   refine VO.mv rfl rfl rfl rfl ?_
   refine VO.val rfl rfl (OpV.loadK_own (i := 1) rfl hB Tryz.isAgg89 Tryz.sizeOf89 rfl rfl rfl (fun h => h)) ?_
   refine VO.op rfl (OpE.call rfl hB rfl Tryz.call151 rfl (SpecN.spec (plan_kitOf hpl hpf (ordr_count hof (by omega)))) ?_)
   rintro _ rfl
   refine VO.op rfl (OpE.appendP (i := 0) rfl hB rfl Tryz.underlying77 (infoOf Tryz.t96 2 (by kernel_rfl) rfl rfl) rfl (by decide) (by decide) rfl rfl (.im rfl) (nd_oneK (kitL p (o.getD q default))) (by omega) (app_kit (kitsL p (o.take q)) (kitL p (o.getD q default))) (fun _ _ => trivial) ?_)
   intro u2
   refine VO.ma rfl rfl rfl rfl ?_
   refine VO.nil ?_
   refine VC.region ?_
   refine VO.val rfl rfl (OpV.add rfl rfl rfl (by unfold fits; omega)) ?_
   refine VO.mv rfl rfl rfl rfl ?_
   refine VO.nil ?_
   exact Exists.intro (⟨(u2, q + 1), by show _ ≤ _; omega⟩) (And.intro (Le.mk hB [0] ⟨rfl, rfl, rfl, rfl, rfl, rfl, trivial⟩ rfl (by dsimp only; rw [kitsL_take (by omega), List.length_append]; rfl) (Nat.le_refl _)) (by first | omega | (show _ < _; omega) | (simp only []; omega)))
  ·have h1 := h1b
   try simp only [qqT, qqF, qqN, qqM, qqL, qqE] at h1
   refine VC.exit ?_
   refine VC.seq ?_
   have hqe : o.take q = o := List.take_of_length_le (by omega)
   refine VC.le _ (Le.rowT (t := 9) (i := 0) (xs := kitsL p (o.take q)) hB hnew rfl rfl rfl) ?_
   obtain ⟨A, hA⟩ : ∃ A, kitsL p o = A := ⟨_, rfl⟩
   refine VC.le _ (Le.recast (t := 9) (y := avL A) rfl (fun w Z u h => by rw [← hA, ← hqe]; exact h)) ?_
   have hAb := kits_bd hpf hof
   have hAl := kits_len hpf o
   have hAk := keys_bd hks
   rw [hA] at hAb hAl hAk
   refine VC.le ⟨[(2, _), (9, _)], [], _⟩ (Le.mk hB [] ⟨rfl, rfl, trivial⟩ rfl rfl (Nat.le_refl _)) ?_
   refine VC.region ?_
   refine VO.mv rfl rfl rfl rfl ?_
   refine VO.op rfl (OpE.callH (hp := []) (rest := _) rfl hB rfl Tryz.call153 rfl rfl (plan_amounts (by omega) hbd) (List.Perm.refl _) (fun _ h => by obtain ⟨e, he, _⟩ := h; cases he) ?_)
   rintro _ _ ⟨g36, rfl, rfl⟩
   refine VO.ma rfl rfl rfl rfl ?_
   refine VO.nil ?_
   refine VC.sr ?_
   refine VO.ma rfl rfl rfl rfl ?_
   refine VO.nil ?_
   refine VC.seq ?_
   refine VC.sr ?_
   refine VO.mv rfl rfl rfl rfl ?_
   refine VO.op rfl (OpE.callH (hp := []) (rest := _) rfl hB rfl Tryz.call153 rfl rfl (plan_amounts (by omega) (fun y hy => by have := hAb y hy; omega)) (List.Perm.refl _) (fun _ h => by obtain ⟨e, he, _⟩ := h; cases he) ?_)
   rintro _ _ ⟨g38, rfl, rfl⟩
   refine VO.le _ (Le.freezeM (t := 38) (i := 0) hB hnew rfl rfl) ?_
   refine VO.op rfl (OpE.rangeM rfl hB rfl Tryz.underlying100 rfl ?_)
   intro g39
   refine VO.nil ?_
   refine VC.block ?_
   refine VC.le _ (Le.nilRow 2 96) ?_
   refine VC.loopK [(12, _), (39, _)] ⟨rfl, rfl, trivial⟩ ({z : Value × List Nat // z.2.Nodup ∧ ∀ j ∈ z.2, j < (amtP A).length}) (fun (iZ : {z : Value × List Nat // z.2.Nodup ∧ ∀ j ∈ z.2, j < (amtP A).length}) => match iZ with | ⟨⟨u, seen⟩, hsd, hsn⟩ => [(13, .v u)]) (fun (iZ : {z : Value × List Nat // z.2.Nodup ∧ ∀ j ∈ z.2, j < (amtP A).length}) => match iZ with | ⟨⟨u, seen⟩, hsd, hsn⟩ => [mapE kvS g36 eI (amtP st), .it g39 (amtP A).length (fun j => kvS ((amtP A).getD j default).1) (fun j => eI ((amtP A).getD j default).2) seen, .row u (pickS (amtP A) st seen).length 2 (rowL (pickS (amtP A) st seen)) 96]) (fun (iZ : {z : Value × List Nat // z.2.Nodup ∧ ∀ j ∈ z.2, j < (amtP A).length}) => match iZ with | ⟨⟨u, seen⟩, hsd, hsn⟩ => 0) (fun (iZ : {z : Value × List Nat // z.2.Nodup ∧ ∀ j ∈ z.2, j < (amtP A).length}) => match iZ with | ⟨⟨u, seen⟩, hsd, hsn⟩ => (amtP A).length - seen.length) ⟨(.slice none 0 0, []), List.nodup_nil, fun j hj => by simp at hj⟩ (Le.mk hB [0, 1, 2] ⟨rfl, rfl, rfl, trivial⟩ rfl rfl (Nat.le_refl _)) ?_
   rintro ⟨⟨u, seen⟩, hsd, hsn⟩
   show VC _ _ _ _ ⟨[(13, .v u)] ++ [(12, _), (39, _)], [mapE kvS g36 eI (amtP st), .it g39 (amtP A).length (fun j => kvS ((amtP A).getD j default).1) (fun j => eI ((amtP A).getD j default).2) seen, .row u (pickS (amtP A) st seen).length 2 (rowL (pickS (amtP A) st seen)) 96], 0⟩
   simp only at hsd hsn
   have hsl := seen_len hsd hsn
   have hpl := pickS_len (amtP A) st seen
   refine VC.sr ?_
   refine VO.op rfl (OpE.nextM (i := 1) rfl hB rfl rfl rfl trivial ?_ ?_)
   ·intro hall40
    refine VO.val rfl rfl (OpV.extract rfl rfl rfl) ?_
    refine VO.nil ?_
    refine VC.seq ?_
    refine VC.condF rfl rfl ?_
    refine VC.exit ?_
    refine VC.seq ?_
    refine VC.le _ (Le.drop 2) ?_
    refine VC.region ?_
    refine VO.mv rfl rfl rfl rfl ?_
    refine VO.op rfl (OpE.callH0 rfl hB rfl Tryz.call154 rfl rfl (SpecH.fnv (sortFunc_need (l0 := pickS (amtP A) st seen) (F := 155) (cs := []) (c := fun x z => cmpB x.key z.key) (by omega) Tryz.call155 (fun x z => plan_Short1.spec) ltN_trans ltN_as ltN_neg)) (List.Perm.refl _) (fun _ _ => trivial) ?_)
    rintro _ _ ⟨r, hpr, rfl, rfl⟩
    refine VO.nil ?_
    refine VC.sr ?_
    refine VO.mv rfl rfl rfl rfl ?_
    refine VO.ma rfl rfl rfl rfl ?_
    refine VO.ma rfl rfl rfl rfl ?_
    refine VO.nil ?_
    refine VC.ret ?_
    exact Exists.intro _ (And.intro (RetN.two Tryz.results48 (ResN.rowT (i := 0) (xs := r) rfl rfl hpr.1.length_eq.symm (flat_need _)) (ResN.v rfl)) (by rw [shortR, if_pos hz, hz, hA, shortL_one hsd hsn hall40 hpr.1 hpr.2]))
   ·intro j40 hj40 hn40
    have hsd2 : (j40 :: seen).Nodup := List.nodup_cons.2 ⟨hn40, hsd⟩
    have hsn2 : ∀ j ∈ j40 :: seen, j < (amtP A).length := fun j hj => (List.mem_cons.1 hj).elim (fun e => e ▸ hj40) (hsn j)
    have hsl2 := seen_len hsd2 hsn2
    have hsl3 : (j40 :: seen).length = seen.length + 1 := rfl
    have hv1 := amtP_val hj40
    have hv2 := sumK_bd (by decide) hAb ((amtP A).getD j40 default).1
    have hv3 := sumK_bd (by decide) hbd ((amtP A).getD j40 default).1
    refine VO.val rfl rfl (OpV.extract rfl rfl rfl) ?_
    refine VO.nil ?_
    refine VC.seq ?_
    refine VC.condT rfl rfl ?_
    refine VC.skip ?_
    refine VC.block ?_
    refine VC.sr ?_
    refine VO.val rfl rfl (OpV.entryM (i := 1) rfl hB rfl rfl) ?_
    refine VO.val rfl rfl (OpV.extract rfl rfl rfl) ?_
    refine VO.val rfl rfl (OpV.extract rfl rfl rfl) ?_
    refine VO.ma rfl rfl rfl rfl ?_
    refine VO.ma rfl rfl rfl rfl ?_
    refine VO.nil ?_
    refine VC.sr ?_
    refine VO.mv rfl rfl rfl rfl ?_
    refine VO.mv rfl rfl rfl rfl ?_
    refine VO.mv rfl rfl rfl rfl ?_
    refine VO.val rfl rfl (OpV.lookup_own (i := 0) rfl hB Tryz.underlying100 (KeyOk.str Tryz.underlying9) Tryz.zeroValue3 rfl (KeyE.v rfl) rfl (fun h => h)) ?_
    refine VO.le _ (Le.recast (t := 48) (y := avI (sumK st ((amtP A).getD j40 default).1)) rfl (fun w Z u h => by rw [← amtP_get]; unfold mgetD; revert h; cases mget (amtP st) ((amtP A).getD j40 default).1 <;> exact id)) ?_
    refine VO.val rfl rfl (OpV.gtr rfl rfl rfl) ?_
    refine VO.nil ?_
    refine VC.cond rfl (fun k3b => ?_) (fun k3b => ?_)
    ·have k3 := k3b
     try simp only [qqT, qqF, qqN, qqM, qqL, qqE] at k3
     refine VC.region ?_
     refine VO.mv rfl rfl rfl rfl ?_
     refine VO.mv rfl rfl rfl rfl ?_
     refine VO.mv rfl rfl rfl rfl ?_
     refine VO.mv rfl rfl rfl rfl ?_
     refine VO.mv rfl rfl rfl rfl ?_
     refine VO.val rfl rfl (OpV.lookup_own (i := 0) rfl hB Tryz.underlying100 (KeyOk.str Tryz.underlying9) Tryz.zeroValue3 rfl (KeyE.v rfl) rfl (fun h => h)) ?_
     refine VO.le _ (Le.recast (t := 55) (y := avI (sumK st ((amtP A).getD j40 default).1)) rfl (fun w Z u h => by rw [← amtP_get]; unfold mgetD; revert h; cases mget (amtP st) ((amtP A).getD j40 default).1 <;> exact id)) ?_
     refine VO.val rfl rfl (OpV.sub rfl rfl rfl (by unfold fits; omega)) ?_
     refine VO.val rfl rfl (OpV.build (pls := #[(0, 1), (1, 1)]) rfl Tryz.zeroValue96 Tryz.underlying96 (fun w => by kernel_rfl) rfl rfl) ?_
     refine VO.op rfl (OpE.buildSlice (zc := #[.string ⟨#[]⟩, .int .i64 0]) rfl hB rfl Tryz.underlying77 Tryz.sizeOf96 Tryz.zeroValue96 (by decide) (by decide) (by kernel_rfl) rfl rfl ?_)
     refine VO.op rfl (OpE.append1 (i := 2) rfl hB rfl Tryz.underlying77 (infoOf Tryz.t96 2 (by kernel_rfl) rfl rfl) rfl (by decide) (by decide) rfl rfl rfl rfl (rowL_snoc _ (⟨((amtP A).getD j40 default).1, ((amtP A).getD j40 default).2 - sumK st ((amtP A).getD j40 default).1⟩ : NeedS)) (by omega) (fun _ _ => trivial) ?_)
     intro u59
     refine VO.ma rfl rfl rfl rfl ?_
     refine VO.nil ?_
     exact Exists.intro (⟨(u59, j40 :: seen), hsd2, hsn2⟩) (And.intro (Le.mk hB [0, 1, 2] ⟨rfl, rfl, rfl, trivial⟩ rfl (by dsimp only; first | (rw [pickS_t k3, List.length_append]; rfl) | (rw [pickS_f k3]; rfl)) (Nat.le_refl _)) (by first | omega | (show _ < _; omega) | (simp only []; omega)))
    ·have k3 := k3b
     try simp only [qqT, qqF, qqN, qqM, qqL, qqE] at k3
     refine VC.skip ?_
     exact Exists.intro (⟨(u, j40 :: seen), hsd2, hsn2⟩) (And.intro (Le.mk hB [0, 1, 2] ⟨rfl, rfl, rfl, trivial⟩ rfl (by dsimp only; first | (rw [pickS_t k3, List.length_append]; rfl) | (rw [pickS_f k3]; rfl)) (Nat.le_refl _)) (by first | omega | (show _ < _; omega) | (simp only []; omega)))
set_option maxRecDepth 100000 in
theorem slices_IndexFunc_ndH {xs : List NeedS} {F : FuncId} {caps : Array Value} {hpC : List Ent} {p : NeedS → Bool} (hl : xs.length ≤ 1000000000) (hcall : ∀ us w, (callFunc F us).run Tryz.prog w = .ok (.enter F us) w) (hF : ∀ x, SpecH Tryz.prog F ([avT x] ++ caps.toList.map .v) hpC (fun y hp' => y = avB (p x) ∧ hp' = hpC)) :
  SpecH Tryz.prog 270 [avL xs, .v (.func (.func F) #[] caps)] hpC (fun y hp' => y = avI (fidx p xs) ∧ hp' = hpC) := by
 refine SpecH.of_VC Tryz.func270 rfl Tryz.ntmps270 (Nle rfl) fun w A hB => ?_
 have hnew : True := trivial
 refine VC.sr ?_
 refine VO.ma rfl rfl rfl rfl ?_
 refine VO.nil ?_
 refine VC.seq ?_
 refine VC.sr ?_
 refine VO.mv rfl rfl rfl rfl ?_
 refine VO.val rfl rfl (OpV.len_im rfl Tryz.underlying77 rfl) ?_
 refine VO.mv rfl rfl rfl rfl ?_
 refine VO.nil ?_
 refine VC.block ?_
 refine VC.loopK [(0, _), (1, _), (7, _)] ⟨rfl, rfl, rfl, trivial⟩ ({q : Nat // q ≤ xs.length ∧ ∀ j, j < q → p (xs.getD j (default : NeedS)) = false}) (fun (iZ : {q : Nat // q ≤ xs.length ∧ ∀ j, j < q → p (xs.getD j (default : NeedS)) = false}) => match iZ with | ⟨q, hq, hn⟩ => [(8, avI (q : Int))]) (fun (iZ : {q : Nat // q ≤ xs.length ∧ ∀ j, j < q → p (xs.getD j (default : NeedS)) = false}) => match iZ with | ⟨q, hq, hn⟩ => hpC) (fun (iZ : {q : Nat // q ≤ xs.length ∧ ∀ j, j < q → p (xs.getD j (default : NeedS)) = false}) => match iZ with | ⟨q, hq, hn⟩ => 0) (fun (iZ : {q : Nat // q ≤ xs.length ∧ ∀ j, j < q → p (xs.getD j (default : NeedS)) = false}) => match iZ with | ⟨q, hq, hn⟩ => xs.length - q) ⟨0, Nat.zero_le _, fun j hj => absurd hj (Nat.not_lt_zero j)⟩ (Le.mkP hB ⟨rfl, rfl, rfl, rfl, trivial⟩ (List.Sublist.refl _) (List.Perm.refl _) (Nat.le_refl _)) ?_
 rintro ⟨q, hq, hn⟩
 show VC _ _ _ _ ⟨[(8, avI (q : Int))] ++ [(0, _), (1, _), (7, _)], hpC, 0⟩
 refine VC.sr ?_
 refine VO.val rfl rfl (OpV.lss rfl rfl rfl) ?_
 refine VO.nil ?_
 refine VC.seq ?_
 refine VC.cond rfl (fun aH1b => ?_) (fun aH1b => ?_)
 ·have aH1 := aH1b
  try simp only [qqT, qqF, qqN, qqM, qqL, qqE] at aH1
  refine VC.skip ?_
  refine VC.seq ?_
  refine VC.block ?_
  refine VC.sr ?_
  refine VO.mv rfl rfl rfl rfl ?_
  refine VO.ma rfl rfl rfl rfl ?_
  refine VO.nil ?_
  refine VC.sr ?_
  refine VO.mv rfl rfl rfl rfl ?_
  refine VO.mv rfl rfl rfl rfl ?_
  refine VO.mv rfl rfl rfl rfl ?_
  refine VO.val rfl rfl (OpV.indexAddr_E rfl Tryz.underlying77 Tryz.sizeOf96 rfl rfl rfl (by omega)) ?_
  refine VO.val rfl rfl (OpV.loadK_at rfl hB OutW.no Tryz.isAgg96 Tryz.sizeOf96 rfl rfl) ?_
  refine VO.op rfl (OpE.callH0 rfl hB rfl hcall rfl rfl (hF _) (List.Perm.refl _) (fun _ _ => trivial) ?_)
  rintro _ _ ⟨rfl, rfl⟩
  refine VO.nil ?_
  refine VC.cond rfl (fun aH2b => ?_) (fun aH2b => ?_)
  ·have aH2 := aH2b
   try simp only [qqT, qqF, qqN, qqM, qqL, qqE] at aH2
   refine VC.sr ?_
   refine VO.mv rfl rfl rfl rfl ?_
   refine VO.ma rfl rfl rfl rfl ?_
   refine VO.nil ?_
   refine VC.ret ?_
   exact Exists.intro _ (And.intro (RetV.one Tryz.results270 (ResV.tmp rfl)) (⟨by first | (rw [fidx_found (d := (default : NeedS)) (q := q) (by omega) hn (by assumption)]) | (rw [fidx_none (d := (default : NeedS)) (fun j hj => hn j (by omega))]), rfl⟩))
  ·have aH2 := aH2b
   try simp only [qqT, qqF, qqN, qqM, qqL, qqE] at aH2
   refine VC.skip ?_
   refine VC.region ?_
   refine VO.val rfl rfl (OpV.add rfl rfl rfl (by unfold fits; omega)) ?_
   refine VO.mv rfl rfl rfl rfl ?_
   refine VO.nil ?_
   exact Exists.intro (⟨q + 1, by omega, lt_succ_cases hn (by assumption)⟩) (And.intro (Le.mkP hB ⟨rfl, rfl, rfl, rfl, trivial⟩ (List.Sublist.refl _) (List.Perm.refl _) (Nat.le_refl _)) (by first | omega | (show _ < _; omega) | (simp only []; omega)))
 ·have aH1 := aH1b
  try simp only [qqT, qqF, qqN, qqM, qqL, qqE] at aH1
  refine VC.exit ?_
  refine VC.sr ?_
  refine VO.ma rfl rfl rfl rfl ?_
  refine VO.nil ?_
  refine VC.ret ?_
  exact Exists.intro _ (And.intro (RetV.one Tryz.results270 (ResV.tmp rfl)) (⟨by first | (rw [fidx_found (d := (default : NeedS)) (q := q) (by omega) hn (by assumption)]) | (rw [fidx_none (d := (default : NeedS)) (fun j hj => hn j (by omega))]), rfl⟩))
set_option maxRecDepth 100000 in
theorem slices_ContainsFunc_ndH {xs : List NeedS} {F : FuncId} {caps : Array Value} {hpC : List Ent} {p : NeedS → Bool} (hl : xs.length ≤ 1000000000) (hcall : ∀ us w, (callFunc F us).run Tryz.prog w = .ok (.enter F us) w) (hF : ∀ x, SpecH Tryz.prog F ([avT x] ++ caps.toList.map .v) hpC (fun y hp' => y = avB (p x) ∧ hp' = hpC)) :
  SpecH Tryz.prog 157 [avL xs, .v (.func (.func F) #[] caps)] hpC (fun y hp' => y = avB (xs.any p) ∧ hp' = hpC) := by
 refine SpecH.of_VC Tryz.func157 rfl Tryz.ntmps157 (Nle rfl) fun w A hB => ?_
 have hnew : True := trivial
 refine VC.sr ?_
 refine VO.ma rfl rfl rfl rfl ?_
 refine VO.nil ?_
 refine VC.sr ?_
 refine VO.mv rfl rfl rfl rfl ?_
 refine VO.mv rfl rfl rfl rfl ?_
 refine VO.op rfl (OpE.callH0 rfl hB rfl Tryz.call270 rfl rfl (slices_IndexFunc_ndH hl hcall hF) (List.Perm.refl _) (fun _ _ => trivial) ?_)
 rintro _ _ ⟨rfl, rfl⟩
 refine VO.val rfl rfl (OpV.geq rfl rfl rfl) ?_
 refine VO.ma rfl rfl rfl rfl ?_
 refine VO.nil ?_
 refine VC.ret ?_
 exact Exists.intro _ (And.intro (RetV.one Tryz.results157 (ResV.tmp rfl)) (⟨by rw [← fidx_any], rfl⟩))
abbrev bxM (g gm : Nat) : Ent := .box g ⟨[.v (.map (some gm))], 100, 1⟩
set_option maxRecDepth 100000 in
theorem plan_Covered1 {x : NeedS} {gm g9 : Nat} {mm : List (ByteArray × Int)}  :
  SpecH Tryz.prog 158 [avT x, pt g9] [mapE kvS gm eI mm, bxM g9 gm] (fun y hp' => y = avB (decide (mgetD mm x.key 0 < x.count)) ∧ hp' = [mapE kvS gm eI mm, bxM g9 gm]) := by
 refine SpecH.of_VC Tryz.func158 rfl Tryz.ntmps158 (Nle rfl) fun w A hB => ?_
 have hnew : True := trivial
 refine VC.sr ?_
 refine VO.op rfl (OpE.box rfl hB rfl rfl rfl ?_)
 intro g2
 refine VO.ma rfl rfl rfl rfl ?_
 refine VO.nil ?_
 refine VC.sr ?_
 refine VO.val rfl rfl (OpV.fieldAddrO 1 rfl Tryz.underlying96 rfl rfl Tryz.sizeOf3 rfl) ?_
 refine VO.val rfl rfl (OpV.load_own (i := 2) rfl hB Tryz.isAgg3 rfl rfl rfl (fun h => h)) ?_
 refine VO.val rfl rfl (OpV.load_own (i := 1) rfl hB Tryz.isAgg100 rfl rfl rfl (fun h => h)) ?_
 refine VO.val rfl rfl (OpV.fieldAddrO 0 rfl Tryz.underlying96 rfl rfl Tryz.sizeOf9 rfl) ?_
 refine VO.val rfl rfl (OpV.load_own (i := 2) rfl hB Tryz.isAgg9 rfl rfl rfl (fun h => h)) ?_
 refine VO.val rfl rfl (OpV.lookup_own (i := 0) rfl hB Tryz.underlying100 (KeyOk.str Tryz.underlying9) Tryz.zeroValue3 rfl (KeyE.v rfl) rfl (fun h => h)) ?_
 refine VO.le _ (Le.recast (t := 9) (y := avI (mgetD mm x.key 0)) rfl (fun w Z u h => by unfold mgetD; revert h; cases mget mm x.key <;> exact id)) ?_
 refine VO.val rfl rfl (OpV.gtr rfl rfl rfl) ?_
 refine VO.le _ (Le.pickH [0, 1] rfl rfl) ?_
 refine VO.ma rfl rfl rfl rfl ?_
 refine VO.nil ?_
 refine VC.ret ?_
 exact Exists.intro _ (And.intro (RetV.one Tryz.results158 (ResV.tmp rfl)) (⟨rfl, rfl⟩))
structure CovI (p : List PaceS) (o : List OrdrS) (st : List NeedS) (l : List Int) (q : Nat) (mm : List (ByteArray × Int)) (cl : List ByteArray) : Prop where
 eq : covR p o st (l.take q) = (mm, cl)
 bd : MBd (1000000000000 + 100000000000 * q) mm
 len : cl.length ≤ q
theorem CovI.zero {p : List PaceS} {o : List OrdrS} {st : List NeedS} {l : List Int} (hb : ∀ y ∈ st, 0 ≤ y.count ∧ y.count ≤ 1000000000) (hl : st.length ≤ 1000) : CovI p o st l 0 (amtP st) [] :=
 ⟨by simp [covR], (MBd.amt (by decide) hb).mono (by omega), Nat.le_refl _⟩
section
variable {p : List PaceS} {o : List OrdrS} {st : List NeedS} {l : List Int} {q i : Nat} {mm : List (ByteArray × Int)} {cl : List ByteArray} {kt : List NeedS}
theorem CovI.skip (h : CovI p o st l q mm cl) (hq : q < l.length) (hi : l.getD q 0 = (i : Int)) (hk : kitL p (o.getD i default) = kt) (ht : kt.any (fun n => decide (mgetD mm n.key 0 < n.count)) = true) : CovI p o st l (q + 1) mm cl := by
 refine ⟨?_, h.bd.mono (by omega), by have := h.len; omega⟩
 rw [covR_take hq, h.eq, hi, covS_t]
 show covT mm (kitL p (o.getD (i : Int).toNat default)) = true
 rw [Int.toNat_natCast, hk]; exact ht
theorem CovI.take (h : CovI p o st l q mm cl) (hq : q < l.length) (hi : l.getD q 0 = (i : Int)) (hk : kitL p (o.getD i default) = kt) (ht : kt.any (fun n => decide (mgetD mm n.key 0 < n.count)) = false) (hb : ∀ y ∈ kt, 0 ≤ y.count ∧ y.count ≤ 100000000) (hl : kt.length ≤ 1000) : CovI p o st l (q + 1) (subP mm kt) (cl ++ [(o.getD i default).key]) := by
 refine ⟨?_, (h.bd.sub (by decide) hb).mono (by omega), by have := h.len; rw [List.length_append]; simp; omega⟩
 rw [covR_take hq, h.eq, hi, covS_f]
 ·show (subP mm (kitL p (o.getD (i : Int).toNat default)), _) = _
  rw [Int.toNat_natCast, hk]
 ·show covT mm (kitL p (o.getD (i : Int).toNat default)) = false
  rw [Int.toNat_natCast, hk]; exact ht
theorem CovI.inner (h : CovI p o st l q mm cl) (hb : ∀ y ∈ kt, 0 ≤ y.count ∧ y.count ≤ 100000000) (hl : kt.length ≤ 1000) (r : Nat) (k : ByteArray) : -(1000000000000 + 100000000000 * (q + 1 : Int)) ≤ mgetD (subP mm (kt.take r)) k 0 ∧ mgetD (subP mm (kt.take r)) k 0 ≤ 1000000000000 + 100000000000 * (q + 1 : Int) := by
 have h1 := (h.bd.sub (by decide) (l := kt.take r) fun y hy => hb y (List.mem_of_mem_take hy)) k
 have h2 : (kt.take r).length ≤ 1000 := by rw [List.length_take]; omega
 omega
end
theorem due_at {o : List OrdrS} {q : Nat} (h : q < (dueL o).length) : ∃ i : Nat, (dueL o).getD q 0 = (i : Int) ∧ i < o.length := by
 have hm : (dueL o).getD q 0 ∈ dueL o := by rw [List.getD_eq_getElem?_getD, List.getElem?_eq_getElem h]; exact List.getElem_mem h
 have := idO_mem ((dueL_perm o).subset hm)
 exact ⟨((dueL o).getD q 0).toNat, by omega, this.2⟩
set_option maxRecDepth 100000 in
set_option maxHeartbeats 8000000 in
theorem plan_Covered {p : List PaceS} {o : List OrdrS} {st : List NeedS} (hp : SmPc p) (ho : SmOr o) (hs : SmN st) (hl : o.length < 20) :
  SpecN Tryz.prog 49 [avL p, avL o, avL st] (fun y => y = .tup [avStrs (covE p o st), avI (stkE p o st)]) := by
 have hpl := hp.len
 have hsl := hs.len
 refine SpecN.of_VCN Tryz.func49 rfl Tryz.ntmps49 (Nle rfl) fun w A hB => ?_
 have hnew : True := trivial
 refine VC.sr ?_
 refine VO.ma rfl rfl rfl rfl ?_
 refine VO.ma rfl rfl rfl rfl ?_
 refine VO.nil ?_
 refine VC.seq ?_
 refine VC.sr ?_
 refine VO.mv rfl rfl rfl rfl ?_
 refine VO.mv rfl rfl rfl rfl ?_
 refine VO.mv rfl rfl rfl rfl ?_
 refine VO.op rfl (OpE.call rfl hB rfl Tryz.call152 rfl (SpecN.spec (plan_stocked hp ho hs)) ?_)
 rintro _ rfl
 refine VO.ma rfl rfl rfl rfl ?_
 refine VO.nil ?_
 refine VC.sr ?_
 refine VO.mv rfl rfl rfl rfl ?_
 refine VO.val rfl rfl (OpV.neq rfl rfl rfl) ?_
 refine VO.nil ?_
 refine VC.cond rfl (fun h0b => ?_) (fun h0b => ?_)
 ·have h0 := h0b
  try simp only [qqT, qqF, qqN, qqM, qqL, qqE] at h0
  refine VC.sr ?_
  refine VO.mv rfl rfl rfl rfl ?_
  refine VO.ma rfl rfl rfl rfl ?_
  refine VO.ma rfl rfl rfl rfl ?_
  refine VO.nil ?_
  refine VC.ret ?_
  exact Exists.intro _ (And.intro (RetN.two Tryz.results49 (ResN.nilE rfl) (ResN.v rfl)) (by rw [covE, if_neg h0]; rfl))
 ·have h0 := h0b
  try simp only [qqT, qqF, qqN, qqM, qqL, qqE] at h0
  have hz : stkE p o st = 0 := by omega
  obtain ⟨hb, hn⟩ := stk_ok hz
  obtain ⟨hpf, hof⟩ := both_ok hb
  have hbd := needs_bd hn
  have hsl2 := needsF_lenP hn
  refine VC.skip ?_
  refine VC.sr ?_
  refine VO.mv rfl rfl rfl rfl ?_
  refine VO.op rfl (OpE.callH (hp := []) (rest := _) rfl hB rfl Tryz.call153 rfl rfl (plan_amounts (by omega) hbd) (List.Perm.refl _) (fun _ h => by obtain ⟨e, he, _⟩ := h; cases he) ?_)
  rintro _ _ ⟨g24, rfl, rfl⟩
  refine VO.op rfl (OpE.alloc rfl hB rfl Tryz.zeroValue100 rfl ?_)
  intro g9
  refine VO.op rfl (OpE.store (i := 1) rfl hB rfl Tryz.sizeOf100 rfl rfl rfl rfl rfl rfl (Nle rfl) trivial ?_)
  refine VO.nil ?_
  refine VC.sr ?_
  refine VO.ma rfl rfl rfl rfl ?_
  refine VO.nil ?_
  refine VC.seq ?_
  refine VC.sr ?_
  refine VO.mv rfl rfl rfl rfl ?_
  refine VO.op rfl (OpE.call rfl hB rfl Tryz.call156 rfl (plan_byDue (by omega)) ?_)
  rintro _ rfl
  obtain ⟨D, hD⟩ : ∃ D, dueL o = D := ⟨_, rfl⟩
  refine VO.le _ (Le.recast (t := 26) (y := avInts D) rfl (fun w Z u h => by rw [← hD]; exact h)) ?_
  have hDl : D.length = o.length := by rw [← hD, dueL_len]
  have hDi : ∀ q, q < D.length → ∃ i : Nat, D.getD q 0 = (i : Int) ∧ i < o.length := fun q hq => by rw [← hD] at hq ⊢; exact due_at hq
  refine VO.val rfl rfl (OpV.len_im rfl Tryz.underlying22 rfl) ?_
  refine VO.mv rfl rfl rfl rfl ?_
  refine VO.nil ?_
  refine VC.block ?_
  refine VC.le _ (Le.nilRow 1 9) ?_
  refine VC.loopK [(0, _), (1, _), (9, _), (26, _), (27, _)] ⟨rfl, rfl, rfl, rfl, rfl, trivial⟩ ({z : Value × List (ByteArray × Int) × List ByteArray × Nat // z.2.2.2 ≤ D.length ∧ CovI p o st D z.2.2.2 z.2.1 z.2.2.1}) (fun (iZ : {z : Value × List (ByteArray × Int) × List ByteArray × Nat // z.2.2.2 ≤ D.length ∧ CovI p o st D z.2.2.2 z.2.1 z.2.2.1}) => match iZ with | ⟨⟨u, mm, cl, q⟩, hq, hci⟩ => [(10, .v u), (28, avI (q : Int))]) (fun (iZ : {z : Value × List (ByteArray × Int) × List ByteArray × Nat // z.2.2.2 ≤ D.length ∧ CovI p o st D z.2.2.2 z.2.1 z.2.2.1}) => match iZ with | ⟨⟨u, mm, cl, q⟩, hq, hci⟩ => [mapE kvS g24 eI mm, bxM g9 g24, .row u cl.length 1 (strsL cl) 9]) (fun (iZ : {z : Value × List (ByteArray × Int) × List ByteArray × Nat // z.2.2.2 ≤ D.length ∧ CovI p o st D z.2.2.2 z.2.1 z.2.2.1}) => match iZ with | ⟨⟨u, mm, cl, q⟩, hq, hci⟩ => 0) (fun (iZ : {z : Value × List (ByteArray × Int) × List ByteArray × Nat // z.2.2.2 ≤ D.length ∧ CovI p o st D z.2.2.2 z.2.1 z.2.2.1}) => match iZ with | ⟨⟨u, mm, cl, q⟩, hq, hci⟩ => D.length - q) ⟨(.slice none 0 0, amtP st, [], 0), Nat.zero_le _, CovI.zero hbd hsl2⟩ (Le.mk hB [0, 1, 2] ⟨rfl, rfl, rfl, rfl, rfl, rfl, rfl, trivial⟩ rfl rfl (Nat.le_refl _)) ?_
  rintro ⟨⟨u, mm, cl, q⟩, hq, hci⟩
  show VC _ _ _ _ ⟨[(10, .v u), (28, avI (q : Int))] ++ [(0, _), (1, _), (9, _), (26, _), (27, _)], [mapE kvS g24 eI mm, bxM g9 g24, .row u cl.length 1 (strsL cl) 9], 0⟩
  simp only at hq hci
  have hcl := hci.len
  refine VC.sr ?_
  refine VO.val rfl rfl (OpV.lss rfl rfl rfl) ?_
  refine VO.nil ?_
  refine VC.seq ?_
  refine VC.cond rfl (fun aH1b => ?_) (fun aH1b => ?_)
  ·have aH1 := aH1b
   try simp only [qqT, qqF, qqN, qqM, qqL, qqE] at aH1
   refine VC.skip ?_
   refine VC.seq ?_
   refine VC.block ?_
   refine VC.sr ?_
   refine VO.val rfl rfl (OpV.indexAddr_1 rfl Tryz.underlying22 Tryz.sizeOf3 rfl rfl rfl (by omega)) ?_
   refine VO.val rfl rfl (OpV.load_at rfl hB OutW.no Tryz.isAgg3 rfl rfl) ?_
   have hql : q < D.length := by omega
   obtain ⟨i, hi, hio⟩ := hDi q hql
   refine VO.le _ (Le.recast (t := 31) (y := avI (i : Int)) rfl (fun w Z u h => by rw [← hi]; exact h)) ?_
   refine VO.ma rfl rfl rfl rfl ?_
   refine VO.nil ?_
   refine VC.sr ?_
   refine VO.mv rfl rfl rfl rfl ?_
   refine VO.mv rfl rfl rfl rfl ?_
   refine VO.mv rfl rfl rfl rfl ?_
   refine VO.val rfl rfl (OpV.indexAddr_E rfl Tryz.underlying75 Tryz.sizeOf89 rfl rfl rfl (by omega)) ?_
   refine VO.val rfl rfl (OpV.loadK_at rfl hB OutW.no Tryz.isAgg89 Tryz.sizeOf89 rfl rfl) ?_
   refine VO.op rfl (OpE.call rfl hB rfl Tryz.call151 rfl (SpecN.spec (plan_kitOf hpl hpf (ordr_count hof (by omega)))) ?_)
   rintro _ rfl
   have hkb := kit_bd (p := p) (x := o.getD i default) hpf (ordr_count hof (by omega))
   have hkl := kit_len (p := p) (x := o.getD i default) hpf
   obtain ⟨kt, hkt⟩ : ∃ kt, kitL p (o.getD i default) = kt := ⟨_, rfl⟩
   refine VO.le _ (Le.recast (t := 37) (y := avL kt) rfl (fun w Z u h => by rw [← hkt]; exact h)) ?_
   rw [hkt] at hkb hkl
   refine VO.ma rfl rfl rfl rfl ?_
   refine VO.nil ?_
   refine VC.seq ?_
   refine VC.sr ?_
   refine VO.mv rfl rfl rfl rfl ?_
   refine VO.val rfl rfl (OpV.makeFunc1 rfl rfl) ?_
   refine VO.op rfl (OpE.callH (rest := [_]) rfl hB rfl Tryz.call157 rfl rfl (slices_ContainsFunc_ndH (xs := kt) (hpC := [mapE kvS g24 eI mm, bxM g9 g24]) (p := fun n => decide (mgetD mm n.key 0 < n.count)) (by omega) Tryz.call158 (fun x => plan_Covered1)) (List.Perm.refl _) (fun _ _ => trivial) ?_)
   rintro _ _ ⟨rfl, rfl⟩
   refine VO.nil ?_
   refine VC.cond rfl (fun h2b => ?_) (fun h2b => ?_)
   ·have h2 := h2b
    try simp only [qqT, qqF, qqN, qqM, qqL, qqE] at h2
    refine VC.exit ?_
    refine VC.region ?_
    refine VO.val rfl rfl (OpV.add rfl rfl rfl (by unfold fits; omega)) ?_
    refine VO.mv rfl rfl rfl rfl ?_
    refine VO.nil ?_
    exact Exists.intro (⟨(u, mm, cl, q + 1), by show q + 1 ≤ _; omega, hci.skip hql hi hkt h2⟩) (And.intro (Le.mk hB [0, 1, 2] ⟨rfl, rfl, rfl, rfl, rfl, rfl, rfl, trivial⟩ rfl (by dsimp only; first | rfl | (rw [List.length_append]; rfl)) (Nat.le_refl _)) (by first | omega | (show _ < _; omega) | (simp only []; omega)))
   ·have h2 := h2b
    try simp only [qqT, qqF, qqN, qqM, qqL, qqE] at h2
    refine VC.skip ?_
    refine VC.seq ?_
    refine VC.sr ?_
    refine VO.mv rfl rfl rfl rfl ?_
    refine VO.val rfl rfl (OpV.len_im rfl Tryz.underlying77 rfl) ?_
    refine VO.mv rfl rfl rfl rfl ?_
    refine VO.nil ?_
    refine VC.block ?_
    refine VC.loopK [(0, _), (1, _), (9, _), (10, _), (12, _), (26, _), (27, _), (28, _), (41, _), (42, _)] ⟨rfl, rfl, rfl, rfl, rfl, rfl, rfl, rfl, rfl, rfl, trivial⟩ ({r : Nat // r ≤ kt.length}) (fun (iZ : {r : Nat // r ≤ kt.length}) => match iZ with | ⟨r, hq1⟩ => [(43, avI (r : Int))]) (fun (iZ : {r : Nat // r ≤ kt.length}) => match iZ with | ⟨r, hq1⟩ => [mapE kvS g24 eI (subP mm (kt.take r)), bxM g9 g24, .row u cl.length 1 (strsL cl) 9]) (fun (iZ : {r : Nat // r ≤ kt.length}) => match iZ with | ⟨r, hq1⟩ => 0) (fun (iZ : {r : Nat // r ≤ kt.length}) => match iZ with | ⟨r, hq1⟩ => kt.length - r) ⟨0, Nat.zero_le _⟩ (Le.mk hB [0, 1, 2] ⟨rfl, rfl, rfl, rfl, rfl, rfl, rfl, rfl, rfl, rfl, rfl, trivial⟩ rfl rfl (Nat.le_refl _)) ?_
    rintro ⟨r, hq1⟩
    show VC _ _ _ _ ⟨[(43, avI (r : Int))] ++ [(0, _), (1, _), (9, _), (10, _), (12, _), (26, _), (27, _), (28, _), (41, _), (42, _)], [mapE kvS g24 eI (subP mm (kt.take r)), bxM g9 g24, .row u cl.length 1 (strsL cl) 9], 0⟩
    have hin := hci.inner hkb hkl r
    have hnb := need_bd (by decide) hkb r
    refine VC.sr ?_
    refine VO.val rfl rfl (OpV.lss rfl rfl rfl) ?_
    refine VO.nil ?_
    refine VC.seq ?_
    refine VC.cond rfl (fun aH2b => ?_) (fun aH2b => ?_)
    ·have aH2 := aH2b
     try simp only [qqT, qqF, qqN, qqM, qqL, qqE] at aH2
     refine VC.skip ?_
     refine VC.seq ?_
     refine VC.block ?_
     refine VC.sr ?_
     refine VO.val rfl rfl (OpV.indexAddr_E rfl Tryz.underlying77 Tryz.sizeOf96 rfl rfl rfl (by omega)) ?_
     refine VO.val rfl rfl (OpV.loadK_at rfl hB OutW.no Tryz.isAgg96 Tryz.sizeOf96 rfl rfl) ?_
     refine VO.op rfl (OpE.alloc rfl hB rfl Tryz.zeroValue96 rfl ?_)
     intro g15
     refine VO.op rfl (OpE.store (i := 3) rfl hB rfl Tryz.sizeOf96 rfl rfl rfl rfl rfl rfl (Nle rfl) trivial ?_)
     refine VO.nil ?_
     refine VC.region ?_
     refine VO.val rfl rfl (OpV.load_own (i := 1) rfl hB Tryz.isAgg100 rfl rfl rfl (fun h => h)) ?_
     refine VO.val rfl rfl (OpV.fieldAddrO 0 rfl Tryz.underlying96 rfl rfl Tryz.sizeOf9 rfl) ?_
     refine VO.val rfl rfl (OpV.load_own (i := 3) rfl hB Tryz.isAgg9 rfl rfl rfl (fun h => h)) ?_
     refine VO.val rfl rfl (OpV.lookup_own (i := 0) rfl hB Tryz.underlying100 (KeyOk.str Tryz.underlying9) Tryz.zeroValue3 rfl (KeyE.v rfl) rfl (fun h => h)) ?_
     refine VO.le _ (Le.recast (t := 50) (y := avI (mgetD (subP mm (kt.take r)) (kt.getD r default).key 0)) rfl (fun w Z u h => by unfold mgetD; revert h; cases mget (subP mm (kt.take r)) (kt.getD r default).key <;> exact id)) ?_
     refine VO.val rfl rfl (OpV.fieldAddrO 1 rfl Tryz.underlying96 rfl rfl Tryz.sizeOf3 rfl) ?_
     refine VO.val rfl rfl (OpV.load_own (i := 3) rfl hB Tryz.isAgg3 rfl rfl rfl (fun h => h)) ?_
     refine VO.val rfl rfl (OpV.sub rfl rfl rfl (by have h := hin (kt.getD r default).key; unfold fits; omega)) ?_
     refine VO.op rfl (OpE.mapUpdate (i := 0) (xx := mgetD (subP mm (kt.take r)) (kt.getD r default).key 0 - (kt.getD r default).count) rfl hB rfl Tryz.underlying100 (KeyOk.str Tryz.underlying9) rfl (KeyE.v rfl) rfl rfl trivial ?_)
     refine VO.nil ?_
     refine VC.region ?_
     refine VO.val rfl rfl (OpV.add rfl rfl rfl (by unfold fits; omega)) ?_
     refine VO.mv rfl rfl rfl rfl ?_
     refine VO.nil ?_
     exact Exists.intro (⟨r + 1, by omega⟩) (And.intro (Le.mk hB [0, 1, 2] ⟨rfl, rfl, rfl, rfl, rfl, rfl, rfl, rfl, rfl, rfl, rfl, trivial⟩ rfl (by dsimp only; rw [subP_take (by omega)]; rfl) (Nat.le_refl _)) (by first | omega | (show _ < _; omega) | (simp only []; omega)))
    ·have aH2 := aH2b
     try simp only [qqT, qqF, qqN, qqM, qqL, qqE] at aH2
     obtain rfl : r = kt.length := by omega
     rw [List.take_length]
     refine VC.exit ?_
     refine VC.region ?_
     refine VO.mv rfl rfl rfl rfl ?_
     refine VO.mv rfl rfl rfl rfl ?_
     refine VO.mv rfl rfl rfl rfl ?_
     refine VO.val rfl rfl (OpV.indexAddr_E rfl Tryz.underlying75 Tryz.sizeOf89 rfl rfl rfl (by omega)) ?_
     refine VO.val rfl rfl (OpV.fieldAddr_atO 0 rfl Tryz.underlying89 rfl rfl Tryz.sizeOf9 rfl rfl) ?_
     refine VO.val rfl rfl (OpV.load_at rfl hB OutW.no Tryz.isAgg9 rfl rfl) ?_
     refine VO.op rfl (OpE.buildSlice (zc := #[.string ⟨#[]⟩]) rfl hB rfl Tryz.underlying67 Tryz.sizeOf9 Tryz.zeroValue9 (by decide) (by decide) (by kernel_rfl) rfl rfl ?_)
     refine VO.op rfl (OpE.append1 (i := 2) rfl hB rfl Tryz.underlying67 (infoOf Tryz.t9 1 (by kernel_rfl) rfl rfl) rfl (by decide) (by decide) rfl rfl rfl rfl (strsL_snoc _ _) (by omega) (fun _ _ => trivial) ?_)
     intro u62
     refine VO.ma rfl rfl rfl rfl ?_
     refine VO.nil ?_
     refine VC.region ?_
     refine VO.val rfl rfl (OpV.add rfl rfl rfl (by unfold fits; omega)) ?_
     refine VO.mv rfl rfl rfl rfl ?_
     refine VO.nil ?_
     exact Exists.intro (⟨(u62, subP mm kt, cl ++ [(o.getD i default).key], q + 1), by show q + 1 ≤ _; omega, hci.take hql hi hkt h2 hkb hkl⟩) (And.intro (Le.mk hB [0, 1, 2] ⟨rfl, rfl, rfl, rfl, rfl, rfl, rfl, trivial⟩ rfl (by dsimp only; first | rfl | (rw [List.length_append]; rfl)) (Nat.le_refl _)) (by first | omega | (show _ < _; omega) | (simp only []; omega)))
  ·have aH1 := aH1b
   try simp only [qqT, qqF, qqN, qqM, qqL, qqE] at aH1
   refine VC.exit ?_
   refine VC.seq ?_
   refine VC.le _ (Le.drop 2) ?_
   have hfin : covL p o st = srtB cl := by
    have he := hci.eq
    rw [List.take_of_length_le (by omega)] at he
    rw [covL, hD, he]
   refine VC.region ?_
   refine VO.mv rfl rfl rfl rfl ?_
   refine VO.op rfl (OpE.callH0 rfl hB rfl Tryz.call40 rfl rfl (slices_Sort_O (xs := cl) (by omega)) (List.Perm.refl _) (fun _ _ => trivial) ?_)
   rintro _ _ ⟨rfl, rfl⟩
   refine VO.nil ?_
   refine VC.sr ?_
   refine VO.mv rfl rfl rfl rfl ?_
   refine VO.ma rfl rfl rfl rfl ?_
   refine VO.ma rfl rfl rfl rfl ?_
   refine VO.nil ?_
   refine VC.ret ?_
   exact Exists.intro _ (And.intro (RetN.two Tryz.results49 (ResN.rowS (i := 0) rfl rfl rfl) (ResN.v rfl)) (by rw [covE, if_pos hz, hz, hfin]))
end Go.Proofs.YtaaokimiadfidaaGreatDoor
namespace Go.Proofs.YtaaokimiadfidaaGreatDoor
open Go.RowKit
set_option linter.unusedVariables false
set_option linter.unusedSimpArgs false
set_option maxRecDepth 100000 in
theorem rf_StockFault {st : List NeedS} (hs : SmN st) :
  SpecN Tryz.prog 52 [avL st] (fun y => y = avI (needsF st 0 1000000000)) := by
 refine SpecN.of_VCN Tryz.func52 rfl Tryz.ntmps52 (Nle rfl) fun w A hB => ?_
 have hnew : True := trivial
 refine VC.sr ?_
 refine VO.ma rfl rfl rfl rfl ?_
 refine VO.nil ?_
 refine VC.sr ?_
 refine VO.mv rfl rfl rfl rfl ?_
 refine VO.op rfl (OpE.call rfl hB rfl Tryz.call162 rfl (SpecN.spec (rf_needsFault (by have := hs.len; omega) (fun i => by have := hs.key i; omega))) ?_)
 rintro _ rfl
 refine VO.ma rfl rfl rfl rfl ?_
 refine VO.nil ?_
 refine VC.ret ?_
 exact Exists.intro _ (And.intro (RetN.one Tryz.results52 (ResN.v rfl)) (rfl))
end Go.Proofs.YtaaokimiadfidaaGreatDoor
namespace Go.Proofs.YtaaokimiadfidaaGreatDoor
open Go.RowKit
set_option linter.unusedVariables false
set_option linter.unusedSimpArgs false
def sumO {α : Type} (f : α → Int) : List α → Int
 | [] => 0
 | i :: l => f i + sumO f l
theorem sumO_perm {α : Type} {f : α → Int} {l r : List α} (h : l.Perm r) : sumO f l = sumO f r := by
 induction h with
 | nil => rfl
 | cons x _ ih => simp only [sumO, ih]
 | swap x y l => simp only [sumO]; omega
 | trans _ _ ih1 ih2 => rw [ih1, ih2]
theorem sumO_nn {α : Type} {f : α → Int} : ∀ {l : List α}, (∀ x ∈ l, 0 ≤ f x) → 0 ≤ sumO f l
 | [], _ => by simp [sumO]
 | x :: l, h => by
  have := sumO_nn (f := f) (l := l) fun y hy => h y (List.mem_cons_of_mem _ hy)
  have := h x (List.mem_cons_self ..)
  rw [sumO]; omega
theorem sumO_map {α β : Type} {f : β → Int} {g : α → β} : ∀ (l : List α), sumO f (l.map g) = sumO (fun x => f (g x)) l
 | [] => rfl
 | x :: l => by simp only [List.map_cons, sumO, sumO_map l]
theorem sumO_congr {α : Type} {f g : α → Int} : ∀ {l : List α}, (∀ x ∈ l, f x = g x) → sumO f l = sumO g l
 | [], _ => rfl
 | x :: l, h => by rw [sumO, sumO, h x (List.mem_cons_self ..), sumO_congr fun y hy => h y (List.mem_cons_of_mem _ hy)]
theorem sumK_flat {α : Type} {f : α → List NeedS} {k : ByteArray} : ∀ (l : List α), sumK (l.flatMap f) k = sumO (fun x => sumK (f x) k) l
 | [] => rfl
 | x :: l => by rw [List.flatMap_cons, sumK_app, sumK_flat l, sumO]
theorem sumK_nn {l : List NeedS} (h : ∀ y ∈ l, 0 ≤ y.count) (k : ByteArray) : 0 ≤ sumK l k := by
 induction l with
 | nil => simp [sumK]
 | cons x l ih =>
  have := ih fun y hy => h y (List.mem_cons_of_mem _ hy)
  have := h x (List.mem_cons_self ..)
  rw [sumK]; split <;> omega
theorem sumK_ge {l : List NeedS} (h : ∀ y ∈ l, 0 ≤ y.count) {n : NeedS} (hn : n ∈ l) : n.count ≤ sumK l n.key := by
 induction l with
 | nil => cases hn
 | cons x l ih =>
  have h2 := sumK_nn (fun y hy => h y (List.mem_cons_of_mem _ hy)) n.key
  have hx := h x (List.mem_cons_self ..)
  rw [sumK]
  rcases List.mem_cons.1 hn with rfl | hn
  ·rw [if_pos rfl]; omega
  ·have := ih (fun y hy => h y (List.mem_cons_of_mem _ hy)) hn
   split <;> omega
theorem sumK_one : ∀ {l : List NeedS} (hd : (l.map (·.key)).Nodup) (k : ByteArray), sumK l k = 0 ∨ ∃ y ∈ l, y.key = k ∧ sumK l k = y.count
 | [], _, k => .inl rfl
 | x :: l, hd, k => by
  rw [List.map_cons, List.nodup_cons] at hd
  rw [sumK]
  by_cases e : k = x.key
  ·refine .inr ⟨x, List.mem_cons_self .., e.symm, ?_⟩
   rw [if_pos e, sumK_none]
   ·omega
   ·rintro ⟨y, hy, e2⟩
    exact hd.1 (List.mem_map.2 ⟨y, hy, by rw [e2, e]⟩)
  ·rw [if_neg e]
   rcases sumK_one hd.2 k with h | ⟨y, hy, e1, e2⟩
   ·exact .inl (by omega)
   ·exact .inr ⟨y, List.mem_cons_of_mem _ hy, e1, by omega⟩
theorem rise_nodup {α : Type} [Inhabited α] {key : α → ByteArray} {l : List α} (h : RiseK key l) : (l.map key).Nodup := by
 unfold List.Nodup
 rw [List.pairwise_iff_getElem]
 intro i j hi hj hij e
 simp only [List.length_map] at hi hj
 simp only [List.getElem_map] at e
 have := rise_lt h i j hij hj
 rw [List.getD_eq_getElem?_getD, List.getElem?_eq_getElem hi, List.getD_eq_getElem?_getD, List.getElem?_eq_getElem hj] at this
 simp only [Option.getD_some] at this
 rw [e, sLt_irr] at this; cases this
structure KitOk (p : List PaceS) (o : List OrdrS) : Prop where
 nn : ∀ i : Nat, i < o.length → ∀ y ∈ kitL p (o.getD i default), 0 ≤ y.count
 nd : ∀ i : Nat, i < o.length → ((kitL p (o.getD i default)).map (·.key)).Nodup
theorem kitL_keys (p : List PaceS) (x : OrdrS) : (kitL p x).map (·.key) = (paceO p x.product).needs.map (·.key) := by
 unfold kitL kitN; rw [List.map_map]; exact List.map_congr_left fun _ _ => rfl
section
variable {p : List PaceS} {o : List OrdrS} {st : List NeedS}
def covI (p : List PaceS) (o : List OrdrS) (a : List (ByteArray × Int) × List Int) (i : Int) : List (ByteArray × Int) × List Int :=
 if covT a.1 (kitL p (o.getD i.toNat default)) = true then a else (subP a.1 (kitL p (o.getD i.toNat default)), a.2 ++ [i])
def keyI (o : List OrdrS) (l : List Int) : List ByteArray := l.map fun i => (o.getD i.toNat default).key
theorem covI_cov (l : List Int) : ∀ (m : List (ByteArray × Int)) (ci : List Int), l.foldl (covS p o) (m, keyI o ci) = ((l.foldl (covI p o) (m, ci)).1, keyI o (l.foldl (covI p o) (m, ci)).2) := by
 induction l with
 | nil => intro m ci; rfl
 | cons i l ih =>
  intro m ci
  simp only [List.foldl_cons]
  by_cases h : covT m (kitL p (o.getD i.toNat default)) = true
  ·rw [covS, if_pos h, covI, if_pos h]; exact ih m ci
  ·rw [covS, if_neg h, covI, if_neg h]
   have : keyI o ci ++ [(o.getD i.toNat default).key] = keyI o (ci ++ [i]) := by simp [keyI]
   rw [this]; exact ih _ _
theorem covI_inv (hk : KitOk p o) : ∀ (l : List Int) (m : List (ByteArray × Int)) (ci : List Int), (∀ i ∈ l, 0 ≤ i ∧ i.toNat < o.length) → (∀ k, 0 ≤ mgetD m k 0) →
    ∃ r, (l.foldl (covI p o) (m, ci)).2 = ci ++ r ∧ r.Sublist l ∧ ∀ k, 0 ≤ mgetD (l.foldl (covI p o) (m, ci)).1 k 0 ∧ mgetD (l.foldl (covI p o) (m, ci)).1 k 0 = mgetD m k 0 - sumO (fun i => sumK (kitL p (o.getD i.toNat default)) k) r
  | [], m, ci, _, hm => ⟨[], by simp, List.nil_sublist _, fun k => ⟨hm k, by simp [sumO]⟩⟩
  | i :: l, m, ci, hl, hm => by
    simp only [List.foldl_cons]
    have hi := hl i (List.mem_cons_self ..)
    by_cases h : covT m (kitL p (o.getD i.toNat default)) = true
    · obtain ⟨r, h1, h2, h3⟩ := covI_inv hk l m ci (fun j hj => hl j (List.mem_cons_of_mem _ hj)) hm
      rw [covI, if_pos h]
      exact ⟨r, h1, h2.cons _, h3⟩
    · have hm2 : ∀ k, 0 ≤ mgetD (subP m (kitL p (o.getD i.toNat default))) k 0 := fun k => by
        rw [subP_get]
        rcases sumK_one (hk.nd i.toNat hi.2) k with e | ⟨y, hy, e1, e2⟩
        · have := hm k; omega
        · rw [e2]
          have : ¬ decide (mgetD m y.key 0 < y.count) = true := fun hh => h (List.any_eq_true.2 ⟨y, hy, hh⟩)
          rw [e1] at this
          simp at this
          omega
      obtain ⟨r, h1, h2, h3⟩ := covI_inv hk l (subP m (kitL p (o.getD i.toNat default))) (ci ++ [i]) (fun j hj => hl j (List.mem_cons_of_mem _ hj)) hm2
      rw [covI, if_neg h]
      refine ⟨i :: r, by rw [h1, List.append_assoc]; rfl, h2.cons_cons _, fun k => ⟨(h3 k).1, ?_⟩⟩
      rw [(h3 k).2, subP_get, sumO]; omega
theorem covI_all (hk : KitOk p o) : ∀ (l : List Int) (m : List (ByteArray × Int)) (ci : List Int), (∀ i ∈ l, 0 ≤ i ∧ i.toNat < o.length) → (∀ k, sumO (fun i => sumK (kitL p (o.getD i.toNat default)) k) l ≤ mgetD m k 0) →
  (l.foldl (covI p o) (m, ci)).2 = ci ++ l
 | [], m, ci, _, _ => by simp
 | i :: l, m, ci, hl, hm => by
  simp only [List.foldl_cons]
  have hi := hl i (List.mem_cons_self ..)
  have hr : ∀ k, 0 ≤ sumO (fun i => sumK (kitL p (o.getD i.toNat default)) k) l := fun k => sumO_nn fun j hj => sumK_nn (hk.nn j.toNat (hl j (List.mem_cons_of_mem _ hj)).2) k
  have h : ¬ covT m (kitL p (o.getD i.toNat default)) = true := fun h => by
   obtain ⟨y, hy, e⟩ := List.any_eq_true.1 h
   have h1 := sumK_ge (hk.nn i.toNat hi.2) hy
   have h2 := hm y.key
   rw [sumO] at h2
   have := hr y.key
   simp at e
   omega
  rw [covI, if_neg h, covI_all hk l _ (ci ++ [i]) (fun j hj => hl j (List.mem_cons_of_mem _ hj)) fun k => by
   have := hm k
   rw [sumO] at this
   show sumO _ l ≤ mgetD (subP m (kitL p (o.getD i.toNat default))) k 0
   rw [subP_get]; omega]
  simp
end
theorem srtB_perm (xs : List ByteArray) : (srtB xs).Perm xs := by
 have h := (List.mergeSort_perm (bysL xs) (fun x y => decide (x ≤ y))).map bytesOf
 unfold srtB
 refine h.trans (List.Perm.of_eq ?_)
 unfold bysL
 rw [List.map_map]
 conv => rhs; rw [← List.map_id xs]
 exact List.map_congr_left fun x _ => by simp [bytesOf]
theorem perm_sumK {α : Type} {f : α → List NeedS} {k : ByteArray} {l r : List α} (h : l.Perm r) : sumK (l.flatMap f) k = sumK (r.flatMap f) k := by rw [sumK_flat, sumK_flat, sumO_perm h]
theorem fidx_key {o : List OrdrS} (hr : RiseK OrdrS.key o) {i : Nat} (hi : i < o.length) : fidx (fun x => sEq x.key (o.getD i default).key) o = (i : Int) :=
 fidx_found (d := default) hi (fun j hj => by
  have := rise_lt hr j i hj hi
  cases h : sEq (o.getD j default).key (o.getD i default).key with
  | false => rfl
  | true => rw [sEq_eq.1 h, sLt_irr] at this; cases this) (sEq_refl _)
theorem kk0_at {p : List PaceS} {o : List OrdrS} (hr : RiseK OrdrS.key o) {i : Nat} (hi : i < o.length) : kk0 p o (o.getD i default).key = kitL p (o.getD i default) := by
 unfold kk0; rw [fidx_key hr hi]; rfl
structure CovOk (p : List PaceS) (o : List OrdrS) (st : List NeedS) (c : List ByteArray) : Prop where
 at_ : ∀ k ∈ c, ∃ i : Nat, i < o.length ∧ k = (o.getD i default).key
 left : ∀ q, q ≤ c.length → ∀ r k, 0 ≤ mgetD (subP (amtP st) ((c.take q).flatMap (kk0 p o) ++ (kk0 p o (c.getD q ByteArray.empty)).take (if q < c.length then r else 0))) k 0
 all : shortL (kitsL p o) st = [] → c.length = o.length
 len : c.length ≤ o.length
theorem dueL_in {o : List OrdrS} : ∀ i ∈ dueL o, 0 ≤ i ∧ i.toNat < o.length := fun i hi => idO_mem ((dueL_perm o).subset hi)
theorem covL_ok {p : List PaceS} {o : List OrdrS} {st : List NeedS} (hk : KitOk p o) (hr : RiseK OrdrS.key o) (hst : ∀ y ∈ st, 0 ≤ y.count) : CovOk p o st (covL p o st) := by
 have hkey := covI_cov (p := p) (o := o) (dueL o) (amtP st) []
 obtain ⟨ci, h1, h2, h3⟩ := covI_inv hk (dueL o) (amtP st) [] dueL_in (fun k => by rw [amtP_get]; exact sumK_nn hst k)
 rw [List.nil_append] at h1
 have hout : (covR p o st (dueL o)).2 = keyI o ci := by
  unfold covR
  rw [show ((amtP st, []) : List (ByteArray × Int) × List ByteArray) = (amtP st, keyI o []) from rfl, hkey, h1]
 have hperm : (covL p o st).Perm (keyI o ci) := by
  unfold covL; rw [hout]; exact srtB_perm _
 have hin : ∀ i ∈ ci, 0 ≤ i ∧ i.toNat < o.length := fun i hi => dueL_in i (h2.subset hi)
 have hat : ∀ k ∈ covL p o st, ∃ i : Nat, i < o.length ∧ k = (o.getD i default).key := fun k hk => by
  obtain ⟨i, hi, rfl⟩ := List.mem_map.1 (hperm.subset hk)
  exact ⟨i.toNat, (hin i hi).2, rfl⟩
 have hnn : ∀ k ∈ covL p o st, ∀ y ∈ kk0 p o k, 0 ≤ y.count := fun k hk' y hy => by
  obtain ⟨i, hi, rfl⟩ := hat k hk'
  rw [kk0_at hr hi] at hy
  exact hk.nn i hi y hy
 have hsum : ∀ k, sumK ((covL p o st).flatMap (kk0 p o)) k ≤ sumK st k := fun k => by
  rw [perm_sumK hperm, sumK_flat, keyI, sumO_map]
  have := h3 k
  rw [amtP_get] at this
  have e : sumO (fun i => sumK (kk0 p o (o.getD i.toNat default).key) k) ci = sumO (fun i => sumK (kitL p (o.getD i.toNat default)) k) ci := sumO_congr fun i hi => by rw [kk0_at hr (hin i hi).2]
  rw [e]; omega
 refine ⟨hat, fun q hq r k => ?_, fun hs => ?_, ?_⟩
 ·rw [subP_get, amtP_get]
  have hs := hsum k
  have e : ∃ t, (∀ y ∈ t, 0 ≤ y.count) ∧ (covL p o st).flatMap (kk0 p o) = ((covL p o st).take q).flatMap (kk0 p o) ++ (kk0 p o ((covL p o st).getD q ByteArray.empty)).take (if q < (covL p o st).length then r else 0) ++ t := by
   by_cases hq2 : q < (covL p o st).length
   ·rw [if_pos hq2]
    refine ⟨(kk0 p o ((covL p o st).getD q ByteArray.empty)).drop r ++ ((covL p o st).drop (q + 1)).flatMap (kk0 p o), fun y hy => ?_, ?_⟩
    ·rcases List.mem_append.1 hy with hy | hy
     ·refine hnn _ ?_ y (List.mem_of_mem_drop hy)
      rw [List.getD_eq_getElem?_getD, List.getElem?_eq_getElem hq2]; exact List.getElem_mem hq2
     ·obtain ⟨k', hk', hy⟩ := List.mem_flatMap.1 hy
      exact hnn k' (List.mem_of_mem_drop hk') y hy
    ·rw [List.append_assoc, ← List.append_assoc ((kk0 p o ((covL p o st).getD q ByteArray.empty)).take r), List.take_append_drop, ← List.flatMap_cons, ← List.flatMap_append]
     congr 1
     conv => lhs; rw [← List.take_append_drop q (covL p o st)]
     congr 1
     rw [List.drop_eq_getElem_cons hq2, List.getD_eq_getElem?_getD, List.getElem?_eq_getElem hq2]; rfl
   ·rw [if_neg hq2]
    exact ⟨[], (fun y hy => absurd hy (by simp)), by rw [List.take_of_length_le (show (covL p o st).length ≤ q by omega)]; simp⟩
  obtain ⟨t, ht, e⟩ := e
  rw [e, sumK_app] at hs
  have := sumK_nn ht k
  omega
 ·have hall := covI_all hk (dueL o) (amtP st) [] dueL_in fun k => by
   rw [amtP_get, sumO_perm (dueL_perm o)]
   have e : sumO (fun i => sumK (kitL p (o.getD i.toNat default)) k) (idO o.length) = sumK (kitsL p o) k := by
    unfold kitsL
    rw [sumK_flat]
    have h1 : idO o.length = (List.range o.length).map fun j : Nat => (j : Int) := rfl
    rw [h1, sumO_map]
    have h2 : (List.range o.length).map (fun j => o.getD j default) = o := by
     have := range_getD o (fun x => x); simpa using this
    conv => rhs; rw [← h2]
    rw [sumO_map]; rfl
   rw [e]
   refine Classical.byContradiction fun hn => ?_
   by_cases hx : ∃ y ∈ kitsL p o, y.key = k
   ·have hm : (⟨k, sumK (kitsL p o) k - sumK st k⟩ : NeedS) ∈ shortL (kitsL p o) st := shortL_mem.2 ⟨hx, rfl, by show 0 < sumK (kitsL p o) k - sumK st k; omega⟩
    rw [hs] at hm; cases hm
   ·rw [sumK_none hx] at hn
    have := sumK_nn hst k
    omega
  rw [h1, List.nil_append] at hall
  rw [hperm.length_eq, keyI, List.length_map, hall, dueL_len]
 ·rw [hperm.length_eq, keyI, List.length_map, ← dueL_len o]; exact h2.length_le
end Go.Proofs.YtaaokimiadfidaaGreatDoor
namespace Go.Proofs.YtaaokimiadfidaaGreatDoor
open Go.RowKit
set_option linter.unusedVariables false
set_option linter.unusedSimpArgs false
def AllP (Pr : ByteArray → Prop) : List AV → Prop
 | [] => True
 | x :: r => (∃ i : ByteArray, Pr i ∧ x = avS i) ∧ AllP Pr r
theorem AllP.nil {Pr : ByteArray → Prop} : AllP Pr [] := trivial
theorem AllP.cons {Pr : ByteArray → Prop} {i : ByteArray} {r : List AV} (h : Pr i) (hr : AllP Pr r) : AllP Pr (avS i :: r) := ⟨⟨i, h, rfl⟩, hr⟩
theorem AllP.get {Pr : ByteArray → Prop} : ∀ {l : List AV} {q : Nat}, AllP Pr l → q < l.length → ∃ i : ByteArray, Pr i ∧ l.getD q .any = avS i
 | [], q, _, h => by simp at h
 | x :: r, 0, h, _ => by simpa using h.1
 | x :: r, q + 1, h, hq => by simpa using AllP.get h.2 (by simpa using hq)
set_option maxRecDepth 100000 in
theorem some_P {p : Nat} {L : List Int} {n : Nat} {l : List AV} (Pr : ByteArray → Prop) (hn : l.length = n) (h0 : 0 < n) (h1 : n ≤ 1000) (hall : AllP Pr l) :
  SpecT Tryz.prog (TT p L) (fun b => b = p) 16 [sp p, .im n 1 fun j => l.getD j .any] 1 (fun y => ∃ r : ByteArray, Pr r ∧ y = avS r) := by
 refine SpecT.of_VC Tryz.func16 rfl Tryz.ntmps16 (Nle rfl) (low := (fun b => b ≤ p)) (fun w A k h => h.ok) fun w A k hk hB => ?_
 have hnew : True := trivial
 refine VC.sr ?_
 refine VO.ma rfl rfl rfl rfl ?_
 refine VO.nil ?_
 refine VC.sr ?_
 refine VO.mv rfl rfl rfl rfl ?_
 refine VO.mv rfl rfl rfl rfl ?_
 refine VO.mv rfl rfl rfl rfl ?_
 refine VO.val rfl rfl (OpV.len_im rfl Tryz.underlying67 rfl) ?_
 refine VO.op rfl (OpE.callT' (k) rfl rfl hB rfl Tryz.call103 rfl ((next_T (by omega))) (by omega) ?_)
 rintro _ ⟨r9, hr9, rfl⟩
 refine VO.val rfl rfl (OpV.indexAddr_1 rfl Tryz.underlying67 Tryz.sizeOf9 rfl rfl (Int.toNat_of_nonneg (by omega)).symm (by omega)) ?_
 refine VO.val rfl rfl (OpV.load_at rfl hB OutW.no Tryz.isAgg9 rfl rfl) ?_
 refine VO.ma rfl rfl rfl rfl ?_
 refine VO.nil ?_
 refine VC.ret ?_
 exact Exists.intro _ (And.intro (RetV.one Tryz.results16 (ResV.tmp rfl)) (And.intro (hall.get (by omega)) ((show k + 1 ≤ k + 1 by omega))))
end Go.Proofs.YtaaokimiadfidaaGreatDoor
namespace Go.Proofs.YtaaokimiadfidaaGreatDoor
open Go.RowKit
set_option linter.unusedVariables false
set_option linter.unusedSimpArgs false
def k3P : List ByteArray := [⟨#[112]⟩, ⟨#[113]⟩, ⟨#[114]⟩]
theorem k3P_size (q : Nat) : (k3P.getD q ByteArray.empty).size ≤ 1000 := by
 match q with
 | 0 => decide
 | 1 => decide
 | 2 => decide
 | q + 3 => simp [k3P]
def k4P : List ByteArray := [⟨#[97]⟩, ⟨#[98]⟩, ⟨#[99]⟩, ⟨#[100]⟩]
def partK : List ByteArray := [⟨#[97]⟩, ⟨#[98]⟩, ⟨#[99]⟩, ⟨#[100]⟩, ⟨#[122, 122]⟩, ByteArray.empty]
theorem partK_size {k : ByteArray} (h : k ∈ partK) : k.size ≤ 1000 := by
 simp only [partK, List.mem_cons, List.not_mem_nil, or_false] at h
 rcases h with h | h | h | h | h | h <;> (rw [h]; decide)
theorem k4P_mem (q : Nat) : k4P.getD q ByteArray.empty ∈ partK := by
 match q with
 | 0 => exact .head _
 | 1 => exact .tail _ (.head _)
 | 2 => exact .tail _ (.tail _ (.head _))
 | 3 => exact .tail _ (.tail _ (.tail _ (.head _)))
 | q + 4 => exact .tail _ (.tail _ (.tail _ (.tail _ (.tail _ (.head _)))))
def NsOk (m : Nat) (l : List NeedS) : Prop := l.length ≤ m ∧ ∀ y ∈ l, y.key ∈ partK
theorem NsOk.snoc {m : Nat} {l : List NeedS} (h : NsOk m l) {x : NeedS} (hx : x.key ∈ partK) : NsOk (m + 1) (l ++ [x]) := ⟨by have := h.1; simp; omega, fun y hy => by
 rcases List.mem_append.1 hy with hy | hy
 ·exact h.2 y hy
 ·simp at hy; subst hy; exact hx⟩
theorem NsOk.mono {m n : Nat} {l : List NeedS} (h : NsOk m l) (hn : m ≤ n) : NsOk n l := ⟨Nat.le_trans h.1 hn, h.2⟩
def PcOk (m : Nat) (x : PaceS) : Prop := x.product.size ≤ 1000 ∧ NsOk m x.needs
theorem PcOk.mono {m n : Nat} {x : PaceS} (h : PcOk m x) (hn : m ≤ n) : PcOk n x := ⟨h.1, h.2.mono hn⟩
theorem PcOk.getD {m : Nat} {l : List PaceS} (h : ∀ x ∈ l, PcOk m x) (i : Nat) : PcOk m (l.getD i default) := by
 rw [List.getD_eq_getElem?_getD]
 cases hi : l[i]? with
 | none => exact ⟨by decide, Nat.zero_le _, fun y hy => by cases hy⟩
 | some x => exact h x (List.mem_of_getElem? hi)
theorem PcOk.sm {l : List PaceS} (h : ∀ x ∈ l, PcOk 5 x) (hl : l.length ≤ 1000) : SmPc l := ⟨by omega, fun i => by have := (PcOk.getD h i).1; omega, fun i => by have := (PcOk.getD h i).2.1; omega, fun i j => by
 have := (PcOk.getD h i).2.2
 rw [List.getD_eq_getElem?_getD (l := (l.getD i default).needs)]
 cases hj : (l.getD i default).needs[j]? with
 | none => decide
 | some x => have := partK_size (this x (List.mem_of_getElem? hj)); simp; omega⟩
theorem PcOk.setD {m : Nat} {l : List PaceS} (h : ∀ x ∈ l, PcOk m x) (q : Nat) {x : PaceS} (hx : PcOk m x) : ∀ y ∈ l.set q x, PcOk m y := fun y hy => by
 rcases List.mem_or_eq_of_mem_set hy with h' | rfl
 ·exact h y h'
 ·exact hx
theorem pc_upd {a b : PaceS} {k : Nat} (h0 : k = 0 ∨ a.product = b.product) (h1 : k = 1 ∨ a.cycle = b.cycle) (h2 : k = 2 ∨ a.needs = b.needs) : ∀ i, i < 3 → i ≠ k → Sxc.cell a i = Sxc.cell b i := fun i hi hn => by
 match i, hi with
 | 0, _ => show avS a.product = avS b.product; rw [h0.resolve_left fun h => hn h.symm]
 | 1, _ => show avI a.cycle = avI b.cycle; rw [h1.resolve_left fun h => hn h.symm]
 | 2, _ => show avL a.needs = avL b.needs; rw [h2.resolve_left fun h => hn h.symm]
theorem getSetP {α : Type} {xs : List α} {q : Nat} {x d : α} (h : q < xs.length) : (xs.set q x).getD q d = x := by simp [h]
theorem flat_nd (xs : List NeedS) : FlatA (rowL xs) := flat_rowL (fun x j hj => by
 match j, hj with
 | 0, _ => exact ⟨_, rfl⟩
 | 1, _ => exact ⟨_, rfl⟩) xs
theorem nd_one (xs : List NeedS) (x : Nat) (h : x < xs.length * 2) : ((fun q => Sxc.cell (xs.getD q default)) (x / Sxc.k NeedS) (x % Sxc.k NeedS)).one = true := by
 have : x % Sxc.k NeedS < 2 := Nat.mod_lt _ (by decide)
 match x % Sxc.k NeedS, this with
 | 0, _ => rfl
 | 1, _ => rfl
set_option maxRecDepth 100000 in
theorem slices_CloneN_R {xs : List NeedS} (hl : xs.length ≤ 1000000000) :
  SpecR Tryz.prog 146 [avL xs] xs.length 2 (rowL xs) 96 := by
 refine SpecR.of_VC Tryz.func146 rfl Tryz.ntmps146 (Nle rfl) (flat_nd xs) fun w A hB => ?_
 have hnew : True := trivial
 refine VC.sr ?_
 refine VO.ma rfl rfl rfl rfl ?_
 refine VO.nil ?_
 refine VC.seq ?_
 refine VC.sr ?_
 refine VO.mv rfl rfl rfl rfl ?_
 refine VO.op rfl (OpE.eqNil rfl rfl Tryz.underlying77 rfl ?_)
 intro b4 hb4
 refine VO.nil ?_
 refine VC.cond rfl (fun h0b => ?_) (fun h0b => ?_)
 ·have h0 := h0b
  try simp only [qqT, qqF, qqN, qqM, qqL, qqE] at h0
  refine VC.sr ?_
  refine VO.ma rfl rfl rfl rfl ?_
  refine VO.nil ?_
  obtain rfl : xs = [] := List.eq_nil_of_length_eq_zero (hb4 h0)
  refine VC.le _ (Le.nilRow 2 96) ?_
  refine VC.ret ?_
  exact Exists.intro _ (And.intro (RetV.one Tryz.results146 (ResV.tmp rfl)) (⟨_, rfl, List.Mem.head _⟩))
 ·have h0 := h0b
  try simp only [qqT, qqF, qqN, qqM, qqL, qqE] at h0
  refine VC.skip ?_
  refine VC.sr ?_
  refine VO.op rfl (OpE.buildSlice0 rfl hB rfl Tryz.underlying77 Tryz.sizeOf96 ?_)
  intro g5
  refine VO.mv rfl rfl rfl rfl ?_
  refine VO.op rfl (OpE.appendP (i := 0) rfl hB rfl Tryz.underlying77 (infoOf Tryz.t96 2 (by kernel_rfl) rfl rfl) rfl (by decide) (by decide) rfl rfl (.im rfl) (nd_one xs) (by omega) (tab_L xs) (fun _ _ => trivial) ?_)
  intro u7
  refine VO.ma rfl rfl rfl rfl ?_
  refine VO.nil ?_
  rw [Nat.zero_add]
  refine VC.ret ?_
  exact Exists.intro _ (And.intro (RetV.one Tryz.results146 (ResV.tmp rfl)) (⟨_, rfl, List.Mem.head _⟩))
set_option maxRecDepth 100000 in
set_option maxHeartbeats 40000000 in
theorem paces_T {p : Nat} {L : List Int}  :
    SpecT Tryz.prog (TT p L) (fun b => b = p) 44 [sp p] 100 (fun y => ∃ l : List PaceS, (l.length ≤ 3 ∧ ∀ x ∈ l, PcOk 5 x) ∧ y = avL l) := by
  refine SpecT.of_VC Tryz.func44 rfl Tryz.ntmps44 (Nle rfl) (low := (fun b => b ≤ p)) (fun w A k h => h.ok) fun w A k hk hB => ?_
  have hnew : True := trivial
  refine VC.sr ?_
  refine VO.ma rfl rfl rfl rfl ?_
  refine VO.nil ?_
  refine VC.sr ?_
  refine VO.ma rfl rfl rfl rfl ?_
  refine VO.nil ?_
  refine VC.seq ?_
  refine VC.sr ?_
  refine VO.op rfl (OpE.buildSlice (zc := #[.string ⟨#[]⟩, .string ⟨#[]⟩, .string ⟨#[]⟩]) rfl hB rfl Tryz.underlying67 Tryz.sizeOf9 Tryz.zeroValue9 (by decide) (by decide) (by kernel_rfl) rfl rfl ?_)
  refine VO.le _ (Le.recast (t := 10) (y := avStrs k3P) rfl (fun w Z u h => Rep.strs (xs := k3P) rfl h)) ?_
  refine VO.val rfl rfl (OpV.len_im rfl Tryz.underlying67 rfl) ?_
  refine VO.mv rfl rfl rfl rfl ?_
  refine VO.nil ?_
  refine VC.block ?_
  refine VC.le _ (Le.nilRow 3 137) ?_
  refine VC.loopK [(0, _)] ⟨rfl, trivial⟩ ({t : Value × List PaceS × Nat // t.2.2 ≤ 3 ∧ t.2.1.length ≤ t.2.2 ∧ ∀ x ∈ t.2.1, PcOk 4 x}) (fun (iZ : {t : Value × List PaceS × Nat // t.2.2 ≤ 3 ∧ t.2.1.length ≤ t.2.2 ∧ ∀ x ∈ t.2.1, PcOk 4 x}) => match iZ with | ⟨⟨u, l, q⟩, hq, hl, hok⟩ => [(3, .v u), (10, avStrs k3P), (11, avI 3), (12, avI (q : Int))]) (fun (iZ : {t : Value × List PaceS × Nat // t.2.2 ≤ 3 ∧ t.2.1.length ≤ t.2.2 ∧ ∀ x ∈ t.2.1, PcOk 4 x}) => match iZ with | ⟨⟨u, l, q⟩, hq, hl, hok⟩ => [.row u l.length 3 (rowL l) 137]) (fun (iZ : {t : Value × List PaceS × Nat // t.2.2 ≤ 3 ∧ t.2.1.length ≤ t.2.2 ∧ ∀ x ∈ t.2.1, PcOk 4 x}) => match iZ with | ⟨⟨u, l, q⟩, hq, hl, hok⟩ => k + 12 * q) (fun (iZ : {t : Value × List PaceS × Nat // t.2.2 ≤ 3 ∧ t.2.1.length ≤ t.2.2 ∧ ∀ x ∈ t.2.1, PcOk 4 x}) => match iZ with | ⟨⟨u, l, q⟩, hq, hl, hok⟩ => 3 - q) ⟨(.slice none 0 0, [], 0), by decide, by decide, fun x h => by simp at h⟩ (Le.mk hB [0] ⟨rfl, rfl, rfl, rfl, rfl, trivial⟩ rfl rfl (show k ≤ k + 12 * 0 by omega)) ?_
  rintro ⟨⟨u, l, q⟩, hq, hl, hok⟩
  show VC _ _ _ _ ⟨[(3, .v u), (10, avStrs k3P), (11, avI 3), (12, avI (q : Int))] ++ [(0, _)], [.row u l.length 3 (rowL l) 137], k + 12 * q⟩
  simp only at hq hl hok
  refine VC.sr ?_
  refine VO.val rfl rfl (OpV.lss rfl rfl rfl) ?_
  refine VO.nil ?_
  refine VC.seq ?_
  refine VC.cond rfl (fun aH1b => ?_) (fun aH1b => ?_)
  · have aH1 := aH1b
    try simp only [qqT, qqF, qqN, qqM, qqL, qqE] at aH1
    refine VC.skip ?_
    refine VC.seq ?_
    refine VC.block ?_
    refine VC.sr ?_
    refine VO.val rfl rfl (OpV.indexAddr_1 rfl Tryz.underlying67 Tryz.sizeOf9 rfl rfl rfl (by show _ < 3; omega)) ?_
    refine VO.val rfl rfl (OpV.load_at rfl hB OutW.no Tryz.isAgg9 rfl rfl) ?_
    refine VO.ma rfl rfl rfl rfl ?_
    refine VO.nil ?_
    refine VC.seq ?_
    refine VC.sr ?_
    refine VO.mv rfl rfl rfl rfl ?_
    refine VO.op rfl (OpE.callT' (k + 12 * q) rfl rfl hB rfl Tryz.call17 rfl ((flip_T (by omega))) (by omega) ?_)
    rintro _ ⟨r17, rfl⟩
    refine VO.nil ?_
    refine VC.cond rfl (fun aH2b => ?_) (fun aH2b => ?_)
    · have aH2 := aH2b
      try simp only [qqT, qqF, qqN, qqM, qqL, qqE] at aH2
      refine VC.exit ?_
      refine VC.region ?_
      refine VO.val rfl rfl (OpV.add rfl rfl rfl (by unfold fits; omega)) ?_
      refine VO.mv rfl rfl rfl rfl ?_
      refine VO.nil ?_
      exact Exists.intro (⟨(u, l, q + 1), by show q + 1 ≤ 3; omega, by show l.length ≤ q + 1; omega, hok⟩) (And.intro (Le.mk hB [0] ⟨rfl, rfl, rfl, rfl, rfl, trivial⟩ rfl (by dsimp only; first | rfl | (rw [List.length_append]; rfl)) (show k + 12 * q + 1 ≤ k + 12 * (q + 1) by omega)) (by first | omega | (show _ < _; omega) | (simp only []; omega)))
    · have aH2 := aH2b
      try simp only [qqT, qqF, qqN, qqM, qqL, qqE] at aH2
      refine VC.skip ?_
      refine VC.sr ?_
      refine VO.mv rfl rfl rfl rfl ?_
      refine VO.mv rfl rfl rfl rfl ?_
      refine VO.op rfl (OpE.buildSlice (zc := #[.int .i64 0, .int .i64 0, .int .i64 0, .int .i64 0]) rfl hB rfl Tryz.underlying22 Tryz.sizeOf3 Tryz.zeroValue3 (by decide) (by decide) (by kernel_rfl) rfl rfl ?_)
      refine VO.op rfl (OpE.callT' (k + 12 * q + 1) rfl rfl hB rfl Tryz.call15 rfl (pick_X (by rfl) (by decide) (by decide) (by repeat (first | exact AllX.nil | refine AllX.cons ?_))) (by omega) ?_)
      rintro _ ⟨r21, rfl⟩
      refine VO.val rfl rfl (OpV.build (pls := #[(0, 1), (1, 1), (2, 1)]) rfl Tryz.zeroValue137 Tryz.underlying137 (fun w => by kernel_rfl) rfl rfl) ?_
      refine VO.op rfl (OpE.alloc rfl hB rfl Tryz.zeroValue137 rfl ?_)
      intro g6
      refine VO.op rfl (OpE.store (i := 1) rfl hB rfl Tryz.sizeOf137 rfl rfl rfl rfl rfl rfl (Nle rfl) trivial ?_)
      refine VO.nil ?_
      refine VC.seq ?_
      refine VC.sr ?_
      refine VO.op rfl (OpE.buildSlice (zc := #[.string ⟨#[]⟩, .string ⟨#[]⟩, .string ⟨#[]⟩, .string ⟨#[]⟩]) rfl hB rfl Tryz.underlying67 Tryz.sizeOf9 Tryz.zeroValue9 (by decide) (by decide) (by kernel_rfl) rfl rfl ?_)
      refine VO.le _ (Le.recast (t := 23) (y := avStrs k4P) rfl (fun w Z u h => Rep.strs (xs := k4P) rfl h)) ?_
      refine VO.val rfl rfl (OpV.len_im rfl Tryz.underlying67 rfl) ?_
      refine VO.mv rfl rfl rfl rfl ?_
      refine VO.nil ?_
      refine VC.block ?_
      refine VC.le _ (Le.nilRow 2 96) ?_
      refine VC.loopK [(0, _)] ⟨rfl, trivial⟩ ({t : Option Addr × Nat × List NeedS × Nat // t.2.2.2 ≤ 4 ∧ NsOk t.2.2.2 t.2.2.1}) (fun (iZ : {t : Option Addr × Nat × List NeedS × Nat // t.2.2.2 ≤ 4 ∧ NsOk t.2.2.2 t.2.2.1}) => match iZ with | ⟨⟨b, c, ns, r⟩, hr, hns⟩ => [(3, .v u), (6, .v (.pointer (some ⟨g6, 0, none⟩))), (10, avStrs k3P), (11, avI 3), (12, avI (q : Int)), (23, avStrs k4P), (24, avI 4), (25, avI (r : Int))]) (fun (iZ : {t : Option Addr × Nat × List NeedS × Nat // t.2.2.2 ≤ 4 ∧ NsOk t.2.2.2 t.2.2.1}) => match iZ with | ⟨⟨b, c, ns, r⟩, hr, hns⟩ => [.row u l.length 3 (rowL l) 137, .box g6 ⟨[avS (k3P.getD q ByteArray.empty), avI r21, .v (.slice b ns.length c)], 137, 3⟩, .row (.slice b ns.length c) ns.length 2 (rowL ns) 96]) (fun (iZ : {t : Option Addr × Nat × List NeedS × Nat // t.2.2.2 ≤ 4 ∧ NsOk t.2.2.2 t.2.2.1}) => match iZ with | ⟨⟨b, c, ns, r⟩, hr, hns⟩ => k + 12 * q + 2 + 2 * r) (fun (iZ : {t : Option Addr × Nat × List NeedS × Nat // t.2.2.2 ≤ 4 ∧ NsOk t.2.2.2 t.2.2.1}) => match iZ with | ⟨⟨b, c, ns, r⟩, hr, hns⟩ => 4 - r) ⟨(none, 0, [], 0), by decide, by decide, fun x h => by simp at h⟩ (Le.mk hB [0, 1, 2] ⟨rfl, rfl, rfl, rfl, rfl, rfl, rfl, rfl, rfl, trivial⟩ rfl rfl (show k + 12 * q + 1 + 1 ≤ k + 12 * q + 2 + 2 * 0 by omega)) ?_
      rintro ⟨⟨b, c, ns, r⟩, hr, hns⟩
      show VC _ _ _ _ ⟨[(3, .v u), (6, .v (.pointer (some ⟨g6, 0, none⟩))), (10, avStrs k3P), (11, avI 3), (12, avI (q : Int)), (23, avStrs k4P), (24, avI 4), (25, avI (r : Int))] ++ [(0, _)], [.row u l.length 3 (rowL l) 137, .box g6 ⟨[avS (k3P.getD q ByteArray.empty), avI r21, .v (.slice b ns.length c)], 137, 3⟩, .row (.slice b ns.length c) ns.length 2 (rowL ns) 96], k + 12 * q + 2 + 2 * r⟩
      simp only at hr hns
      have hnl := hns.1
      refine VC.sr ?_
      refine VO.val rfl rfl (OpV.lss rfl rfl rfl) ?_
      refine VO.nil ?_
      refine VC.seq ?_
      refine VC.cond rfl (fun aH3b => ?_) (fun aH3b => ?_)
      · have aH3 := aH3b
        try simp only [qqT, qqF, qqN, qqM, qqL, qqE] at aH3
        refine VC.skip ?_
        refine VC.seq ?_
        refine VC.block ?_
        refine VC.sr ?_
        refine VO.val rfl rfl (OpV.indexAddr_1 rfl Tryz.underlying67 Tryz.sizeOf9 rfl rfl rfl (by show _ < 4; omega)) ?_
        refine VO.val rfl rfl (OpV.load_at rfl hB OutW.no Tryz.isAgg9 rfl rfl) ?_
        refine VO.ma rfl rfl rfl rfl ?_
        refine VO.nil ?_
        refine VC.sr ?_
        refine VO.mv rfl rfl rfl rfl ?_
        refine VO.op rfl (OpE.callT' (k + 12 * q + 2 + 2 * r) rfl rfl hB rfl Tryz.call17 rfl ((flip_T (by omega))) (by omega) ?_)
        rintro _ ⟨r30, rfl⟩
        refine VO.nil ?_
        refine VC.cond rfl (fun aH4b => ?_) (fun aH4b => ?_)
        · have aH4 := aH4b
          try simp only [qqT, qqF, qqN, qqM, qqL, qqE] at aH4
          refine VC.draw (fun j b => (j = 9 ∧ b = g6) ∨ (j = 7 ∧ b ≠ g6)) hB (by kernel_rfl) ?_
          refine VA.take (i := 0) rfl (by decide +kernel) (by decide +kernel) (by decide +kernel) rfl rfl (OpV.fieldAddrO 2 rfl Tryz.underlying137 rfl rfl Tryz.sizeOf77 rfl) ?_
          refine VA.take (i := 1) rfl (by decide +kernel) (by decide +kernel) (by decide +kernel) rfl rfl (OpV.load_own (i := 1) rfl hB Tryz.isAgg77 rfl rfl rfl (Wi.notN (by decide +kernel))) ?_
          refine VA.take (i := 2) rfl (by decide +kernel) (by decide +kernel) (by decide +kernel) rfl rfl (OpV.move (.inl rfl) rfl) ?_
          refine VA.take (i := 3) rfl (by decide +kernel) (by decide +kernel) (by decide +kernel) rfl rfl (OpV.move (.inl rfl) rfl) ?_
          refine VA.all (rs := [4]) (by decide +kernel) (by decide) ?_
          refine ⟨⟨_, rfl, .inl rfl, ?_⟩, trivial⟩
          refine OpE.callT' (k + 12 * q + 2 + 2 * r + 1) rfl rfl hB rfl Tryz.call14 rfl ((range_T (by omega) (by omega) (by omega))) (by omega) ?_
          rintro _ ⟨r35, hr35, rfl⟩
          refine VA.take (i := 5) rfl (by decide +kernel) (by decide +kernel) (by decide +kernel) rfl rfl (OpV.build (pls := #[(0, 1), (1, 1)]) rfl Tryz.zeroValue96 Tryz.underlying96 (fun w => by kernel_rfl) rfl rfl) ?_
          refine VA.all (rs := [6]) (by decide +kernel) (by decide) ?_
          refine ⟨⟨_, rfl, .inl rfl, ?_⟩, trivial⟩
          refine OpE.buildSlice (zc := #[.string ⟨#[]⟩, .int .i64 0]) rfl hB rfl Tryz.underlying77 Tryz.sizeOf96 Tryz.zeroValue96 (by decide) (by decide) (by kernel_rfl) rfl rfl ?_
          refine VA.all (rs := [7]) (by decide +kernel) (by decide) ?_
          refine ⟨⟨_, rfl, .inl rfl, ?_⟩, trivial⟩
          refine OpE.hap (fun hap => ?_)
          refine OpE.append1S (i := 2) rfl hB rfl Tryz.underlying77 (infoOf Tryz.t96 2 (by kernel_rfl) rfl rfl) rfl (by decide) (by decide) rfl rfl rfl rfl (rowL_snoc ns (⟨k4P.getD r ByteArray.empty, r35⟩ : NeedS)) (by omega) (fun g' hg => .inr ⟨rfl, apart_ne hap (i := 2) (j := 1) hg rfl (by decide)⟩) ?_
          intro b2 c2
          refine VA.take (i := 8) rfl (by decide +kernel) (by decide +kernel) (by decide +kernel) rfl rfl (OpV.fieldAddrO 2 rfl Tryz.underlying137 rfl rfl Tryz.sizeOf77 rfl) ?_
          refine VA.all (rs := [9]) (by decide +kernel) (by decide) ?_
          refine ⟨⟨_, rfl, .inl rfl, ?_⟩, trivial⟩
          refine OpE.hap (fun hap => ?_)
          refine OpE.store (i := 1) rfl hB rfl Tryz.sizeOf77 rfl rfl rfl rfl rfl rfl (Nle rfl) (by first | exact .inl ⟨rfl, rfl⟩ | (refine ⟨by first | exact rfl | exact .inl rfl | exact .inr rfl, ?_⟩; repeat (first | (first | exact apart_ne hap (i := 2) (j := 0) rfl rfl (by decide) | exact apart_ne hap (i := 2) (j := 1) rfl rfl (by decide) | exact apart_ne hap (i := 1) (j := 0) rfl rfl (by decide) | exact apart_ne hap (i := 1) (j := 2) rfl rfl (by decide) | exact apart_ne hap (i := 0) (j := 1) rfl rfl (by decide) | exact apart_ne hap (i := 0) (j := 2) rfl rfl (by decide)) | refine And.intro ?_ ?_))) ?_
          refine VA.done (by decide +kernel) ?_
          refine VC.region ?_
          refine VO.val rfl rfl (OpV.add rfl rfl rfl (by unfold fits; omega)) ?_
          refine VO.mv rfl rfl rfl rfl ?_
          refine VO.nil ?_
          exact Exists.intro (⟨(b2, c2, ns ++ [⟨k4P.getD r ByteArray.empty, r35⟩], r + 1), by show r + 1 ≤ 4; omega, hns.snoc (k4P_mem r)⟩) (And.intro (Le.mk hB [0, 1, 2] ⟨rfl, rfl, rfl, rfl, rfl, rfl, rfl, rfl, rfl, trivial⟩ rfl (by dsimp only; first | rfl | (rw [List.length_append]; rfl)) (show k + 12 * q + 2 + 2 * r + 1 + 1 ≤ k + 12 * q + 2 + 2 * (r + 1) by omega)) (by first | omega | (show _ < _; omega) | (simp only []; omega)))
        · have aH4 := aH4b
          try simp only [qqT, qqF, qqN, qqM, qqL, qqE] at aH4
          refine VC.skip ?_
          refine VC.region ?_
          refine VO.val rfl rfl (OpV.add rfl rfl rfl (by unfold fits; omega)) ?_
          refine VO.mv rfl rfl rfl rfl ?_
          refine VO.nil ?_
          exact Exists.intro (⟨(b, c, ns, r + 1), by show r + 1 ≤ 4; omega, hns.mono (by show r ≤ r + 1; omega)⟩) (And.intro (Le.mk hB [0, 1, 2] ⟨rfl, rfl, rfl, rfl, rfl, rfl, rfl, rfl, rfl, trivial⟩ rfl (by dsimp only; first | rfl | (rw [List.length_append]; rfl)) (show k + 12 * q + 2 + 2 * r + 1 ≤ k + 12 * q + 2 + 2 * (r + 1) by omega)) (by first | omega | (show _ < _; omega) | (simp only []; omega)))
      · have aH3 := aH3b
        try simp only [qqT, qqF, qqN, qqM, qqL, qqE] at aH3
        refine VC.exit ?_
        refine VC.le _ (Le.cellRow (i := 1) (k := 2) (j := 2) (y := avL ns) hB rfl rfl rfl (by omega) (fun w Z u h => Rep.rowL (xs := ns) rfl h)) ?_
        refine VC.region ?_
        refine VO.mv rfl rfl rfl rfl ?_
        refine VO.val rfl rfl (OpV.loadK_own (i := 1) rfl hB Tryz.isAgg137 Tryz.sizeOf137 rfl rfl rfl (fun h => h)) ?_
        refine VO.op rfl (OpE.buildSlice (zc := #[.string ⟨#[]⟩, .int .i64 0, .slice none 0 0]) rfl hB rfl Tryz.underlying73 Tryz.sizeOf137 Tryz.zeroValue137 (by decide) (by decide) (by kernel_rfl) rfl rfl ?_)
        refine VO.op rfl (OpE.append1 (i := 0) rfl hB rfl Tryz.underlying73 (infoOf Tryz.t137 3 (by kernel_rfl) rfl rfl) rfl (by decide) (by decide) rfl rfl rfl rfl (rowL_snoc l (⟨k3P.getD q ByteArray.empty, r21, ns⟩ : PaceS)) (by omega) (fun _ _ => trivial) ?_)
        intro u2
        refine VO.ma rfl rfl rfl rfl ?_
        refine VO.nil ?_
        refine VC.region ?_
        refine VO.val rfl rfl (OpV.add rfl rfl rfl (by unfold fits; omega)) ?_
        refine VO.mv rfl rfl rfl rfl ?_
        refine VO.nil ?_
        exact Exists.intro (⟨(u2, l ++ [⟨k3P.getD q ByteArray.empty, r21, ns⟩], q + 1), by show q + 1 ≤ 3; omega, by show (l ++ [_]).length ≤ q + 1; simp; omega, fun x hx => by rcases List.mem_append.1 hx with hx | hx; exact hok x hx; (simp at hx; subst hx; exact ⟨k3P_size q, hns.mono (by omega)⟩)⟩) (And.intro (Le.mk hB [0] ⟨rfl, rfl, rfl, rfl, rfl, trivial⟩ rfl (by dsimp only; first | rfl | (rw [List.length_append]; rfl)) (show k + 12 * q + 2 + 2 * r ≤ k + 12 * (q + 1) by omega)) (by first | omega | (show _ < _; omega) | (simp only []; omega)))
  · have aH1 := aH1b
    try simp only [qqT, qqF, qqN, qqM, qqL, qqE] at aH1
    refine VC.exit ?_
    refine VC.seq ?_
    refine VC.sr ?_
    refine VO.mv rfl rfl rfl rfl ?_
    refine VO.val rfl rfl (OpV.len_row (i := 0) rfl Tryz.underlying73 rfl rfl) ?_
    refine VO.val rfl rfl (OpV.gtr rfl rfl rfl) ?_
    refine VO.mv rfl rfl rfl rfl ?_
    refine VO.opG rfl rfl rfl rfl (fun aK5b => ?_) (fun aK5b => ?_)
    · replace aK5b : _ = true := aK5b
      have aK5 := aK5b
      try simp only [qqT, qqF, qqN, qqM, qqL, qqE] at aK5
      refine OpE.val (W := NoB) (OpV.move (.inl rfl) rfl) rfl ?_
      refine VO.opY rfl rfl rfl rfl aK5b ?_
      refine OpE.callT' (k + 12 * q) rfl rfl hB rfl Tryz.call17 rfl ((flip_T (by omega))) (by omega) ?_
      rintro _ ⟨r51, rfl⟩
      refine VO.val rfl rfl (OpV.pickT rfl rfl rfl rfl aK5b) ?_
      refine VO.nil ?_
      refine VC.cond rfl (fun aH6b => ?_) (fun aH6b => ?_)
      · have aH6 := aH6b
        try simp only [qqT, qqF, qqN, qqM, qqL, qqE] at aH6
        refine VC.seq ?_
        refine VC.asBox (i := 0) rfl (by omega) (fun gr cap hu hcap hmx => ?_)
        subst hu
        refine VC.region ?_
        refine VO.mv rfl rfl rfl rfl ?_
        refine VO.mv rfl rfl rfl rfl ?_
        refine VO.mv rfl rfl rfl rfl ?_
        refine VO.val rfl rfl (OpV.len_v rfl Tryz.underlying73 rfl) ?_
        refine VO.op rfl (OpE.callT' (k + 12 * q + 1) rfl rfl hB rfl Tryz.call103 rfl ((next_T (by omega))) (by omega) ?_)
        rintro _ ⟨r57, hr57, rfl⟩
        obtain ⟨i, rfl⟩ : ∃ i : Nat, r57 = i := ⟨r57.toNat, by omega⟩
        refine VO.val rfl rfl (OpV.indexAddr_q rfl Tryz.underlying73 Tryz.sizeOf137 rfl rfl rfl (by omega)) ?_
        refine VO.ma rfl rfl rfl rfl ?_
        refine VO.nil ?_
        refine VC.seq ?_
        refine VC.draw (fun j b => j ∈ [18, 21] ∧ b = gr) hB (by kernel_rfl) ?_
        refine VA.take (i := 0) rfl (by decide +kernel) (by decide +kernel) (by decide +kernel) rfl rfl (OpV.move (.inl rfl) rfl) ?_
        refine VA.take (i := 1) rfl (by decide +kernel) (by decide +kernel) (by decide +kernel) rfl rfl (OpV.move (.inl rfl) rfl) ?_
        refine VA.take (i := 2) rfl (by decide +kernel) (by decide +kernel) (by decide +kernel) rfl rfl (OpV.move (.inl rfl) rfl) ?_
        refine VA.take (i := 3) rfl (by decide +kernel) (by decide +kernel) (by decide +kernel) rfl rfl (OpV.move (.inl rfl) rfl) ?_
        refine VA.take (i := 4) rfl (by decide +kernel) (by decide +kernel) (by decide +kernel) rfl rfl (OpV.nilCheck rfl rfl) ?_
        refine VA.take (i := 5) rfl (by decide +kernel) (by decide +kernel) (by decide +kernel) rfl rfl (OpV.fieldAddrO 0 rfl Tryz.underlying137 rfl rfl Tryz.sizeOf9 rfl) ?_
        refine VA.take (i := 6) rfl (by decide +kernel) (by decide +kernel) (by decide +kernel) rfl rfl (OpV.load_own (i := 0) rfl hB Tryz.isAgg9 rfl rfl (rowL_at rfl (by omega) (by decide)) (Wi.notD (by decide +kernel))) ?_
        refine VA.take (i := 9) rfl (by decide +kernel) (by decide +kernel) (by decide +kernel) rfl rfl (OpV.move (.inl rfl) rfl) ?_
        refine VA.take (i := 10) rfl (by decide +kernel) (by decide +kernel) (by decide +kernel) rfl rfl (OpV.move (.inl rfl) rfl) ?_
        refine VA.take (i := 11) rfl (by decide +kernel) (by decide +kernel) (by decide +kernel) rfl rfl (OpV.nilCheck rfl rfl) ?_
        refine VA.take (i := 12) rfl (by decide +kernel) (by decide +kernel) (by decide +kernel) rfl rfl (OpV.fieldAddrO 1 rfl Tryz.underlying137 rfl rfl Tryz.sizeOf3 rfl) ?_
        refine VA.take (i := 13) rfl (by decide +kernel) (by decide +kernel) (by decide +kernel) rfl rfl (OpV.load_own (i := 0) rfl hB Tryz.isAgg3 rfl rfl (rowL_at rfl (by omega) (by decide)) (Wi.notD (by decide +kernel))) ?_
        refine VA.all (rs := [7, 14]) (by decide +kernel) (by decide) ?_
        refine ⟨⟨_, rfl, .inl rfl, ?_⟩, ⟨_, rfl, .inl rfl, ?_⟩, trivial⟩
        ·
          refine OpE.buildSlice (zc := #[.string ⟨#[]⟩, .string ⟨#[]⟩, .string ⟨#[]⟩]) rfl hB rfl Tryz.underlying67 Tryz.sizeOf9 Tryz.zeroValue9 (by decide) (by decide) (by kernel_rfl) rfl rfl ?_
          refine VA.all (rs := [8, 14]) (by decide +kernel) (by decide) ?_
          refine ⟨⟨_, rfl, .inl rfl, ?_⟩, ⟨_, rfl, .inl rfl, ?_⟩, trivial⟩
          ·
            refine OpE.callT' (k + 12 * q + 1 + 1) rfl rfl hB rfl Tryz.call16 rfl (some_T 1000 (by rfl) (by decide) (by decide) (AllS.cons (PcOk.getD hok i).1 (AllS.cons (by decide) (AllS.cons (by decide) AllS.nil)))) (by omega) ?_
            rintro _ ⟨r67, hr67, rfl⟩
            refine VA.all (rs := [14]) (by decide +kernel) (by decide) ?_
            refine ⟨⟨_, rfl, .inl rfl, ?_⟩, trivial⟩
            refine OpE.buildSlice (zc := #[.int .i64 0, .int .i64 0, .int .i64 0]) rfl hB rfl Tryz.underlying22 Tryz.sizeOf3 Tryz.zeroValue3 (by decide) (by decide) (by kernel_rfl) rfl rfl ?_
            refine VA.all (rs := [15]) (by decide +kernel) (by decide) ?_
            refine ⟨⟨_, rfl, .inl rfl, ?_⟩, trivial⟩
            refine OpE.callT' (k + 12 * q + 1 + 1 + 1) rfl rfl hB rfl Tryz.call15 rfl (pick_X (by rfl) (by decide) (by decide) (by repeat (first | exact AllX.nil | refine AllX.cons ?_))) (by omega) ?_
            rintro _ ⟨r74, rfl⟩
            refine VA.take (i := 16) rfl (by decide +kernel) (by decide +kernel) (by decide +kernel) rfl rfl (OpV.nilCheck rfl rfl) ?_
            refine VA.take (i := 17) rfl (by decide +kernel) (by decide +kernel) (by decide +kernel) rfl rfl (OpV.fieldAddrO 0 rfl Tryz.underlying137 rfl rfl Tryz.sizeOf9 rfl) ?_
            refine VA.all (rs := [18]) (by decide +kernel) (by decide) ?_
            refine ⟨⟨_, rfl, .inl rfl, ?_⟩, trivial⟩
            refine OpE.store1 (i := 0) rfl hB rfl Tryz.sizeOf9 rfl rfl rfl rfl rfl rfl (rowL_in rfl (by omega) (by decide)) (rowL_set (x := ({l.getD i default with product := r67} : PaceS)) rfl (by omega) (by decide) rfl (fun i hi hn => pc_upd (by simp) (by simp) (by simp) i hi hn)) (by first | exact ⟨rfl, rfl⟩ | exact .inl ⟨rfl, rfl⟩ | exact .inr ⟨rfl, rfl⟩ | exact ⟨rfl, trivial⟩ | exact .inl ⟨rfl, trivial⟩ | exact .inr ⟨rfl, trivial⟩ | exact ⟨by decide, rfl⟩) ?_
            refine VA.take (i := 19) rfl (by decide +kernel) (by decide +kernel) (by decide +kernel) rfl rfl (OpV.nilCheck rfl rfl) ?_
            refine VA.take (i := 20) rfl (by decide +kernel) (by decide +kernel) (by decide +kernel) rfl rfl (OpV.fieldAddrO 1 rfl Tryz.underlying137 rfl rfl Tryz.sizeOf3 rfl) ?_
            refine VA.all (rs := [21]) (by decide +kernel) (by decide) ?_
            refine ⟨⟨_, rfl, .inl rfl, ?_⟩, trivial⟩
            refine OpE.store1 (i := 0) rfl hB rfl Tryz.sizeOf3 rfl rfl rfl rfl rfl rfl (rowL_in rfl (by rw [List.length_set]; omega) (by decide)) (rowL_set (x := ({l.getD i default with product := r67, cycle := r74} : PaceS)) rfl (by rw [List.length_set]; omega) (by decide) rfl (fun i hi hn => by rw [getSetP (by omega)]; exact pc_upd (by simp) (by simp) (by simp) i hi hn)) (by first | exact ⟨rfl, rfl⟩ | exact .inl ⟨rfl, rfl⟩ | exact .inr ⟨rfl, rfl⟩ | exact ⟨rfl, trivial⟩ | exact .inl ⟨rfl, trivial⟩ | exact .inr ⟨rfl, trivial⟩ | exact ⟨by decide, rfl⟩) ?_
            refine VA.done (by decide +kernel) ?_
            refine VC.seq ?_
            obtain ⟨l2, e2, h2, ok2⟩ : ∃ l2 : List PaceS, l2 = (l.set i ({l.getD i default with product := r67} : PaceS)).set i ({l.getD i default with product := r67, cycle := r74} : PaceS) ∧ l2.length = l.length ∧ ∀ x ∈ l2, PcOk 4 x := ⟨_, rfl, by simp, PcOk.setD (PcOk.setD hok i (x := ⟨r67, (l.getD i default).cycle, (l.getD i default).needs⟩) ⟨hr67, (PcOk.getD hok i).2⟩) i (x := ⟨r67, r74, (l.getD i default).needs⟩) ⟨hr67, (PcOk.getD hok i).2⟩⟩
            refine VC.le _ (Le.pickH (hp := [.box gr ⟨rowL l2, 137, cap * 3⟩]) [0] rfl (by rw [e2]; rfl)) ?_
            refine VC.region ?_
            refine VO.mv rfl rfl rfl rfl ?_
            refine VO.op rfl (OpE.callT' (k + 12 * q + 1 + 1 + 1 + 1) rfl rfl hB rfl Tryz.call17 rfl ((flip_T (by omega))) (by omega) ?_)
            rintro _ ⟨r80, rfl⟩
            refine VO.nil ?_
            refine VC.cond rfl (fun aH7b => ?_) (fun aH7b => ?_)
            · have aH7 := aH7b
              try simp only [qqT, qqF, qqN, qqM, qqL, qqE] at aH7
              refine VC.region ?_
              refine VO.mv rfl rfl rfl rfl ?_
              refine VO.mv rfl rfl rfl rfl ?_
              refine VO.val rfl rfl (OpV.nilCheck rfl rfl) ?_
              refine VO.val rfl rfl (OpV.fieldAddrO 2 rfl Tryz.underlying137 rfl rfl Tryz.sizeOf77 rfl) ?_
              refine VO.val rfl rfl (OpV.load_own (i := 0) rfl hB Tryz.isAgg77 rfl rfl (rowL_at rfl (by first | omega | (simp only [List.length_set]; omega)) (by decide)) (fun h => h)) ?_
              refine VO.op rfl (OpE.callR rfl hB rfl Tryz.call146 (slices_CloneN_R (by have := (PcOk.getD ok2 i).2.1; omega)) (ArgsP.cons (ArgP.ev rfl) (ArgsP.nil)) ?_)
              intro u86
              refine VO.mv rfl rfl rfl rfl ?_
              refine VO.op rfl (OpE.buildSlice (zc := #[.string ⟨#[]⟩, .string ⟨#[]⟩]) rfl hB rfl Tryz.underlying67 Tryz.sizeOf9 Tryz.zeroValue9 (by decide) (by decide) (by kernel_rfl) rfl rfl ?_)
              refine VO.op rfl (OpE.callT' (k + 12 * q + 1 + 1 + 1 + 1 + 1) rfl rfl hB rfl Tryz.call16 rfl (some_P (fun k => k ∈ partK) (by rfl) (by decide) (by decide) (AllP.cons (.head _) (AllP.cons (.tail _ (.tail _ (.tail _ (.tail _ (.head _))))) AllP.nil))) (by omega) ?_)
              rintro _ ⟨r89, hr89, rfl⟩
              refine VO.mv rfl rfl rfl rfl ?_
              refine VO.op rfl (OpE.buildSlice (zc := #[.int .i64 0, .int .i64 0]) rfl hB rfl Tryz.underlying22 Tryz.sizeOf3 Tryz.zeroValue3 (by decide) (by decide) (by kernel_rfl) rfl rfl ?_)
              refine VO.op rfl (OpE.callT' (k + 12 * q + 1 + 1 + 1 + 1 + 1 + 1) rfl rfl hB rfl Tryz.call15 rfl ((pick_T (-100000000) 100000000 (by rfl) (by decide) (by decide) (by repeat (first | exact AllI.nil | refine AllI.cons (by omega) ?_)))) (by omega) ?_)
              rintro _ ⟨r92, hr92, rfl⟩
              refine VO.val rfl rfl (OpV.build (pls := #[(0, 1), (1, 1)]) rfl Tryz.zeroValue96 Tryz.underlying96 (fun w => by kernel_rfl) rfl rfl) ?_
              refine VO.op rfl (OpE.buildSlice (zc := #[.string ⟨#[]⟩, .int .i64 0]) rfl hB rfl Tryz.underlying77 Tryz.sizeOf96 Tryz.zeroValue96 (by decide) (by decide) (by kernel_rfl) rfl rfl ?_)
              refine VO.op rfl (OpE.append1 (i := 1) rfl hB rfl Tryz.underlying77 (infoOf Tryz.t96 2 (by kernel_rfl) rfl rfl) rfl (by decide) (by decide) rfl rfl rfl rfl (rowL_snoc (l2.getD i default).needs (⟨r89, r92⟩ : NeedS)) (by have := (PcOk.getD ok2 i).2.1; omega) (fun _ _ => trivial) ?_)
              intro u95
              refine VO.le _ (Le.rowT (t := 95) (xs := (l2.getD i default).needs ++ [(⟨r89, r92⟩ : NeedS)]) (i := 1) hB hnew rfl rfl (by simp)) ?_
              refine VO.val rfl rfl (OpV.nilCheck rfl rfl) ?_
              refine VO.val rfl rfl (OpV.fieldAddrO 2 rfl Tryz.underlying137 rfl rfl Tryz.sizeOf77 rfl) ?_
              refine VO.op rfl (OpE.store1 (i := 0) rfl hB rfl Tryz.sizeOf77 rfl rfl rfl rfl rfl rfl (rowL_in rfl (by omega) (by decide)) (rowL_set (x := ({l2.getD i default with needs := (l2.getD i default).needs ++ [(⟨r89, r92⟩ : NeedS)]} : PaceS)) rfl (by omega) (by decide) rfl (fun i hi hn => pc_upd (by simp) (by simp) (by simp) i hi hn)) trivial ?_)
              refine VO.nil ?_
              refine VC.sr ?_
              refine VO.mv rfl rfl rfl rfl ?_
              refine VO.ma rfl rfl rfl rfl ?_
              refine VO.nil ?_
              refine VC.le _ (Le.boxT (t := 2) (i := 0) (n := l.length) (xs := l2.set i ({l2.getD i default with needs := (l2.getD i default).needs ++ [(⟨r89, r92⟩ : NeedS)]} : PaceS)) hB hnew rfl rfl (by rw [List.length_set]; omega) hcap hmx) ?_
              refine VC.ret ?_
              exact Exists.intro _ (And.intro (RetV.one Tryz.results44 (ResV.tmp rfl)) (And.intro (by first | exact ⟨l, ⟨by omega, fun x hx => (hok x hx).mono (by omega)⟩, rfl⟩ | exact ⟨l2, ⟨by omega, fun x hx => (ok2 x hx).mono (by omega)⟩, rfl⟩ | exact ⟨l2.set i ({l2.getD i default with needs := (l2.getD i default).needs ++ [(⟨r89, r92⟩ : NeedS)]} : PaceS), ⟨by rw [List.length_set]; omega, PcOk.setD (fun x hx => (ok2 x hx).mono (by omega)) _ ⟨(PcOk.getD ok2 i).1, (PcOk.getD ok2 i).2.snoc hr89⟩⟩, rfl⟩) ((show k + 12 * q + 1 + 1 + 1 + 1 + 1 + 1 + 1 ≤ k + 100 by omega))))
            · have aH7 := aH7b
              try simp only [qqT, qqF, qqN, qqM, qqL, qqE] at aH7
              refine VC.skip ?_
              refine VC.sr ?_
              refine VO.mv rfl rfl rfl rfl ?_
              refine VO.ma rfl rfl rfl rfl ?_
              refine VO.nil ?_
              refine VC.le _ (Le.boxT (t := 2) (i := 0) (n := l.length) (xs := l2) hB hnew rfl rfl (by omega) hcap hmx) ?_
              refine VC.ret ?_
              exact Exists.intro _ (And.intro (RetV.one Tryz.results44 (ResV.tmp rfl)) (And.intro (by first | exact ⟨l, ⟨by omega, fun x hx => (hok x hx).mono (by omega)⟩, rfl⟩ | exact ⟨l2, ⟨by omega, fun x hx => (ok2 x hx).mono (by omega)⟩, rfl⟩ | exact ⟨l2.set i ({l2.getD i default with needs := (l2.getD i default).needs ++ [(⟨r89, r92⟩ : NeedS)]} : PaceS), ⟨by rw [List.length_set]; omega, PcOk.setD (fun x hx => (ok2 x hx).mono (by omega)) _ ⟨(PcOk.getD ok2 i).1, (PcOk.getD ok2 i).2.snoc hr89⟩⟩, rfl⟩) ((show k + 12 * q + 1 + 1 + 1 + 1 + 1 ≤ k + 100 by omega))))
          ·
            refine OpE.buildSlice (zc := #[.int .i64 0, .int .i64 0, .int .i64 0]) rfl hB rfl Tryz.underlying22 Tryz.sizeOf3 Tryz.zeroValue3 (by decide) (by decide) (by kernel_rfl) rfl rfl ?_
            refine VA.all (rs := [8]) (by decide +kernel) (by decide) ?_
            refine ⟨⟨_, rfl, .inl rfl, ?_⟩, trivial⟩
            refine OpE.callT' (k + 12 * q + 1 + 1) rfl rfl hB rfl Tryz.call16 rfl (some_T 1000 (by rfl) (by decide) (by decide) (AllS.cons (PcOk.getD hok i).1 (AllS.cons (by decide) (AllS.cons (by decide) AllS.nil)))) (by omega) ?_
            rintro _ ⟨r67, hr67, rfl⟩
            refine VA.all (rs := [15]) (by decide +kernel) (by decide) ?_
            refine ⟨⟨_, rfl, .inl rfl, ?_⟩, trivial⟩
            refine OpE.callT' (k + 12 * q + 1 + 1 + 1) rfl rfl hB rfl Tryz.call15 rfl (pick_X (by rfl) (by decide) (by decide) (by repeat (first | exact AllX.nil | refine AllX.cons ?_))) (by omega) ?_
            rintro _ ⟨r74, rfl⟩
            refine VA.take (i := 16) rfl (by decide +kernel) (by decide +kernel) (by decide +kernel) rfl rfl (OpV.nilCheck rfl rfl) ?_
            refine VA.take (i := 17) rfl (by decide +kernel) (by decide +kernel) (by decide +kernel) rfl rfl (OpV.fieldAddrO 0 rfl Tryz.underlying137 rfl rfl Tryz.sizeOf9 rfl) ?_
            refine VA.all (rs := [18]) (by decide +kernel) (by decide) ?_
            refine ⟨⟨_, rfl, .inl rfl, ?_⟩, trivial⟩
            refine OpE.store1 (i := 0) rfl hB rfl Tryz.sizeOf9 rfl rfl rfl rfl rfl rfl (rowL_in rfl (by omega) (by decide)) (rowL_set (x := ({l.getD i default with product := r67} : PaceS)) rfl (by omega) (by decide) rfl (fun i hi hn => pc_upd (by simp) (by simp) (by simp) i hi hn)) (by first | exact ⟨rfl, rfl⟩ | exact .inl ⟨rfl, rfl⟩ | exact .inr ⟨rfl, rfl⟩ | exact ⟨rfl, trivial⟩ | exact .inl ⟨rfl, trivial⟩ | exact .inr ⟨rfl, trivial⟩ | exact ⟨by decide, rfl⟩) ?_
            refine VA.take (i := 19) rfl (by decide +kernel) (by decide +kernel) (by decide +kernel) rfl rfl (OpV.nilCheck rfl rfl) ?_
            refine VA.take (i := 20) rfl (by decide +kernel) (by decide +kernel) (by decide +kernel) rfl rfl (OpV.fieldAddrO 1 rfl Tryz.underlying137 rfl rfl Tryz.sizeOf3 rfl) ?_
            refine VA.all (rs := [21]) (by decide +kernel) (by decide) ?_
            refine ⟨⟨_, rfl, .inl rfl, ?_⟩, trivial⟩
            refine OpE.store1 (i := 0) rfl hB rfl Tryz.sizeOf3 rfl rfl rfl rfl rfl rfl (rowL_in rfl (by rw [List.length_set]; omega) (by decide)) (rowL_set (x := ({l.getD i default with product := r67, cycle := r74} : PaceS)) rfl (by rw [List.length_set]; omega) (by decide) rfl (fun i hi hn => by rw [getSetP (by omega)]; exact pc_upd (by simp) (by simp) (by simp) i hi hn)) (by first | exact ⟨rfl, rfl⟩ | exact .inl ⟨rfl, rfl⟩ | exact .inr ⟨rfl, rfl⟩ | exact ⟨rfl, trivial⟩ | exact .inl ⟨rfl, trivial⟩ | exact .inr ⟨rfl, trivial⟩ | exact ⟨by decide, rfl⟩) ?_
            refine VA.done (by decide +kernel) ?_
            refine VC.seq ?_
            obtain ⟨l2, e2, h2, ok2⟩ : ∃ l2 : List PaceS, l2 = (l.set i ({l.getD i default with product := r67} : PaceS)).set i ({l.getD i default with product := r67, cycle := r74} : PaceS) ∧ l2.length = l.length ∧ ∀ x ∈ l2, PcOk 4 x := ⟨_, rfl, by simp, PcOk.setD (PcOk.setD hok i (x := ⟨r67, (l.getD i default).cycle, (l.getD i default).needs⟩) ⟨hr67, (PcOk.getD hok i).2⟩) i (x := ⟨r67, r74, (l.getD i default).needs⟩) ⟨hr67, (PcOk.getD hok i).2⟩⟩
            refine VC.le _ (Le.pickH (hp := [.box gr ⟨rowL l2, 137, cap * 3⟩]) [0] rfl (by rw [e2]; rfl)) ?_
            refine VC.region ?_
            refine VO.mv rfl rfl rfl rfl ?_
            refine VO.op rfl (OpE.callT' (k + 12 * q + 1 + 1 + 1 + 1) rfl rfl hB rfl Tryz.call17 rfl ((flip_T (by omega))) (by omega) ?_)
            rintro _ ⟨r80, rfl⟩
            refine VO.nil ?_
            refine VC.cond rfl (fun aH8b => ?_) (fun aH8b => ?_)
            · have aH8 := aH8b
              try simp only [qqT, qqF, qqN, qqM, qqL, qqE] at aH8
              refine VC.region ?_
              refine VO.mv rfl rfl rfl rfl ?_
              refine VO.mv rfl rfl rfl rfl ?_
              refine VO.val rfl rfl (OpV.nilCheck rfl rfl) ?_
              refine VO.val rfl rfl (OpV.fieldAddrO 2 rfl Tryz.underlying137 rfl rfl Tryz.sizeOf77 rfl) ?_
              refine VO.val rfl rfl (OpV.load_own (i := 0) rfl hB Tryz.isAgg77 rfl rfl (rowL_at rfl (by first | omega | (simp only [List.length_set]; omega)) (by decide)) (fun h => h)) ?_
              refine VO.op rfl (OpE.callR rfl hB rfl Tryz.call146 (slices_CloneN_R (by have := (PcOk.getD ok2 i).2.1; omega)) (ArgsP.cons (ArgP.ev rfl) (ArgsP.nil)) ?_)
              intro u86
              refine VO.mv rfl rfl rfl rfl ?_
              refine VO.op rfl (OpE.buildSlice (zc := #[.string ⟨#[]⟩, .string ⟨#[]⟩]) rfl hB rfl Tryz.underlying67 Tryz.sizeOf9 Tryz.zeroValue9 (by decide) (by decide) (by kernel_rfl) rfl rfl ?_)
              refine VO.op rfl (OpE.callT' (k + 12 * q + 1 + 1 + 1 + 1 + 1) rfl rfl hB rfl Tryz.call16 rfl (some_P (fun k => k ∈ partK) (by rfl) (by decide) (by decide) (AllP.cons (.head _) (AllP.cons (.tail _ (.tail _ (.tail _ (.tail _ (.head _))))) AllP.nil))) (by omega) ?_)
              rintro _ ⟨r89, hr89, rfl⟩
              refine VO.mv rfl rfl rfl rfl ?_
              refine VO.op rfl (OpE.buildSlice (zc := #[.int .i64 0, .int .i64 0]) rfl hB rfl Tryz.underlying22 Tryz.sizeOf3 Tryz.zeroValue3 (by decide) (by decide) (by kernel_rfl) rfl rfl ?_)
              refine VO.op rfl (OpE.callT' (k + 12 * q + 1 + 1 + 1 + 1 + 1 + 1) rfl rfl hB rfl Tryz.call15 rfl ((pick_T (-100000000) 100000000 (by rfl) (by decide) (by decide) (by repeat (first | exact AllI.nil | refine AllI.cons (by omega) ?_)))) (by omega) ?_)
              rintro _ ⟨r92, hr92, rfl⟩
              refine VO.val rfl rfl (OpV.build (pls := #[(0, 1), (1, 1)]) rfl Tryz.zeroValue96 Tryz.underlying96 (fun w => by kernel_rfl) rfl rfl) ?_
              refine VO.op rfl (OpE.buildSlice (zc := #[.string ⟨#[]⟩, .int .i64 0]) rfl hB rfl Tryz.underlying77 Tryz.sizeOf96 Tryz.zeroValue96 (by decide) (by decide) (by kernel_rfl) rfl rfl ?_)
              refine VO.op rfl (OpE.append1 (i := 1) rfl hB rfl Tryz.underlying77 (infoOf Tryz.t96 2 (by kernel_rfl) rfl rfl) rfl (by decide) (by decide) rfl rfl rfl rfl (rowL_snoc (l2.getD i default).needs (⟨r89, r92⟩ : NeedS)) (by have := (PcOk.getD ok2 i).2.1; omega) (fun _ _ => trivial) ?_)
              intro u95
              refine VO.le _ (Le.rowT (t := 95) (xs := (l2.getD i default).needs ++ [(⟨r89, r92⟩ : NeedS)]) (i := 1) hB hnew rfl rfl (by simp)) ?_
              refine VO.val rfl rfl (OpV.nilCheck rfl rfl) ?_
              refine VO.val rfl rfl (OpV.fieldAddrO 2 rfl Tryz.underlying137 rfl rfl Tryz.sizeOf77 rfl) ?_
              refine VO.op rfl (OpE.store1 (i := 0) rfl hB rfl Tryz.sizeOf77 rfl rfl rfl rfl rfl rfl (rowL_in rfl (by omega) (by decide)) (rowL_set (x := ({l2.getD i default with needs := (l2.getD i default).needs ++ [(⟨r89, r92⟩ : NeedS)]} : PaceS)) rfl (by omega) (by decide) rfl (fun i hi hn => pc_upd (by simp) (by simp) (by simp) i hi hn)) trivial ?_)
              refine VO.nil ?_
              refine VC.sr ?_
              refine VO.mv rfl rfl rfl rfl ?_
              refine VO.ma rfl rfl rfl rfl ?_
              refine VO.nil ?_
              refine VC.le _ (Le.boxT (t := 2) (i := 0) (n := l.length) (xs := l2.set i ({l2.getD i default with needs := (l2.getD i default).needs ++ [(⟨r89, r92⟩ : NeedS)]} : PaceS)) hB hnew rfl rfl (by rw [List.length_set]; omega) hcap hmx) ?_
              refine VC.ret ?_
              exact Exists.intro _ (And.intro (RetV.one Tryz.results44 (ResV.tmp rfl)) (And.intro (by first | exact ⟨l, ⟨by omega, fun x hx => (hok x hx).mono (by omega)⟩, rfl⟩ | exact ⟨l2, ⟨by omega, fun x hx => (ok2 x hx).mono (by omega)⟩, rfl⟩ | exact ⟨l2.set i ({l2.getD i default with needs := (l2.getD i default).needs ++ [(⟨r89, r92⟩ : NeedS)]} : PaceS), ⟨by rw [List.length_set]; omega, PcOk.setD (fun x hx => (ok2 x hx).mono (by omega)) _ ⟨(PcOk.getD ok2 i).1, (PcOk.getD ok2 i).2.snoc hr89⟩⟩, rfl⟩) ((show k + 12 * q + 1 + 1 + 1 + 1 + 1 + 1 + 1 ≤ k + 100 by omega))))
            · have aH8 := aH8b
              try simp only [qqT, qqF, qqN, qqM, qqL, qqE] at aH8
              refine VC.skip ?_
              refine VC.sr ?_
              refine VO.mv rfl rfl rfl rfl ?_
              refine VO.ma rfl rfl rfl rfl ?_
              refine VO.nil ?_
              refine VC.le _ (Le.boxT (t := 2) (i := 0) (n := l.length) (xs := l2) hB hnew rfl rfl (by omega) hcap hmx) ?_
              refine VC.ret ?_
              exact Exists.intro _ (And.intro (RetV.one Tryz.results44 (ResV.tmp rfl)) (And.intro (by first | exact ⟨l, ⟨by omega, fun x hx => (hok x hx).mono (by omega)⟩, rfl⟩ | exact ⟨l2, ⟨by omega, fun x hx => (ok2 x hx).mono (by omega)⟩, rfl⟩ | exact ⟨l2.set i ({l2.getD i default with needs := (l2.getD i default).needs ++ [(⟨r89, r92⟩ : NeedS)]} : PaceS), ⟨by rw [List.length_set]; omega, PcOk.setD (fun x hx => (ok2 x hx).mono (by omega)) _ ⟨(PcOk.getD ok2 i).1, (PcOk.getD ok2 i).2.snoc hr89⟩⟩, rfl⟩) ((show k + 12 * q + 1 + 1 + 1 + 1 + 1 ≤ k + 100 by omega))))
        ·
          refine OpE.buildSlice (zc := #[.int .i64 0, .int .i64 0, .int .i64 0]) rfl hB rfl Tryz.underlying22 Tryz.sizeOf3 Tryz.zeroValue3 (by decide) (by decide) (by kernel_rfl) rfl rfl ?_
          refine VA.all (rs := [7]) (by decide +kernel) (by decide) ?_
          refine ⟨⟨_, rfl, .inl rfl, ?_⟩, trivial⟩
          refine OpE.buildSlice (zc := #[.string ⟨#[]⟩, .string ⟨#[]⟩, .string ⟨#[]⟩]) rfl hB rfl Tryz.underlying67 Tryz.sizeOf9 Tryz.zeroValue9 (by decide) (by decide) (by kernel_rfl) rfl rfl ?_
          refine VA.all (rs := [8]) (by decide +kernel) (by decide) ?_
          refine ⟨⟨_, rfl, .inl rfl, ?_⟩, trivial⟩
          refine OpE.callT' (k + 12 * q + 1 + 1) rfl rfl hB rfl Tryz.call16 rfl (some_T 1000 (by rfl) (by decide) (by decide) (AllS.cons (PcOk.getD hok i).1 (AllS.cons (by decide) (AllS.cons (by decide) AllS.nil)))) (by omega) ?_
          rintro _ ⟨r67, hr67, rfl⟩
          refine VA.all (rs := [15]) (by decide +kernel) (by decide) ?_
          refine ⟨⟨_, rfl, .inl rfl, ?_⟩, trivial⟩
          refine OpE.callT' (k + 12 * q + 1 + 1 + 1) rfl rfl hB rfl Tryz.call15 rfl (pick_X (by rfl) (by decide) (by decide) (by repeat (first | exact AllX.nil | refine AllX.cons ?_))) (by omega) ?_
          rintro _ ⟨r74, rfl⟩
          refine VA.take (i := 16) rfl (by decide +kernel) (by decide +kernel) (by decide +kernel) rfl rfl (OpV.nilCheck rfl rfl) ?_
          refine VA.take (i := 17) rfl (by decide +kernel) (by decide +kernel) (by decide +kernel) rfl rfl (OpV.fieldAddrO 0 rfl Tryz.underlying137 rfl rfl Tryz.sizeOf9 rfl) ?_
          refine VA.all (rs := [18]) (by decide +kernel) (by decide) ?_
          refine ⟨⟨_, rfl, .inl rfl, ?_⟩, trivial⟩
          refine OpE.store1 (i := 0) rfl hB rfl Tryz.sizeOf9 rfl rfl rfl rfl rfl rfl (rowL_in rfl (by omega) (by decide)) (rowL_set (x := ({l.getD i default with product := r67} : PaceS)) rfl (by omega) (by decide) rfl (fun i hi hn => pc_upd (by simp) (by simp) (by simp) i hi hn)) (by first | exact ⟨rfl, rfl⟩ | exact .inl ⟨rfl, rfl⟩ | exact .inr ⟨rfl, rfl⟩ | exact ⟨rfl, trivial⟩ | exact .inl ⟨rfl, trivial⟩ | exact .inr ⟨rfl, trivial⟩ | exact ⟨by decide, rfl⟩) ?_
          refine VA.take (i := 19) rfl (by decide +kernel) (by decide +kernel) (by decide +kernel) rfl rfl (OpV.nilCheck rfl rfl) ?_
          refine VA.take (i := 20) rfl (by decide +kernel) (by decide +kernel) (by decide +kernel) rfl rfl (OpV.fieldAddrO 1 rfl Tryz.underlying137 rfl rfl Tryz.sizeOf3 rfl) ?_
          refine VA.all (rs := [21]) (by decide +kernel) (by decide) ?_
          refine ⟨⟨_, rfl, .inl rfl, ?_⟩, trivial⟩
          refine OpE.store1 (i := 0) rfl hB rfl Tryz.sizeOf3 rfl rfl rfl rfl rfl rfl (rowL_in rfl (by rw [List.length_set]; omega) (by decide)) (rowL_set (x := ({l.getD i default with product := r67, cycle := r74} : PaceS)) rfl (by rw [List.length_set]; omega) (by decide) rfl (fun i hi hn => by rw [getSetP (by omega)]; exact pc_upd (by simp) (by simp) (by simp) i hi hn)) (by first | exact ⟨rfl, rfl⟩ | exact .inl ⟨rfl, rfl⟩ | exact .inr ⟨rfl, rfl⟩ | exact ⟨rfl, trivial⟩ | exact .inl ⟨rfl, trivial⟩ | exact .inr ⟨rfl, trivial⟩ | exact ⟨by decide, rfl⟩) ?_
          refine VA.done (by decide +kernel) ?_
          refine VC.seq ?_
          obtain ⟨l2, e2, h2, ok2⟩ : ∃ l2 : List PaceS, l2 = (l.set i ({l.getD i default with product := r67} : PaceS)).set i ({l.getD i default with product := r67, cycle := r74} : PaceS) ∧ l2.length = l.length ∧ ∀ x ∈ l2, PcOk 4 x := ⟨_, rfl, by simp, PcOk.setD (PcOk.setD hok i (x := ⟨r67, (l.getD i default).cycle, (l.getD i default).needs⟩) ⟨hr67, (PcOk.getD hok i).2⟩) i (x := ⟨r67, r74, (l.getD i default).needs⟩) ⟨hr67, (PcOk.getD hok i).2⟩⟩
          refine VC.le _ (Le.pickH (hp := [.box gr ⟨rowL l2, 137, cap * 3⟩]) [0] rfl (by rw [e2]; rfl)) ?_
          refine VC.region ?_
          refine VO.mv rfl rfl rfl rfl ?_
          refine VO.op rfl (OpE.callT' (k + 12 * q + 1 + 1 + 1 + 1) rfl rfl hB rfl Tryz.call17 rfl ((flip_T (by omega))) (by omega) ?_)
          rintro _ ⟨r80, rfl⟩
          refine VO.nil ?_
          refine VC.cond rfl (fun aH9b => ?_) (fun aH9b => ?_)
          · have aH9 := aH9b
            try simp only [qqT, qqF, qqN, qqM, qqL, qqE] at aH9
            refine VC.region ?_
            refine VO.mv rfl rfl rfl rfl ?_
            refine VO.mv rfl rfl rfl rfl ?_
            refine VO.val rfl rfl (OpV.nilCheck rfl rfl) ?_
            refine VO.val rfl rfl (OpV.fieldAddrO 2 rfl Tryz.underlying137 rfl rfl Tryz.sizeOf77 rfl) ?_
            refine VO.val rfl rfl (OpV.load_own (i := 0) rfl hB Tryz.isAgg77 rfl rfl (rowL_at rfl (by first | omega | (simp only [List.length_set]; omega)) (by decide)) (fun h => h)) ?_
            refine VO.op rfl (OpE.callR rfl hB rfl Tryz.call146 (slices_CloneN_R (by have := (PcOk.getD ok2 i).2.1; omega)) (ArgsP.cons (ArgP.ev rfl) (ArgsP.nil)) ?_)
            intro u86
            refine VO.mv rfl rfl rfl rfl ?_
            refine VO.op rfl (OpE.buildSlice (zc := #[.string ⟨#[]⟩, .string ⟨#[]⟩]) rfl hB rfl Tryz.underlying67 Tryz.sizeOf9 Tryz.zeroValue9 (by decide) (by decide) (by kernel_rfl) rfl rfl ?_)
            refine VO.op rfl (OpE.callT' (k + 12 * q + 1 + 1 + 1 + 1 + 1) rfl rfl hB rfl Tryz.call16 rfl (some_P (fun k => k ∈ partK) (by rfl) (by decide) (by decide) (AllP.cons (.head _) (AllP.cons (.tail _ (.tail _ (.tail _ (.tail _ (.head _))))) AllP.nil))) (by omega) ?_)
            rintro _ ⟨r89, hr89, rfl⟩
            refine VO.mv rfl rfl rfl rfl ?_
            refine VO.op rfl (OpE.buildSlice (zc := #[.int .i64 0, .int .i64 0]) rfl hB rfl Tryz.underlying22 Tryz.sizeOf3 Tryz.zeroValue3 (by decide) (by decide) (by kernel_rfl) rfl rfl ?_)
            refine VO.op rfl (OpE.callT' (k + 12 * q + 1 + 1 + 1 + 1 + 1 + 1) rfl rfl hB rfl Tryz.call15 rfl ((pick_T (-100000000) 100000000 (by rfl) (by decide) (by decide) (by repeat (first | exact AllI.nil | refine AllI.cons (by omega) ?_)))) (by omega) ?_)
            rintro _ ⟨r92, hr92, rfl⟩
            refine VO.val rfl rfl (OpV.build (pls := #[(0, 1), (1, 1)]) rfl Tryz.zeroValue96 Tryz.underlying96 (fun w => by kernel_rfl) rfl rfl) ?_
            refine VO.op rfl (OpE.buildSlice (zc := #[.string ⟨#[]⟩, .int .i64 0]) rfl hB rfl Tryz.underlying77 Tryz.sizeOf96 Tryz.zeroValue96 (by decide) (by decide) (by kernel_rfl) rfl rfl ?_)
            refine VO.op rfl (OpE.append1 (i := 1) rfl hB rfl Tryz.underlying77 (infoOf Tryz.t96 2 (by kernel_rfl) rfl rfl) rfl (by decide) (by decide) rfl rfl rfl rfl (rowL_snoc (l2.getD i default).needs (⟨r89, r92⟩ : NeedS)) (by have := (PcOk.getD ok2 i).2.1; omega) (fun _ _ => trivial) ?_)
            intro u95
            refine VO.le _ (Le.rowT (t := 95) (xs := (l2.getD i default).needs ++ [(⟨r89, r92⟩ : NeedS)]) (i := 1) hB hnew rfl rfl (by simp)) ?_
            refine VO.val rfl rfl (OpV.nilCheck rfl rfl) ?_
            refine VO.val rfl rfl (OpV.fieldAddrO 2 rfl Tryz.underlying137 rfl rfl Tryz.sizeOf77 rfl) ?_
            refine VO.op rfl (OpE.store1 (i := 0) rfl hB rfl Tryz.sizeOf77 rfl rfl rfl rfl rfl rfl (rowL_in rfl (by omega) (by decide)) (rowL_set (x := ({l2.getD i default with needs := (l2.getD i default).needs ++ [(⟨r89, r92⟩ : NeedS)]} : PaceS)) rfl (by omega) (by decide) rfl (fun i hi hn => pc_upd (by simp) (by simp) (by simp) i hi hn)) trivial ?_)
            refine VO.nil ?_
            refine VC.sr ?_
            refine VO.mv rfl rfl rfl rfl ?_
            refine VO.ma rfl rfl rfl rfl ?_
            refine VO.nil ?_
            refine VC.le _ (Le.boxT (t := 2) (i := 0) (n := l.length) (xs := l2.set i ({l2.getD i default with needs := (l2.getD i default).needs ++ [(⟨r89, r92⟩ : NeedS)]} : PaceS)) hB hnew rfl rfl (by rw [List.length_set]; omega) hcap hmx) ?_
            refine VC.ret ?_
            exact Exists.intro _ (And.intro (RetV.one Tryz.results44 (ResV.tmp rfl)) (And.intro (by first | exact ⟨l, ⟨by omega, fun x hx => (hok x hx).mono (by omega)⟩, rfl⟩ | exact ⟨l2, ⟨by omega, fun x hx => (ok2 x hx).mono (by omega)⟩, rfl⟩ | exact ⟨l2.set i ({l2.getD i default with needs := (l2.getD i default).needs ++ [(⟨r89, r92⟩ : NeedS)]} : PaceS), ⟨by rw [List.length_set]; omega, PcOk.setD (fun x hx => (ok2 x hx).mono (by omega)) _ ⟨(PcOk.getD ok2 i).1, (PcOk.getD ok2 i).2.snoc hr89⟩⟩, rfl⟩) ((show k + 12 * q + 1 + 1 + 1 + 1 + 1 + 1 + 1 ≤ k + 100 by omega))))
          · have aH9 := aH9b
            try simp only [qqT, qqF, qqN, qqM, qqL, qqE] at aH9
            refine VC.skip ?_
            refine VC.sr ?_
            refine VO.mv rfl rfl rfl rfl ?_
            refine VO.ma rfl rfl rfl rfl ?_
            refine VO.nil ?_
            refine VC.le _ (Le.boxT (t := 2) (i := 0) (n := l.length) (xs := l2) hB hnew rfl rfl (by omega) hcap hmx) ?_
            refine VC.ret ?_
            exact Exists.intro _ (And.intro (RetV.one Tryz.results44 (ResV.tmp rfl)) (And.intro (by first | exact ⟨l, ⟨by omega, fun x hx => (hok x hx).mono (by omega)⟩, rfl⟩ | exact ⟨l2, ⟨by omega, fun x hx => (ok2 x hx).mono (by omega)⟩, rfl⟩ | exact ⟨l2.set i ({l2.getD i default with needs := (l2.getD i default).needs ++ [(⟨r89, r92⟩ : NeedS)]} : PaceS), ⟨by rw [List.length_set]; omega, PcOk.setD (fun x hx => (ok2 x hx).mono (by omega)) _ ⟨(PcOk.getD ok2 i).1, (PcOk.getD ok2 i).2.snoc hr89⟩⟩, rfl⟩) ((show k + 12 * q + 1 + 1 + 1 + 1 + 1 ≤ k + 100 by omega))))
      · have aH6 := aH6b
        try simp only [qqT, qqF, qqN, qqM, qqL, qqE] at aH6
        refine VC.skip ?_
        refine VC.sr ?_
        refine VO.mv rfl rfl rfl rfl ?_
        refine VO.ma rfl rfl rfl rfl ?_
        refine VO.nil ?_
        refine VC.le _ (Le.rowT (t := 2) (i := 0) (n := l.length) (xs := l) hB hnew rfl rfl rfl) ?_
        refine VC.ret ?_
        exact Exists.intro _ (And.intro (RetV.one Tryz.results44 (ResV.tmp rfl)) (And.intro (by first | exact ⟨l, ⟨by omega, fun x hx => (hok x hx).mono (by omega)⟩, rfl⟩ | exact ⟨l2, ⟨by omega, fun x hx => (ok2 x hx).mono (by omega)⟩, rfl⟩ | exact ⟨l2.set i ({l2.getD i default with needs := (l2.getD i default).needs ++ [(⟨r89, r92⟩ : NeedS)]} : PaceS), ⟨by rw [List.length_set]; omega, PcOk.setD (fun x hx => (ok2 x hx).mono (by omega)) _ ⟨(PcOk.getD ok2 i).1, (PcOk.getD ok2 i).2.snoc hr89⟩⟩, rfl⟩) ((show k + 12 * q + 1 ≤ k + 100 by omega))))
    · replace aK5b : _ = false := aK5b
      have aK5 := aK5b
      try simp only [qqT, qqF, qqN, qqM, qqL, qqE] at aK5
      refine VO.opX rfl rfl rfl rfl aK5b ?_
      refine VO.val rfl rfl (OpV.pickF rfl rfl rfl rfl aK5b) ?_
      refine VO.nil ?_
      refine VC.condF rfl rfl ?_
      refine VC.skip ?_
      refine VC.sr ?_
      refine VO.mv rfl rfl rfl rfl ?_
      refine VO.ma rfl rfl rfl rfl ?_
      refine VO.nil ?_
      refine VC.le _ (Le.rowT (t := 2) (i := 0) (n := l.length) (xs := l) hB hnew rfl rfl rfl) ?_
      refine VC.ret ?_
      exact Exists.intro _ (And.intro (RetV.one Tryz.results44 (ResV.tmp rfl)) (And.intro (by first | exact ⟨l, ⟨by omega, fun x hx => (hok x hx).mono (by omega)⟩, rfl⟩ | exact ⟨l2, ⟨by omega, fun x hx => (ok2 x hx).mono (by omega)⟩, rfl⟩ | exact ⟨l2.set i ({l2.getD i default with needs := (l2.getD i default).needs ++ [(⟨r89, r92⟩ : NeedS)]} : PaceS), ⟨by rw [List.length_set]; omega, PcOk.setD (fun x hx => (ok2 x hx).mono (by omega)) _ ⟨(PcOk.getD ok2 i).1, (PcOk.getD ok2 i).2.snoc hr89⟩⟩, rfl⟩) ((show k + 12 * q ≤ k + 100 by omega))))
end Go.Proofs.YtaaokimiadfidaaGreatDoor
namespace Go.Proofs.YtaaokimiadfidaaGreatDoor
open Go.RowKit
set_option linter.unusedVariables false
set_option linter.unusedSimpArgs false
theorem ns_upd {a b : NeedS} {k : Nat} (h0 : k = 0 ∨ a.key = b.key) (h1 : k = 1 ∨ a.count = b.count) : ∀ i, i < 2 → i ≠ k → Sxc.cell a i = Sxc.cell b i := fun i hi hn => by
 match i, hi with
 | 0, _ => show avS a.key = avS b.key; rw [h0.resolve_left fun h => hn h.symm]
 | 1, _ => show avI a.count = avI b.count; rw [h1.resolve_left fun h => hn h.symm]
theorem partK_e : ByteArray.empty ∈ partK := .tail _ (.tail _ (.tail _ (.tail _ (.tail _ (.head _)))))
theorem NsOk.getD {m : Nat} {l : List NeedS} (h : NsOk m l) (i : Nat) : (l.getD i default).key ∈ partK := by
 rw [List.getD_eq_getElem?_getD]
 cases hi : l[i]? with
 | none => exact partK_e
 | some x => exact h.2 x (List.mem_of_getElem? hi)
theorem NsOk.setD {m : Nat} {l : List NeedS} (h : NsOk m l) (q : Nat) {x : NeedS} (hx : x.key ∈ partK) : NsOk m (l.set q x) := ⟨by rw [List.length_set]; exact h.1, fun y hy => by
 rcases List.mem_or_eq_of_mem_set hy with h' | rfl
 ·exact h.2 y h'
 ·exact hx⟩
set_option maxRecDepth 100000 in
set_option maxHeartbeats 8000000 in
theorem stock_T {p : Nat} {L : List Int}  :
    SpecT Tryz.prog (TT p L) (fun b => b = p) 46 [sp p] 30 (fun y => ∃ l : List NeedS, NsOk 4 l ∧ y = avL l) := by
  refine SpecT.of_VC Tryz.func46 rfl Tryz.ntmps46 (Nle rfl) (low := (fun b => b ≤ p)) (fun w A k h => h.ok) fun w A k hk hB => ?_
  have hnew : True := trivial
  refine VC.sr ?_
  refine VO.ma rfl rfl rfl rfl ?_
  refine VO.nil ?_
  refine VC.sr ?_
  refine VO.ma rfl rfl rfl rfl ?_
  refine VO.nil ?_
  refine VC.seq ?_
  refine VC.sr ?_
  refine VO.op rfl (OpE.buildSlice (zc := #[.string ⟨#[]⟩, .string ⟨#[]⟩, .string ⟨#[]⟩, .string ⟨#[]⟩]) rfl hB rfl Tryz.underlying67 Tryz.sizeOf9 Tryz.zeroValue9 (by decide) (by decide) (by kernel_rfl) rfl rfl ?_)
  refine VO.le _ (Le.recast (t := 7) (y := avStrs k4P) rfl (fun w Z u h => Rep.strs (xs := k4P) rfl h)) ?_
  refine VO.val rfl rfl (OpV.len_im rfl Tryz.underlying67 rfl) ?_
  refine VO.mv rfl rfl rfl rfl ?_
  refine VO.nil ?_
  refine VC.block ?_
  refine VC.le _ (Le.nilRow 2 96) ?_
  refine VC.loopK [(0, _), (7, _)] ⟨rfl, rfl, trivial⟩ ({t : Value × List NeedS × Nat // t.2.2 ≤ 4 ∧ NsOk t.2.2 t.2.1}) (fun (iZ : {t : Value × List NeedS × Nat // t.2.2 ≤ 4 ∧ NsOk t.2.2 t.2.1}) => match iZ with | ⟨⟨u, l, q⟩, hq, hok⟩ => [(3, .v u), (8, avI 4), (9, avI (q : Int))]) (fun (iZ : {t : Value × List NeedS × Nat // t.2.2 ≤ 4 ∧ NsOk t.2.2 t.2.1}) => match iZ with | ⟨⟨u, l, q⟩, hq, hok⟩ => [.row u l.length 2 (rowL l) 96]) (fun (iZ : {t : Value × List NeedS × Nat // t.2.2 ≤ 4 ∧ NsOk t.2.2 t.2.1}) => match iZ with | ⟨⟨u, l, q⟩, hq, hok⟩ => k + 2 * q) (fun (iZ : {t : Value × List NeedS × Nat // t.2.2 ≤ 4 ∧ NsOk t.2.2 t.2.1}) => match iZ with | ⟨⟨u, l, q⟩, hq, hok⟩ => 4 - q) ⟨(.slice none 0 0, [], 0), by decide, by decide, fun x h => by simp at h⟩ (Le.mk hB [0] ⟨rfl, rfl, rfl, rfl, rfl, trivial⟩ rfl rfl (show k ≤ k + 2 * 0 by omega)) ?_
  rintro ⟨⟨u, l, q⟩, hq, hok⟩
  show VC _ _ _ _ ⟨[(3, .v u), (8, avI 4), (9, avI (q : Int))] ++ [(0, _), (7, _)], [.row u l.length 2 (rowL l) 96], k + 2 * q⟩
  simp only at hq hok
  have hnl := hok.1
  refine VC.sr ?_
  refine VO.val rfl rfl (OpV.lss rfl rfl rfl) ?_
  refine VO.nil ?_
  refine VC.seq ?_
  refine VC.cond rfl (fun aH1b => ?_) (fun aH1b => ?_)
  · have aH1 := aH1b
    try simp only [qqT, qqF, qqN, qqM, qqL, qqE] at aH1
    refine VC.skip ?_
    refine VC.seq ?_
    refine VC.block ?_
    refine VC.sr ?_
    refine VO.val rfl rfl (OpV.indexAddr_1 rfl Tryz.underlying67 Tryz.sizeOf9 rfl rfl rfl (by show _ < 4; omega)) ?_
    refine VO.val rfl rfl (OpV.load_at rfl hB OutW.no Tryz.isAgg9 rfl rfl) ?_
    refine VO.ma rfl rfl rfl rfl ?_
    refine VO.nil ?_
    refine VC.sr ?_
    refine VO.mv rfl rfl rfl rfl ?_
    refine VO.op rfl (OpE.callT' (k + 2 * q) rfl rfl hB rfl Tryz.call17 rfl ((flip_T (by omega))) (by omega) ?_)
    rintro _ ⟨r14, rfl⟩
    refine VO.val rfl rfl (OpV.not rfl rfl) ?_
    refine VO.nil ?_
    refine VC.cond rfl (fun aH2b => ?_) (fun aH2b => ?_)
    · have aH2 := aH2b
      try simp only [qqT, qqF, qqN, qqM, qqL, qqE] at aH2
      refine VC.region ?_
      refine VO.mv rfl rfl rfl rfl ?_
      refine VO.mv rfl rfl rfl rfl ?_
      refine VO.mv rfl rfl rfl rfl ?_
      refine VO.op rfl (OpE.buildSlice (zc := #[.int .i64 0, .int .i64 0, .int .i64 0, .int .i64 0, .int .i64 0]) rfl hB rfl Tryz.underlying22 Tryz.sizeOf3 Tryz.zeroValue3 (by decide) (by decide) (by kernel_rfl) rfl rfl ?_)
      refine VO.op rfl (OpE.callT' (k + 2 * q + 1) rfl rfl hB rfl Tryz.call15 rfl (pick_X (by rfl) (by decide) (by decide) (by repeat (first | exact AllX.nil | refine AllX.cons ?_))) (by omega) ?_)
      rintro _ ⟨r20, rfl⟩
      refine VO.val rfl rfl (OpV.build (pls := #[(0, 1), (1, 1)]) rfl Tryz.zeroValue96 Tryz.underlying96 (fun w => by kernel_rfl) rfl rfl) ?_
      refine VO.op rfl (OpE.buildSlice (zc := #[.string ⟨#[]⟩, .int .i64 0]) rfl hB rfl Tryz.underlying77 Tryz.sizeOf96 Tryz.zeroValue96 (by decide) (by decide) (by kernel_rfl) rfl rfl ?_)
      refine VO.op rfl (OpE.append1 (i := 0) rfl hB rfl Tryz.underlying77 (infoOf Tryz.t96 2 (by kernel_rfl) rfl rfl) rfl (by decide) (by decide) rfl rfl rfl rfl (rowL_snoc l (⟨k4P.getD q ByteArray.empty, r20⟩ : NeedS)) (by omega) (fun _ _ => trivial) ?_)
      intro u2
      refine VO.ma rfl rfl rfl rfl ?_
      refine VO.nil ?_
      refine VC.region ?_
      refine VO.val rfl rfl (OpV.add rfl rfl rfl (by unfold fits; omega)) ?_
      refine VO.mv rfl rfl rfl rfl ?_
      refine VO.nil ?_
      exact Exists.intro (⟨(u2, l ++ [⟨k4P.getD q ByteArray.empty, r20⟩], q + 1), by show q + 1 ≤ 4; omega, hok.snoc (k4P_mem q)⟩) (And.intro (Le.mk hB [0] ⟨rfl, rfl, rfl, rfl, rfl, trivial⟩ rfl (by dsimp only; first | rfl | (rw [List.length_append]; rfl)) (show k + 2 * q + 1 + 1 ≤ k + 2 * (q + 1) by omega)) (by first | omega | (show _ < _; omega) | (simp only []; omega)))
    · have aH2 := aH2b
      try simp only [qqT, qqF, qqN, qqM, qqL, qqE] at aH2
      refine VC.skip ?_
      refine VC.region ?_
      refine VO.val rfl rfl (OpV.add rfl rfl rfl (by unfold fits; omega)) ?_
      refine VO.mv rfl rfl rfl rfl ?_
      refine VO.nil ?_
      exact Exists.intro (⟨(u, l, q + 1), by show q + 1 ≤ 4; omega, hok.mono (by show q ≤ q + 1; omega)⟩) (And.intro (Le.mk hB [0] ⟨rfl, rfl, rfl, rfl, rfl, trivial⟩ rfl (by dsimp only; first | rfl | (rw [List.length_append]; rfl)) (show k + 2 * q + 1 ≤ k + 2 * (q + 1) by omega)) (by first | omega | (show _ < _; omega) | (simp only []; omega)))
  · have aH1 := aH1b
    try simp only [qqT, qqF, qqN, qqM, qqL, qqE] at aH1
    refine VC.exit ?_
    refine VC.seq ?_
    refine VC.sr ?_
    refine VO.mv rfl rfl rfl rfl ?_
    refine VO.val rfl rfl (OpV.len_row (i := 0) rfl Tryz.underlying77 rfl rfl) ?_
    refine VO.val rfl rfl (OpV.gtr rfl rfl rfl) ?_
    refine VO.mv rfl rfl rfl rfl ?_
    refine VO.opG rfl rfl rfl rfl (fun aK3b => ?_) (fun aK3b => ?_)
    · replace aK3b : _ = true := aK3b
      have aK3 := aK3b
      try simp only [qqT, qqF, qqN, qqM, qqL, qqE] at aK3
      refine OpE.val (W := NoB) (OpV.move (.inl rfl) rfl) rfl ?_
      refine VO.opY rfl rfl rfl rfl aK3b ?_
      refine OpE.callT' (k + 2 * q) rfl rfl hB rfl Tryz.call17 rfl ((flip_T (by omega))) (by omega) ?_
      rintro _ ⟨r30, rfl⟩
      refine VO.val rfl rfl (OpV.pickT rfl rfl rfl rfl aK3b) ?_
      refine VO.nil ?_
      refine VC.cond rfl (fun aH4b => ?_) (fun aH4b => ?_)
      · have aH4 := aH4b
        try simp only [qqT, qqF, qqN, qqM, qqL, qqE] at aH4
        refine VC.seq ?_
        refine VC.asBox (i := 0) rfl (by omega) (fun gr cap hu hcap hmx => ?_)
        subst hu
        refine VC.region ?_
        refine VO.mv rfl rfl rfl rfl ?_
        refine VO.mv rfl rfl rfl rfl ?_
        refine VO.mv rfl rfl rfl rfl ?_
        refine VO.val rfl rfl (OpV.len_v rfl Tryz.underlying77 rfl) ?_
        refine VO.op rfl (OpE.callT' (k + 2 * q + 1) rfl rfl hB rfl Tryz.call103 rfl (next_T (by omega)) (by omega) ?_)
        rintro _ ⟨r36, hr36, rfl⟩
        obtain ⟨m, rfl⟩ : ∃ m : Nat, r36 = m := ⟨r36.toNat, by omega⟩
        refine VO.val rfl rfl (OpV.indexAddr_q rfl Tryz.underlying77 Tryz.sizeOf96 rfl rfl rfl (by omega)) ?_
        refine VO.ma rfl rfl rfl rfl ?_
        refine VO.nil ?_
        refine VC.draw (fun j b => j ∈ [18, 21] ∧ b = gr) hB (by kernel_rfl) ?_
        refine VA.take (i := 0) rfl (by decide +kernel) (by decide +kernel) (by decide +kernel) rfl rfl (OpV.move (.inl rfl) rfl) ?_
        refine VA.take (i := 1) rfl (by decide +kernel) (by decide +kernel) (by decide +kernel) rfl rfl (OpV.move (.inl rfl) rfl) ?_
        refine VA.take (i := 2) rfl (by decide +kernel) (by decide +kernel) (by decide +kernel) rfl rfl (OpV.move (.inl rfl) rfl) ?_
        refine VA.take (i := 3) rfl (by decide +kernel) (by decide +kernel) (by decide +kernel) rfl rfl (OpV.move (.inl rfl) rfl) ?_
        refine VA.take (i := 4) rfl (by decide +kernel) (by decide +kernel) (by decide +kernel) rfl rfl (OpV.nilCheck rfl rfl) ?_
        refine VA.take (i := 5) rfl (by decide +kernel) (by decide +kernel) (by decide +kernel) rfl rfl (OpV.fieldAddrO 0 rfl Tryz.underlying96 rfl rfl Tryz.sizeOf9 rfl) ?_
        refine VA.take (i := 6) rfl (by decide +kernel) (by decide +kernel) (by decide +kernel) rfl rfl (OpV.load_own (i := 0) rfl hB Tryz.isAgg9 rfl rfl (rowL_at rfl (by omega) (by decide)) (Wi.notD (by decide +kernel))) ?_
        refine VA.take (i := 9) rfl (by decide +kernel) (by decide +kernel) (by decide +kernel) rfl rfl (OpV.move (.inl rfl) rfl) ?_
        refine VA.take (i := 10) rfl (by decide +kernel) (by decide +kernel) (by decide +kernel) rfl rfl (OpV.move (.inl rfl) rfl) ?_
        refine VA.take (i := 11) rfl (by decide +kernel) (by decide +kernel) (by decide +kernel) rfl rfl (OpV.nilCheck rfl rfl) ?_
        refine VA.take (i := 12) rfl (by decide +kernel) (by decide +kernel) (by decide +kernel) rfl rfl (OpV.fieldAddrO 1 rfl Tryz.underlying96 rfl rfl Tryz.sizeOf3 rfl) ?_
        refine VA.take (i := 13) rfl (by decide +kernel) (by decide +kernel) (by decide +kernel) rfl rfl (OpV.load_own (i := 0) rfl hB Tryz.isAgg3 rfl rfl (rowL_at rfl (by omega) (by decide)) (Wi.notD (by decide +kernel))) ?_
        refine VA.all (rs := [7, 14]) (by decide +kernel) (by decide) ?_
        refine ⟨⟨_, rfl, .inl rfl, ?_⟩, ⟨_, rfl, .inl rfl, ?_⟩, trivial⟩
        ·
          refine OpE.buildSlice (zc := #[.string ⟨#[]⟩, .string ⟨#[]⟩, .string ⟨#[]⟩]) rfl hB rfl Tryz.underlying67 Tryz.sizeOf9 Tryz.zeroValue9 (by decide) (by decide) (by kernel_rfl) rfl rfl ?_
          refine VA.all (rs := [8, 14]) (by decide +kernel) (by decide) ?_
          refine ⟨⟨_, rfl, .inl rfl, ?_⟩, ⟨_, rfl, .inl rfl, ?_⟩, trivial⟩
          ·
            refine OpE.callT' (k + 2 * q + 1 + 1) rfl rfl hB rfl Tryz.call16 rfl (some_P (fun k => k ∈ partK) (by rfl) (by decide) (by decide) (AllP.cons (hok.getD m) (AllP.cons partK_e (AllP.cons (.head _) AllP.nil)))) (by omega) ?_
            rintro _ ⟨r46, hr46, rfl⟩
            refine VA.all (rs := [14]) (by decide +kernel) (by decide) ?_
            refine ⟨⟨_, rfl, .inl rfl, ?_⟩, trivial⟩
            refine OpE.buildSlice (zc := #[.int .i64 0, .int .i64 0, .int .i64 0, .int .i64 0]) rfl hB rfl Tryz.underlying22 Tryz.sizeOf3 Tryz.zeroValue3 (by decide) (by decide) (by kernel_rfl) rfl rfl ?_
            refine VA.all (rs := [15]) (by decide +kernel) (by decide) ?_
            refine ⟨⟨_, rfl, .inl rfl, ?_⟩, trivial⟩
            refine OpE.callT' (k + 2 * q + 1 + 1 + 1) rfl rfl hB rfl Tryz.call15 rfl (pick_X (by rfl) (by decide) (by decide) (by repeat (first | exact AllX.nil | refine AllX.cons ?_))) (by omega) ?_
            rintro _ ⟨r53, rfl⟩
            refine VA.take (i := 16) rfl (by decide +kernel) (by decide +kernel) (by decide +kernel) rfl rfl (OpV.nilCheck rfl rfl) ?_
            refine VA.take (i := 17) rfl (by decide +kernel) (by decide +kernel) (by decide +kernel) rfl rfl (OpV.fieldAddrO 0 rfl Tryz.underlying96 rfl rfl Tryz.sizeOf9 rfl) ?_
            refine VA.all (rs := [18]) (by decide +kernel) (by decide) ?_
            refine ⟨⟨_, rfl, .inl rfl, ?_⟩, trivial⟩
            refine OpE.store1 (i := 0) rfl hB rfl Tryz.sizeOf9 rfl rfl rfl rfl rfl rfl (rowL_in rfl (by omega) (by decide)) (rowL_set (x := ({l.getD m default with key := r46} : NeedS)) rfl (by omega) (by decide) rfl (fun i hi hn => ns_upd (by simp) (by simp) i hi hn)) (by first | exact ⟨rfl, rfl⟩ | exact .inl ⟨rfl, rfl⟩ | exact .inr ⟨rfl, rfl⟩ | exact ⟨rfl, trivial⟩ | exact .inl ⟨rfl, trivial⟩ | exact .inr ⟨rfl, trivial⟩ | exact ⟨by decide, rfl⟩) ?_
            refine VA.take (i := 19) rfl (by decide +kernel) (by decide +kernel) (by decide +kernel) rfl rfl (OpV.nilCheck rfl rfl) ?_
            refine VA.take (i := 20) rfl (by decide +kernel) (by decide +kernel) (by decide +kernel) rfl rfl (OpV.fieldAddrO 1 rfl Tryz.underlying96 rfl rfl Tryz.sizeOf3 rfl) ?_
            refine VA.all (rs := [21]) (by decide +kernel) (by decide) ?_
            refine ⟨⟨_, rfl, .inl rfl, ?_⟩, trivial⟩
            refine OpE.store1 (i := 0) rfl hB rfl Tryz.sizeOf3 rfl rfl rfl rfl rfl rfl (rowL_in rfl (by rw [List.length_set]; omega) (by decide)) (rowL_set (x := ({l.getD m default with key := r46, count := r53} : NeedS)) rfl (by rw [List.length_set]; omega) (by decide) rfl (fun i hi hn => by rw [getSetP (by omega)]; exact ns_upd (by simp) (by simp) i hi hn)) (by first | exact ⟨rfl, rfl⟩ | exact .inl ⟨rfl, rfl⟩ | exact .inr ⟨rfl, rfl⟩ | exact ⟨rfl, trivial⟩ | exact .inl ⟨rfl, trivial⟩ | exact .inr ⟨rfl, trivial⟩ | exact ⟨by decide, rfl⟩) ?_
            refine VA.done (by decide +kernel) ?_
            refine VC.sr ?_
            refine VO.mv rfl rfl rfl rfl ?_
            refine VO.ma rfl rfl rfl rfl ?_
            refine VO.nil ?_
            refine VC.le _ (Le.boxT (t := 2) (i := 0) (n := l.length) (xs := (l.set m ({l.getD m default with key := r46} : NeedS)).set m ({l.getD m default with key := r46, count := r53} : NeedS)) hB hnew rfl rfl (by simp) hcap hmx) ?_
            refine VC.ret ?_
            exact Exists.intro _ (And.intro (RetV.one Tryz.results46 (ResV.tmp rfl)) (And.intro (by first | exact ⟨l, hok.mono (by omega), rfl⟩ | exact ⟨_, ((hok.mono (by omega)).setD m (x := ⟨r46, (l.getD m default).count⟩) hr46).setD m (x := ⟨r46, r53⟩) hr46, rfl⟩) ((show k + 2 * q + 1 + 1 + 1 + 1 ≤ k + 30 by omega))))
          ·
            refine OpE.buildSlice (zc := #[.int .i64 0, .int .i64 0, .int .i64 0, .int .i64 0]) rfl hB rfl Tryz.underlying22 Tryz.sizeOf3 Tryz.zeroValue3 (by decide) (by decide) (by kernel_rfl) rfl rfl ?_
            refine VA.all (rs := [8]) (by decide +kernel) (by decide) ?_
            refine ⟨⟨_, rfl, .inl rfl, ?_⟩, trivial⟩
            refine OpE.callT' (k + 2 * q + 1 + 1) rfl rfl hB rfl Tryz.call16 rfl (some_P (fun k => k ∈ partK) (by rfl) (by decide) (by decide) (AllP.cons (hok.getD m) (AllP.cons partK_e (AllP.cons (.head _) AllP.nil)))) (by omega) ?_
            rintro _ ⟨r46, hr46, rfl⟩
            refine VA.all (rs := [15]) (by decide +kernel) (by decide) ?_
            refine ⟨⟨_, rfl, .inl rfl, ?_⟩, trivial⟩
            refine OpE.callT' (k + 2 * q + 1 + 1 + 1) rfl rfl hB rfl Tryz.call15 rfl (pick_X (by rfl) (by decide) (by decide) (by repeat (first | exact AllX.nil | refine AllX.cons ?_))) (by omega) ?_
            rintro _ ⟨r53, rfl⟩
            refine VA.take (i := 16) rfl (by decide +kernel) (by decide +kernel) (by decide +kernel) rfl rfl (OpV.nilCheck rfl rfl) ?_
            refine VA.take (i := 17) rfl (by decide +kernel) (by decide +kernel) (by decide +kernel) rfl rfl (OpV.fieldAddrO 0 rfl Tryz.underlying96 rfl rfl Tryz.sizeOf9 rfl) ?_
            refine VA.all (rs := [18]) (by decide +kernel) (by decide) ?_
            refine ⟨⟨_, rfl, .inl rfl, ?_⟩, trivial⟩
            refine OpE.store1 (i := 0) rfl hB rfl Tryz.sizeOf9 rfl rfl rfl rfl rfl rfl (rowL_in rfl (by omega) (by decide)) (rowL_set (x := ({l.getD m default with key := r46} : NeedS)) rfl (by omega) (by decide) rfl (fun i hi hn => ns_upd (by simp) (by simp) i hi hn)) (by first | exact ⟨rfl, rfl⟩ | exact .inl ⟨rfl, rfl⟩ | exact .inr ⟨rfl, rfl⟩ | exact ⟨rfl, trivial⟩ | exact .inl ⟨rfl, trivial⟩ | exact .inr ⟨rfl, trivial⟩ | exact ⟨by decide, rfl⟩) ?_
            refine VA.take (i := 19) rfl (by decide +kernel) (by decide +kernel) (by decide +kernel) rfl rfl (OpV.nilCheck rfl rfl) ?_
            refine VA.take (i := 20) rfl (by decide +kernel) (by decide +kernel) (by decide +kernel) rfl rfl (OpV.fieldAddrO 1 rfl Tryz.underlying96 rfl rfl Tryz.sizeOf3 rfl) ?_
            refine VA.all (rs := [21]) (by decide +kernel) (by decide) ?_
            refine ⟨⟨_, rfl, .inl rfl, ?_⟩, trivial⟩
            refine OpE.store1 (i := 0) rfl hB rfl Tryz.sizeOf3 rfl rfl rfl rfl rfl rfl (rowL_in rfl (by rw [List.length_set]; omega) (by decide)) (rowL_set (x := ({l.getD m default with key := r46, count := r53} : NeedS)) rfl (by rw [List.length_set]; omega) (by decide) rfl (fun i hi hn => by rw [getSetP (by omega)]; exact ns_upd (by simp) (by simp) i hi hn)) (by first | exact ⟨rfl, rfl⟩ | exact .inl ⟨rfl, rfl⟩ | exact .inr ⟨rfl, rfl⟩ | exact ⟨rfl, trivial⟩ | exact .inl ⟨rfl, trivial⟩ | exact .inr ⟨rfl, trivial⟩ | exact ⟨by decide, rfl⟩) ?_
            refine VA.done (by decide +kernel) ?_
            refine VC.sr ?_
            refine VO.mv rfl rfl rfl rfl ?_
            refine VO.ma rfl rfl rfl rfl ?_
            refine VO.nil ?_
            refine VC.le _ (Le.boxT (t := 2) (i := 0) (n := l.length) (xs := (l.set m ({l.getD m default with key := r46} : NeedS)).set m ({l.getD m default with key := r46, count := r53} : NeedS)) hB hnew rfl rfl (by simp) hcap hmx) ?_
            refine VC.ret ?_
            exact Exists.intro _ (And.intro (RetV.one Tryz.results46 (ResV.tmp rfl)) (And.intro (by first | exact ⟨l, hok.mono (by omega), rfl⟩ | exact ⟨_, ((hok.mono (by omega)).setD m (x := ⟨r46, (l.getD m default).count⟩) hr46).setD m (x := ⟨r46, r53⟩) hr46, rfl⟩) ((show k + 2 * q + 1 + 1 + 1 + 1 ≤ k + 30 by omega))))
        ·
          refine OpE.buildSlice (zc := #[.int .i64 0, .int .i64 0, .int .i64 0, .int .i64 0]) rfl hB rfl Tryz.underlying22 Tryz.sizeOf3 Tryz.zeroValue3 (by decide) (by decide) (by kernel_rfl) rfl rfl ?_
          refine VA.all (rs := [7]) (by decide +kernel) (by decide) ?_
          refine ⟨⟨_, rfl, .inl rfl, ?_⟩, trivial⟩
          refine OpE.buildSlice (zc := #[.string ⟨#[]⟩, .string ⟨#[]⟩, .string ⟨#[]⟩]) rfl hB rfl Tryz.underlying67 Tryz.sizeOf9 Tryz.zeroValue9 (by decide) (by decide) (by kernel_rfl) rfl rfl ?_
          refine VA.all (rs := [8]) (by decide +kernel) (by decide) ?_
          refine ⟨⟨_, rfl, .inl rfl, ?_⟩, trivial⟩
          refine OpE.callT' (k + 2 * q + 1 + 1) rfl rfl hB rfl Tryz.call16 rfl (some_P (fun k => k ∈ partK) (by rfl) (by decide) (by decide) (AllP.cons (hok.getD m) (AllP.cons partK_e (AllP.cons (.head _) AllP.nil)))) (by omega) ?_
          rintro _ ⟨r46, hr46, rfl⟩
          refine VA.all (rs := [15]) (by decide +kernel) (by decide) ?_
          refine ⟨⟨_, rfl, .inl rfl, ?_⟩, trivial⟩
          refine OpE.callT' (k + 2 * q + 1 + 1 + 1) rfl rfl hB rfl Tryz.call15 rfl (pick_X (by rfl) (by decide) (by decide) (by repeat (first | exact AllX.nil | refine AllX.cons ?_))) (by omega) ?_
          rintro _ ⟨r53, rfl⟩
          refine VA.take (i := 16) rfl (by decide +kernel) (by decide +kernel) (by decide +kernel) rfl rfl (OpV.nilCheck rfl rfl) ?_
          refine VA.take (i := 17) rfl (by decide +kernel) (by decide +kernel) (by decide +kernel) rfl rfl (OpV.fieldAddrO 0 rfl Tryz.underlying96 rfl rfl Tryz.sizeOf9 rfl) ?_
          refine VA.all (rs := [18]) (by decide +kernel) (by decide) ?_
          refine ⟨⟨_, rfl, .inl rfl, ?_⟩, trivial⟩
          refine OpE.store1 (i := 0) rfl hB rfl Tryz.sizeOf9 rfl rfl rfl rfl rfl rfl (rowL_in rfl (by omega) (by decide)) (rowL_set (x := ({l.getD m default with key := r46} : NeedS)) rfl (by omega) (by decide) rfl (fun i hi hn => ns_upd (by simp) (by simp) i hi hn)) (by first | exact ⟨rfl, rfl⟩ | exact .inl ⟨rfl, rfl⟩ | exact .inr ⟨rfl, rfl⟩ | exact ⟨rfl, trivial⟩ | exact .inl ⟨rfl, trivial⟩ | exact .inr ⟨rfl, trivial⟩ | exact ⟨by decide, rfl⟩) ?_
          refine VA.take (i := 19) rfl (by decide +kernel) (by decide +kernel) (by decide +kernel) rfl rfl (OpV.nilCheck rfl rfl) ?_
          refine VA.take (i := 20) rfl (by decide +kernel) (by decide +kernel) (by decide +kernel) rfl rfl (OpV.fieldAddrO 1 rfl Tryz.underlying96 rfl rfl Tryz.sizeOf3 rfl) ?_
          refine VA.all (rs := [21]) (by decide +kernel) (by decide) ?_
          refine ⟨⟨_, rfl, .inl rfl, ?_⟩, trivial⟩
          refine OpE.store1 (i := 0) rfl hB rfl Tryz.sizeOf3 rfl rfl rfl rfl rfl rfl (rowL_in rfl (by rw [List.length_set]; omega) (by decide)) (rowL_set (x := ({l.getD m default with key := r46, count := r53} : NeedS)) rfl (by rw [List.length_set]; omega) (by decide) rfl (fun i hi hn => by rw [getSetP (by omega)]; exact ns_upd (by simp) (by simp) i hi hn)) (by first | exact ⟨rfl, rfl⟩ | exact .inl ⟨rfl, rfl⟩ | exact .inr ⟨rfl, rfl⟩ | exact ⟨rfl, trivial⟩ | exact .inl ⟨rfl, trivial⟩ | exact .inr ⟨rfl, trivial⟩ | exact ⟨by decide, rfl⟩) ?_
          refine VA.done (by decide +kernel) ?_
          refine VC.sr ?_
          refine VO.mv rfl rfl rfl rfl ?_
          refine VO.ma rfl rfl rfl rfl ?_
          refine VO.nil ?_
          refine VC.le _ (Le.boxT (t := 2) (i := 0) (n := l.length) (xs := (l.set m ({l.getD m default with key := r46} : NeedS)).set m ({l.getD m default with key := r46, count := r53} : NeedS)) hB hnew rfl rfl (by simp) hcap hmx) ?_
          refine VC.ret ?_
          exact Exists.intro _ (And.intro (RetV.one Tryz.results46 (ResV.tmp rfl)) (And.intro (by first | exact ⟨l, hok.mono (by omega), rfl⟩ | exact ⟨_, ((hok.mono (by omega)).setD m (x := ⟨r46, (l.getD m default).count⟩) hr46).setD m (x := ⟨r46, r53⟩) hr46, rfl⟩) ((show k + 2 * q + 1 + 1 + 1 + 1 ≤ k + 30 by omega))))
      · have aH4 := aH4b
        try simp only [qqT, qqF, qqN, qqM, qqL, qqE] at aH4
        refine VC.skip ?_
        refine VC.sr ?_
        refine VO.mv rfl rfl rfl rfl ?_
        refine VO.ma rfl rfl rfl rfl ?_
        refine VO.nil ?_
        refine VC.le _ (Le.rowT (t := 2) (i := 0) (n := l.length) (xs := l) hB hnew rfl rfl rfl) ?_
        refine VC.ret ?_
        exact Exists.intro _ (And.intro (RetV.one Tryz.results46 (ResV.tmp rfl)) (And.intro (by first | exact ⟨l, hok.mono (by omega), rfl⟩ | exact ⟨_, ((hok.mono (by omega)).setD m (x := ⟨r46, (l.getD m default).count⟩) hr46).setD m (x := ⟨r46, r53⟩) hr46, rfl⟩) ((show k + 2 * q + 1 ≤ k + 30 by omega))))
    · replace aK3b : _ = false := aK3b
      have aK3 := aK3b
      try simp only [qqT, qqF, qqN, qqM, qqL, qqE] at aK3
      refine VO.opX rfl rfl rfl rfl aK3b ?_
      refine VO.val rfl rfl (OpV.pickF rfl rfl rfl rfl aK3b) ?_
      refine VO.nil ?_
      refine VC.condF rfl rfl ?_
      refine VC.skip ?_
      refine VC.sr ?_
      refine VO.mv rfl rfl rfl rfl ?_
      refine VO.ma rfl rfl rfl rfl ?_
      refine VO.nil ?_
      refine VC.le _ (Le.rowT (t := 2) (i := 0) (n := l.length) (xs := l) hB hnew rfl rfl rfl) ?_
      refine VC.ret ?_
      exact Exists.intro _ (And.intro (RetV.one Tryz.results46 (ResV.tmp rfl)) (And.intro (by first | exact ⟨l, hok.mono (by omega), rfl⟩ | exact ⟨_, ((hok.mono (by omega)).setD m (x := ⟨r46, (l.getD m default).count⟩) hr46).setD m (x := ⟨r46, r53⟩) hr46, rfl⟩) ((show k + 2 * q ≤ k + 30 by omega))))
end Go.Proofs.YtaaokimiadfidaaGreatDoor
