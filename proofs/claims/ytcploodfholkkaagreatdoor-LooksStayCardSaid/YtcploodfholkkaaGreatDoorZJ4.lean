/- Part 4 of a proof: the walks and laws that it needs. -/
import Derived.Test.YtcploodfholkkaaGreatDoorZJ3
set_option linter.unusedVariables false
set_option linter.unusedSimpArgs false
namespace Go.Proofs.YtcploodfholkkaaGreatDoor
open Go.RowKit
set_option maxRecDepth 100000
section
theorem InvI.memP {α : Type} [Inhabited α] {lt : α → α → Bool} {l0 l : List α} {i j k : Nat} {Pr : α → Prop} (h : InvI lt l0 i j l) (hP : ∀ x ∈ l0, Pr x) (hk : k < l.length) : Pr (l.getD k default) := by
 obtain ⟨P, x, S, R, h1, h2, h3, h4, _⟩ := h
 refine hP _ (h4.subset ?_)
 rw [List.getD_eq_getElem?_getD, List.getElem?_eq_getElem hk]
 exact List.getElem_mem hk
set_option maxHeartbeats 2000000 in
theorem insSort_lk {l0 : List LookS} {u : Value} {ty : TypeId} {F : FuncId} {cs : List AV} {c : LookS → LookS → Int} {Pr : LookS → Prop} (hl : l0.length ≤ 1000000) (hcall : ∀ us w, (callFunc F us).run Tryz.prog w = .ok (.enter F us) w) (hP : ∀ x ∈ l0, Pr x) (hF : ∀ x y, Pr x → Pr y → Spec Tryz.prog F ([avT x, avT y] ++ cs) (fun z => z = avI (c x y))) (ht : ∀ {a b d : LookS}, decide (c a b < 0) = true → decide (c b d < 0) = true → decide (c a d < 0) = true) (ha : ∀ {a b : LookS}, decide (c a b < 0) = true → decide (c b a < 0) = false) (hn : ∀ {a b d : LookS}, decide (c b a < 0) = false → decide (c d b < 0) = false → decide (c d a < 0) = false) :
  SpecH Tryz.prog 272 [.v u, avI 0, avI l0.length, .fn F cs] [.row u l0.length 8 (rowL l0) ty] (fun y hp' => ∃ l, (l.Perm l0 ∧ OrdL (fun x y => decide (c x y < 0)) l) ∧ y = .tup [] ∧ hp' = [.row u l0.length 8 (rowL l) ty]) := by
 refine SpecH.of_VC Tryz.func272 rfl Tryz.ntmps272 (Nle rfl) fun w A hB => ?_
 refine VC.sr ?_
 refine VO.mv rfl rfl rfl rfl ?_
 refine VO.val rfl rfl (OpV.add rfl rfl rfl (by unfold fits; omega)) ?_
 refine VO.ma rfl rfl rfl rfl ?_
 refine VO.nil ?_
 refine VC.block ?_
 refine VC.loopK [(0, _), (1, _), (2, _), (3, _)] ⟨rfl, rfl, rfl, rfl, trivial⟩ ({z : Nat × List LookS // InvO (fun x y => decide (c x y < 0)) l0 z.1 z.2 ∧ 0 < z.1 ∧ z.1 ≤ max 1 l0.length}) (fun (iZ : {z : Nat × List LookS // InvO (fun x y => decide (c x y < 0)) l0 z.1 z.2 ∧ 0 < z.1 ∧ z.1 ≤ max 1 l0.length}) => match iZ with | ⟨⟨i, l⟩, hi, hi0, hin⟩ => [(8, avI (i : Int))]) (fun (iZ : {z : Nat × List LookS // InvO (fun x y => decide (c x y < 0)) l0 z.1 z.2 ∧ 0 < z.1 ∧ z.1 ≤ max 1 l0.length}) => match iZ with | ⟨⟨i, l⟩, hi, hi0, hin⟩ => [.row u l0.length 8 (rowL l) ty]) (fun (iZ : {z : Nat × List LookS // InvO (fun x y => decide (c x y < 0)) l0 z.1 z.2 ∧ 0 < z.1 ∧ z.1 ≤ max 1 l0.length}) => match iZ with | ⟨⟨i, l⟩, hi, hi0, hin⟩ => 0) (fun (iZ : {z : Nat × List LookS // InvO (fun x y => decide (c x y < 0)) l0 z.1 z.2 ∧ 0 < z.1 ∧ z.1 ≤ max 1 l0.length}) => match iZ with | ⟨⟨i, l⟩, hi, hi0, hin⟩ => l0.length - i) ⟨(1, l0), InvO.one l0, Nat.one_pos, by show 1 ≤ _; omega⟩ (Le.mk hB [0] ⟨rfl, rfl, rfl, rfl, rfl, trivial⟩ rfl rfl (Nat.le_refl _)) ?_
 rintro ⟨⟨i, l⟩, hi, hi0, hin⟩
 show VC _ _ _ _ ⟨[(8, avI (i : Int))] ++ [(0, _), (1, _), (2, _), (3, _)], [.row u l0.length 8 (rowL l) ty], 0⟩
 simp only at hi hi0 hin
 have hll := hi.len
 refine VC.seq ?_
 refine VC.sr ?_
 refine VO.mv rfl rfl rfl rfl ?_
 refine VO.mv rfl rfl rfl rfl ?_
 refine VO.val rfl rfl (OpV.lss rfl rfl rfl) ?_
 refine VO.nil ?_
 refine VC.cond rfl (fun aH1b => ?_) (fun aH1b => ?_)
 ·have aH1 := aH1b
  try simp only [qq] at aH1
  refine VC.skip ?_
  refine VC.seq ?_
  refine VC.block ?_
  refine VC.sr ?_
  refine VO.mv rfl rfl rfl rfl ?_
  refine VO.ma rfl rfl rfl rfl ?_
  refine VO.nil ?_
  refine VC.block ?_
  refine VC.asBox (i := 0) rfl (by omega) (fun g cap hu hcap hmx => ?_)
  subst hu
  refine VC.loopK [(0, _), (1, _), (2, _), (3, _), (8, _)] ⟨rfl, rfl, rfl, rfl, rfl, trivial⟩ ({z : Nat × List LookS // InvI (fun x y => decide (c x y < 0)) l0 i z.1 z.2}) (fun (iZ : {z : Nat × List LookS // InvI (fun x y => decide (c x y < 0)) l0 i z.1 z.2}) => match iZ with | ⟨⟨j, l2⟩, hI⟩ => [(9, avI (j : Int))]) (fun (iZ : {z : Nat × List LookS // InvI (fun x y => decide (c x y < 0)) l0 i z.1 z.2}) => match iZ with | ⟨⟨j, l2⟩, hI⟩ => [.box g ⟨rowL l2, ty, cap * 8⟩]) (fun (iZ : {z : Nat × List LookS // InvI (fun x y => decide (c x y < 0)) l0 i z.1 z.2}) => match iZ with | ⟨⟨j, l2⟩, hI⟩ => 0) (fun (iZ : {z : Nat × List LookS // InvI (fun x y => decide (c x y < 0)) l0 i z.1 z.2}) => match iZ with | ⟨⟨j, l2⟩, hI⟩ => j) ⟨(i, l), hi.start (by omega)⟩ (Le.mk hB [0] ⟨rfl, rfl, rfl, rfl, rfl, rfl, trivial⟩ rfl rfl (Nat.le_refl _)) ?_
  rintro ⟨⟨j, l2⟩, hI⟩
  show VC _ _ _ _ ⟨[(9, avI (j : Int))] ++ [(0, _), (1, _), (2, _), (3, _), (8, _)], [.box g ⟨rowL l2, ty, cap * 8⟩], 0⟩
  simp only at hI
  obtain ⟨hlen2, hil, hji⟩ := hI.len
  refine VC.seq ?_
  refine VC.seq ?_
  refine VC.draw (fun _ => NoB) hB (by kernel_rfl) ?_
  refine VA.take (i := 0) rfl (by kernel_rfl) (by kernel_rfl) (by kernel_rfl) rfl rfl (OpV.move (.inl rfl) rfl) ?_
  refine VA.take (i := 1) rfl (by kernel_rfl) (by kernel_rfl) (by kernel_rfl) rfl rfl (OpV.move (.inl rfl) rfl) ?_
  refine VA.take (i := 2) rfl (by kernel_rfl) (by kernel_rfl) (by kernel_rfl) rfl rfl (OpV.gtr rfl rfl rfl) ?_
  refine VA.take (i := 3) rfl (by kernel_rfl) (by kernel_rfl) (by kernel_rfl) rfl rfl (OpV.move (.inl rfl) rfl) ?_
  refine VA.split (t := 21) rfl (fun aK2b => ?_) (fun aK2b => ?_)
  ·have aK2 := aK2b
   try simp only [qq] at aK2
   refine VA.takeY (i := 4) rfl (by kernel_rfl) (by kernel_rfl) (by kernel_rfl) rfl rfl rfl rfl aK2b (OpV.move (.inl rfl) rfl) ?_
   refine VA.takeY (i := 5) rfl (by kernel_rfl) (by kernel_rfl) (by kernel_rfl) rfl rfl rfl rfl aK2b (OpV.move (.inl rfl) rfl) ?_
   refine VA.takeY (i := 6) rfl (by kernel_rfl) (by kernel_rfl) (by kernel_rfl) rfl rfl rfl rfl aK2b (OpV.move (.inl rfl) rfl) ?_
   refine VA.takeY (i := 7) rfl (by kernel_rfl) (by kernel_rfl) (by kernel_rfl) rfl rfl rfl rfl aK2b (OpV.indexAddr_q rfl Tryz.underlying118 Tryz.sizeOf124 rfl rfl rfl (by omega)) ?_
   refine VA.takeY (i := 8) rfl (by kernel_rfl) (by kernel_rfl) (by kernel_rfl) rfl rfl rfl rfl aK2b (OpV.loadK_own (i := 0) rfl hB Tryz.isAgg124 Tryz.sizeOf124 rfl rfl (rowL_cut rfl (by omega)) Wi.not0) ?_
   refine VA.takeY (i := 9) rfl (by kernel_rfl) (by kernel_rfl) (by kernel_rfl) rfl rfl rfl rfl aK2b (OpV.move (.inl rfl) rfl) ?_
   refine VA.takeY (i := 10) rfl (by kernel_rfl) (by kernel_rfl) (by kernel_rfl) rfl rfl rfl rfl aK2b (OpV.move (.inl rfl) rfl) ?_
   refine VA.takeY (i := 11) rfl (by kernel_rfl) (by kernel_rfl) (by kernel_rfl) rfl rfl rfl rfl aK2b (OpV.sub rfl rfl rfl (by unfold fits; omega)) ?_
   refine VA.takeY (i := 12) rfl (by kernel_rfl) (by kernel_rfl) (by kernel_rfl) rfl rfl rfl rfl aK2b (OpV.indexAddr_q rfl Tryz.underlying118 Tryz.sizeOf124 rfl rfl (show (j : Int) - 1 = ((j - 1 : Nat) : Int) by omega) (by omega)) ?_
   refine VA.takeY (i := 13) rfl (by kernel_rfl) (by kernel_rfl) (by kernel_rfl) rfl rfl rfl rfl aK2b (OpV.loadK_own (i := 0) rfl hB Tryz.isAgg124 Tryz.sizeOf124 rfl rfl (rowL_cut rfl (by omega)) Wi.not0) ?_
   refine VA.all (rs := [14]) (by kernel_rfl) (by decide) ?_
   refine ⟨⟨_, rfl, .inr ⟨_, _, _, rfl, rfl, (look_k rfl aK2b)⟩, ?_⟩, trivial⟩
   refine OpE.callF rfl hB rfl hcall rfl rfl (hF _ _ (hI.memP hP (by omega)) (hI.memP hP (by omega))) ?_
   rintro _ rfl
   refine VA.takeY (i := 15) rfl (by kernel_rfl) (by kernel_rfl) (by kernel_rfl) rfl rfl rfl rfl aK2b (OpV.lss rfl rfl rfl) ?_
   refine VA.take (i := 16) rfl (by kernel_rfl) (by kernel_rfl) (by kernel_rfl) rfl rfl (OpV.pickT rfl rfl rfl rfl aK2b) ?_
   refine VA.done (by kernel_rfl) ?_
   refine VC.cond rfl (fun hcb => ?_) (fun hcb => ?_)
   ·have hc := hcb
    try simp only [qq] at hc
    refine VC.skip ?_
    refine VC.seq ?_
    refine VC.block ?_
    refine VC.draw (fun j b => j ∈ [15, 17] ∧ b = g) hB (by kernel_rfl) ?_
    refine VA.take (i := 0) rfl (by kernel_rfl) (by kernel_rfl) (by kernel_rfl) rfl rfl (OpV.move (.inl rfl) rfl) ?_
    refine VA.take (i := 1) rfl (by kernel_rfl) (by kernel_rfl) (by kernel_rfl) rfl rfl (OpV.move (.inl rfl) rfl) ?_
    refine VA.take (i := 2) rfl (by kernel_rfl) (by kernel_rfl) (by kernel_rfl) rfl rfl (OpV.move (.inl rfl) rfl) ?_
    refine VA.take (i := 3) rfl (by kernel_rfl) (by kernel_rfl) (by kernel_rfl) rfl rfl (OpV.move (.inl rfl) rfl) ?_
    refine VA.take (i := 4) rfl (by kernel_rfl) (by kernel_rfl) (by kernel_rfl) rfl rfl (OpV.sub rfl rfl rfl (by unfold fits; omega)) ?_
    refine VA.take (i := 5) rfl (by kernel_rfl) (by kernel_rfl) (by kernel_rfl) rfl rfl (OpV.move (.inl rfl) rfl) ?_
    refine VA.take (i := 6) rfl (by kernel_rfl) (by kernel_rfl) (by kernel_rfl) rfl rfl (OpV.move (.inl rfl) rfl) ?_
    refine VA.take (i := 7) rfl (by kernel_rfl) (by kernel_rfl) (by kernel_rfl) rfl rfl (OpV.sub rfl rfl rfl (by unfold fits; omega)) ?_
    refine VA.take (i := 8) rfl (by kernel_rfl) (by kernel_rfl) (by kernel_rfl) rfl rfl (OpV.indexAddr_q rfl Tryz.underlying118 Tryz.sizeOf124 rfl rfl (show (j : Int) - 1 = ((j - 1 : Nat) : Int) by omega) (by omega)) ?_
    refine VA.take (i := 9) rfl (by kernel_rfl) (by kernel_rfl) (by kernel_rfl) rfl rfl (OpV.loadK_own (i := 0) rfl hB Tryz.isAgg124 Tryz.sizeOf124 rfl rfl (rowL_cut rfl (by omega)) (Wi.notD (by kernel_rfl))) ?_
    refine VA.take (i := 10) rfl (by kernel_rfl) (by kernel_rfl) (by kernel_rfl) rfl rfl (OpV.move (.inl rfl) rfl) ?_
    refine VA.take (i := 11) rfl (by kernel_rfl) (by kernel_rfl) (by kernel_rfl) rfl rfl (OpV.move (.inl rfl) rfl) ?_
    refine VA.take (i := 12) rfl (by kernel_rfl) (by kernel_rfl) (by kernel_rfl) rfl rfl (OpV.indexAddr_q rfl Tryz.underlying118 Tryz.sizeOf124 rfl rfl rfl (by omega)) ?_
    refine VA.take (i := 13) rfl (by kernel_rfl) (by kernel_rfl) (by kernel_rfl) rfl rfl (OpV.loadK_own (i := 0) rfl hB Tryz.isAgg124 Tryz.sizeOf124 rfl rfl (rowL_cut rfl (by omega)) (Wi.notD (by kernel_rfl))) ?_
    refine VA.take (i := 14) rfl (by kernel_rfl) (by kernel_rfl) (by kernel_rfl) rfl rfl (OpV.indexAddr_q rfl Tryz.underlying118 Tryz.sizeOf124 rfl rfl rfl (by omega)) ?_
    refine VA.all (rs := [15]) (by kernel_rfl) (by decide) ?_
    refine ⟨⟨_, rfl, .inl rfl, ?_⟩, trivial⟩
    refine OpE.storeE (i := 0) rfl hB rfl Tryz.sizeOf124 rfl rfl rfl rfl rfl rfl (rowL_inE rfl (by omega)) (rowL_setAll (x := l2.getD (j - 1) default) rfl (by omega)) (by first | exact ⟨rfl, rfl⟩ | exact .inl ⟨rfl, rfl⟩ | exact .inr ⟨rfl, rfl⟩ | exact ⟨rfl, trivial⟩ | exact .inl ⟨rfl, trivial⟩ | exact .inr ⟨rfl, trivial⟩ | exact ⟨by decide, rfl⟩) ?_
    refine VA.take (i := 16) rfl (by kernel_rfl) (by kernel_rfl) (by kernel_rfl) rfl rfl (OpV.indexAddr_q rfl Tryz.underlying118 Tryz.sizeOf124 rfl rfl (show (j : Int) - 1 = ((j - 1 : Nat) : Int) by omega) (by omega)) ?_
    refine VA.all (rs := [17]) (by kernel_rfl) (by decide) ?_
    refine ⟨⟨_, rfl, .inl rfl, ?_⟩, trivial⟩
    refine OpE.storeE (i := 0) rfl hB rfl Tryz.sizeOf124 rfl rfl rfl rfl rfl rfl (rowL_inE rfl (by rw [List.length_set]; omega)) (rowL_setAll (x := l2.getD j default) rfl (by rw [List.length_set]; omega)) (by first | exact ⟨rfl, rfl⟩ | exact .inl ⟨rfl, rfl⟩ | exact .inr ⟨rfl, rfl⟩ | exact ⟨rfl, trivial⟩ | exact .inl ⟨rfl, trivial⟩ | exact .inr ⟨rfl, trivial⟩ | exact ⟨by decide, rfl⟩) ?_
    refine VA.done (by kernel_rfl) ?_
    refine VC.region ?_
    refine VO.mv rfl rfl rfl rfl ?_
    refine VO.val rfl rfl (OpV.sub rfl rfl rfl (by unfold fits; omega)) ?_
    refine VO.ma rfl rfl rfl rfl ?_
    refine VO.nil ?_
    exact Exists.intro (⟨(j - 1, (l2.set j (l2.getD (j - 1) default)).set (j - 1) (l2.getD j default)), hI.next ht (by omega) (decide_eq_true hc)⟩) (And.intro (Le.mk hB [0] ⟨(by rw [show ((j - 1 : Nat) : Int) = (j : Int) - 1 by omega]; rfl), rfl, rfl, rfl, rfl, rfl, trivial⟩ rfl rfl (Nat.le_refl _)) (by first | omega | (show _ < _; omega) | (simp only []; omega)))
   ·have hc := hcb
    try simp only [qq] at hc
    have hex : j = 0 ∨ decide (c (l2.getD j default) (l2.getD (j - 1) default) < 0) = false := by first | exact .inl (by omega) | exact .inr (decide_eq_false (by omega))
    refine VC.le _ (Le.boxRow (i := 0) (n := l0.length) rfl (by rw [rowL_len, hlen2]; rfl) hcap hmx) ?_
    refine VC.exit ?_
    refine VC.region ?_
    refine VO.mv rfl rfl rfl rfl ?_
    refine VO.val rfl rfl (OpV.add rfl rfl rfl (by unfold fits; omega)) ?_
    refine VO.ma rfl rfl rfl rfl ?_
    refine VO.nil ?_
    exact Exists.intro (⟨(i + 1, l2), hI.done ha hn hex, Nat.succ_pos _, by show i + 1 ≤ _; omega⟩) (And.intro (Le.mk hB [0] ⟨rfl, rfl, rfl, rfl, rfl, trivial⟩ rfl (by first | rfl | assumption) (Nat.le_refl _)) (by first | omega | (show _ < _; omega) | (simp only []; omega)))
  ·have aK2 := aK2b
   try simp only [qq] at aK2
   refine VA.takeX (i := 4) rfl (by kernel_rfl) (by kernel_rfl) (by kernel_rfl) rfl rfl rfl rfl aK2b ?_
   refine VA.takeX (i := 5) rfl (by kernel_rfl) (by kernel_rfl) (by kernel_rfl) rfl rfl rfl rfl aK2b ?_
   refine VA.takeX (i := 6) rfl (by kernel_rfl) (by kernel_rfl) (by kernel_rfl) rfl rfl rfl rfl aK2b ?_
   refine VA.takeX (i := 7) rfl (by kernel_rfl) (by kernel_rfl) (by kernel_rfl) rfl rfl rfl rfl aK2b ?_
   refine VA.takeX (i := 8) rfl (by kernel_rfl) (by kernel_rfl) (by kernel_rfl) rfl rfl rfl rfl aK2b ?_
   refine VA.takeX (i := 9) rfl (by kernel_rfl) (by kernel_rfl) (by kernel_rfl) rfl rfl rfl rfl aK2b ?_
   refine VA.takeX (i := 10) rfl (by kernel_rfl) (by kernel_rfl) (by kernel_rfl) rfl rfl rfl rfl aK2b ?_
   refine VA.takeX (i := 11) rfl (by kernel_rfl) (by kernel_rfl) (by kernel_rfl) rfl rfl rfl rfl aK2b ?_
   refine VA.takeX (i := 12) rfl (by kernel_rfl) (by kernel_rfl) (by kernel_rfl) rfl rfl rfl rfl aK2b ?_
   refine VA.takeX (i := 13) rfl (by kernel_rfl) (by kernel_rfl) (by kernel_rfl) rfl rfl rfl rfl aK2b ?_
   refine VA.takeX (i := 14) rfl (by kernel_rfl) (by kernel_rfl) (by kernel_rfl) rfl rfl rfl rfl aK2b ?_
   refine VA.takeX (i := 15) rfl (by kernel_rfl) (by kernel_rfl) (by kernel_rfl) rfl rfl rfl rfl aK2b ?_
   refine VA.take (i := 16) rfl (by kernel_rfl) (by kernel_rfl) (by kernel_rfl) rfl rfl (OpV.pickF rfl rfl rfl rfl aK2b) ?_
   refine VA.done (by kernel_rfl) ?_
   refine VC.condF rfl rfl ?_
   have hex : j = 0 ∨ decide (c (l2.getD j default) (l2.getD (j - 1) default) < 0) = false := by first | exact .inl (by omega) | exact .inr (decide_eq_false (by omega))
   refine VC.le _ (Le.boxRow (i := 0) (n := l0.length) rfl (by rw [rowL_len, hlen2]; rfl) hcap hmx) ?_
   refine VC.exit ?_
   refine VC.region ?_
   refine VO.mv rfl rfl rfl rfl ?_
   refine VO.val rfl rfl (OpV.add rfl rfl rfl (by unfold fits; omega)) ?_
   refine VO.ma rfl rfl rfl rfl ?_
   refine VO.nil ?_
   exact Exists.intro (⟨(i + 1, l2), hI.done ha hn hex, Nat.succ_pos _, by show i + 1 ≤ _; omega⟩) (And.intro (Le.mk hB [0] ⟨rfl, rfl, rfl, rfl, rfl, trivial⟩ rfl (by first | rfl | assumption) (Nat.le_refl _)) (by first | omega | (show _ < _; omega) | (simp only []; omega)))
 ·have aH1 := aH1b
  try simp only [qq] at aH1
  refine VC.exit ?_
  exact Exists.intro _ (And.intro (RetV.none Tryz.results272) (⟨l, hi.all (by omega), rfl, rfl⟩))
theorem pdqSort_lk {l0 : List LookS} {u : Value} {ty : TypeId} {F : FuncId} {cs : List AV} {c : LookS → LookS → Int} {Pr : LookS → Prop} {k : Int} (hl : l0.length ≤ 12) (hcall : ∀ us w, (callFunc F us).run Tryz.prog w = .ok (.enter F us) w) (hP : ∀ x ∈ l0, Pr x) (hF : ∀ x y, Pr x → Pr y → Spec Tryz.prog F ([avT x, avT y] ++ cs) (fun z => z = avI (c x y))) (ht : ∀ {a b d : LookS}, decide (c a b < 0) = true → decide (c b d < 0) = true → decide (c a d < 0) = true) (ha : ∀ {a b : LookS}, decide (c a b < 0) = true → decide (c b a < 0) = false) (hn : ∀ {a b d : LookS}, decide (c b a < 0) = false → decide (c d b < 0) = false → decide (c d a < 0) = false) :
  SpecH Tryz.prog 209 [.v u, avI 0, avI l0.length, avI k, .fn F cs] [.row u l0.length 8 (rowL l0) ty] (fun y hp' => ∃ l, (l.Perm l0 ∧ OrdL (fun x y => decide (c x y < 0)) l) ∧ y = .tup [] ∧ hp' = [.row u l0.length 8 (rowL l) ty]) := by
 refine SpecH.of_VC Tryz.func209 rfl Tryz.ntmps209 (Nle rfl) fun w A hB => ?_
 refine VC.sr ?_
 refine VO.ma rfl rfl rfl rfl ?_
 refine VO.nil ?_
 refine VC.sr ?_
 refine VO.ma rfl rfl rfl rfl ?_
 refine VO.nil ?_
 refine VC.block ?_
 refine VC.loopK [(0, _), (4, _)] ⟨rfl, rfl, trivial⟩ ({z : Nat // z = 0}) (fun (iZ : {z : Nat // z = 0}) => match iZ with | ⟨z, hz⟩ => [(1, avI 0), (2, avI l0.length), (3, avI k), (10, avB true), (11, avB true)]) (fun (iZ : {z : Nat // z = 0}) => match iZ with | ⟨z, hz⟩ => [.row u l0.length 8 (rowL l0) ty]) (fun (iZ : {z : Nat // z = 0}) => match iZ with | ⟨z, hz⟩ => 0) (fun (iZ : {z : Nat // z = 0}) => match iZ with | ⟨z, hz⟩ => z) ⟨0, rfl⟩ (Le.mk hB [0] ⟨rfl, rfl, rfl, rfl, rfl, rfl, rfl, trivial⟩ rfl rfl (Nat.le_refl _)) ?_
 rintro ⟨z, hz⟩
 show VC _ _ _ _ ⟨[(1, avI 0), (2, avI l0.length), (3, avI k), (10, avB true), (11, avB true)] ++ [(0, _), (4, _)], [.row u l0.length 8 (rowL l0) ty], 0⟩
 refine VC.block ?_
 refine VC.sr ?_
 refine VO.mv rfl rfl rfl rfl ?_
 refine VO.mv rfl rfl rfl rfl ?_
 refine VO.val rfl rfl (OpV.sub rfl rfl rfl (by unfold fits; omega)) ?_
 refine VO.ma rfl rfl rfl rfl ?_
 refine VO.nil ?_
 refine VC.seq ?_
 refine VC.sr ?_
 refine VO.mv rfl rfl rfl rfl ?_
 refine VO.val rfl rfl (OpV.leq rfl rfl rfl) ?_
 refine VO.nil ?_
 refine VC.cond rfl (fun aH1b => ?_) (fun aH1b => ?_)
 ·have aH1 := aH1b
  try simp only [qq] at aH1
  refine VC.sr ?_
  refine VO.mv rfl rfl rfl rfl ?_
  refine VO.mv rfl rfl rfl rfl ?_
  refine VO.mv rfl rfl rfl rfl ?_
  refine VO.mv rfl rfl rfl rfl ?_
  refine VO.op rfl (OpE.callH0 rfl hB rfl Tryz.call272 rfl rfl (insSort_lk (by omega) hcall hP hF ht ha hn) (List.Perm.refl _) (fun _ _ => trivial) ?_)
  rintro _ _ ⟨l, hpl, rfl, rfl⟩
  refine VO.nil ?_
  refine VC.ret ?_
  exact Exists.intro _ (And.intro (RetV.none Tryz.results209) (⟨l, hpl, rfl, rfl⟩))
 ·have aH1 := aH1b
  try simp only [qq] at aH1
  exact VC.absurd (by omega)
theorem sortFunc_lk {l0 : List LookS} {u : Value} {ty : TypeId} {F : FuncId} {cs : List AV} {c : LookS → LookS → Int} {Pr : LookS → Prop} (hl : l0.length ≤ 12) (hcall : ∀ us w, (callFunc F us).run Tryz.prog w = .ok (.enter F us) w) (hP : ∀ x ∈ l0, Pr x) (hF : ∀ x y, Pr x → Pr y → Spec Tryz.prog F ([avT x, avT y] ++ cs) (fun z => z = avI (c x y))) (ht : ∀ {a b d : LookS}, decide (c a b < 0) = true → decide (c b d < 0) = true → decide (c a d < 0) = true) (ha : ∀ {a b : LookS}, decide (c a b < 0) = true → decide (c b a < 0) = false) (hn : ∀ {a b d : LookS}, decide (c b a < 0) = false → decide (c d b < 0) = false → decide (c d a < 0) = false) :
  SpecH Tryz.prog 130 [.v u, .fn F cs] [.row u l0.length 8 (rowL l0) ty] (fun y hp' => ∃ l, (l.Perm l0 ∧ OrdL (fun x y => decide (c x y < 0)) l) ∧ y = .tup [] ∧ hp' = [.row u l0.length 8 (rowL l) ty]) := by
 refine SpecH.of_VC Tryz.func130 rfl Tryz.ntmps130 (Nle rfl) fun w A hB => ?_
 refine VC.sr ?_
 refine VO.mv rfl rfl rfl rfl ?_
 refine VO.val rfl rfl (OpV.len_row (i := 0) rfl Tryz.underlying118 rfl rfl) ?_
 refine VO.ma rfl rfl rfl rfl ?_
 refine VO.nil ?_
 refine VC.region ?_
 refine VO.mv rfl rfl rfl rfl ?_
 refine VO.mv rfl rfl rfl rfl ?_
 refine VO.mv rfl rfl rfl rfl ?_
 refine VO.val rfl rfl (OpV.conv rfl Tryz.underlying3 Tryz.underlying282 rfl (IntWalk.u64_in _ (by omega))) ?_
 refine VO.op rfl (OpE.call rfl hB rfl Tryz.call176 rfl (SpecN.spec (bits_Len_S (x := (l0.length : Int)) (by omega) (by omega))) ?_)
 rintro _ ⟨k, rfl⟩
 refine VO.mv rfl rfl rfl rfl ?_
 refine VO.op rfl (OpE.callH0 rfl hB rfl Tryz.call209 rfl rfl (pdqSort_lk hl hcall hP hF ht ha hn) (List.Perm.refl _) (fun _ _ => trivial) ?_)
 rintro _ _ ⟨l, hpl, rfl, rfl⟩
 refine VO.nil ?_
 exact Exists.intro _ (And.intro (RetV.none Tryz.results130) (⟨l, hpl, rfl, rfl⟩))
end
section
structure SlotS where
 x : Int
 y : Int
 quarter : Int
 skip : Bool
instance : Inhabited SlotS := ⟨⟨0, 0, 0, false⟩⟩
instance : Sxc SlotS where
 k := 4
 pos := by decide
 cell m j := match j with
  | 0 => avI m.x
  | 1 => avI m.y
  | 2 => avI m.quarter
  | 3 => avB m.skip
  | _ => .any
structure PanS where
 wide : Int
 high : Int
 slots : List SlotS
section
variable {n : PanS}
end
end
section
section
variable {P : Program} {B : Bs} {s : St'} {o : Oper} {K : St' → Prop} {V : Nat → Nat → Prop} {ops : Array Oper} {Q : Exit → St' → Prop} {n N : Nat} {L : Array Bool}
def VN (P : Program) (B : Bs) (V : Nat → Nat → Prop) (ops : Array Oper) (Q : Exit → St' → Prop) (n : Nat) (L : Array Bool) (s : St') (N : Nat) : Prop :=
 ∀ a w, R B s a w → w.heap.size = N → wpAnyE P .any ops (fun a w => ∃ s, Q .normal s ∧ R B s a w) (fun j => Ew B (V j)) n L a w
def VM (P : Program) (B : Bs) (V : Nat → Nat → Prop) (ops : Array Oper) (Q : Exit → St' → Prop) (n : Nat) (L : Array Bool) (s : St') (N : Nat) : Prop :=
 ∀ a w, R B s a w → N ≤ w.heap.size → wpAnyE P .any ops (fun a w => ∃ s, Q .normal s ∧ R B s a w) (fun j => Ew B (V j)) n L a w
def OpVN (P : Program) (B : Bs) (W : Nat → Prop) (s : St') (o : Oper) (x : AV) (N : Nat) : Prop :=
 ∀ a w, R B s a w → w.heap.size = N → ∃ v, (∀ w', Chg (fun b => B.str b ∨ W b) w w' → (execOp a.eval o).run P w' = .ok (.value v) w') ∧ Rep w (Zn B s.hp w) x v
theorem OpVN.of {W : Nat → Prop} {x : AV} (h : OpV P B W s o x) : OpVN P B W s o x N := fun a w hr _ => h a w hr
theorem new_keep {W : Nat → Prop} (hB : B.Ok) {a : Act} {w w' : World} (hr : R B s a w) (hW : ∀ b, W b → w.heap.size ≤ b) (hc : Chg (fun b => B.str b ∨ W b) w w') {b : Nat} (hZ : Zn B s.hp w b) : w'.heap[b]? = w.heap[b]? := by
 refine hc.block b hZ.1 ?_
 rintro (h | h)
 ·obtain ⟨h1, h2⟩ := hB.str b h
  exact (hZ.2.2 (hB.low b h1)).2 h
 ·exact absurd hZ.1 (Nat.not_lt.2 (hW b h))
theorem OpVN.loadK_at {W : Nat → Prop} {x : Operand} {t m k : Nat} {F : Nat → AV} (ho : o.op = .load t x) (hB : B.Ok) (hW : ∀ b, W b → N ≤ b) (hag : ∀ w, (isAgg t).run P w = .ok true w) (hsz : ∀ w, (sizeOf t).run P w = .ok k w) (hx : evO s x = some (.at_ m F)) (hm : Nat.ble k m = true) : OpVN P B W s o (.agg (tab k F)) N := by
 intro a w hr hN
 have := hr.ev hx
 generalize hv : a.eval x = u at this
 have hm' := Nat.le_of_ble_eq_true hm
 cases this with
 | at_ m f' b off c e u hZ hb hc hr' =>
  refine ⟨.agg ((List.range k).map u).toArray, fun w' hcw => ?_, .agg _ _ (by simp [tab_len]) fun j hj => ?_⟩
  ·have hb' := (new_keep hB hr (fun b h => hN ▸ hW b h) hcw hZ).trans hb
   have hcell : ∀ j v, ((List.range k).map u)[j]? = some v → w'.cell? ((⟨b, off, none⟩ : Addr).add j) = some v := by
    intro j v hj
    simp only [List.getElem?_map, Option.map_eq_some_iff] at hj
    obtain ⟨q, hq, rfl⟩ := hj
    obtain ⟨hlt, hq'⟩ := List.getElem?_eq_some_iff.1 hq
    simp at hlt hq'
    subst hq'
    rw [Addr.add_lit]
    simpa [World.cell?, hb'] using hc j (by omega)
   have hl := run_loadCells_list (P := P) w' ⟨b, off, none⟩ _ hcell
   simp only [List.length_map, List.length_range] at hl
   simp only [execOp, ho, hv, Instr.loadAt, Instr.sureAddr, loadVar, hag, hsz, hl, Sem.run_bind, Sem.run_pure, Result.andThen_ok, if_true]
  ·rw [tab_len] at hj
   rw [tab_get]
   simp [hj]
   exact hr' j (by omega)
theorem VN.take {i : Nat} {x : AV} (hi : ops[i]? = some o) (hs : Region.noSelect ops = true) (hf : Region.free .any ops L i = true) (hr : (Region.ready .any ops L).contains i = true) (hg : o.guard = none) (hd : okd B.nt o.dst = true)
  (hv : OpVN P B (Wi V ops i) s o x N) (h : VN P B V ops Q n (L.setIfInBounds i true) (s.put o.dst x) N) : VN P B V ops Q (n + 1) L s N := fun a w hR hN => by
 obtain ⟨v, h1, h2⟩ := hv a w hR hN
 exact wpAnyE_first (F := Ew B (Wi V ops i)) Ew.tr Ew.rf (fun x => Ew.rf x) Wi.of hi (Region.noSelect_spec hs) n L a w (Region.free_spec hi hf) (by simpa using hr) (.inl ⟨by simp [Region.wanted, hg], h1⟩) (h _ _ (hR.put _ hd _ _ h2) hN)
theorem VM.take {i : Nat} {x : AV} (hi : ops[i]? = some o) (hs : Region.noSelect ops = true) (hf : Region.free .any ops L i = true) (hr : (Region.ready .any ops L).contains i = true) (hg : o.guard = none) (hd : okd B.nt o.dst = true)
  (hv : OpV P B (Wi V ops i) s o x) (h : VM P B V ops Q n (L.setIfInBounds i true) (s.put o.dst x) N) : VM P B V ops Q (n + 1) L s N := fun a w hR hN => by
 obtain ⟨v, h1, h2⟩ := hv a w hR
 exact wpAnyE_first (F := Ew B (Wi V ops i)) Ew.tr Ew.rf (fun x => Ew.rf x) Wi.of hi (Region.noSelect_spec hs) n L a w (Region.free_spec hi hf) (by simpa using hr) (.inl ⟨by simp [Region.wanted, hg], h1⟩) (h _ _ (hR.put _ hd _ _ h2) hN)
theorem VM.done (hr : Region.ready .any ops L = []) (h : Q .normal s) : VM P B V ops Q n L s N := fun a w hR _ => by
 cases n with
 | zero => exact ⟨hr, s, h, hR⟩
 | succ n => exact ⟨fun _ => ⟨s, h, hR⟩, by rw [hr]; simp⟩
def OpM (P : Program) (B : Bs) (W : Nat → Prop) (s : St') (o : Oper) (K : St' → Prop) (N : Nat) : Prop :=
 ∀ a w, R B s a w → N ≤ w.heap.size → ∀ (next : Act → World → Prop) (Qx : Exit → Act → World → Prop), (∀ s' a' w', K s' → R B s' a' w' → Ew B W w w' → next a' w') → o.wp P a w next Qx
theorem OpM.of {W : Nat → Prop} (h : OpE P B W s o K) : OpM P B W s o K N := fun a w hr _ => h a w hr
theorem OpM.alloc {W : Nat → Prop} {e : TypeId} {z : Value} {cs : List AV} (ho : o.op = .alloc e) (hB : B.Ok) (hd : okd B.nt o.dst = true) (hz : ∀ w, (zeroValue e).run P w = .ok z w) (hcs : cellsOf (.v z) = cs)
  (hK : ∀ g, N ≤ g → K ((St'.mk s.sl (s.hp ++ [.box g ⟨cs, e, cs.length⟩]) s.k).put o.dst (.v (.pointer (some ⟨g, 0, none⟩))))) : OpM P B W s o K N := by
 subst hcs
 intro a w hr hN next Qx hn
 have h1 := hr.newBox hB _ e _ (Rep.cells (.v z) rfl)
 unfold Oper.wp
 simp only [execOp, ho, Instr.alloc, newVar, newRow, Sem.run_bind, hz, run_newObj_alloc, Result.andThen_ok, Sem.run_pure]
 exact hn _ _ _ (hK _ hN) (h1.put _ hd _ _ (.v _)) (.ofN ((Chg.refl _ _).alloc _))
def EachM (P : Program) (B : Bs) (V : Nat → Nat → Prop) (ops : Array Oper) (Q : Exit → St' → Prop) (n : Nat) (L : Array Bool) (s : St') (N : Nat) : List Nat → Prop
 | [] => True
 | i :: r => (∃ o, ops[i]? = some o ∧ o.guard = none ∧ OpM P B (V i) s o (fun s' => VM P B V ops Q n (L.setIfInBounds i true) s' N) N) ∧ EachM P B V ops Q n L s N r
theorem VM.all {rs : List Nat} (hr : Region.ready .any ops L = rs) (hne : rs ≠ []) (h : EachM P B V ops Q n L s N rs) : VM P B V ops Q (n + 1) L s N := fun a w hR hN => by
 refine ⟨fun h0 => absurd (hr ▸ h0) hne, fun i hi => ?_⟩
 rw [hr] at hi
 have key : ∀ rs, EachM P B V ops Q n L s N rs → i ∈ rs → ∃ o, ops[i]? = some o ∧ o.guard = none ∧ OpM P B (V i) s o (fun s' => VM P B V ops Q n (L.setIfInBounds i true) s' N) N := by
  intro rs
  induction rs with
  | nil => intro _ h; simp at h
  | cons j r ih =>
   intro h hi
   rcases List.mem_cons.1 hi with rfl | hi
   ·exact h.1
   ·exact ih h.2 hi
 obtain ⟨o, ho, hg, hop⟩ := key rs h hi
 unfold wpOp
 simp only [ho]
 have hwant : Region.wanted o (yielded ops a.tmps) = true := by simp [Region.wanted, hg]
 rw [if_pos hwant]
 exact .inl (hop a w hR hN _ _ fun s' a' w' k1 k2 k3 => ⟨k3, k1 a' w' k2 (Nat.le_trans hN k3.size)⟩)
theorem VM.le {s' : St'} (h : Le B s s') (k : VM P B V ops Q n L s' N) : VM P B V ops Q n L s N := fun a w hr => k a w (h a w hr)
end
end
section
theorem SpecH.fnv {P : Program} {F G : FuncId} {x : AV} {hp : List Ent} {Q : AV → List Ent → Prop} (h : SpecH P F [x, .fn G []] hp Q) : SpecH P F [x, .v (.func (.func G) #[] #[])] hp Q := fun w A us ha h2 h3 h4 => by
 refine h w A us ⟨ha.1, fun j hj => ?_⟩ h2 h3 h4
 match j, hj with
 | 0, hj => exact ha.2 0 (by simp)
 | 1, hj =>
  have h1 := ha.2 1 (by simp)
  have e : us.getD 1 undef = .func (.func G) #[] #[] := h1.eq_v
  show Rep w _ (.fn G []) (us.getD 1 undef)
  rw [e]
  exact .fn G [] #[] rfl fun j hj => by simp at hj
end
section
instance : Sx1 (List LookS) := ⟨fun x => avL x⟩
theorem rowL_app {α : Type} [Inhabited α] [Sxc α] (xs ys : List α) : rowL xs ++ rowL ys = rowL (xs ++ ys) := by simp [rowL]
theorem slices_Grow_lk {k : Nat} (hk : k ≤ 1000000) :
  SpecH Tryz.prog 208 [.v (.slice none 0 0), avI (k : Int)] [] (fun y hp' => ∃ u, y = .v u ∧ hp' = [.row u (0) (8) ([]) (124)]) := by
 refine SpecH.of_VC Tryz.func208 rfl Tryz.ntmps208 (Nle rfl) fun w A hB => ?_
 refine VC.sr ?_
 refine VO.ma rfl rfl rfl rfl ?_
 refine VO.nil ?_
 refine VC.seq ?_
 refine VC.sr ?_
 refine VO.mv rfl rfl rfl rfl ?_
 refine VO.val rfl rfl (OpV.lss rfl rfl rfl) ?_
 refine VO.nil ?_
 refine VC.cond rfl (fun aH1b => ?_) (fun aH1b => ?_)
 ·have aH1 := aH1b
  try simp only [qq] at aH1
  exact VC.absurd (by omega)
 ·have aH1 := aH1b
  try simp only [qq] at aH1
  refine VC.skip ?_
  refine VC.seq ?_
  refine VC.sr ?_
  refine VO.mv rfl rfl rfl rfl ?_
  refine VO.mv rfl rfl rfl rfl ?_
  refine VO.val rfl rfl (OpV.cap_v rfl Tryz.underlying118 rfl) ?_
  refine VO.mv rfl rfl rfl rfl ?_
  refine VO.val rfl rfl (OpV.len_v rfl Tryz.underlying118 rfl) ?_
  refine VO.val rfl rfl (OpV.sub rfl rfl rfl (by unfold fits; omega)) ?_
  refine VO.val rfl rfl (OpV.sub rfl rfl rfl (by unfold fits; omega)) ?_
  refine VO.ma rfl rfl rfl rfl ?_
  refine VO.nil ?_
  refine VC.sr ?_
  refine VO.mv rfl rfl rfl rfl ?_
  refine VO.val rfl rfl (OpV.gtr rfl rfl rfl) ?_
  refine VO.nil ?_
  refine VC.cond rfl (fun aH2b => ?_) (fun aH2b => ?_)
  ·have aH2 := aH2b
   try simp only [qq] at aH2
   refine VC.region ?_
   refine VO.mv rfl rfl rfl rfl ?_
   refine VO.mv rfl rfl rfl rfl ?_
   refine VO.val rfl rfl (OpV.cap_v rfl Tryz.underlying118 rfl) ?_
   refine VO.val rfl rfl (OpV.slice_nilv rfl Tryz.underlying118 Tryz.sizeOf124 rfl rfl ⟨_, _, rfl, rfl⟩) ?_
   refine VO.mv rfl rfl rfl rfl ?_
   refine VO.op rfl (OpE.appendZ (k := k) rfl hB rfl Tryz.underlying118 Tryz.underlying3 (infoOf Tryz.t124 8 (by kernel_rfl) rfl rfl) rfl (by decide) (by decide) rfl rfl (by omega) (by omega) (by omega) (by omega) ?_)
   intro u22
   refine VO.asBox (i := 0) rfl (by omega) (fun g cap hu hcap hmx => ?_)
   subst hu
   refine VO.mv rfl rfl rfl rfl ?_
   refine VO.val rfl rfl (OpV.len_v rfl Tryz.underlying118 rfl) ?_
   refine VO.val rfl rfl (OpV.slice_own (h := 0) rfl Tryz.underlying118 Tryz.sizeOf124 rfl rfl ⟨_, _, rfl, rfl⟩ (by omega) (by omega) (by omega)) ?_
   refine VO.ma rfl rfl rfl rfl ?_
   refine VO.nil ?_
   refine VC.sr ?_
   refine VO.mv rfl rfl rfl rfl ?_
   refine VO.ma rfl rfl rfl rfl ?_
   refine VO.nil ?_
   refine VC.le _ ((Le.cutBox (i := 0) 0 rfl).trans (Le.boxRow (i := 0) (n := 0) (sz := 8) (cap := cap) rfl rfl (Nat.zero_le _) hmx)) ?_
   refine VC.le ⟨[(4, _)], [_], 0⟩ (Le.pick hB [0] ⟨rfl, trivial⟩ rfl rfl (Nat.le_refl _)) ?_
   refine VC.ret ?_
   exact Exists.intro _ (And.intro (RetV.one Tryz.results208 (ResV.tmp rfl)) (⟨_, rfl, rfl⟩))
  ·have aH2 := aH2b
   try simp only [qq] at aH2
   refine VC.skip ?_
   refine VC.sr ?_
   refine VO.mv rfl rfl rfl rfl ?_
   refine VO.ma rfl rfl rfl rfl ?_
   refine VO.nil ?_
   refine VC.le _ (Le.nilRow 8 124) ?_
   refine VC.le ⟨[(4, _)], [_], 0⟩ (Le.pick hB [0] ⟨rfl, trivial⟩ rfl rfl (Nat.le_refl _)) ?_
   refine VC.ret ?_
   exact Exists.intro _ (And.intro (RetV.one Tryz.results208 (ResV.tmp rfl)) (⟨_, rfl, rfl⟩))
theorem slices_ConcatLk {ll : List (List LookS)} (hl : ll.length ≤ 1000000) (ht : ll.flatten.length ≤ 1000000) :
  SpecH Tryz.prog 129 [avM ll] [] (fun y hp' => ∃ u, y = .v u ∧ hp' = [.row u (ll.flatten.length) (8) (rowL ll.flatten) (124)]) := by
 refine SpecH.of_VC Tryz.func129 rfl Tryz.ntmps129 (Nle rfl) fun w A hB => ?_
 refine VC.sr ?_
 refine VO.ma rfl rfl rfl rfl ?_
 refine VO.nil ?_
 refine VC.sr ?_
 refine VO.ma rfl rfl rfl rfl ?_
 refine VO.nil ?_
 refine VC.seq ?_
 refine VC.sr ?_
 refine VO.mv rfl rfl rfl rfl ?_
 refine VO.val rfl rfl (OpV.len_im rfl Tryz.underlying223 rfl) ?_
 refine VO.mv rfl rfl rfl rfl ?_
 refine VO.nil ?_
 refine VC.block ?_
 refine VC.loopK [(0, _), (9, _), (10, _)] ⟨rfl, rfl, rfl, trivial⟩ ({q : Nat // q ≤ ll.length}) (fun (iZ : {q : Nat // q ≤ ll.length}) => match iZ with | ⟨q, hq⟩ => [(3, avI ((ll.take q).flatten.length : Int)), (11, avI (q : Int))]) (fun (iZ : {q : Nat // q ≤ ll.length}) => match iZ with | ⟨q, hq⟩ => []) (fun (iZ : {q : Nat // q ≤ ll.length}) => match iZ with | ⟨q, hq⟩ => 0) (fun (iZ : {q : Nat // q ≤ ll.length}) => match iZ with | ⟨q, hq⟩ => ll.length - q) ⟨0, Nat.zero_le _⟩ (Le.mk hB [] ⟨rfl, rfl, rfl, rfl, rfl, trivial⟩ rfl rfl (Nat.le_refl _)) ?_
 rintro ⟨q, hq⟩
 show VC _ _ _ _ ⟨[(3, avI ((ll.take q).flatten.length : Int)), (11, avI (q : Int))] ++ [(0, _), (9, _), (10, _)], [], 0⟩
 refine VC.sr ?_
 refine VO.val rfl rfl (OpV.lss rfl rfl rfl) ?_
 refine VO.nil ?_
 refine VC.seq ?_
 refine VC.cond rfl (fun aH1b => ?_) (fun aH1b => ?_)
 ·have aH1 := aH1b
  try simp only [qq] at aH1
  have e1 := flat_take_succ (ll := ll) (q := q) (by omega)
  have e2 := flat_take_le ll (q + 1)
  have e3 : (ll.take (q + 1)).flatten.length = (ll.take q).flatten.length + (ll.getD q default).length := by rw [e1, List.length_append]
  refine VC.skip ?_
  refine VC.seq ?_
  refine VC.block ?_
  refine VC.sr ?_
  refine VO.val rfl rfl (OpV.indexAddr_1 rfl Tryz.underlying223 Tryz.sizeOf118 rfl rfl rfl (by omega)) ?_
  refine VO.val rfl rfl (OpV.load_at rfl hB OutW.no Tryz.isAgg118 rfl rfl) ?_
  refine VO.ma rfl rfl rfl rfl ?_
  refine VO.nil ?_
  refine VC.sr ?_
  refine VO.mv rfl rfl rfl rfl ?_
  refine VO.mv rfl rfl rfl rfl ?_
  refine VO.val rfl rfl (OpV.len_im rfl Tryz.underlying118 rfl) ?_
  refine VO.val rfl rfl (OpV.add rfl rfl rfl (by unfold fits; omega)) ?_
  refine VO.ma rfl rfl rfl rfl ?_
  refine VO.nil ?_
  refine VC.sr ?_
  refine VO.mv rfl rfl rfl rfl ?_
  refine VO.val rfl rfl (OpV.lss rfl rfl rfl) ?_
  refine VO.nil ?_
  refine VC.cond rfl (fun aH2b => ?_) (fun aH2b => ?_)
  ·have aH2 := aH2b
   try simp only [qq] at aH2
   exact VC.absurd (by omega)
  ·have aH2 := aH2b
   try simp only [qq] at aH2
   refine VC.skip ?_
   refine VC.region ?_
   refine VO.val rfl rfl (OpV.add rfl rfl rfl (by unfold fits; omega)) ?_
   refine VO.mv rfl rfl rfl rfl ?_
   refine VO.nil ?_
   exact Exists.intro (⟨q + 1, by omega⟩) (And.intro (Le.mk hB [] ⟨(by dsimp only; rw [e3, Int.natCast_add]; rfl), rfl, rfl, rfl, rfl, trivial⟩ rfl rfl (Nat.le_refl _)) (by first | omega | (show _ < _; omega) | (simp only []; omega)))
 ·have aH1 := aH1b
  try simp only [qq] at aH1
  obtain rfl : q = ll.length := by omega
  have e0 : (ll.take ll.length).flatten.length = ll.flatten.length := by rw [List.take_length]
  refine VC.exit ?_
  refine VC.sr ?_
  refine VO.mv rfl rfl rfl rfl ?_
  refine VO.op rfl (OpE.callH (hp := []) (rest := _) rfl hB rfl Tryz.call208 rfl rfl ((slices_Grow_lk (by omega))) (List.Perm.refl _) (fun _ h => by obtain ⟨e, he, _⟩ := h; cases he) ?_)
  rintro _ _ ⟨u24, rfl, rfl⟩
  refine VO.ma rfl rfl rfl rfl ?_
  refine VO.nil ?_
  refine VC.seq ?_
  refine VC.sr ?_
  refine VO.mv rfl rfl rfl rfl ?_
  refine VO.val rfl rfl (OpV.len_im rfl Tryz.underlying223 rfl) ?_
  refine VO.mv rfl rfl rfl rfl ?_
  refine VO.nil ?_
  refine VC.block ?_
  refine VC.loopK [(25, _), (26, _)] ⟨rfl, rfl, trivial⟩ ({zz : Value × Nat // zz.2 ≤ ll.length}) (fun (iZ : {zz : Value × Nat // zz.2 ≤ ll.length}) => match iZ with | ⟨⟨u, r⟩, hq1⟩ => [(6, .v u), (27, avI (r : Int))]) (fun (iZ : {zz : Value × Nat // zz.2 ≤ ll.length}) => match iZ with | ⟨⟨u, r⟩, hq1⟩ => [.row u (ll.take r).flatten.length 8 (rowL (ll.take r).flatten) 124]) (fun (iZ : {zz : Value × Nat // zz.2 ≤ ll.length}) => match iZ with | ⟨⟨u, r⟩, hq1⟩ => 0) (fun (iZ : {zz : Value × Nat // zz.2 ≤ ll.length}) => match iZ with | ⟨⟨u, r⟩, hq1⟩ => ll.length - r) ⟨(u24, 0), Nat.zero_le _⟩ (Le.mk hB [0] ⟨rfl, rfl, rfl, rfl, trivial⟩ rfl rfl (Nat.le_refl _)) ?_
  rintro ⟨⟨u, r⟩, hq1⟩
  show VC _ _ _ _ ⟨[(6, .v u), (27, avI (r : Int))] ++ [(25, _), (26, _)], [.row u (ll.take r).flatten.length 8 (rowL (ll.take r).flatten) 124], 0⟩
  simp only at hq1
  refine VC.sr ?_
  refine VO.val rfl rfl (OpV.lss rfl rfl rfl) ?_
  refine VO.nil ?_
  refine VC.seq ?_
  refine VC.cond rfl (fun aH3b => ?_) (fun aH3b => ?_)
  ·have aH3 := aH3b
   try simp only [qq] at aH3
   have f1 := flat_take_succ (ll := ll) (q := r) (by omega)
   have f2 := flat_take_le ll (r + 1)
   have f3 : (ll.take (r + 1)).flatten.length = (ll.take r).flatten.length + (ll.getD r default).length := by rw [f1, List.length_append]
   refine VC.skip ?_
   refine VC.seq ?_
   refine VC.block ?_
   refine VC.sr ?_
   refine VO.val rfl rfl (OpV.indexAddr_1 rfl Tryz.underlying223 Tryz.sizeOf118 rfl rfl rfl (by omega)) ?_
   refine VO.val rfl rfl (OpV.load_at rfl hB OutW.no Tryz.isAgg118 rfl rfl) ?_
   refine VO.ma rfl rfl rfl rfl ?_
   refine VO.nil ?_
   refine VC.region ?_
   refine VO.mv rfl rfl rfl rfl ?_
   refine VO.mv rfl rfl rfl rfl ?_
   refine VO.op rfl (OpE.appendP (i := 0) rfl hB rfl Tryz.underlying118 (infoOf Tryz.t124 8 (by kernel_rfl) rfl rfl) rfl (by decide) (by decide) rfl rfl (.im rfl) (lk_one (ll.getD r default)) (by omega) ((show _ = rowL (ll.take (r + 1)).flatten by rw [f1, ← rowL_app]; exact congrArg (rowL (List.take r ll).flatten ++ ·) (tab_L (ll.getD r default)))) (fun _ _ => trivial) ?_)
   intro u2
   refine VO.ma rfl rfl rfl rfl ?_
   refine VO.nil ?_
   refine VC.region ?_
   refine VO.val rfl rfl (OpV.add rfl rfl rfl (by unfold fits; omega)) ?_
   refine VO.mv rfl rfl rfl rfl ?_
   refine VO.nil ?_
   exact Exists.intro (⟨(u2, r + 1), by show _ ≤ _; omega⟩) (And.intro (Le.mk hB [0] ⟨rfl, rfl, rfl, rfl, trivial⟩ rfl (by dsimp only; rw [f3]; rfl) (Nat.le_refl _)) (by first | omega | (show _ < _; omega) | (simp only []; omega)))
  ·have aH3 := aH3b
   try simp only [qq] at aH3
   obtain rfl : r = ll.length := by omega
   rw [List.take_length]
   refine VC.exit ?_
   refine VC.sr ?_
   refine VO.mv rfl rfl rfl rfl ?_
   refine VO.ma rfl rfl rfl rfl ?_
   refine VO.nil ?_
   refine VC.le ⟨[(2, _)], [_], 0⟩ (Le.pick hB [0] ⟨rfl, trivial⟩ rfl rfl (Nat.le_refl _)) ?_
   refine VC.ret ?_
   exact Exists.intro _ (And.intro (RetV.one Tryz.results129 (ResV.tmp rfl)) (⟨_, rfl, rfl⟩))
abbrev eLk : LookS → AV := fun x => avLk x
def mrgE (a b : List LookS) : Int := if lookF a ≠ 0 then lookF a else if lookF b ≠ 0 then lookF b else match mgo [] (a ++ b) with
 | none => 13
 | some _ => 0
theorem mrgE_a {a b : List LookS} (h : lookF a ≠ 0) : mrgE a b = lookF a := by rw [mrgE, if_pos h]
theorem mrgE_b {a b : List LookS} (h : lookF a = 0) (h2 : lookF b ≠ 0) : mrgE a b = lookF b := by rw [mrgE, if_neg (by omega), if_pos h2]
theorem mrgE_n {a b : List LookS} (h : lookF a = 0) (h2 : lookF b = 0) (h3 : mgo [] (a ++ b) = none) : mrgE a b = 13 := by rw [mrgE, if_neg (by omega), if_neg (by omega), h3]
theorem mrgE_s {a b o : List LookS} (h : lookF a = 0) (h2 : lookF b = 0) (h3 : mgo [] (a ++ b) = some o) : mrgE a b = 0 := by rw [mrgE, if_neg (by omega), if_neg (by omega), h3]
theorem abL_len (a b : List LookS) : ([a, b] : List (List LookS)).flatten = a ++ b := by simp
theorem slices_ConcatLk2 {a b : List LookS} (h : (a ++ b).length ≤ 1000000) : SpecH Tryz.prog 129 [avM [a, b]] [] (fun y hp' => ∃ u, y = .v u ∧ hp' = [.row u (a ++ b).length 8 (rowL (a ++ b)) 124]) := by
 have k := slices_ConcatLk (ll := [a, b]) (by show 2 ≤ 1000000; decide) (by rw [abL_len]; exact h)
 rw [abL_len] at k
 exact k
theorem mstep_new {o : List LookS} {x : LookS} (h : o.find? (fun z => sameT z x) = none) : mstep o x = some (o ++ [x]) := by rw [mstep, h]
theorem mstep_same {o : List LookS} {x y : LookS} (h : o.find? (fun z => sameT z x) = some y) (he : eqLk y x = true) : mstep o x = some o := by rw [mstep, h]; simp only [he, if_true]
theorem mstep_conf {o : List LookS} {x y : LookS} (h : o.find? (fun z => sameT z x) = some y) (he : eqLk y x = false) : mstep o x = none := by rw [mstep, h]; simp only [he]; rfl
theorem mgo_next {o l : List LookS} {q : Nat} {out o2 : List LookS} (hq : q < l.length) (h : mgo out (l.take q) = some o) (hs : mstep o (l.getD q default) = some o2) : mgo out (l.take (q + 1)) = some o2 := by rw [mgo_take hq, h]; exact hs
theorem mgo_stop {o l : List LookS} {q : Nat} {out : List LookS} (hq : q < l.length) (h : mgo out (l.take q) = some o) (hs : mstep o (l.getD q default) = none) : mgo out l = none := mgo_none (q := q + 1) (by rw [mgo_take hq, h]; exact hs)
theorem mgo_small {l o : List LookS} {q : Nat} (h : mgo [] (l.take q) = some o) : o.length ≤ l.length := by
 have := mgo_len h
 rw [List.length_take] at this
 simp at this; omega
theorem lk_zero {w : World} {Z : Nat → Prop} : Rep w Z (eLk default) (.agg #[.string ⟨#[]⟩, .string ⟨#[]⟩, .int .i64 0, .int .i64 0, .bool false, .string ⟨#[]⟩, .string ⟨#[]⟩, .string ⟨#[]⟩]) := .agg _ _ rfl fun j hj => by
 match j, hj with
 | 0, _ => exact .v _
 | 1, _ => exact .v _
 | 2, _ => exact .v _
 | 3, _ => exact .v _
 | 4, _ => exact .v _
 | 5, _ => exact .v _
 | 6, _ => exact .v _
 | 7, _ => exact .v _
theorem opt_none {α : Type} {x : Option α} (h : x.isSome = false) : x = none := by cases x <;> simp_all
theorem opt_some {α : Type} {x : Option α} {d : α} (h : x.isSome = true) : x = some (x.getD d) := by cases x <;> simp_all
end
section
theorem spoil_K {n : Nat} {cs : List AV} {u : Value} (hcs : cs.length = n * 8) :
  SpecH Tryz.prog 53 [.v u] [.row u n 8 cs 124] (fun y hp' => ∃ cs' : List AV, hp' = [.row u n 8 cs' 124]) := by
 refine SpecH.of_VC Tryz.func53 rfl Tryz.ntmps53 (Nle rfl) fun w A hB => ?_
 refine VC.sr ?_
 refine VO.op rfl (OpE.alloc rfl hB rfl Tryz.zeroValue124 rfl ?_)
 intro g2
 refine VO.nil ?_
 refine VC.sr ?_
 refine VO.mv rfl rfl rfl rfl ?_
 refine VO.val rfl rfl (OpV.len_row (i := 0) rfl Tryz.underlying118 rfl rfl) ?_
 refine VO.mv rfl rfl rfl rfl ?_
 refine VO.nil ?_
 refine VC.block ?_
 refine VC.loopK [(0, _), (2, _), (5, _)] ⟨rfl, rfl, rfl, trivial⟩ ({t : List AV × Nat // t.2 ≤ n ∧ t.1.length = n * 8}) (fun (iZ : {t : List AV × Nat // t.2 ≤ n ∧ t.1.length = n * 8}) => match iZ with | ⟨⟨z, q⟩, hq, hz⟩ => [(6, avI (q : Int))]) (fun (iZ : {t : List AV × Nat // t.2 ≤ n ∧ t.1.length = n * 8}) => match iZ with | ⟨⟨z, q⟩, hq, hz⟩ => [.row u n 8 z 124, .box g2 ⟨[avS ⟨#[]⟩, avS ⟨#[]⟩, avI 0, avI 0, avB false, avS ⟨#[]⟩, avS ⟨#[]⟩, avS ⟨#[]⟩], 124, 8⟩]) (fun (iZ : {t : List AV × Nat // t.2 ≤ n ∧ t.1.length = n * 8}) => match iZ with | ⟨⟨z, q⟩, hq, hz⟩ => 0) (fun (iZ : {t : List AV × Nat // t.2 ≤ n ∧ t.1.length = n * 8}) => match iZ with | ⟨⟨z, q⟩, hq, hz⟩ => n - q) ⟨(cs, 0), Nat.zero_le _, hcs⟩ (Le.mk hB [0, 1] ⟨rfl, rfl, rfl, rfl, trivial⟩ rfl rfl (Nat.le_refl _)) ?_
 rintro ⟨⟨z, q⟩, hq, hz⟩
 show VC _ _ _ _ ⟨[(6, avI (q : Int))] ++ [(0, _), (2, _), (5, _)], [.row u n 8 z 124, .box g2 ⟨[avS ⟨#[]⟩, avS ⟨#[]⟩, avI 0, avI 0, avB false, avS ⟨#[]⟩, avS ⟨#[]⟩, avS ⟨#[]⟩], 124, 8⟩], 0⟩
 simp only at hq hz
 refine VC.sr ?_
 refine VO.val rfl rfl (OpV.lss rfl rfl rfl) ?_
 refine VO.nil ?_
 refine VC.seq ?_
 refine VC.cond rfl (fun aH1b => ?_) (fun aH1b => ?_)
 ·have aH1 := aH1b
  try simp only [qq] at aH1
  refine VC.asBox (i := 0) rfl (by omega) (fun g cap hu hcap hmx => ?_)
  subst hu
  have hmx2 := hmx
  unfold maxLen at hmx2
  refine VC.skip ?_
  refine VC.seq ?_
  refine VC.block ?_
  refine VC.sr ?_
  refine VO.mv rfl rfl rfl rfl ?_
  refine VO.ma rfl rfl rfl rfl ?_
  refine VO.nil ?_
  refine VC.region ?_
  refine VO.mv rfl rfl rfl rfl ?_
  refine VO.mv rfl rfl rfl rfl ?_
  refine VO.val rfl rfl (OpV.loadK_own (i := 1) rfl hB Tryz.isAgg124 Tryz.sizeOf124 rfl rfl rfl (fun h => h)) ?_
  refine VO.val rfl rfl (OpV.indexAddr_q rfl Tryz.underlying118 Tryz.sizeOf124 rfl rfl rfl (by omega)) ?_
  refine VO.op rfl (OpE.storeE (i := 0) rfl hB rfl Tryz.sizeOf124 rfl rfl rfl rfl rfl rfl (by show 0 + q * 8 + 8 ≤ z.length; omega) rfl trivial ?_)
  refine VO.nil ?_
  refine VC.le _ (Le.boxRow (i := 0) (n := n) (sz := 8) (cap := cap) rfl (by rw [setAll_len]; omega) hcap hmx) ?_
  refine VC.region ?_
  refine VO.val rfl rfl (OpV.add rfl rfl rfl (by unfold fits; omega)) ?_
  refine VO.mv rfl rfl rfl rfl ?_
  refine VO.nil ?_
  exact Exists.intro (⟨(_, q + 1), by show q + 1 ≤ _; omega, by show (setAll z _ _).length = _; rw [setAll_len]; exact hz⟩) (And.intro (Le.mk hB [0, 1] ⟨rfl, rfl, rfl, rfl, trivial⟩ rfl rfl (Nat.le_refl _)) (by first | omega | (show _ < _; omega) | (simp only []; omega)))
 ·have aH1 := aH1b
  try simp only [qq] at aH1
  refine VC.le _ (Le.pickH [0] rfl rfl) ?_
  refine VC.exit ?_
  exact Exists.intro _ (And.intro (RetV.none Tryz.results53) (⟨z, rfl⟩))
theorem spoil_P {n : Nat} {cs : List AV} {u : Value} (hcs : cs.length = n * 2) :
  SpecH Tryz.prog 18 [.v u] [.row u n 2 cs 58] (fun y hp' => ∃ cs' : List AV, hp' = [.row u n 2 cs' 58]) := by
 refine SpecH.of_VC Tryz.func18 rfl Tryz.ntmps18 (Nle rfl) fun w A hB => ?_
 refine VC.sr ?_
 refine VO.op rfl (OpE.alloc rfl hB rfl Tryz.zeroValue58 rfl ?_)
 intro g2
 refine VO.nil ?_
 refine VC.sr ?_
 refine VO.mv rfl rfl rfl rfl ?_
 refine VO.val rfl rfl (OpV.len_row (i := 0) rfl Tryz.underlying53 rfl rfl) ?_
 refine VO.mv rfl rfl rfl rfl ?_
 refine VO.nil ?_
 refine VC.block ?_
 refine VC.loopK [(0, _), (2, _), (5, _)] ⟨rfl, rfl, rfl, trivial⟩ ({t : List AV × Nat // t.2 ≤ n ∧ t.1.length = n * 2}) (fun (iZ : {t : List AV × Nat // t.2 ≤ n ∧ t.1.length = n * 2}) => match iZ with | ⟨⟨z, q⟩, hq, hz⟩ => [(6, avI (q : Int))]) (fun (iZ : {t : List AV × Nat // t.2 ≤ n ∧ t.1.length = n * 2}) => match iZ with | ⟨⟨z, q⟩, hq, hz⟩ => [.row u n 2 z 58, .box g2 ⟨[avS ⟨#[]⟩, avS ⟨#[]⟩], 58, 2⟩]) (fun (iZ : {t : List AV × Nat // t.2 ≤ n ∧ t.1.length = n * 2}) => match iZ with | ⟨⟨z, q⟩, hq, hz⟩ => 0) (fun (iZ : {t : List AV × Nat // t.2 ≤ n ∧ t.1.length = n * 2}) => match iZ with | ⟨⟨z, q⟩, hq, hz⟩ => n - q) ⟨(cs, 0), Nat.zero_le _, hcs⟩ (Le.mk hB [0, 1] ⟨rfl, rfl, rfl, rfl, trivial⟩ rfl rfl (Nat.le_refl _)) ?_
 rintro ⟨⟨z, q⟩, hq, hz⟩
 show VC _ _ _ _ ⟨[(6, avI (q : Int))] ++ [(0, _), (2, _), (5, _)], [.row u n 2 z 58, .box g2 ⟨[avS ⟨#[]⟩, avS ⟨#[]⟩], 58, 2⟩], 0⟩
 simp only at hq hz
 refine VC.sr ?_
 refine VO.val rfl rfl (OpV.lss rfl rfl rfl) ?_
 refine VO.nil ?_
 refine VC.seq ?_
 refine VC.cond rfl (fun aH1b => ?_) (fun aH1b => ?_)
 ·have aH1 := aH1b
  try simp only [qq] at aH1
  refine VC.asBox (i := 0) rfl (by omega) (fun g cap hu hcap hmx => ?_)
  subst hu
  have hmx2 := hmx
  unfold maxLen at hmx2
  refine VC.skip ?_
  refine VC.seq ?_
  refine VC.block ?_
  refine VC.sr ?_
  refine VO.mv rfl rfl rfl rfl ?_
  refine VO.ma rfl rfl rfl rfl ?_
  refine VO.nil ?_
  refine VC.region ?_
  refine VO.mv rfl rfl rfl rfl ?_
  refine VO.mv rfl rfl rfl rfl ?_
  refine VO.val rfl rfl (OpV.loadK_own (i := 1) rfl hB Tryz.isAgg58 Tryz.sizeOf58 rfl rfl rfl (fun h => h)) ?_
  refine VO.val rfl rfl (OpV.indexAddr_q rfl Tryz.underlying53 Tryz.sizeOf58 rfl rfl rfl (by omega)) ?_
  refine VO.op rfl (OpE.storeE (i := 0) rfl hB rfl Tryz.sizeOf58 rfl rfl rfl rfl rfl rfl (by show 0 + q * 2 + 2 ≤ z.length; omega) rfl trivial ?_)
  refine VO.nil ?_
  refine VC.le _ (Le.boxRow (i := 0) (n := n) (sz := 2) (cap := cap) rfl (by rw [setAll_len]; omega) hcap hmx) ?_
  refine VC.region ?_
  refine VO.val rfl rfl (OpV.add rfl rfl rfl (by unfold fits; omega)) ?_
  refine VO.mv rfl rfl rfl rfl ?_
  refine VO.nil ?_
  exact Exists.intro (⟨(_, q + 1), by show q + 1 ≤ _; omega, by show (setAll z _ _).length = _; rw [setAll_len]; exact hz⟩) (And.intro (Le.mk hB [0, 1] ⟨rfl, rfl, rfl, rfl, trivial⟩ rfl rfl (Nat.le_refl _)) (by first | omega | (show _ < _; omega) | (simp only []; omega)))
 ·have aH1 := aH1b
  try simp only [qq] at aH1
  refine VC.le _ (Le.pickH [0] rfl rfl) ?_
  refine VC.exit ?_
  exact Exists.intro _ (And.intro (RetV.none Tryz.results18) (⟨z, rfl⟩))
end
section
def setsF (s : List ByteArray) (p : List (List ByteArray)) : Int := if setupF s ≠ 0 then setupF s else partsF s.length p
theorem setup_fault {s : List ByteArray} {p : List (List ByteArray)} (hs : SmS s) (hp : SmSS p) :
  SpecN Tryz.prog 166 [avStrs s, avM p] (fun y => y = avI (setsF s p)) := by
 refine SpecN.of_VCN Tryz.func166 rfl Tryz.ntmps166 (Nle rfl) fun w A hB => ?_
 refine VC.sr ?_
 refine VO.ma rfl rfl rfl rfl ?_
 refine VO.nil ?_
 refine VC.seq ?_
 refine VC.sr ?_
 refine VO.mv rfl rfl rfl rfl ?_
 refine VO.op rfl (OpE.call rfl hB rfl Tryz.call233 rfl (SpecN.spec (setup_CheckSetup hs)) ?_)
 rintro _ rfl
 refine VO.ma rfl rfl rfl rfl ?_
 refine VO.nil ?_
 refine VC.sr ?_
 refine VO.mv rfl rfl rfl rfl ?_
 refine VO.val rfl rfl (OpV.neq rfl rfl rfl) ?_
 refine VO.nil ?_
 refine VC.cond rfl (fun h0b => ?_) (fun h0b => ?_)
 ·have h0 := h0b
  try simp only [qq] at h0
  refine VC.sr ?_
  refine VO.mv rfl rfl rfl rfl ?_
  refine VO.ma rfl rfl rfl rfl ?_
  refine VO.nil ?_
  refine VC.ret ?_
  exact Exists.intro _ (And.intro (RetN.one Tryz.results166 (ResN.v rfl)) (by first | rw [setsF, if_pos h0] | rw [setsF, if_neg (by omega)]))
 ·have h0 := h0b
  try simp only [qq] at h0
  refine VC.skip ?_
  refine VC.sr ?_
  refine VO.mv rfl rfl rfl rfl ?_
  refine VO.val rfl rfl (OpV.len_im rfl Tryz.underlying82 rfl) ?_
  refine VO.mv rfl rfl rfl rfl ?_
  refine VO.op rfl (OpE.call rfl hB rfl Tryz.call234 rfl (SpecN.spec (setup_CheckParts hp)) ?_)
  rintro _ rfl
  refine VO.ma rfl rfl rfl rfl ?_
  refine VO.nil ?_
  refine VC.ret ?_
  exact Exists.intro _ (And.intro (RetN.one Tryz.results166 (ResN.v rfl)) (by first | rw [setsF, if_pos h0] | rw [setsF, if_neg (by omega)]))
theorem setup_missing {s p : List ByteArray} (hs : SmS s) (hp : SmS p) :
  SpecH Tryz.prog 313 [avStrs s, avStrs p] [] (fun y hp' => ∃ u, y = .v u ∧ hp' = [.row u ((missF s p).length) (1) (strsL (missF s p)) (9)]) := by
 have hl := hp.1
 refine SpecH.of_VC Tryz.func313 rfl Tryz.ntmps313 (Nle rfl) fun w A hB => ?_
 refine VC.sr ?_
 refine VO.ma rfl rfl rfl rfl ?_
 refine VO.nil ?_
 refine VC.sr ?_
 refine VO.ma rfl rfl rfl rfl ?_
 refine VO.nil ?_
 refine VC.seq ?_
 refine VC.sr ?_
 refine VO.mv rfl rfl rfl rfl ?_
 refine VO.val rfl rfl (OpV.len_im rfl Tryz.underlying82 rfl) ?_
 refine VO.mv rfl rfl rfl rfl ?_
 refine VO.nil ?_
 refine VC.block ?_
 refine VC.le _ (Le.nilRow 1 9) ?_
 refine VC.loopK [(0, _), (8, _), (9, _)] ⟨rfl, rfl, rfl, trivial⟩ ({zz : Value × Nat // zz.2 ≤ p.length}) (fun (iZ : {zz : Value × Nat // zz.2 ≤ p.length}) => match iZ with | ⟨⟨u, q⟩, hq⟩ => [(5, .v u), (10, avI (q : Int))]) (fun (iZ : {zz : Value × Nat // zz.2 ≤ p.length}) => match iZ with | ⟨⟨u, q⟩, hq⟩ => [.row u (missF s (p.take q)).length 1 (strsL (missF s (p.take q))) 9]) (fun (iZ : {zz : Value × Nat // zz.2 ≤ p.length}) => match iZ with | ⟨⟨u, q⟩, hq⟩ => 0) (fun (iZ : {zz : Value × Nat // zz.2 ≤ p.length}) => match iZ with | ⟨⟨u, q⟩, hq⟩ => p.length - q) ⟨(.slice none 0 0, 0), Nat.zero_le _⟩ (Le.mk hB [0] ⟨rfl, rfl, rfl, rfl, rfl, trivial⟩ rfl rfl (Nat.le_refl _)) ?_
 rintro ⟨⟨u, q⟩, hq⟩
 show VC _ _ _ _ ⟨[(5, .v u), (10, avI (q : Int))] ++ [(0, _), (8, _), (9, _)], [.row u (missF s (p.take q)).length 1 (strsL (missF s (p.take q))) 9], 0⟩
 simp only at hq
 refine VC.sr ?_
 refine VO.val rfl rfl (OpV.lss rfl rfl rfl) ?_
 refine VO.nil ?_
 refine VC.seq ?_
 refine VC.cond rfl (fun aH1b => ?_) (fun aH1b => ?_)
 ·have aH1 := aH1b
  try simp only [qq] at aH1
  refine VC.skip ?_
  refine VC.seq ?_
  refine VC.block ?_
  refine VC.sr ?_
  refine VO.val rfl rfl (OpV.indexAddr_1 rfl Tryz.underlying82 Tryz.sizeOf9 rfl rfl rfl (by omega)) ?_
  refine VO.val rfl rfl (OpV.load_at rfl hB OutW.no Tryz.isAgg9 rfl rfl) ?_
  refine VO.ma rfl rfl rfl rfl ?_
  refine VO.nil ?_
  refine VC.sr ?_
  refine VO.mv rfl rfl rfl rfl ?_
  refine VO.mv rfl rfl rfl rfl ?_
  refine VO.op rfl (OpE.call rfl hB rfl Tryz.call86 rfl (SpecN.spec (slices_Contains_str hs.1)) ?_)
  rintro _ rfl
  refine VO.val rfl rfl (OpV.not rfl rfl) ?_
  refine VO.nil ?_
  refine VC.cond rfl (fun h1b => ?_) (fun h1b => ?_)
  ·have h1 := h1b
   try simp only [qq] at h1
   have e1 := missF_yes (s := s) (p := p) (q := q) (by omega) h1
   have hm1 : (missF s (p.take q)).length ≤ q := Nat.le_trans (List.length_filter_le _ _) (by simp; omega)
   refine VC.region ?_
   refine VO.mv rfl rfl rfl rfl ?_
   refine VO.mv rfl rfl rfl rfl ?_
   refine VO.op rfl (OpE.buildSlice (zc := #[.string ⟨#[]⟩]) rfl hB rfl Tryz.underlying82 Tryz.sizeOf9 Tryz.zeroValue9 (by decide) (by decide) (by kernel_rfl) rfl rfl ?_)
   refine VO.op rfl (OpE.append1 (i := 0) rfl hB rfl Tryz.underlying82 (infoOf Tryz.t9 1 (by kernel_rfl) rfl rfl) rfl (by decide) (by decide) rfl rfl rfl rfl (strsL_snoc _ _) (by omega) (fun _ _ => trivial) ?_)
   intro u2
   refine VO.ma rfl rfl rfl rfl ?_
   refine VO.nil ?_
   refine VC.region ?_
   refine VO.val rfl rfl (OpV.add rfl rfl rfl (by unfold fits; omega)) ?_
   refine VO.mv rfl rfl rfl rfl ?_
   refine VO.nil ?_
   exact Exists.intro (⟨(u2, q + 1), by show _ ≤ _; omega⟩) (And.intro (Le.mk hB [0] ⟨rfl, rfl, rfl, rfl, rfl, trivial⟩ rfl (by dsimp only; first | (rw [e1]; rfl) | (rw [e1, List.length_append]; rfl)) (Nat.le_refl _)) (by first | omega | (show _ < _; omega) | (simp only []; omega)))
  ·have h1 := h1b
   try simp only [qq] at h1
   have e1 := missF_no (s := s) (p := p) (q := q) (by omega) h1
   refine VC.skip ?_
   refine VC.region ?_
   refine VO.val rfl rfl (OpV.add rfl rfl rfl (by unfold fits; omega)) ?_
   refine VO.mv rfl rfl rfl rfl ?_
   refine VO.nil ?_
   exact Exists.intro (⟨(u, q + 1), by show _ ≤ _; omega⟩) (And.intro (Le.mk hB [0] ⟨rfl, rfl, rfl, rfl, rfl, trivial⟩ rfl (by dsimp only; first | (rw [e1]; rfl) | (rw [e1, List.length_append]; rfl)) (Nat.le_refl _)) (by first | omega | (show _ < _; omega) | (simp only []; omega)))
 ·have aH1 := aH1b
  try simp only [qq] at aH1
  obtain rfl : q = p.length := by omega
  rw [List.take_length]
  refine VC.exit ?_
  refine VC.sr ?_
  refine VO.mv rfl rfl rfl rfl ?_
  refine VO.ma rfl rfl rfl rfl ?_
  refine VO.nil ?_
  refine VC.le ⟨[(4, _)], [_], 0⟩ (Le.pick hB [0] ⟨rfl, trivial⟩ rfl rfl (Nat.le_refl _)) ?_
  refine VC.ret ?_
  exact Exists.intro _ (And.intro (RetV.one Tryz.results313 (ResV.tmp rfl)) (⟨_, rfl, rfl⟩))
theorem setup_missing_N {s p : List ByteArray} (hs : SmS s) (hp : SmS p) : SpecN Tryz.prog 313 [avStrs s, avStrs p] (fun y => y = avStrs (missF s p)) :=
 SpecN.ofRow (setup_missing hs hp) (flat_strs _) fun w Z u h => Rep.strs rfl h
theorem SmS.nil : SmS [] := ⟨by simp, fun i => by simp [List.getD_eq_getElem?_getD]⟩
theorem SmSS.one {p : List ByteArray} (hp : SmS p) : SmSS [p] := ⟨by simp, fun i => by cases i with | zero => exact hp | succ i => exact SmS.nil⟩
end
section
theorem missF_mem {s p : List ByteArray} {x : ByteArray} : x ∈ missF s p ↔ x ∈ p ∧ x ∉ s := by
 unfold missF
 rw [List.mem_filter]
 constructor
 ·rintro ⟨h1, h2⟩; exact ⟨h1, has_not.1 (by simpa using h2)⟩
 ·rintro ⟨h1, h2⟩; exact ⟨h1, by rw [has_not.2 h2]; rfl⟩
theorem missF_nodup {s p : List ByteArray} (h : p.Nodup) : (missF s p).Nodup := h.sublist List.filter_sublist
theorem missF_len (s p : List ByteArray) : (missF s p).length ≤ p.length := List.length_filter_le _ _
section
variable {parts : List ByteArray} {later : List (List ByteArray)}
theorem nextL_mem : ∀ (l s : List ByteArray) (x : ByteArray), x ∈ nextL parts later s l → x ∈ s ∨ x ∈ l
 | [], s, x, h => .inl h
 | y :: l, s, x, h => by
  rcases nextL_mem l _ x h with h1 | h1
  ·rcases List.mem_or_eq_of_mem_set h1 with h2 | h2
   ·exact .inl h2
   ·exact .inr (by simp [h2])
  ·exact .inr (by simp [h1])
theorem nextL_take_succ {s l : List ByteArray} {q : Nat} (h : q < l.length) : nextL parts later s (l.take (q + 1)) = (nextL parts later s (l.take q)).set (slotF (nextL parts later s (l.take q)) parts later).toNat (l.getD q ByteArray.empty) := by
 rw [take_succ_getD (d := ByteArray.empty) h, nextL_snoc]
theorem nextL_fits {s l : List ByteArray} (hf : Fits s parts) (hl : l.Nodup) (hs : ∀ x ∈ l, x ∉ s) : ∀ q, q ≤ l.length → Fits (nextL parts later s (l.take q)) parts
 | 0, _ => by simpa [nextL] using hf
 | q + 1, hq => by
  rw [nextL_take_succ (by omega)]
  refine (nextL_fits hf hl hs q (by omega)).set (fun hc => ?_) _
  have hx : l.getD q ByteArray.empty ∈ l := by simp [show q < l.length by omega]
  rcases nextL_mem _ _ _ hc with h1 | h1
  ·exact hs _ hx h1
  ·obtain ⟨j, hj, e⟩ := List.mem_iff_getElem.1 h1
   have hj' : j < q ∧ j < l.length := by simp at hj; omega
   rw [List.getElem_take] at e
   have hd := List.pairwise_iff_getElem.1 hl j q hj'.2 (by omega) hj'.1
   apply hd
   rw [e]
   simp [show q < l.length by omega]
theorem nextL_not {s l : List ByteArray} (hl : l.Nodup) (hs : ∀ x ∈ l, x ∉ s) {q : Nat} (hq : q < l.length) : l.getD q ByteArray.empty ∉ nextL parts later s (l.take q) := fun hc => by
 have hx : l.getD q ByteArray.empty ∈ l := by simp [hq]
 rcases nextL_mem _ _ _ hc with h1 | h1
 ·exact hs _ hx h1
 ·obtain ⟨j, hj, e⟩ := List.mem_iff_getElem.1 h1
  have hj' : j < q ∧ j < l.length := by simp at hj; omega
  rw [List.getElem_take] at e
  have hd := List.pairwise_iff_getElem.1 hl j q hj'.2 (by omega) hj'.1
  apply hd
  rw [e]
  simp [hq]
end
theorem slotF_of_neg {s parts : List ByteArray} {later : List (List ByteArray)} (h : fidx (fun x => sEq ε x) s < 0) : slotF s parts later = (vic s parts later s.length).1 := by rw [slotF, if_pos h]
theorem slotF_of_pos {s parts : List ByteArray} {later : List (List ByteArray)} (h : 0 ≤ fidx (fun x => sEq ε x) s) : slotF s parts later = fidx (fun x => sEq ε x) s := by rw [slotF, if_neg (by omega)]
theorem keyF_size {x : ByteArray} (h : keyF x = true) : 1 ≤ x.size ∧ x.size ≤ 40 := by
 unfold keyF at h
 simp only [Bool.and_eq_true, decide_eq_true_eq] at h
 exact ⟨h.1.1.1, h.1.1.2⟩
theorem canE_key {l : List ByteArray} {i : Nat} (h : canE l i = 0) : keyF (l.getD i ByteArray.empty) = true := by
 cases hk : keyF (l.getD i ByteArray.empty) with
 | true => rfl
 | false => rw [canE_5 hk] at h; cases h
theorem canE_lt {l : List ByteArray} {i : Nat} (h : canE l i = 0) (h0 : 0 < i) : sLt (l.getD (i - 1) ByteArray.empty) (l.getD i ByteArray.empty) = true := by
 have hk := canE_key h
 cases hs : sLe (l.getD i ByteArray.empty) (l.getD (i - 1) ByteArray.empty) with
 | true => rw [canE_7 hk h0 hs] at h; cases h
 | false => exact sLt_of_not hs
theorem can_sort {l : List ByteArray} (h : ∀ j, j < l.length → canE l j = 0) : SortS l := by
 intro a b hab hb
 induction b with
 | zero => omega
 | succ b ih =>
  have h1 := canE_lt (h (b + 1) hb) (by omega)
  simp only [Nat.add_sub_cancel] at h1
  by_cases e : a = b
  ·subst e; exact h1
  ·exact sLt_trans (ih (by omega) (by omega)) h1
theorem sort_nodup {l : List ByteArray} (h : SortS l) : l.Nodup := by
 rw [List.Nodup, List.pairwise_iff_getElem]
 intro i j hi hj hij e
 have := h i j hij hj
 simp only [List.getD_eq_getElem?_getD, List.getElem?_eq_getElem hi, List.getElem?_eq_getElem hj, Option.getD_some, e] at this
 rw [sLt_irr] at this; cases this
theorem getD_mem {l : List ByteArray} {x : ByteArray} (h : x ∈ l) : ∃ j, j < l.length ∧ l.getD j ByteArray.empty = x := by
 obtain ⟨j, hj, rfl⟩ := List.mem_iff_getElem.1 h
 exact ⟨j, hj, by simp [hj]⟩
theorem size_getD {l : List ByteArray} {m : Nat} (h : ∀ x ∈ l, x.size ≤ m) (i : Nat) : (l.getD i ByteArray.empty).size ≤ m := by
 by_cases hi : i < l.length
 ·have := h _ (List.getElem_mem hi)
  simpa [hi] using this
 ·simp [List.getD_eq_getElem?_getD, List.getElem?_eq_none (by omega : l.length ≤ i)]
structure RightP (n : Nat) (l : List ByteArray) : Prop where
 len : l.length ≤ n
 can : ∀ j, j < l.length → canE l j = 0
theorem RightP.of {n : Int} {m : Nat} (hn : n = m) {p : List (List ByteArray)} (h : partsF n p = 0) {q : Nat} (hq : q < p.length) : RightP m (p.getD q default) := by
 obtain ⟨_, _, h3⟩ := partsF_zero h
 obtain ⟨k1, k2⟩ := partE_zero (h3 q hq)
 exact ⟨by omega, k2⟩
theorem RightP.nil (n : Nat) : RightP n [] := ⟨by simp, fun j hj => by simp at hj⟩
section
variable {n : Nat} {l s : List ByteArray}
theorem RightP.keys (h : RightP n l) : ∀ x ∈ l, 1 ≤ x.size ∧ x.size ≤ 40 := fun x hx => by
 obtain ⟨j, hj, rfl⟩ := getD_mem hx
 exact keyF_size (canE_key (h.can j hj))
theorem RightP.sms (h : RightP n l) (hn : n ≤ 1000000000) : SmS l := ⟨by have := h.len; omega, size_getD fun x hx => by have := h.keys x hx; omega⟩
theorem setup_once (h : setupF s = 0) : ∀ i j, i < j → j < s.length → s.getD i ByteArray.empty = s.getD j ByteArray.empty → s.getD j ByteArray.empty = ε := fun i j hij hj e => by
 have h0 := setupF_zero h j hj
 cases he : sEq (s.getD j ByteArray.empty) ε with
 | true => exact sEq_eq.1 he
 | false =>
  exfalso
  cases hk : keyF (s.getD j ByteArray.empty) with
  | false => rw [setupE_5 he hk] at h0; cases h0
  | true =>
   have hh : has (s.take j) (s.getD j ByteArray.empty) = true := by
    rw [has_iff, ← e]
    have hi : i < (s.take j).length := by simp; omega
    have : (s.take j)[i] = s.getD i ByteArray.empty := by simp [show i < s.length by omega]
    rw [← this]; exact List.getElem_mem hi
   rw [setupE_6 he hk hh] at h0; cases h0
theorem setup_size (h : setupF s = 0) : ∀ x ∈ s, x.size ≤ 40 := fun x hx => by
 obtain ⟨j, hj, rfl⟩ := getD_mem hx
 have h0 := setupF_zero h j hj
 cases he : sEq (s.getD j ByteArray.empty) ε with
 | true => rw [sEq_eq.1 he]; decide
 | false =>
  cases hk : keyF (s.getD j ByteArray.empty) with
  | false => rw [setupE_5 he hk] at h0; cases h0
  | true => exact (keyF_size hk).2
theorem RightP.fits (h : RightP s.length l) (ho : ∀ i j, i < j → j < s.length → s.getD i ByteArray.empty = s.getD j ByteArray.empty → s.getD j ByteArray.empty = ε) : Fits s l :=
 ⟨ho, h.len, fun x hx e => by have := h.keys x hx; rw [e] at this; exact absurd this.1 (by decide), sort_nodup (can_sort h.can)⟩
end
structure Good' (s : List ByteArray) : Prop where
 pos : 0 < s.length
 len : s.length ≤ 100
 once : ∀ i j, i < j → j < s.length → s.getD i ByteArray.empty = s.getD j ByteArray.empty → s.getD j ByteArray.empty = ε
 size : ∀ x ∈ s, x.size ≤ 40
theorem Good'.of {s : List ByteArray} (h : setupF s = 0) : Good' s := ⟨(setupF_len h).1, (setupF_len h).2, setup_once h, setup_size h⟩
theorem Good'.sms {s : List ByteArray} (h : Good' s) : SmS s := ⟨by have := h.len; omega, size_getD fun x hx => by have := h.size x hx; omega⟩
theorem Good'.next {s l : List ByteArray} (h : Good' s) (hl : RightP s.length l) (later : List (List ByteArray)) (q : Nat) (hq : q ≤ (missF s l).length) : Good' (nextL l later s ((missF s l).take q)) := by
 have hf := hl.fits h.once
 have hn := nextL_fits (later := later) hf (missF_nodup hf.pnd) (fun x hx => (missF_mem.1 hx).2) q hq
 refine ⟨by rw [nextL_len]; exact h.pos, by rw [nextL_len]; exact h.len, hn.once, fun x hx => ?_⟩
 rcases nextL_mem _ _ _ hx with h1 | h1
 ·exact h.size x h1
 ·exact (hl.keys x (missF_mem.1 (List.mem_of_mem_take h1)).1).2
theorem Good'.nextF {s l : List ByteArray} (h : Good' s) (hl : RightP s.length l) (later : List (List ByteArray)) : Good' (nextF s l later) := by
 have := h.next hl later (missF s l).length (Nat.le_refl _)
 rwa [List.take_length] at this
theorem nextF_len (s l : List ByteArray) (later : List (List ByteArray)) : (nextF s l later).length = s.length := nextL_len _ _ _ _
def stF (s : List ByteArray) (p : List (List ByteArray)) : Nat → List ByteArray
 | 0 => s
 | q + 1 => nextF (stF s p q) (p.getD q default) (p.drop (q + 1))
def totF (s : List ByteArray) (p : List (List ByteArray)) : Nat → Int
 | 0 => 0
 | q + 1 => totF s p q + (missF (stF s p q) (p.getD q default)).length
theorem stF_len (s : List ByteArray) (p : List (List ByteArray)) : ∀ q, (stF s p q).length = s.length
 | 0 => rfl
 | q + 1 => by rw [stF, nextF_len, stF_len s p q]
theorem stF_good {s : List ByteArray} {p : List (List ByteArray)} (h : Good' s) (hp : ∀ q, q < p.length → RightP s.length (p.getD q default)) : ∀ q, q ≤ p.length → Good' (stF s p q)
 | 0, _ => h
 | q + 1, hq => (stF_good h hp q (by omega)).nextF (by rw [stF_len]; exact hp q (by omega)) _
theorem totF_in {s : List ByteArray} {p : List (List ByteArray)} (hs : s.length ≤ 100) (hp : ∀ q, q < p.length → RightP s.length (p.getD q default)) : ∀ q, q ≤ p.length → 0 ≤ totF s p q ∧ totF s p q ≤ 100 * q
 | 0, _ => by simp [totF]
 | q + 1, hq => by
  have ih := totF_in hs hp q (by omega)
  have h1 := missF_len (stF s p q) (p.getD q default)
  have h2 := (hp q (by omega)).len
  rw [totF]
  omega
theorem totF_mono {s : List ByteArray} {p : List (List ByteArray)} {a b : Nat} (h : a ≤ b) : totF s p a ≤ totF s p b := by
 induction b with
 | zero => rw [show a = 0 by omega]; exact Int.le_refl _
 | succ b ih =>
  by_cases e : a = b + 1
  ·rw [e]; exact Int.le_refl _
  ·have := ih (by omega)
   rw [totF]; omega
def totalF (s : List ByteArray) (p : List (List ByteArray)) (most : Int) : Int := if p.length = 0 then 0 else if most ≤ totF s p p.length then most else totF s p p.length
end
section
theorem slices_IndexFunc_LL {xs : List (List ByteArray)} {F : FuncId} {cs : List AV} {p : List ByteArray → Bool} (hl : xs.length ≤ 1000000000) (hcall : ∀ us w, (callFunc F us).run Tryz.prog w = .ok (.enter F us) w) (hF : ∀ i, i < xs.length → Spec Tryz.prog F ([avStrs (xs.getD i default)] ++ cs) (fun y => y = avB (p (xs.getD i default)))) :
  SpecN Tryz.prog 387 [avM xs, .fn F cs] (fun y => y = avI (fidx p xs)) := by
 refine SpecN.of_VCN Tryz.func387 rfl Tryz.ntmps387 (Nle rfl) fun w A hB => ?_
 refine VC.sr ?_
 refine VO.ma rfl rfl rfl rfl ?_
 refine VO.nil ?_
 refine VC.seq ?_
 refine VC.sr ?_
 refine VO.mv rfl rfl rfl rfl ?_
 refine VO.val rfl rfl (OpV.len_im rfl Tryz.underlying169 rfl) ?_
 refine VO.mv rfl rfl rfl rfl ?_
 refine VO.nil ?_
 refine VC.block ?_
 refine VC.loopK [(0, _), (1, _), (7, _)] ⟨rfl, rfl, rfl, trivial⟩ ({q : Nat // q ≤ xs.length ∧ ∀ j, j < q → p (xs.getD j default) = false}) (fun (iZ : {q : Nat // q ≤ xs.length ∧ ∀ j, j < q → p (xs.getD j default) = false}) => match iZ with | ⟨q, hq, hn⟩ => [(8, avI (q : Int))]) (fun (iZ : {q : Nat // q ≤ xs.length ∧ ∀ j, j < q → p (xs.getD j default) = false}) => match iZ with | ⟨q, hq, hn⟩ => []) (fun (iZ : {q : Nat // q ≤ xs.length ∧ ∀ j, j < q → p (xs.getD j default) = false}) => match iZ with | ⟨q, hq, hn⟩ => 0) (fun (iZ : {q : Nat // q ≤ xs.length ∧ ∀ j, j < q → p (xs.getD j default) = false}) => match iZ with | ⟨q, hq, hn⟩ => xs.length - q) ⟨0, Nat.zero_le _, fun j hj => absurd hj (Nat.not_lt_zero j)⟩ (Le.mk hB [] ⟨rfl, rfl, rfl, rfl, trivial⟩ rfl rfl (Nat.le_refl _)) ?_
 rintro ⟨q, hq, hn⟩
 show VC _ _ _ _ ⟨[(8, avI (q : Int))] ++ [(0, _), (1, _), (7, _)], [], 0⟩
 refine VC.sr ?_
 refine VO.val rfl rfl (OpV.lss rfl rfl rfl) ?_
 refine VO.nil ?_
 refine VC.seq ?_
 refine VC.cond rfl (fun aH1b => ?_) (fun aH1b => ?_)
 ·have aH1 := aH1b
  try simp only [qq] at aH1
  refine VC.skip ?_
  refine VC.seq ?_
  refine VC.block ?_
  refine VC.sr ?_
  refine VO.mv rfl rfl rfl rfl ?_
  refine VO.ma rfl rfl rfl rfl ?_
  refine VO.nil ?_
  refine VC.sr ?_
  refine VO.mv rfl rfl rfl rfl ?_
  refine VO.mv rfl rfl rfl rfl ?_
  refine VO.mv rfl rfl rfl rfl ?_
  refine VO.val rfl rfl (OpV.indexAddr_1 rfl Tryz.underlying169 Tryz.sizeOf82 rfl rfl rfl (by omega)) ?_
  refine VO.val rfl rfl (OpV.load_at rfl hB OutW.no Tryz.isAgg82 rfl rfl) ?_
  refine VO.op rfl (OpE.callF rfl hB rfl hcall rfl rfl (hF q (by omega)) ?_)
  rintro _ rfl
  refine VO.nil ?_
  refine VC.cond rfl (fun aH2b => ?_) (fun aH2b => ?_)
  ·have aH2 := aH2b
   try simp only [qq] at aH2
   refine VC.sr ?_
   refine VO.mv rfl rfl rfl rfl ?_
   refine VO.ma rfl rfl rfl rfl ?_
   refine VO.nil ?_
   refine VC.ret ?_
   exact Exists.intro _ (And.intro (RetN.one Tryz.results387 (ResN.v rfl)) (by first | (rw [fidx_found (d := default) (q := q) (by omega) hn (by assumption)]) | (rw [fidx_none (d := default) (fun j hj => hn j (by omega))])))
  ·have aH2 := aH2b
   try simp only [qq] at aH2
   refine VC.skip ?_
   refine VC.region ?_
   refine VO.val rfl rfl (OpV.add rfl rfl rfl (by unfold fits; omega)) ?_
   refine VO.mv rfl rfl rfl rfl ?_
   refine VO.nil ?_
   exact Exists.intro (⟨q + 1, by omega, lt_succ_cases hn (by assumption)⟩) (And.intro (Le.mk hB [] ⟨rfl, rfl, rfl, rfl, trivial⟩ rfl rfl (Nat.le_refl _)) (by first | omega | (show _ < _; omega) | (simp only []; omega)))
 ·have aH1 := aH1b
  try simp only [qq] at aH1
  refine VC.exit ?_
  refine VC.sr ?_
  refine VO.ma rfl rfl rfl rfl ?_
  refine VO.nil ?_
  refine VC.ret ?_
  exact Exists.intro _ (And.intro (RetN.one Tryz.results387 (ResN.v rfl)) (by first | (rw [fidx_found (d := default) (q := q) (by omega) hn (by assumption)]) | (rw [fidx_none (d := default) (fun j hj => hn j (by omega))])))
theorem setup_needed1 {l : List ByteArray} {x : ByteArray} (hl : l.length ≤ 1000000000) :
  SpecN Tryz.prog 388 [avStrs l, .at_ 1 (fun _ => avS x)] (fun y => y = avB (has l x)) := by
 refine SpecN.of_VCN Tryz.func388 rfl Tryz.ntmps388 (Nle rfl) fun w A hB => ?_
 refine VC.sr ?_
 refine VO.ma rfl rfl rfl rfl ?_
 refine VO.nil ?_
 refine VC.sr ?_
 refine VO.mv rfl rfl rfl rfl ?_
 refine VO.val rfl rfl (OpV.load_at rfl hB OutW.no Tryz.isAgg9 rfl rfl) ?_
 refine VO.op rfl (OpE.call rfl hB rfl Tryz.call86 rfl (SpecN.spec (slices_Contains_str hl)) ?_)
 rintro _ rfl
 refine VO.ma rfl rfl rfl rfl ?_
 refine VO.nil ?_
 refine VC.ret ?_
 exact Exists.intro _ (And.intro (RetN.one Tryz.results388 (ResN.v rfl)) (rfl))
theorem setup_needed {x : ByteArray} {later : List (List ByteArray)} (hp : SmSS later) :
  SpecN Tryz.prog 366 [avS x, avM later] (fun y => y = avI (needF x later)) := by
 have hl := hp.1
 refine SpecN.of_VCN Tryz.func366 rfl Tryz.ntmps366 (Nle rfl) fun w A hB => ?_
 refine VC.sr ?_
 refine VO.op rfl (OpE.box rfl hB rfl rfl rfl ?_)
 intro g2
 refine VO.ma rfl rfl rfl rfl ?_
 refine VO.nil ?_
 refine VC.seq ?_
 refine VC.sr ?_
 refine VO.mv rfl rfl rfl rfl ?_
 refine VO.val rfl rfl (OpV.makeFunc1 rfl rfl) ?_
 refine VO.op rfl (OpE.callL rfl hB rfl Tryz.call387 (slices_IndexFunc_LL (p := fun l => has l x) hl Tryz.call388 (fun i hi => (setup_needed1 (hp.2 i).1).spec)) (ArgsP.cons (ArgP.ev rfl) (ArgsP.cons (ArgP.fn1 (i := 0) (m := 1) (f := fun _ => avS x) rfl rfl (Nle rfl) (lt1 rfl)) (ArgsP.nil))) ?_)
 rintro _ rfl
 refine VO.ma rfl rfl rfl rfl ?_
 refine VO.nil ?_
 refine VC.sr ?_
 refine VO.mv rfl rfl rfl rfl ?_
 refine VO.val rfl rfl (OpV.geq rfl rfl rfl) ?_
 refine VO.nil ?_
 refine VC.cond rfl (fun h0b => ?_) (fun h0b => ?_)
 ·have h0 := h0b
  try simp only [qq] at h0
  refine VC.sr ?_
  refine VO.mv rfl rfl rfl rfl ?_
  refine VO.ma rfl rfl rfl rfl ?_
  refine VO.nil ?_
  refine VC.ret ?_
  exact Exists.intro _ (And.intro (RetN.one Tryz.results366 (ResN.v rfl)) (by first | rw [needF, if_pos h0] | rw [needF, if_neg (by omega)]))
 ·have h0 := h0b
  try simp only [qq] at h0
  refine VC.skip ?_
  refine VC.sr ?_
  refine VO.mv rfl rfl rfl rfl ?_
  refine VO.val rfl rfl (OpV.len_im rfl Tryz.underlying169 rfl) ?_
  refine VO.ma rfl rfl rfl rfl ?_
  refine VO.nil ?_
  refine VC.ret ?_
  exact Exists.intro _ (And.intro (RetN.one Tryz.results366 (ResN.v rfl)) (by first | rw [needF, if_pos h0] | rw [needF, if_neg (by omega)]))
theorem setup_victim {s parts : List ByteArray} {later : List (List ByteArray)} (hs : s.length ≤ 1000000000) (hp : parts.length ≤ 1000000000) (hl : SmSS later) :
  SpecN Tryz.prog 314 [avStrs s, avStrs parts, avM later] (fun y => y = avI (vic s parts later s.length).1) := by
 have hll := hl.1
 refine SpecN.of_VCN Tryz.func314 rfl Tryz.ntmps314 (Nle rfl) fun w A hB => ?_
 refine VC.sr ?_
 refine VO.ma rfl rfl rfl rfl ?_
 refine VO.nil ?_
 refine VC.sr ?_
 refine VO.ma rfl rfl rfl rfl ?_
 refine VO.ma rfl rfl rfl rfl ?_
 refine VO.nil ?_
 refine VC.seq ?_
 refine VC.sr ?_
 refine VO.mv rfl rfl rfl rfl ?_
 refine VO.val rfl rfl (OpV.len_im rfl Tryz.underlying82 rfl) ?_
 refine VO.mv rfl rfl rfl rfl ?_
 refine VO.nil ?_
 refine VC.block ?_
 refine VC.loopK [(0, _), (1, _), (2, _), (12, _), (13, _)] ⟨rfl, rfl, rfl, rfl, rfl, trivial⟩ ({q : Nat // q ≤ s.length}) (fun (iZ : {q : Nat // q ≤ s.length}) => match iZ with | ⟨q, hq⟩ => [(7, avI (vic s parts later q).1), (8, avI (vic s parts later q).2), (14, avI (q : Int))]) (fun (iZ : {q : Nat // q ≤ s.length}) => match iZ with | ⟨q, hq⟩ => []) (fun (iZ : {q : Nat // q ≤ s.length}) => match iZ with | ⟨q, hq⟩ => 0) (fun (iZ : {q : Nat // q ≤ s.length}) => match iZ with | ⟨q, hq⟩ => s.length - q) ⟨0, Nat.zero_le _⟩ (Le.mk hB [] ⟨rfl, rfl, rfl, rfl, rfl, rfl, rfl, rfl, trivial⟩ rfl rfl (Nat.le_refl _)) ?_
 rintro ⟨q, hq⟩
 show VC _ _ _ _ ⟨[(7, avI (vic s parts later q).1), (8, avI (vic s parts later q).2), (14, avI (q : Int))] ++ [(0, _), (1, _), (2, _), (12, _), (13, _)], [], 0⟩
 refine VC.sr ?_
 refine VO.val rfl rfl (OpV.lss rfl rfl rfl) ?_
 refine VO.nil ?_
 refine VC.seq ?_
 refine VC.cond rfl (fun aH1b => ?_) (fun aH1b => ?_)
 ·have aH1 := aH1b
  try simp only [qq] at aH1
  refine VC.skip ?_
  refine VC.seq ?_
  refine VC.block ?_
  refine VC.sr ?_
  refine VO.mv rfl rfl rfl rfl ?_
  refine VO.val rfl rfl (OpV.indexAddr_1 rfl Tryz.underlying82 Tryz.sizeOf9 rfl rfl rfl (by omega)) ?_
  refine VO.val rfl rfl (OpV.load_at rfl hB OutW.no Tryz.isAgg9 rfl rfl) ?_
  refine VO.ma rfl rfl rfl rfl ?_
  refine VO.ma rfl rfl rfl rfl ?_
  refine VO.nil ?_
  refine VC.seq ?_
  refine VC.sr ?_
  refine VO.mv rfl rfl rfl rfl ?_
  refine VO.mv rfl rfl rfl rfl ?_
  refine VO.op rfl (OpE.call rfl hB rfl Tryz.call86 rfl (SpecN.spec (slices_Contains_str hp)) ?_)
  rintro _ rfl
  refine VO.nil ?_
  refine VC.cond rfl (fun h1b => ?_) (fun h1b => ?_)
  ·have h1 := h1b
   try simp only [qq] at h1
   refine VC.exit ?_
   refine VC.region ?_
   refine VO.val rfl rfl (OpV.add rfl rfl rfl (by unfold fits; omega)) ?_
   refine VO.mv rfl rfl rfl rfl ?_
   refine VO.nil ?_
   exact Exists.intro (⟨q + 1, by omega⟩) (And.intro (Le.mk hB [] ⟨(by dsimp only; first | (rw [vic_has h1]; rfl) | (rw [vic_new h1 (.inl (by assumption))]; rfl) | (rw [vic_new h1 (.inr ⟨by assumption, not_true_false h2b⟩)]; rfl) | (rw [vic_old (s := s) (parts := parts) (later := later) (q := q) h1 (by rintro (h8 | ⟨h8, h9⟩); exact absurd h8 (by omega); exact absurd (h9.symm.trans (not_false_true h2b)) Bool.false_ne_true)]; rfl) | (rw [vic_old (s := s) (parts := parts) (later := later) (q := q) h1 (by rintro (h8 | ⟨h8, h9⟩); omega; omega)]; rfl)), (by dsimp only; first | (rw [vic_has h1]; rfl) | (rw [vic_new h1 (.inl (by assumption))]; rfl) | (rw [vic_new h1 (.inr ⟨by assumption, not_true_false h2b⟩)]; rfl) | (rw [vic_old (s := s) (parts := parts) (later := later) (q := q) h1 (by rintro (h8 | ⟨h8, h9⟩); exact absurd h8 (by omega); exact absurd (h9.symm.trans (not_false_true h2b)) Bool.false_ne_true)]; rfl) | (rw [vic_old (s := s) (parts := parts) (later := later) (q := q) h1 (by rintro (h8 | ⟨h8, h9⟩); omega; omega)]; rfl)), rfl, rfl, rfl, rfl, rfl, rfl, trivial⟩ rfl rfl (Nat.le_refl _)) (by first | omega | (show _ < _; omega) | (simp only []; omega)))
  ·have h1 := h1b
   try simp only [qq] at h1
   refine VC.skip ?_
   refine VC.sr ?_
   refine VO.mv rfl rfl rfl rfl ?_
   refine VO.mv rfl rfl rfl rfl ?_
   refine VO.op rfl (OpE.call rfl hB rfl Tryz.call366 rfl (SpecN.spec (setup_needed hl)) ?_)
   rintro _ rfl
   refine VO.ma rfl rfl rfl rfl ?_
   refine VO.nil ?_
   refine VC.sr ?_
   refine VO.mv rfl rfl rfl rfl ?_
   refine VO.mv rfl rfl rfl rfl ?_
   refine VO.val rfl rfl (OpV.gtr rfl rfl rfl) ?_
   refine VO.mv rfl rfl rfl rfl ?_
   refine VO.opG rfl rfl rfl rfl (fun aK2b => ?_) (fun aK2b => ?_)
   ·replace aK2b : _ = false := aK2b
    have aK2 := aK2b
    try simp only [qq] at aK2
    refine OpE.val (W := NoB) (OpV.move (.inl rfl) rfl) rfl ?_
    refine VO.opY rfl rfl rfl rfl aK2b ?_
    refine OpE.val (W := NoB) (OpV.move (.inl rfl) rfl) rfl ?_
    refine VO.opY rfl rfl rfl rfl aK2b ?_
    refine OpE.val (W := NoB) (OpV.eql rfl rfl rfl) rfl ?_
    refine VO.opY rfl rfl rfl rfl aK2b ?_
    refine OpE.val (W := NoB) (OpV.move (.inl rfl) rfl) rfl ?_
    refine VO.opG rfl rfl rfl rfl (fun aK3b => ?_) (fun aK3b => ?_)
    ·replace aK3b : _ = true := aK3b
     have aK3 := aK3b
     try simp only [qq] at aK3
     refine OpE.val (W := NoB) (OpV.move (.inl rfl) rfl) rfl ?_
     refine VO.opY rfl rfl rfl rfl aK3b ?_
     refine OpE.val (W := NoB) (OpV.move (.inl rfl) rfl) rfl ?_
     refine VO.opY rfl rfl rfl rfl aK3b ?_
     refine OpE.val (W := NoB) (OpV.move (.inl rfl) rfl) rfl ?_
     refine VO.opY rfl rfl rfl rfl aK3b ?_
     refine OpE.val (W := NoB) (OpV.indexAddr_1 rfl Tryz.underlying82 Tryz.sizeOf9 rfl rfl (Int.toNat_of_nonneg (vic_tie (by assumption)).1).symm (by have h7 := vic_tie (s := s) (parts := parts) (by assumption); omega)) rfl ?_
     refine VO.opY rfl rfl rfl rfl aK3b ?_
     refine OpE.val (W := NoB) (OpV.load_at rfl hB OutW.no Tryz.isAgg9 rfl rfl) rfl ?_
     refine VO.opY rfl rfl rfl rfl aK3b ?_
     refine OpE.val (W := NoB) (OpV.sgtr rfl rfl rfl) rfl ?_
     refine VO.opY rfl rfl rfl rfl aK2b ?_
     refine OpE.val (W := NoB) (OpV.pickT rfl rfl rfl rfl aK3b) rfl ?_
     refine VO.val rfl rfl (OpV.pickF rfl rfl rfl rfl aK2b) ?_
     refine VO.nil ?_
     refine VC.cond rfl (fun h2b => ?_) (fun h2b => ?_)
     ·have h2 := h2b
      try simp only [qq] at h2
      refine VC.region ?_
      refine VO.mv rfl rfl rfl rfl ?_
      refine VO.mv rfl rfl rfl rfl ?_
      refine VO.ma rfl rfl rfl rfl ?_
      refine VO.ma rfl rfl rfl rfl ?_
      refine VO.nil ?_
      refine VC.region ?_
      refine VO.val rfl rfl (OpV.add rfl rfl rfl (by unfold fits; omega)) ?_
      refine VO.mv rfl rfl rfl rfl ?_
      refine VO.nil ?_
      exact Exists.intro (⟨q + 1, by omega⟩) (And.intro (Le.mk hB [] ⟨(by dsimp only; first | (rw [vic_has h1]; rfl) | (rw [vic_new h1 (.inl (by assumption))]; rfl) | (rw [vic_new h1 (.inr ⟨by assumption, not_true_false h2b⟩)]; rfl) | (rw [vic_old (s := s) (parts := parts) (later := later) (q := q) h1 (by rintro (h8 | ⟨h8, h9⟩); exact absurd h8 (by omega); exact absurd (h9.symm.trans (not_false_true h2b)) Bool.false_ne_true)]; rfl) | (rw [vic_old (s := s) (parts := parts) (later := later) (q := q) h1 (by rintro (h8 | ⟨h8, h9⟩); omega; omega)]; rfl)), (by dsimp only; first | (rw [vic_has h1]; rfl) | (rw [vic_new h1 (.inl (by assumption))]; rfl) | (rw [vic_new h1 (.inr ⟨by assumption, not_true_false h2b⟩)]; rfl) | (rw [vic_old (s := s) (parts := parts) (later := later) (q := q) h1 (by rintro (h8 | ⟨h8, h9⟩); exact absurd h8 (by omega); exact absurd (h9.symm.trans (not_false_true h2b)) Bool.false_ne_true)]; rfl) | (rw [vic_old (s := s) (parts := parts) (later := later) (q := q) h1 (by rintro (h8 | ⟨h8, h9⟩); omega; omega)]; rfl)), rfl, rfl, rfl, rfl, rfl, rfl, trivial⟩ rfl rfl (Nat.le_refl _)) (by first | omega | (show _ < _; omega) | (simp only []; omega)))
     ·have h2 := h2b
      try simp only [qq] at h2
      refine VC.skip ?_
      refine VC.region ?_
      refine VO.val rfl rfl (OpV.add rfl rfl rfl (by unfold fits; omega)) ?_
      refine VO.mv rfl rfl rfl rfl ?_
      refine VO.nil ?_
      exact Exists.intro (⟨q + 1, by omega⟩) (And.intro (Le.mk hB [] ⟨(by dsimp only; first | (rw [vic_has h1]; rfl) | (rw [vic_new h1 (.inl (by assumption))]; rfl) | (rw [vic_new h1 (.inr ⟨by assumption, not_true_false h2b⟩)]; rfl) | (rw [vic_old (s := s) (parts := parts) (later := later) (q := q) h1 (by rintro (h8 | ⟨h8, h9⟩); exact absurd h8 (by omega); exact absurd (h9.symm.trans (not_false_true h2b)) Bool.false_ne_true)]; rfl) | (rw [vic_old (s := s) (parts := parts) (later := later) (q := q) h1 (by rintro (h8 | ⟨h8, h9⟩); omega; omega)]; rfl)), (by dsimp only; first | (rw [vic_has h1]; rfl) | (rw [vic_new h1 (.inl (by assumption))]; rfl) | (rw [vic_new h1 (.inr ⟨by assumption, not_true_false h2b⟩)]; rfl) | (rw [vic_old (s := s) (parts := parts) (later := later) (q := q) h1 (by rintro (h8 | ⟨h8, h9⟩); exact absurd h8 (by omega); exact absurd (h9.symm.trans (not_false_true h2b)) Bool.false_ne_true)]; rfl) | (rw [vic_old (s := s) (parts := parts) (later := later) (q := q) h1 (by rintro (h8 | ⟨h8, h9⟩); omega; omega)]; rfl)), rfl, rfl, rfl, rfl, rfl, rfl, trivial⟩ rfl rfl (Nat.le_refl _)) (by first | omega | (show _ < _; omega) | (simp only []; omega)))
    ·replace aK3b : _ = false := aK3b
     have aK3 := aK3b
     try simp only [qq] at aK3
     refine VO.opX rfl rfl rfl rfl aK3b ?_
     refine VO.opX rfl rfl rfl rfl aK3b ?_
     refine VO.opX rfl rfl rfl rfl aK3b ?_
     refine VO.opX rfl rfl rfl rfl aK3b ?_
     refine VO.opX rfl rfl rfl rfl aK3b ?_
     refine VO.opY rfl rfl rfl rfl aK2b ?_
     refine OpE.val (W := NoB) (OpV.pickF rfl rfl rfl rfl aK3b) rfl ?_
     refine VO.val rfl rfl (OpV.pickF rfl rfl rfl rfl aK2b) ?_
     refine VO.nil ?_
     refine VC.condF rfl rfl ?_
     refine VC.skip ?_
     refine VC.region ?_
     refine VO.val rfl rfl (OpV.add rfl rfl rfl (by unfold fits; omega)) ?_
     refine VO.mv rfl rfl rfl rfl ?_
     refine VO.nil ?_
     exact Exists.intro (⟨q + 1, by omega⟩) (And.intro (Le.mk hB [] ⟨(by dsimp only; first | (rw [vic_has h1]; rfl) | (rw [vic_new h1 (.inl (by assumption))]; rfl) | (rw [vic_new h1 (.inr ⟨by assumption, not_true_false h2b⟩)]; rfl) | (rw [vic_old (s := s) (parts := parts) (later := later) (q := q) h1 (by rintro (h8 | ⟨h8, h9⟩); exact absurd h8 (by omega); exact absurd (h9.symm.trans (not_false_true h2b)) Bool.false_ne_true)]; rfl) | (rw [vic_old (s := s) (parts := parts) (later := later) (q := q) h1 (by rintro (h8 | ⟨h8, h9⟩); omega; omega)]; rfl)), (by dsimp only; first | (rw [vic_has h1]; rfl) | (rw [vic_new h1 (.inl (by assumption))]; rfl) | (rw [vic_new h1 (.inr ⟨by assumption, not_true_false h2b⟩)]; rfl) | (rw [vic_old (s := s) (parts := parts) (later := later) (q := q) h1 (by rintro (h8 | ⟨h8, h9⟩); exact absurd h8 (by omega); exact absurd (h9.symm.trans (not_false_true h2b)) Bool.false_ne_true)]; rfl) | (rw [vic_old (s := s) (parts := parts) (later := later) (q := q) h1 (by rintro (h8 | ⟨h8, h9⟩); omega; omega)]; rfl)), rfl, rfl, rfl, rfl, rfl, rfl, trivial⟩ rfl rfl (Nat.le_refl _)) (by first | omega | (show _ < _; omega) | (simp only []; omega)))
   ·replace aK2b : _ = true := aK2b
    have aK2 := aK2b
    try simp only [qq] at aK2
    refine VO.opX rfl rfl rfl rfl aK2b ?_
    refine VO.opX rfl rfl rfl rfl aK2b ?_
    refine VO.opX rfl rfl rfl rfl aK2b ?_
    refine VO.opU rfl rfl rfl rfl ?_
    refine VO.opU rfl rfl rfl rfl ?_
    refine VO.opU rfl rfl rfl rfl ?_
    refine VO.opU rfl rfl rfl rfl ?_
    refine VO.opU rfl rfl rfl rfl ?_
    refine VO.opU rfl rfl rfl rfl ?_
    refine VO.opX rfl rfl rfl rfl aK2b ?_
    refine VO.val rfl rfl (OpV.pickT rfl rfl rfl rfl aK2b) ?_
    refine VO.nil ?_
    refine VC.condT rfl rfl ?_
    refine VC.region ?_
    refine VO.mv rfl rfl rfl rfl ?_
    refine VO.mv rfl rfl rfl rfl ?_
    refine VO.ma rfl rfl rfl rfl ?_
    refine VO.ma rfl rfl rfl rfl ?_
    refine VO.nil ?_
    refine VC.region ?_
    refine VO.val rfl rfl (OpV.add rfl rfl rfl (by unfold fits; omega)) ?_
    refine VO.mv rfl rfl rfl rfl ?_
    refine VO.nil ?_
    exact Exists.intro (⟨q + 1, by omega⟩) (And.intro (Le.mk hB [] ⟨(by dsimp only; first | (rw [vic_has h1]; rfl) | (rw [vic_new h1 (.inl (by assumption))]; rfl) | (rw [vic_new h1 (.inr ⟨by assumption, not_true_false h2b⟩)]; rfl) | (rw [vic_old (s := s) (parts := parts) (later := later) (q := q) h1 (by rintro (h8 | ⟨h8, h9⟩); exact absurd h8 (by omega); exact absurd (h9.symm.trans (not_false_true h2b)) Bool.false_ne_true)]; rfl) | (rw [vic_old (s := s) (parts := parts) (later := later) (q := q) h1 (by rintro (h8 | ⟨h8, h9⟩); omega; omega)]; rfl)), (by dsimp only; first | (rw [vic_has h1]; rfl) | (rw [vic_new h1 (.inl (by assumption))]; rfl) | (rw [vic_new h1 (.inr ⟨by assumption, not_true_false h2b⟩)]; rfl) | (rw [vic_old (s := s) (parts := parts) (later := later) (q := q) h1 (by rintro (h8 | ⟨h8, h9⟩); exact absurd h8 (by omega); exact absurd (h9.symm.trans (not_false_true h2b)) Bool.false_ne_true)]; rfl) | (rw [vic_old (s := s) (parts := parts) (later := later) (q := q) h1 (by rintro (h8 | ⟨h8, h9⟩); omega; omega)]; rfl)), rfl, rfl, rfl, rfl, rfl, rfl, trivial⟩ rfl rfl (Nat.le_refl _)) (by first | omega | (show _ < _; omega) | (simp only []; omega)))
 ·have aH1 := aH1b
  try simp only [qq] at aH1
  refine VC.exit ?_
  refine VC.sr ?_
  refine VO.mv rfl rfl rfl rfl ?_
  refine VO.ma rfl rfl rfl rfl ?_
  refine VO.nil ?_
  refine VC.ret ?_
  exact Exists.intro _ (And.intro (RetN.one Tryz.results314 (ResN.v rfl)) (by rw [show q = s.length by omega]))
end
section
theorem setup_next {s parts : List ByteArray} {later : List (List ByteArray)} {u : Value} (hg : Good' s) (hp : RightP s.length parts) (hl : SmSS later) :
  SpecH Tryz.prog 236 [.v u, avStrs parts, avM later] [.row u s.length 1 (strsL s) 9] (fun y hp' => y = avI (missF s parts).length ∧ hp' = [.row u s.length 1 (strsL (nextF s parts later)) 9]) := by
 have hls := hg.len
 have hlp := hp.len
 have hps := hp.sms (by omega)
 have hml := missF_len s parts
 have hf := hp.fits hg.once
 have hnd := missF_nodup (s := s) hf.pnd
 have hns : ∀ x ∈ missF s parts, x ∉ s := fun x hx => (missF_mem.1 hx).2
 refine SpecH.of_VC Tryz.func236 rfl Tryz.ntmps236 (Nle rfl) fun w A hB => ?_
 refine VC.sr ?_
 refine VO.ma rfl rfl rfl rfl ?_
 refine VO.nil ?_
 refine VC.sr ?_
 refine VO.mv rfl rfl rfl rfl ?_
 refine VO.mv rfl rfl rfl rfl ?_
 refine VO.op rfl (OpE.callL rfl hB rfl Tryz.call313 (setup_missing_N hg.sms hps) (ArgsP.cons (ArgP.rowS (i := 0) rfl rfl rfl) (ArgsP.cons (ArgP.ev rfl) (ArgsP.nil))) ?_)
 rintro _ rfl
 refine VO.ma rfl rfl rfl rfl ?_
 refine VO.nil ?_
 refine VC.seq ?_
 refine VC.sr ?_
 refine VO.mv rfl rfl rfl rfl ?_
 refine VO.val rfl rfl (OpV.len_im rfl Tryz.underlying82 rfl) ?_
 refine VO.mv rfl rfl rfl rfl ?_
 refine VO.nil ?_
 refine VC.block ?_
 refine VC.loopK [(0, _), (1, _), (2, _), (7, _), (14, _), (15, _)] ⟨rfl, rfl, rfl, rfl, rfl, rfl, trivial⟩ ({q : Nat // q ≤ (missF s parts).length}) (fun (iZ : {q : Nat // q ≤ (missF s parts).length}) => match iZ with | ⟨q, hq⟩ => [(16, avI (q : Int))]) (fun (iZ : {q : Nat // q ≤ (missF s parts).length}) => match iZ with | ⟨q, hq⟩ => [.row u s.length 1 (strsL (nextL parts later s ((missF s parts).take q))) 9]) (fun (iZ : {q : Nat // q ≤ (missF s parts).length}) => match iZ with | ⟨q, hq⟩ => 0) (fun (iZ : {q : Nat // q ≤ (missF s parts).length}) => match iZ with | ⟨q, hq⟩ => (missF s parts).length - q) ⟨0, Nat.zero_le _⟩ (Le.mk hB [0] ⟨rfl, rfl, rfl, rfl, rfl, rfl, rfl, trivial⟩ rfl rfl (Nat.le_refl _)) ?_
 rintro ⟨q, hq⟩
 show VC _ _ _ _ ⟨[(16, avI (q : Int))] ++ [(0, _), (1, _), (2, _), (7, _), (14, _), (15, _)], [.row u s.length 1 (strsL (nextL parts later s ((missF s parts).take q))) 9], 0⟩
 refine VC.sr ?_
 refine VO.val rfl rfl (OpV.lss rfl rfl rfl) ?_
 refine VO.nil ?_
 refine VC.seq ?_
 refine VC.cond rfl (fun aH1b => ?_) (fun aH1b => ?_)
 ·have aH1 := aH1b
  try simp only [qq] at aH1
  have hq' : q < (missF s parts).length := by omega
  have hcur := hg.next hp later q (by omega)
  have hcl : (nextL parts later s ((missF s parts).take q)).length = s.length := nextL_len _ _ _ _
  have hx := nextL_not (parts := parts) (later := later) hnd hns hq'
  have hxp : (missF s parts).getD q ByteArray.empty ∈ parts := (missF_mem.1 (by simp [hq'] : (missF s parts).getD q ByteArray.empty ∈ missF s parts)).1
  obtain ⟨k1, k2, k3⟩ := slotF_in (later := later) (nextL_fits (later := later) hf hnd hns q (by omega)) hxp hx
  rw [hcl] at k2
  refine VC.asBox (i := 0) rfl (by omega) (fun g cap hu hcap hmx => ?_)
  subst hu
  refine VC.skip ?_
  refine VC.seq ?_
  refine VC.block ?_
  refine VC.sr ?_
  refine VO.val rfl rfl (OpV.indexAddr_1 rfl Tryz.underlying82 Tryz.sizeOf9 rfl rfl rfl (by omega)) ?_
  refine VO.val rfl rfl (OpV.load_at rfl hB OutW.no Tryz.isAgg9 rfl rfl) ?_
  refine VO.ma rfl rfl rfl rfl ?_
  refine VO.nil ?_
  refine VC.sr ?_
  refine VO.mv rfl rfl rfl rfl ?_
  refine VO.op rfl (OpE.callL rfl hB rfl Tryz.call170 (slices_Index_str (by rw [hcl]; omega)) (ArgsP.cons (ArgP.boxS (i := 0) rfl rfl hcl.symm hcap hmx) (ArgsP.cons (ArgP.ev rfl) (ArgsP.nil))) ?_)
  rintro _ rfl
  refine VO.ma rfl rfl rfl rfl ?_
  refine VO.nil ?_
  refine VC.seq ?_
  refine VC.sr ?_
  refine VO.mv rfl rfl rfl rfl ?_
  refine VO.val rfl rfl (OpV.lss rfl rfl rfl) ?_
  refine VO.nil ?_
  refine VC.cond rfl (fun h1b => ?_) (fun h1b => ?_)
  ·have h1 := h1b
   try simp only [qq] at h1
   have hsl := slotF_of_neg (parts := parts) (later := later) h1
   rw [hsl] at k1 k2 k3
   refine VC.region ?_
   refine VO.mv rfl rfl rfl rfl ?_
   refine VO.mv rfl rfl rfl rfl ?_
   refine VO.mv rfl rfl rfl rfl ?_
   refine VO.op rfl (OpE.callL rfl hB rfl Tryz.call314 (setup_victim (by rw [hcl]; omega) hps.1 hl) (ArgsP.cons (ArgP.boxS (i := 0) rfl rfl hcl.symm hcap hmx) (ArgsP.cons (ArgP.ev rfl) (ArgsP.cons (ArgP.ev rfl) (ArgsP.nil)))) ?_)
   rintro _ rfl
   refine VO.ma rfl rfl rfl rfl ?_
   refine VO.nil ?_
   refine VC.region ?_
   refine VO.mv rfl rfl rfl rfl ?_
   refine VO.mv rfl rfl rfl rfl ?_
   refine VO.mv rfl rfl rfl rfl ?_
   refine VO.val rfl rfl (OpV.indexAddr_o rfl Tryz.underlying82 Tryz.sizeOf9 rfl rfl (Int.toNat_of_nonneg k1).symm (by omega)) ?_
   refine VO.op rfl (OpE.store1 (i := 0) rfl hB rfl Tryz.sizeOf9 rfl rfl rfl rfl rfl rfl (by rw [strsL_len]; omega) (strsL_set _ _ _) trivial ?_)
   refine VO.nil ?_
   refine VC.le _ (Le.boxRow (i := 0) (n := s.length) (sz := 1) (cap := cap) rfl (by rw [strsL_len, List.length_set]; omega) hcap hmx) ?_
   have e1 := nextL_take_succ (parts := parts) (later := later) (s := s) hq'
   rw [hsl] at e1
   refine VC.region ?_
   refine VO.val rfl rfl (OpV.add rfl rfl rfl (by unfold fits; omega)) ?_
   refine VO.mv rfl rfl rfl rfl ?_
   refine VO.nil ?_
   exact Exists.intro (⟨q + 1, by omega⟩) (And.intro (Le.mk hB [0] ⟨rfl, rfl, rfl, rfl, rfl, rfl, rfl, trivial⟩ rfl (by dsimp only; rw [e1]; first | rfl | (rw [hcl]; rfl)) (Nat.le_refl _)) (by first | omega | (show _ < _; omega) | (simp only []; omega)))
  ·have h1 := h1b
   try simp only [qq] at h1
   have hsl := slotF_of_pos (parts := parts) (later := later) h1
   rw [hsl] at k1 k2 k3
   refine VC.skip ?_
   refine VC.region ?_
   refine VO.mv rfl rfl rfl rfl ?_
   refine VO.mv rfl rfl rfl rfl ?_
   refine VO.mv rfl rfl rfl rfl ?_
   refine VO.val rfl rfl (OpV.indexAddr_o rfl Tryz.underlying82 Tryz.sizeOf9 rfl rfl (Int.toNat_of_nonneg k1).symm (by omega)) ?_
   refine VO.op rfl (OpE.store1 (i := 0) rfl hB rfl Tryz.sizeOf9 rfl rfl rfl rfl rfl rfl (by rw [strsL_len]; omega) (strsL_set _ _ _) trivial ?_)
   refine VO.nil ?_
   refine VC.le _ (Le.boxRow (i := 0) (n := s.length) (sz := 1) (cap := cap) rfl (by rw [strsL_len, List.length_set]; omega) hcap hmx) ?_
   have e1 := nextL_take_succ (parts := parts) (later := later) (s := s) hq'
   rw [hsl] at e1
   refine VC.region ?_
   refine VO.val rfl rfl (OpV.add rfl rfl rfl (by unfold fits; omega)) ?_
   refine VO.mv rfl rfl rfl rfl ?_
   refine VO.nil ?_
   exact Exists.intro (⟨q + 1, by omega⟩) (And.intro (Le.mk hB [0] ⟨rfl, rfl, rfl, rfl, rfl, rfl, rfl, trivial⟩ rfl (by dsimp only; rw [e1]; first | rfl | (rw [hcl]; rfl)) (Nat.le_refl _)) (by first | omega | (show _ < _; omega) | (simp only []; omega)))
 ·have aH1 := aH1b
  try simp only [qq] at aH1
  obtain rfl : q = (missF s parts).length := by omega
  refine VC.exit ?_
  refine VC.sr ?_
  refine VO.mv rfl rfl rfl rfl ?_
  refine VO.val rfl rfl (OpV.len_im rfl Tryz.underlying82 rfl) ?_
  refine VO.ma rfl rfl rfl rfl ?_
  refine VO.nil ?_
  refine VC.ret ?_
  exact Exists.intro _ (And.intro (RetV.one Tryz.results236 (ResV.tmp rfl)) (⟨rfl, by rw [nextF, List.take_length]; rfl⟩))
theorem SmSS.drop {p : List (List ByteArray)} (h : SmSS p) (k : Nat) : SmSS (p.drop k) := ⟨by have := h.1; simp; omega, fun i => by
 have : (p.drop k).getD i default = p.getD (k + i) default := by simp [List.getD_eq_getElem?_getD]
 rw [this]; exact h.2 _⟩
theorem SmSS.take {p : List (List ByteArray)} (h : SmSS p) (k : Nat) : SmSS (p.take k) := ⟨by have := h.1; simp; omega, fun i => by
 by_cases hi : i < k
 ·have : (p.take k).getD i default = p.getD i default := by simp [List.getD_eq_getElem?_getD, List.getElem?_take, hi]
  rw [this]; exact h.2 _
 ·have : (p.take k).getD i default = default := by simp [List.getD_eq_getElem?_getD, List.getElem?_take, hi]
  rw [this]; exact SmS.nil⟩
theorem setup_total {s : List ByteArray} {p : List (List ByteArray)} {most : Int} (hg : Good' s) (hp : ∀ q, q < p.length → RightP s.length (p.getD q default)) (hl : SmSS p) (hl2 : p.length ≤ 200) (hmost : -1000000 ≤ most ∧ most ≤ 1000000) :
  SpecN Tryz.prog 167 [avStrs s, avM p, avI most] (fun y => y = avI (totalF s p most)) := by
 have hls := hg.len
 refine SpecN.of_VCN Tryz.func167 rfl Tryz.ntmps167 (Nle rfl) fun w A hB => ?_
 refine VC.sr ?_
 refine VO.ma rfl rfl rfl rfl ?_
 refine VO.nil ?_
 refine VC.sr ?_
 refine VO.mv rfl rfl rfl rfl ?_
 refine VO.op rfl (OpE.callR rfl hB rfl Tryz.call235 (slices_CloneS_R (by omega)) (ArgsP.cons (ArgP.ev rfl) (ArgsP.nil)) ?_)
 intro u
 refine VO.ma rfl rfl rfl rfl ?_
 refine VO.nil ?_
 refine VC.sr ?_
 refine VO.ma rfl rfl rfl rfl ?_
 refine VO.nil ?_
 refine VC.seq ?_
 refine VC.sr ?_
 refine VO.mv rfl rfl rfl rfl ?_
 refine VO.val rfl rfl (OpV.len_im rfl Tryz.underlying169 rfl) ?_
 refine VO.mv rfl rfl rfl rfl ?_
 refine VO.nil ?_
 refine VC.block ?_
 refine VC.loopK [(0, _), (1, _), (2, _), (12, _), (13, _)] ⟨rfl, rfl, rfl, rfl, rfl, trivial⟩ ({q : Nat // q ≤ p.length ∧ (q = 0 ∨ totF s p q < most)}) (fun (iZ : {q : Nat // q ≤ p.length ∧ (q = 0 ∨ totF s p q < most)}) => match iZ with | ⟨q, hq, hlt⟩ => [(7, avI (totF s p q)), (14, avI (q : Int))]) (fun (iZ : {q : Nat // q ≤ p.length ∧ (q = 0 ∨ totF s p q < most)}) => match iZ with | ⟨q, hq, hlt⟩ => [.row u (stF s p q).length 1 (strsL (stF s p q)) 9]) (fun (iZ : {q : Nat // q ≤ p.length ∧ (q = 0 ∨ totF s p q < most)}) => match iZ with | ⟨q, hq, hlt⟩ => 0) (fun (iZ : {q : Nat // q ≤ p.length ∧ (q = 0 ∨ totF s p q < most)}) => match iZ with | ⟨q, hq, hlt⟩ => p.length - q) ⟨0, Nat.zero_le _, .inl rfl⟩ (Le.mk hB [0] ⟨rfl, rfl, rfl, rfl, rfl, rfl, rfl, trivial⟩ rfl rfl (Nat.le_refl _)) ?_
 rintro ⟨q, hq, hlt⟩
 show VC _ _ _ _ ⟨[(7, avI (totF s p q)), (14, avI (q : Int))] ++ [(0, _), (1, _), (2, _), (12, _), (13, _)], [.row u (stF s p q).length 1 (strsL (stF s p q)) 9], 0⟩
 refine VC.sr ?_
 refine VO.val rfl rfl (OpV.lss rfl rfl rfl) ?_
 refine VO.nil ?_
 refine VC.seq ?_
 refine VC.cond rfl (fun aH1b => ?_) (fun aH1b => ?_)
 ·have aH1 := aH1b
  try simp only [qq] at aH1
  have hst := stF_good hg hp q (by omega)
  have hsl := stF_len s p q
  have hti := totF_in hls hp q (by omega)
  have hms := missF_len (stF s p q) (p.getD q default)
  have hpl := (hp q (by omega)).len
  refine VC.skip ?_
  refine VC.seq ?_
  refine VC.block ?_
  refine VC.sr ?_
  refine VO.mv rfl rfl rfl rfl ?_
  refine VO.val rfl rfl (OpV.indexAddr_1 rfl Tryz.underlying169 Tryz.sizeOf82 rfl rfl rfl (by omega)) ?_
  refine VO.val rfl rfl (OpV.load_at rfl hB OutW.no Tryz.isAgg82 rfl rfl) ?_
  refine VO.ma rfl rfl rfl rfl ?_
  refine VO.ma rfl rfl rfl rfl ?_
  refine VO.nil ?_
  refine VC.sr ?_
  refine VO.mv rfl rfl rfl rfl ?_
  refine VO.mv rfl rfl rfl rfl ?_
  refine VO.mv rfl rfl rfl rfl ?_
  refine VO.mv rfl rfl rfl rfl ?_
  refine VO.mv rfl rfl rfl rfl ?_
  refine VO.val rfl rfl (OpV.add rfl rfl rfl (by unfold fits; omega)) ?_
  refine VO.val rfl rfl (OpV.slice_M (l := q + 1) rfl Tryz.underlying169 Tryz.sizeOf82 rfl ⟨_, _, rfl, (by omega)⟩ rfl (by omega) (by omega)) ?_
  refine VO.op rfl (OpE.callH0 rfl hB rfl Tryz.call236 rfl rfl (setup_next hst (by rw [hsl]; exact hp q (by omega)) ((hl.take _).drop _)) (List.Perm.refl _) (fun _ _ => trivial) ?_)
  rintro _ _ ⟨rfl, rfl⟩
  refine VO.val rfl rfl (OpV.add rfl rfl rfl (by unfold fits; omega)) ?_
  refine VO.ma rfl rfl rfl rfl ?_
  refine VO.nil ?_
  refine VC.sr ?_
  refine VO.mv rfl rfl rfl rfl ?_
  refine VO.mv rfl rfl rfl rfl ?_
  refine VO.val rfl rfl (OpV.geq rfl rfl rfl) ?_
  refine VO.nil ?_
  refine VC.cond rfl (fun h1b => ?_) (fun h1b => ?_)
  ·have h1 := h1b
   try simp only [qq] at h1
   have hmono := totF_mono (s := s) (p := p) (a := q + 1) (b := p.length) (by omega)
   have h1' : most ≤ totF s p (q + 1) := h1
   refine VC.sr ?_
   refine VO.mv rfl rfl rfl rfl ?_
   refine VO.ma rfl rfl rfl rfl ?_
   refine VO.nil ?_
   refine VC.ret ?_
   exact Exists.intro _ (And.intro (RetN.one Tryz.results167 (ResN.v rfl)) (by rw [totalF, if_neg (by omega), if_pos (by omega)]))
  ·have h1 := h1b
   try simp only [qq] at h1
   refine VC.skip ?_
   refine VC.region ?_
   refine VO.val rfl rfl (OpV.add rfl rfl rfl (by unfold fits; omega)) ?_
   refine VO.mv rfl rfl rfl rfl ?_
   refine VO.nil ?_
   exact Exists.intro (⟨q + 1, by omega, .inr h1⟩) (And.intro (Le.mk hB [0] ⟨rfl, rfl, rfl, rfl, rfl, rfl, rfl, trivial⟩ rfl (by dsimp only; rw [List.take_length, show (stF s p (q + 1)).length = (stF s p q).length by rw [stF_len, stF_len]]; rfl) (Nat.le_refl _)) (by first | omega | (show _ < _; omega) | (simp only []; omega)))
 ·have aH1 := aH1b
  try simp only [qq] at aH1
  obtain rfl : q = p.length := by omega
  refine VC.exit ?_
  refine VC.sr ?_
  refine VO.mv rfl rfl rfl rfl ?_
  refine VO.ma rfl rfl rfl rfl ?_
  refine VO.nil ?_
  refine VC.ret ?_
  exact Exists.intro _ (And.intro (RetN.one Tryz.results167 (ResN.v rfl)) (by rw [totalF]; split; (rw [show p.length = 0 by assumption]; rfl); rw [if_neg (by omega)]))
def totE (s : List ByteArray) (p : List (List ByteArray)) : Int := if setsF s p = 0 then totF s p p.length else 0
theorem setsF_zero {s : List ByteArray} {p : List (List ByteArray)} (h : setsF s p = 0) : setupF s = 0 ∧ Good' s ∧ p.length ≤ 200 ∧ (∀ q, q < p.length → RightP s.length (p.getD q default)) ∧ partsF s.length p = 0 := by
 rw [setsF] at h
 split at h
 ·rename_i h1; exact absurd h h1
 ·rename_i h1
  have h0 : setupF s = 0 := by omega
  exact ⟨h0, Good'.of h0, (partsF_zero h).2.1, fun q hq => RightP.of rfl h hq, h⟩
theorem totalF_big {s : List ByteArray} {p : List (List ByteArray)} (hs : s.length ≤ 100) (hl : p.length ≤ 200) (hp : ∀ q, q < p.length → RightP s.length (p.getD q default)) : totalF s p 20001 = totF s p p.length := by
 have := totF_in hs hp p.length (Nat.le_refl _)
 rw [totalF]
 split
 ·rename_i h; rw [h]; rfl
 ·rw [if_neg (by omega)]
theorem setup_Total {s : List ByteArray} {p : List (List ByteArray)} (hs : SmS s) (hl : SmSS p) :
  SpecN Tryz.prog 84 [avStrs s, avM p] (fun y => y = .tup [avI (totE s p), avI (setsF s p)]) := by
 refine SpecN.of_VCN Tryz.func84 rfl Tryz.ntmps84 (Nle rfl) fun w A hB => ?_
 refine VC.sr ?_
 refine VO.ma rfl rfl rfl rfl ?_
 refine VO.ma rfl rfl rfl rfl ?_
 refine VO.nil ?_
 refine VC.seq ?_
 refine VC.sr ?_
 refine VO.mv rfl rfl rfl rfl ?_
 refine VO.mv rfl rfl rfl rfl ?_
 refine VO.op rfl (OpE.call rfl hB rfl Tryz.call166 rfl (SpecN.spec (setup_fault hs hl)) ?_)
 rintro _ rfl
 refine VO.ma rfl rfl rfl rfl ?_
 refine VO.nil ?_
 refine VC.sr ?_
 refine VO.mv rfl rfl rfl rfl ?_
 refine VO.val rfl rfl (OpV.neq rfl rfl rfl) ?_
 refine VO.nil ?_
 refine VC.cond rfl (fun h0b => ?_) (fun h0b => ?_)
 ·have h0 := h0b
  try simp only [qq] at h0
  refine VC.sr ?_
  refine VO.mv rfl rfl rfl rfl ?_
  refine VO.ma rfl rfl rfl rfl ?_
  refine VO.ma rfl rfl rfl rfl ?_
  refine VO.nil ?_
  refine VC.ret ?_
  exact Exists.intro _ (And.intro (RetN.two Tryz.results84 (ResN.v rfl) (ResN.v rfl)) (by rw [totE, if_neg h0]))
 ·have h0 := h0b
  try simp only [qq] at h0
  obtain ⟨z1, z2, z3, z4, z5⟩ := setsF_zero (s := s) (p := p) (by omega)
  refine VC.skip ?_
  refine VC.sr ?_
  refine VO.mv rfl rfl rfl rfl ?_
  refine VO.mv rfl rfl rfl rfl ?_
  refine VO.op rfl (OpE.call rfl hB rfl Tryz.call167 rfl (SpecN.spec (setup_total z2 z4 hl z3 (by decide))) ?_)
  rintro _ rfl
  refine VO.ma rfl rfl rfl rfl ?_
  refine VO.ma rfl rfl rfl rfl ?_
  refine VO.nil ?_
  refine VC.ret ?_
  exact Exists.intro _ (And.intro (RetN.two Tryz.results84 (ResN.v rfl) (ResN.v rfl)) (by rw [totE, if_pos (by omega), totalF_big z2.len z3 z4, show setsF s p = 0 by omega]))
end
section
def loadS : List ByteArray := [ε]
def loadP : List (List ByteArray) := [[⟨#[97]⟩], [⟨#[98]⟩]]
theorem load_sms : SmS loadS := ⟨by decide, fun i => by cases i with | zero => decide | succ i => simp [loadS]⟩
theorem load_smss : SmSS loadP := ⟨by decide, fun i => by
 match i with
 | 0 => exact ⟨by decide, fun i => by cases i with | zero => decide | succ i => simp [loadP]⟩
 | 1 => exact ⟨by decide, fun i => by cases i with | zero => decide | succ i => simp [loadP]⟩
 | i + 2 => exact SmS.nil⟩
theorem load_ok : setsF loadS loadP = 0 := by decide +kernel
theorem load_two : totE loadS loadP = 2 := by decide +kernel
end
section
theorem spoil_S {xs : List ByteArray} {u : Value}  :
  SpecH Tryz.prog 56 [.v u] [.row u xs.length 1 (strsL xs) 9] (fun y hp' => ∃ xs' : List ByteArray, hp' = [.row u xs.length 1 (strsL xs') 9]) := by
 refine SpecH.of_VC Tryz.func56 rfl Tryz.ntmps56 (Nle rfl) fun w A hB => ?_
 refine VC.sr ?_
 refine VO.ma rfl rfl rfl rfl ?_
 refine VO.nil ?_
 refine VC.sr ?_
 refine VO.mv rfl rfl rfl rfl ?_
 refine VO.val rfl rfl (OpV.len_row (i := 0) rfl Tryz.underlying82 rfl rfl) ?_
 refine VO.mv rfl rfl rfl rfl ?_
 refine VO.nil ?_
 refine VC.block ?_
 refine VC.loopK [(0, _), (2, _), (5, _)] ⟨rfl, rfl, rfl, trivial⟩ ({t : List ByteArray × Nat // t.2 ≤ xs.length ∧ t.1.length = xs.length}) (fun (iZ : {t : List ByteArray × Nat // t.2 ≤ xs.length ∧ t.1.length = xs.length}) => match iZ with | ⟨⟨z, q⟩, hq, hz⟩ => [(6, avI (q : Int))]) (fun (iZ : {t : List ByteArray × Nat // t.2 ≤ xs.length ∧ t.1.length = xs.length}) => match iZ with | ⟨⟨z, q⟩, hq, hz⟩ => [.row u xs.length 1 (strsL z) 9]) (fun (iZ : {t : List ByteArray × Nat // t.2 ≤ xs.length ∧ t.1.length = xs.length}) => match iZ with | ⟨⟨z, q⟩, hq, hz⟩ => 0) (fun (iZ : {t : List ByteArray × Nat // t.2 ≤ xs.length ∧ t.1.length = xs.length}) => match iZ with | ⟨⟨z, q⟩, hq, hz⟩ => xs.length - q) ⟨(xs, 0), Nat.zero_le _, rfl⟩ (Le.mk hB [0] ⟨rfl, rfl, rfl, rfl, trivial⟩ rfl rfl (Nat.le_refl _)) ?_
 rintro ⟨⟨z, q⟩, hq, hz⟩
 show VC _ _ _ _ ⟨[(6, avI (q : Int))] ++ [(0, _), (2, _), (5, _)], [.row u xs.length 1 (strsL z) 9], 0⟩
 simp only at hq hz
 refine VC.sr ?_
 refine VO.val rfl rfl (OpV.lss rfl rfl rfl) ?_
 refine VO.nil ?_
 refine VC.seq ?_
 refine VC.cond rfl (fun aH1b => ?_) (fun aH1b => ?_)
 ·have aH1 := aH1b
  try simp only [qq] at aH1
  refine VC.asBox (i := 0) rfl (by omega) (fun g cap hu hcap hmx => ?_)
  subst hu
  have hmx2 := hmx
  unfold maxLen at hmx2
  refine VC.skip ?_
  refine VC.seq ?_
  refine VC.block ?_
  refine VC.sr ?_
  refine VO.mv rfl rfl rfl rfl ?_
  refine VO.ma rfl rfl rfl rfl ?_
  refine VO.nil ?_
  refine VC.region ?_
  refine VO.mv rfl rfl rfl rfl ?_
  refine VO.mv rfl rfl rfl rfl ?_
  refine VO.mv rfl rfl rfl rfl ?_
  refine VO.val rfl rfl (OpV.indexAddr_o rfl Tryz.underlying82 Tryz.sizeOf9 rfl rfl rfl (by omega)) ?_
  refine VO.op rfl (OpE.store1 (i := 0) rfl hB rfl Tryz.sizeOf9 rfl rfl rfl rfl rfl rfl (by rw [strsL_len]; omega) (strsL_set _ _ _) trivial ?_)
  refine VO.nil ?_
  refine VC.le _ (Le.boxRow (i := 0) (n := xs.length) (sz := 1) (cap := cap) rfl (by rw [strsL_len, List.length_set]; omega) hcap hmx) ?_
  refine VC.region ?_
  refine VO.val rfl rfl (OpV.add rfl rfl rfl (by unfold fits; omega)) ?_
  refine VO.mv rfl rfl rfl rfl ?_
  refine VO.nil ?_
  exact Exists.intro (⟨(z.set q ⟨#[]⟩, q + 1), by show q + 1 ≤ _; omega, by show (z.set q _).length = _; rw [List.length_set]; exact hz⟩) (And.intro (Le.mk hB [0] ⟨rfl, rfl, rfl, rfl, trivial⟩ rfl rfl (Nat.le_refl _)) (by first | omega | (show _ < _; omega) | (simp only []; omega)))
 ·have aH1 := aH1b
  try simp only [qq] at aH1
  refine VC.exit ?_
  exact Exists.intro _ (And.intro (RetV.none Tryz.results56) (⟨z, rfl⟩))
end
section
set_option maxHeartbeats 8000000 in
theorem inspect_MergeO {a b : List LookS} (ha : SmLk a) (hb : SmLk b) (hsm : ∀ o, lookF a = 0 → lookF b = 0 → mgo [] (a ++ b) = some o → o.length ≤ 12) :
  SpecH Tryz.prog 52 [avL a, avL b] [] (fun y hp' => ∃ (u : Value) (l : List LookS), y = .tup [.v u, avI (mrgE a b)] ∧ hp' = [.row u l.length 8 (rowL l) 124]) := by
 refine SpecH.of_VC Tryz.func52 rfl Tryz.ntmps52 (Nle rfl) fun w A hB => ?_
 have hnew : True := trivial
 refine VC.seq ?_
 have hal := ha.len
 have hbl := hb.len
 have h2l : ([a, b] : List (List LookS)).length = 2 := rfl
 refine VC.region ?_
 refine VO.ma rfl rfl rfl rfl ?_
 refine VO.ma rfl rfl rfl rfl ?_
 refine VO.nil ?_
 refine VC.seq ?_
 refine VC.sr ?_
 refine VO.mv rfl rfl rfl rfl ?_
 refine VO.mv rfl rfl rfl rfl ?_
 refine VO.op rfl (OpE.buildSlice (zc := #[.slice none 0 0, .slice none 0 0]) rfl hB rfl Tryz.underlying223 Tryz.sizeOf118 Tryz.zeroValue118 (by decide) (by decide) (by kernel_rfl) rfl rfl ?_)
 refine VO.le _ (Le.recast (t := 18) (y := avM [a, b]) rfl (fun w Z u h => Rep.listM (xs := [a, b]) rfl h)) ?_
 refine VO.val rfl rfl (OpV.len_im rfl Tryz.underlying223 rfl) ?_
 refine VO.mv rfl rfl rfl rfl ?_
 refine VO.nil ?_
 refine VC.block ?_
 refine VC.loopK [(0, _), (1, _), (18, _), (19, _)] ⟨rfl, rfl, rfl, rfl, trivial⟩ ({q : Nat // q ≤ 2 ∧ ∀ j, j < q → lookF (([a, b] : List (List LookS)).getD j default) = 0}) (fun (iZ : {q : Nat // q ≤ 2 ∧ ∀ j, j < q → lookF (([a, b] : List (List LookS)).getD j default) = 0}) => match iZ with | ⟨q, hq, hn⟩ => [(20, avI (q : Int))]) (fun (iZ : {q : Nat // q ≤ 2 ∧ ∀ j, j < q → lookF (([a, b] : List (List LookS)).getD j default) = 0}) => match iZ with | ⟨q, hq, hn⟩ => []) (fun (iZ : {q : Nat // q ≤ 2 ∧ ∀ j, j < q → lookF (([a, b] : List (List LookS)).getD j default) = 0}) => match iZ with | ⟨q, hq, hn⟩ => 0) (fun (iZ : {q : Nat // q ≤ 2 ∧ ∀ j, j < q → lookF (([a, b] : List (List LookS)).getD j default) = 0}) => match iZ with | ⟨q, hq, hn⟩ => 2 - q) ⟨0, Nat.zero_le _, fun j hj => absurd hj (Nat.not_lt_zero j)⟩ (Le.mk hB [] ⟨rfl, rfl, rfl, rfl, rfl, trivial⟩ rfl rfl (Nat.le_refl _)) ?_
 rintro ⟨q, hq, hn⟩
 show VC _ _ _ _ ⟨[(20, avI (q : Int))] ++ [(0, _), (1, _), (18, _), (19, _)], [], 0⟩
 refine VC.sr ?_
 refine VO.val rfl rfl (OpV.lss rfl rfl rfl) ?_
 refine VO.nil ?_
 refine VC.seq ?_
 refine VC.cond rfl (fun aH1b => ?_) (fun aH1b => ?_)
 ·have aH1 := aH1b
  try simp only [qq] at aH1
  refine VC.skip ?_
  refine VC.seq ?_
  refine VC.block ?_
  refine VC.sr ?_
  refine VO.val rfl rfl (OpV.indexAddr_1 rfl Tryz.underlying223 Tryz.sizeOf118 rfl rfl rfl (by omega)) ?_
  refine VO.val rfl rfl (OpV.load_at rfl hB OutW.no Tryz.isAgg118 rfl rfl) ?_
  refine VO.le _ (Le.recast (t := 23) (y := avL (([a, b] : List (List LookS)).getD q default)) rfl (fun w Z u h => h)) ?_
  refine VO.ma rfl rfl rfl rfl ?_
  refine VO.nil ?_
  refine VC.sr ?_
  refine VO.mv rfl rfl rfl rfl ?_
  refine VO.op rfl (OpE.call rfl hB rfl Tryz.call128 rfl (SpecN.spec (inspect_CheckLooks (by have : q = 0 ∨ q = 1 := by { omega }; rcases this with rfl | rfl; exact ha; exact hb))) ?_)
  rintro _ rfl
  refine VO.ma rfl rfl rfl rfl ?_
  refine VO.nil ?_
  refine VC.sr ?_
  refine VO.mv rfl rfl rfl rfl ?_
  refine VO.val rfl rfl (OpV.neq rfl rfl rfl) ?_
  refine VO.nil ?_
  refine VC.cond rfl (fun h1b => ?_) (fun h1b => ?_)
  ·have h1 := h1b
   try simp only [qq] at h1
   have hE : mrgE a b = lookF (([a, b] : List (List LookS)).getD q default) := by
    have : q = 0 ∨ q = 1 := by omega
    rcases this with rfl | rfl
    ·exact mrgE_a h1
    ·exact mrgE_b (hn 0 (by omega)) h1
   refine VC.sr ?_
   refine VO.mv rfl rfl rfl rfl ?_
   refine VO.ma rfl rfl rfl rfl ?_
   refine VO.ma rfl rfl rfl rfl ?_
   refine VO.nil ?_
   refine VC.le _ (Le.nilRow 8 124) ?_
   refine VC.ret ?_
   exact Exists.intro _ (And.intro (RetV.two Tryz.results52 (ResV.tmp rfl) (ResV.tmp rfl)) (⟨_, [], by rw [hE], rfl⟩))
  ·have h1 := h1b
   try simp only [qq] at h1
   refine VC.skip ?_
   refine VC.region ?_
   refine VO.val rfl rfl (OpV.add rfl rfl rfl (by unfold fits; omega)) ?_
   refine VO.mv rfl rfl rfl rfl ?_
   refine VO.nil ?_
   exact Exists.intro (⟨q + 1, by omega, lt_succ_cases hn ((by omega))⟩) (And.intro (Le.mk hB [] ⟨rfl, rfl, rfl, rfl, rfl, trivial⟩ rfl rfl (Nat.le_refl _)) (by first | omega | (show _ < _; omega) | (simp only []; omega)))
 ·have aH1 := aH1b
  try simp only [qq] at aH1
  refine VC.exit ?_
  refine VC.seq ?_
  have ha0 : lookF a = 0 := hn 0 (by omega)
  have hb0 : lookF b = 0 := hn 1 (by omega)
  have hal5 := (lookOk ha0).len
  have hbl5 := (lookOk hb0).len
  refine VC.region ?_
  refine VO.op rfl (OpE.makeMap (kv2) (eLk) rfl hB rfl ?_)
  intro g30
  refine VO.ma rfl rfl rfl rfl ?_
  refine VO.nil ?_
  refine VC.sr ?_
  refine VO.ma rfl rfl rfl rfl ?_
  refine VO.nil ?_
  refine VC.seq ?_
  refine VC.sr ?_
  refine VO.mv rfl rfl rfl rfl ?_
  refine VO.mv rfl rfl rfl rfl ?_
  refine VO.op rfl (OpE.buildSlice (zc := #[.slice none 0 0, .slice none 0 0]) rfl hB rfl Tryz.underlying223 Tryz.sizeOf118 Tryz.zeroValue118 (by decide) (by decide) (by kernel_rfl) rfl rfl ?_)
  refine VO.le _ (Le.recast (t := 33) (y := avM [a, b]) rfl (fun w Z u h => Rep.listM (xs := [a, b]) rfl h)) ?_
  refine VO.op rfl (OpE.callH (hp := []) (rest := _) rfl hB rfl Tryz.call129 rfl rfl (slices_ConcatLk2 (a := a) (b := b) (by rw [List.length_append]; omega)) (List.Perm.refl _) (fun _ h => by obtain ⟨e, he, _⟩ := h; cases he) ?_)
  rintro _ _ ⟨u34, rfl, rfl⟩
  refine VO.le _ (Le.rowT (t := 34) (i := 0) (xs := a ++ b) hB hnew rfl rfl rfl) ?_
  refine VO.val rfl rfl (OpV.len_im rfl Tryz.underlying118 rfl) ?_
  refine VO.mv rfl rfl rfl rfl ?_
  refine VO.nil ?_
  refine VC.block ?_
  have hab : (a ++ b).length ≤ 10000 := by rw [List.length_append]; omega
  refine VC.le _ (Le.nilRow 8 124) ?_
  refine VC.loopK [(9, _), (34, _), (35, _)] ⟨rfl, rfl, rfl, trivial⟩ ({z : (Value × List LookS) × Nat // z.2 ≤ (a ++ b).length ∧ mgo [] ((a ++ b).take z.2) = some z.1.2}) (fun (iZ : {z : (Value × List LookS) × Nat // z.2 ≤ (a ++ b).length ∧ mgo [] ((a ++ b).take z.2) = some z.1.2}) => match iZ with | ⟨⟨⟨u, o⟩, q1⟩, hq1, hgo⟩ => [(10, .v u), (36, avI (q1 : Int))]) (fun (iZ : {z : (Value × List LookS) × Nat // z.2 ≤ (a ++ b).length ∧ mgo [] ((a ++ b).take z.2) = some z.1.2}) => match iZ with | ⟨⟨⟨u, o⟩, q1⟩, hq1, hgo⟩ => [mapE kv2 g30 eLk (seenK o), .row u o.length 8 (rowL o) 124]) (fun (iZ : {z : (Value × List LookS) × Nat // z.2 ≤ (a ++ b).length ∧ mgo [] ((a ++ b).take z.2) = some z.1.2}) => match iZ with | ⟨⟨⟨u, o⟩, q1⟩, hq1, hgo⟩ => 0) (fun (iZ : {z : (Value × List LookS) × Nat // z.2 ≤ (a ++ b).length ∧ mgo [] ((a ++ b).take z.2) = some z.1.2}) => match iZ with | ⟨⟨⟨u, o⟩, q1⟩, hq1, hgo⟩ => (a ++ b).length - q1) ⟨((.slice none 0 0, []), 0), Nat.zero_le _, rfl⟩ (Le.mk hB [0, 1] ⟨rfl, rfl, rfl, rfl, rfl, trivial⟩ rfl rfl (Nat.le_refl _)) ?_
  rintro ⟨⟨⟨u, o⟩, q1⟩, hq1, hgo⟩
  show VC _ _ _ _ ⟨[(10, .v u), (36, avI (q1 : Int))] ++ [(9, _), (34, _), (35, _)], [mapE kv2 g30 eLk (seenK o), .row u o.length 8 (rowL o) 124], 0⟩
  simp only at hq1 hgo
  have hol := mgo_small hgo
  refine VC.sr ?_
  refine VO.val rfl rfl (OpV.lss rfl rfl rfl) ?_
  refine VO.nil ?_
  refine VC.seq ?_
  refine VC.cond rfl (fun aH2b => ?_) (fun aH2b => ?_)
  ·have aH2 := aH2b
   try simp only [qq] at aH2
   refine VC.skip ?_
   refine VC.seq ?_
   refine VC.block ?_
   refine VC.sr ?_
   refine VO.val rfl rfl (OpV.indexAddr_E rfl Tryz.underlying118 Tryz.sizeOf124 rfl rfl rfl (by omega)) ?_
   refine VO.val rfl rfl (OpV.loadK_at rfl hB OutW.no Tryz.isAgg124 Tryz.sizeOf124 rfl rfl) ?_
   refine VO.op rfl (OpE.alloc rfl hB rfl Tryz.zeroValue124 rfl ?_)
   intro g12
   refine VO.op rfl (OpE.store (i := 2) rfl hB rfl Tryz.sizeOf124 rfl rfl rfl rfl rfl rfl (Nle rfl) trivial ?_)
   refine VO.nil ?_
   refine VC.sr ?_
   refine VO.val rfl rfl (OpV.fieldAddrO 0 rfl Tryz.underlying124 rfl rfl Tryz.sizeOf9 rfl) ?_
   refine VO.val rfl rfl (OpV.load_own (i := 2) rfl hB Tryz.isAgg9 rfl rfl rfl (fun h => h)) ?_
   refine VO.val rfl rfl (OpV.fieldAddrO 1 rfl Tryz.underlying124 rfl rfl Tryz.sizeOf9 rfl) ?_
   refine VO.val rfl rfl (OpV.load_own (i := 2) rfl hB Tryz.isAgg9 rfl rfl rfl (fun h => h)) ?_
   refine VO.val rfl rfl (OpV.build (pls := #[(0, 1), (1, 1)]) rfl Tryz.zeroValue227 Tryz.underlying227 (fun w => by kernel_rfl) rfl rfl) ?_
   refine VO.op rfl (OpE.alloc rfl hB rfl Tryz.zeroValue227 rfl ?_)
   intro g13
   refine VO.op rfl (OpE.store (i := 3) rfl hB rfl Tryz.sizeOf227 rfl rfl rfl rfl rfl rfl (Nle rfl) trivial ?_)
   refine VO.nil ?_
   refine VC.sr ?_
   refine VO.mv rfl rfl rfl rfl ?_
   refine VO.val rfl rfl (OpV.loadK_own (i := 3) rfl hB Tryz.isAgg227 Tryz.sizeOf227 rfl rfl rfl (fun h => h)) ?_
   refine VO.val rfl rfl (OpV.lookup_ok (i := 0) (k := (((a ++ b).getD q1 default).board, ((a ++ b).getD q1 default).name)) rfl hB Tryz.underlying224 plK Tryz.zeroValue124 rfl (KeyE.agg2 rfl) rfl (fun h => h)) ?_
   refine VO.mv rfl rfl rfl rfl ?_
   refine VO.val rfl rfl (OpV.extract rfl rfl rfl) ?_
   refine VO.le _ (Le.recast (t := 49) (y := eLk (mgetD (seenK o) (((a ++ b).getD q1 default).board, ((a ++ b).getD q1 default).name) default)) rfl (fun w Z u h => by unfold mgetD; revert h; cases mget (seenK o) (((a ++ b).getD q1 default).board, ((a ++ b).getD q1 default).name) with | none => intro h; rw [h.eq_v]; exact lk_zero | some x => exact id)) ?_
   refine VO.val rfl rfl (OpV.extract rfl rfl rfl) ?_
   refine VO.op rfl (OpE.alloc rfl hB rfl Tryz.zeroValue124 rfl ?_)
   intro g14
   refine VO.op rfl (OpE.store (i := 4) rfl hB rfl Tryz.sizeOf124 rfl rfl rfl rfl rfl rfl (Nle rfl) trivial ?_)
   refine VO.ma rfl rfl rfl rfl ?_
   refine VO.nil ?_
   refine VC.block ?_
   refine VC.sr ?_
   refine VO.mv rfl rfl rfl rfl ?_
   refine VO.val rfl rfl (OpV.not rfl rfl) ?_
   refine VO.ma rfl rfl rfl rfl ?_
   refine VO.nil ?_
   refine VC.cond rfl (fun h3b => ?_) (fun h3b => ?_)
   ·have h3 := h3b
    try simp only [qq] at h3
    have hfn : o.find? (fun z => sameT z ((a ++ b).getD q1 default)) = none := by rw [← seenK_get]; exact opt_none (not_true_false h3b)
    refine VC.sr ?_
    refine VO.mv rfl rfl rfl rfl ?_
    refine VO.val rfl rfl (OpV.loadK_own (i := 3) rfl hB Tryz.isAgg227 Tryz.sizeOf227 rfl rfl rfl (fun h => h)) ?_
    refine VO.val rfl rfl (OpV.loadK_own (i := 2) rfl hB Tryz.isAgg124 Tryz.sizeOf124 rfl rfl rfl (fun h => h)) ?_
    refine VO.op rfl (OpE.mapUpdate (i := 0) (k := (((a ++ b).getD q1 default).board, ((a ++ b).getD q1 default).name)) (xx := (a ++ b).getD q1 default) rfl hB rfl Tryz.underlying224 plK rfl (KeyE.agg2 rfl) rfl rfl trivial ?_)
    refine VO.nil ?_
    refine VC.region ?_
    refine VO.mv rfl rfl rfl rfl ?_
    refine VO.val rfl rfl (OpV.loadK_own (i := 2) rfl hB Tryz.isAgg124 Tryz.sizeOf124 rfl rfl rfl (fun h => h)) ?_
    refine VO.op rfl (OpE.buildSlice (zc := #[.string ⟨#[]⟩, .string ⟨#[]⟩, .int .i64 0, .int .i64 0, .bool false, .string ⟨#[]⟩, .string ⟨#[]⟩, .string ⟨#[]⟩]) rfl hB rfl Tryz.underlying118 Tryz.sizeOf124 Tryz.zeroValue124 (by decide) (by decide) (by kernel_rfl) rfl rfl ?_)
    refine VO.op rfl (OpE.append1 (i := 1) rfl hB rfl Tryz.underlying118 (infoOf Tryz.t124 8 (by kernel_rfl) rfl rfl) rfl (by decide) (by decide) rfl rfl rfl rfl (rowL_snoc _ _) (by omega) (fun _ _ => trivial) ?_)
    intro u60
    refine VO.ma rfl rfl rfl rfl ?_
    refine VO.nil ?_
    refine VC.region ?_
    refine VO.val rfl rfl (OpV.add rfl rfl rfl (by unfold fits; omega)) ?_
    refine VO.mv rfl rfl rfl rfl ?_
    refine VO.nil ?_
    exact Exists.intro (⟨((u60, o ++ [(a ++ b).getD q1 default]), q1 + 1), by show q1 + 1 ≤ _; omega, mgo_next (by omega) hgo (mstep_new hfn)⟩) (And.intro (Le.mk hB [0, 1] ⟨rfl, rfl, rfl, rfl, rfl, trivial⟩ rfl (by dsimp only; first | (rw [← seenK_new hfn, @List.length_append _ o [_]]; rfl) | rfl) (Nat.le_refl _)) (by first | omega | (show _ < _; omega) | (simp only []; omega)))
   ·have h3 := h3b
    try simp only [qq] at h3
    have hfs : o.find? (fun z => sameT z ((a ++ b).getD q1 default)) = some (mgetD (seenK o) (((a ++ b).getD q1 default).board, ((a ++ b).getD q1 default).name) default) := by rw [← seenK_get]; exact opt_some (not_false_true h3b)
    refine VC.sr ?_
    refine VO.val rfl rfl (OpV.loadK_own (i := 4) rfl hB Tryz.isAgg124 Tryz.sizeOf124 rfl rfl rfl (fun h => h)) ?_
    refine VO.val rfl rfl (OpV.loadK_own (i := 2) rfl hB Tryz.isAgg124 Tryz.sizeOf124 rfl rfl rfl (fun h => h)) ?_
    refine VO.val rfl rfl (OpV.aneq rfl Tryz.underlying124 (by kernel_rfl) (by kernel_rfl) rfl rfl (EqFs.str Tryz.underlying9 Tryz.isAgg9 rfl (by decide) (EqFs.str Tryz.underlying9 Tryz.isAgg9 rfl (by decide) (EqFs.int Tryz.underlying3 Tryz.isAgg3 rfl (by decide) (EqFs.int Tryz.underlying3 Tryz.isAgg3 rfl (by decide) (EqFs.bool Tryz.underlying4 Tryz.isAgg4 rfl (by decide) (EqFs.str Tryz.underlying9 Tryz.isAgg9 rfl (by decide) (EqFs.str Tryz.underlying9 Tryz.isAgg9 rfl (by decide) (EqFs.str Tryz.underlying9 Tryz.isAgg9 rfl (by decide) (EqFs.nil _)))))))))) ?_
    refine VO.ma rfl rfl rfl rfl ?_
    refine VO.nil ?_
    refine VC.cond rfl (fun h4b => ?_) (fun h4b => ?_)
    ·have h4 := h4b
     try simp only [qq] at h4
     have hNone := mgo_stop (by omega) hgo (mstep_conf hfs (not_true_false h4b))
     refine VC.sr ?_
     refine VO.ma rfl rfl rfl rfl ?_
     refine VO.ma rfl rfl rfl rfl ?_
     refine VO.nil ?_
     refine VC.le _ (Le.nilRow 8 124) ?_
     refine VC.le _ (Le.pickH (hp := [.row (.slice none 0 0) 0 8 [] 124]) [5] rfl rfl) ?_
     refine VC.ret ?_
     exact Exists.intro _ (And.intro (RetV.two Tryz.results52 (ResV.tmp rfl) (ResV.tmp rfl)) (⟨_, [], by rw [mrgE_n ha0 hb0 hNone], rfl⟩))
    ·have h4 := h4b
     try simp only [qq] at h4
     refine VC.skip ?_
     refine VC.region ?_
     refine VO.val rfl rfl (OpV.add rfl rfl rfl (by unfold fits; omega)) ?_
     refine VO.mv rfl rfl rfl rfl ?_
     refine VO.nil ?_
     exact Exists.intro (⟨((u, o), q1 + 1), by show q1 + 1 ≤ _; omega, mgo_next (by omega) hgo (mstep_same hfs (not_false_true h4b))⟩) (And.intro (Le.mk hB [0, 1] ⟨rfl, rfl, rfl, rfl, rfl, trivial⟩ rfl (by dsimp only; first | (rw [← seenK_new hfn, @List.length_append _ o [_]]; rfl) | rfl) (Nat.le_refl _)) (by first | omega | (show _ < _; omega) | (simp only []; omega)))
  ·have aH2 := aH2b
   try simp only [qq] at aH2
   obtain rfl : q1 = (a ++ b).length := by omega
   rw [List.take_length] at hgo
   have h12 := hsm o ha0 hb0 hgo
   refine VC.exit ?_
   refine VC.seq ?_
   refine VC.sr ?_
   refine VO.mv rfl rfl rfl rfl ?_
   refine VO.val rfl rfl (OpV.len_row (i := 1) rfl Tryz.underlying118 rfl rfl) ?_
   refine VO.val rfl rfl (OpV.gtr rfl rfl rfl) ?_
   refine VO.nil ?_
   refine VC.cond rfl (fun aH3b => ?_) (fun aH3b => ?_)
   ·have aH3 := aH3b
    try simp only [qq] at aH3
    exact VC.absurd (by omega)
   ·have aH3 := aH3b
    try simp only [qq] at aH3
    refine VC.skip ?_
    refine VC.sr ?_
    refine VO.mv rfl rfl rfl rfl ?_
    refine VO.op rfl (OpE.callH (rest := [_]) rfl hB rfl Tryz.call130 rfl rfl (SpecH.fnv (sortFunc_lk (l0 := o) (F := 131) (cs := []) (c := cmpLk) (Pr := fun _ => True) (by omega) Tryz.call131 (fun _ _ => trivial) (fun x y _ _ => inspect_compare.spec) ltLk_trans ltLk_as ltLk_neg)) (List.Perm.swap _ _ _) (fun _ _ => trivial) ?_)
    rintro _ _ ⟨r, hpr, rfl, rfl⟩
    refine VO.nil ?_
    refine VC.sr ?_
    refine VO.mv rfl rfl rfl rfl ?_
    refine VO.ma rfl rfl rfl rfl ?_
    refine VO.ma rfl rfl rfl rfl ?_
    refine VO.nil ?_
    refine VC.le _ (Le.pickH [0] rfl rfl) ?_
    refine VC.ret ?_
    exact Exists.intro _ (And.intro (RetV.two Tryz.results52 (ResV.tmp rfl) (ResV.tmp rfl)) (⟨_, r, by rw [mrgE_s ha0 hb0 hgo], by rw [hpr.1.length_eq]; rfl⟩))
set_option maxHeartbeats 8000000 in
theorem inspect_RowsO {l : List LookS} {n : Int} (hs : SmLk l) (h100 : l.length < 100) (h12 : lookF l = 0 → (uK (l.map (·.name))).length ≤ 12) :
  SpecH Tryz.prog 54 [avL l, avI n] [] (fun y hp' => ∃ (u : Value) (nn : Nat) (xs : List PairS), y = .tup [.v u, avI (leastE l n)] ∧ nn = xs.length ∧ hp' = [.row u nn 2 (rowL xs) 58]) := by
 refine SpecH.of_VC Tryz.func54 rfl Tryz.ntmps54 (Nle rfl) fun w A hB => ?_
 have hnew : True := trivial
 refine VC.seq ?_
 have hl := hs.len
 have hmn := rwS_nodup l
 have hmb := rwS_bd (l := l) l.length (Nat.le_refl _)
 rw [List.take_length] at hmb
 refine VC.region ?_
 refine VO.ma rfl rfl rfl rfl ?_
 refine VO.ma rfl rfl rfl rfl ?_
 refine VO.nil ?_
 refine VC.seq ?_
 refine VC.sr ?_
 refine VO.mv rfl rfl rfl rfl ?_
 refine VO.mv rfl rfl rfl rfl ?_
 refine VO.op rfl (OpE.call rfl hB rfl Tryz.call132 rfl (SpecN.spec (inspect_leastFault hs)) ?_)
 rintro _ rfl
 refine VO.ma rfl rfl rfl rfl ?_
 refine VO.nil ?_
 refine VC.sr ?_
 refine VO.mv rfl rfl rfl rfl ?_
 refine VO.val rfl rfl (OpV.neq rfl rfl rfl) ?_
 refine VO.nil ?_
 refine VC.cond rfl (fun h0b => ?_) (fun h0b => ?_)
 ·have h0 := h0b
  try simp only [qq] at h0
  refine VC.sr ?_
  refine VO.mv rfl rfl rfl rfl ?_
  refine VO.ma rfl rfl rfl rfl ?_
  refine VO.ma rfl rfl rfl rfl ?_
  refine VO.nil ?_
  refine VC.le _ (Le.nilRow 2 58) ?_
  refine VC.ret ?_
  exact Exists.intro _ (And.intro (RetV.two Tryz.results54 (ResV.tmp rfl) (ResV.tmp rfl)) (⟨_, 0, [], rfl, rfl, rfl⟩))
 ·have h0 := h0b
  try simp only [qq] at h0
  have hm12 := rwS_len (h12 (leastE_zero (l := l) (n := n) (by omega)).1)
  refine VC.skip ?_
  refine VC.sr ?_
  refine VO.op rfl (OpE.makeMap (kvS) (eI) rfl hB rfl ?_)
  intro gn
  refine VO.op rfl (OpE.makeMap (kvS) (eI) rfl hB rfl ?_)
  intro gm
  refine VO.ma rfl rfl rfl rfl ?_
  refine VO.ma rfl rfl rfl rfl ?_
  refine VO.nil ?_
  refine VC.seq ?_
  refine VC.sr ?_
  refine VO.mv rfl rfl rfl rfl ?_
  refine VO.val rfl rfl (OpV.len_im rfl Tryz.underlying118 rfl) ?_
  refine VO.mv rfl rfl rfl rfl ?_
  refine VO.nil ?_
  refine VC.block ?_
  refine VC.loopK [(1, _), (7, _), (8, _), (25, _), (26, _)] ⟨rfl, rfl, rfl, rfl, rfl, trivial⟩ ({q : Nat // q ≤ l.length}) (fun (iZ : {q : Nat // q ≤ l.length}) => match iZ with | ⟨q, hq⟩ => [(27, avI (q : Int))]) (fun (iZ : {q : Nat // q ≤ l.length}) => match iZ with | ⟨q, hq⟩ => [mapE kvS gn eI (rwS (l.take q)).1, mapE kvS gm eI (rwS (l.take q)).2]) (fun (iZ : {q : Nat // q ≤ l.length}) => match iZ with | ⟨q, hq⟩ => 0) (fun (iZ : {q : Nat // q ≤ l.length}) => match iZ with | ⟨q, hq⟩ => l.length - q) ⟨0, Nat.zero_le _⟩ (Le.mk hB [0, 1] ⟨rfl, rfl, rfl, rfl, rfl, rfl, trivial⟩ rfl rfl (Nat.le_refl _)) ?_
  rintro ⟨q, hq⟩
  show VC _ _ _ _ ⟨[(27, avI (q : Int))] ++ [(1, _), (7, _), (8, _), (25, _), (26, _)], [mapE kvS gn eI (rwS (l.take q)).1, mapE kvS gm eI (rwS (l.take q)).2], 0⟩
  refine VC.sr ?_
  refine VO.val rfl rfl (OpV.lss rfl rfl rfl) ?_
  refine VO.nil ?_
  refine VC.seq ?_
  refine VC.cond rfl (fun aH1b => ?_) (fun aH1b => ?_)
  ·have aH1 := aH1b
   try simp only [qq] at aH1
   refine VC.skip ?_
   refine VC.seq ?_
   refine VC.block ?_
   refine VC.seq ?_
   have hbd := rwS_bd (l := l) q (by omega) (l.getD q default).name
   refine VC.region ?_
   refine VO.val rfl rfl (OpV.indexAddr_E rfl Tryz.underlying118 Tryz.sizeOf124 rfl rfl rfl (by omega)) ?_
   refine VO.val rfl rfl (OpV.loadK_at rfl hB OutW.no Tryz.isAgg124 Tryz.sizeOf124 rfl rfl) ?_
   refine VO.op rfl (OpE.alloc rfl hB rfl Tryz.zeroValue124 rfl ?_)
   intro g10
   refine VO.op rfl (OpE.store (i := 2) rfl hB rfl Tryz.sizeOf124 rfl rfl rfl rfl rfl rfl (Nle rfl) trivial ?_)
   refine VO.nil ?_
   refine VC.sr ?_
   refine VO.val rfl rfl (OpV.fieldAddrO 4 rfl Tryz.underlying124 rfl rfl Tryz.sizeOf4 rfl) ?_
   refine VO.val rfl rfl (OpV.load_own (i := 2) rfl hB Tryz.isAgg4 rfl rfl rfl (fun h => h)) ?_
   refine VO.nil ?_
   refine VC.cond rfl (fun h2b => ?_) (fun h2b => ?_)
   ·have h2 := h2b
    try simp only [qq] at h2
    refine VC.sr ?_
    refine VO.mv rfl rfl rfl rfl ?_
    refine VO.val rfl rfl (OpV.fieldAddrO 1 rfl Tryz.underlying124 rfl rfl Tryz.sizeOf9 rfl) ?_
    refine VO.val rfl rfl (OpV.load_own (i := 2) rfl hB Tryz.isAgg9 rfl rfl rfl (fun h => h)) ?_
    refine VO.val rfl rfl (OpV.lookup_own (i := 0) rfl hB Tryz.underlying208 (KeyOk.str Tryz.underlying9) Tryz.zeroValue3 rfl (KeyE.v rfl) rfl (fun h => h)) ?_
    refine VO.le _ (Le.recast (t := 36) (y := avI (mgetD (rwS (l.take q)).1 (l.getD q default).name 0)) rfl (fun w Z u h => by unfold mgetD; revert h; cases mget (rwS (l.take q)).1 (l.getD q default).name <;> exact id)) ?_
    refine VO.val rfl rfl (OpV.add rfl rfl rfl (by unfold fits; omega)) ?_
    refine VO.op rfl (OpE.mapUpdate (i := 0) (xx := mgetD (rwS (l.take q)).1 (l.getD q default).name 0 + 1) rfl hB rfl Tryz.underlying208 (KeyOk.str Tryz.underlying9) rfl (KeyE.v rfl) rfl rfl trivial ?_)
    refine VO.nil ?_
    refine VC.region ?_
    refine VO.mv rfl rfl rfl rfl ?_
    refine VO.val rfl rfl (OpV.fieldAddrO 1 rfl Tryz.underlying124 rfl rfl Tryz.sizeOf9 rfl) ?_
    refine VO.val rfl rfl (OpV.load_own (i := 2) rfl hB Tryz.isAgg9 rfl rfl rfl (fun h => h)) ?_
    refine VO.mv rfl rfl rfl rfl ?_
    refine VO.val rfl rfl (OpV.fieldAddrO 1 rfl Tryz.underlying124 rfl rfl Tryz.sizeOf9 rfl) ?_
    refine VO.val rfl rfl (OpV.load_own (i := 2) rfl hB Tryz.isAgg9 rfl rfl rfl (fun h => h)) ?_
    refine VO.val rfl rfl (OpV.lookup_own (i := 1) rfl hB Tryz.underlying208 (KeyOk.str Tryz.underlying9) Tryz.zeroValue3 rfl (KeyE.v rfl) rfl (fun h => h)) ?_
    refine VO.le _ (Le.recast (t := 44) (y := avI (mgetD (rwS (l.take q)).2 (l.getD q default).name 0)) rfl (fun w Z u h => by unfold mgetD; revert h; cases mget (rwS (l.take q)).2 (l.getD q default).name <;> exact id)) ?_
    refine VO.mv rfl rfl rfl rfl ?_
    refine VO.val rfl rfl (OpV.fieldAddrO 1 rfl Tryz.underlying124 rfl rfl Tryz.sizeOf9 rfl) ?_
    refine VO.val rfl rfl (OpV.load_own (i := 2) rfl hB Tryz.isAgg9 rfl rfl rfl (fun h => h)) ?_
    refine VO.val rfl rfl (OpV.lookup_own (i := 0) rfl hB Tryz.underlying208 (KeyOk.str Tryz.underlying9) Tryz.zeroValue3 rfl (KeyE.v rfl) rfl (fun h => h)) ?_
    refine VO.le _ (Le.recast (t := 48) (y := avI (mgetD (rwS (l.take q)).1 (l.getD q default).name 0 + 1)) rfl (fun w Z u h => by
     have e : mgetD (mput (rwS (l.take q)).1 (l.getD q default).name (mgetD (rwS (l.take q)).1 (l.getD q default).name 0 + 1)) (l.getD q default).name 0 = mgetD (rwS (l.take q)).1 (l.getD q default).name 0 + 1 := by rw [mgetD_mput, if_pos rfl]
     rw [← e]; unfold mgetD at h ⊢; revert h; cases mget (mput (rwS (l.take q)).1 (l.getD q default).name ((mget (rwS (l.take q)).1 (l.getD q default).name).getD 0 + 1)) (l.getD q default).name <;> exact id)) ?_
    refine VO.val rfl rfl (OpV.max2 rfl rfl rfl) ?_
    refine VO.op rfl (OpE.mapUpdate (i := 1) (xx := max (mgetD (rwS (l.take q)).2 (l.getD q default).name 0) (mgetD (rwS (l.take q)).1 (l.getD q default).name 0 + 1)) rfl hB rfl Tryz.underlying208 (KeyOk.str Tryz.underlying9) rfl (KeyE.v rfl) rfl rfl trivial ?_)
    refine VO.nil ?_
    refine VC.region ?_
    refine VO.val rfl rfl (OpV.add rfl rfl rfl (by unfold fits; omega)) ?_
    refine VO.mv rfl rfl rfl rfl ?_
    refine VO.nil ?_
    exact Exists.intro (⟨q + 1, by omega⟩) (And.intro (Le.mk hB [0, 1] ⟨rfl, rfl, rfl, rfl, rfl, rfl, trivial⟩ rfl (by dsimp only; rw [rwS_take (by omega)]; unfold rwNow rwMost; first | (rw [if_pos h2, if_pos h2]; rfl) | (rw [if_neg (by rw [h2]; simp), if_neg (by rw [h2]; simp)]; rfl)) (Nat.le_refl _)) (by first | omega | (show _ < _; omega) | (simp only []; omega)))
   ·have h2 := h2b
    try simp only [qq] at h2
    refine VC.region ?_
    refine VO.mv rfl rfl rfl rfl ?_
    refine VO.val rfl rfl (OpV.fieldAddrO 1 rfl Tryz.underlying124 rfl rfl Tryz.sizeOf9 rfl) ?_
    refine VO.val rfl rfl (OpV.load_own (i := 2) rfl hB Tryz.isAgg9 rfl rfl rfl (fun h => h)) ?_
    refine VO.op rfl (OpE.mapUpdate (i := 0) (xx := 0) rfl hB rfl Tryz.underlying208 (KeyOk.str Tryz.underlying9) rfl (KeyE.v rfl) rfl rfl trivial ?_)
    refine VO.nil ?_
    refine VC.region ?_
    refine VO.val rfl rfl (OpV.add rfl rfl rfl (by unfold fits; omega)) ?_
    refine VO.mv rfl rfl rfl rfl ?_
    refine VO.nil ?_
    exact Exists.intro (⟨q + 1, by omega⟩) (And.intro (Le.mk hB [0, 1] ⟨rfl, rfl, rfl, rfl, rfl, rfl, trivial⟩ rfl (by dsimp only; rw [rwS_take (by omega)]; unfold rwNow rwMost; first | (rw [if_pos h2, if_pos h2]; rfl) | (rw [if_neg (by rw [h2]; simp), if_neg (by rw [h2]; simp)]; rfl)) (Nat.le_refl _)) (by first | omega | (show _ < _; omega) | (simp only []; omega)))
  ·have aH1 := aH1b
   try simp only [qq] at aH1
   refine VC.exit ?_
   refine VC.seq ?_
   obtain rfl : q = l.length := by omega
   rw [List.take_length]
   refine VC.le _ (Le.drop 1) ?_
   refine VC.le _ (Le.freezeM (t := 8) (i := 0) hB hnew rfl rfl) ?_
   refine VC.region ?_
   refine VO.ma rfl rfl rfl rfl ?_
   refine VO.nil ?_
   refine VC.seq ?_
   refine VC.sr ?_
   refine VO.mv rfl rfl rfl rfl ?_
   refine VO.op rfl (OpE.rangeM rfl hB rfl Tryz.underlying208 rfl ?_)
   intro g55
   refine VO.nil ?_
   refine VC.block ?_
   refine VC.le _ (Le.nilRow 2 234) ?_
   refine VC.loopK [(1, _), (55, _)] ⟨rfl, rfl, trivial⟩ ({z : Value × List Nat // z.2.Nodup ∧ ∀ j ∈ z.2, j < (rwS l).2.length}) (fun (iZ : {z : Value × List Nat // z.2.Nodup ∧ ∀ j ∈ z.2, j < (rwS l).2.length}) => match iZ with | ⟨⟨u, seen⟩, hsd, hsn⟩ => [(11, .v u)]) (fun (iZ : {z : Value × List Nat // z.2.Nodup ∧ ∀ j ∈ z.2, j < (rwS l).2.length}) => match iZ with | ⟨⟨u, seen⟩, hsd, hsn⟩ => [.it g55 (rwS l).2.length (fun j => kvS ((rwS l).2.getD j default).1) (fun j => eI ((rwS l).2.getD j default).2) seen, .row u (pickR (rwS l).2 n seen).length 2 (rowL (pickR (rwS l).2 n seen)) 234]) (fun (iZ : {z : Value × List Nat // z.2.Nodup ∧ ∀ j ∈ z.2, j < (rwS l).2.length}) => match iZ with | ⟨⟨u, seen⟩, hsd, hsn⟩ => 0) (fun (iZ : {z : Value × List Nat // z.2.Nodup ∧ ∀ j ∈ z.2, j < (rwS l).2.length}) => match iZ with | ⟨⟨u, seen⟩, hsd, hsn⟩ => (rwS l).2.length - seen.length) ⟨(.slice none 0 0, []), List.nodup_nil, fun j hj => by simp at hj⟩ (Le.mk hB [0, 1] ⟨rfl, rfl, rfl, trivial⟩ rfl rfl (Nat.le_refl _)) ?_
   rintro ⟨⟨u, seen⟩, hsd, hsn⟩
   show VC _ _ _ _ ⟨[(11, .v u)] ++ [(1, _), (55, _)], [.it g55 (rwS l).2.length (fun j => kvS ((rwS l).2.getD j default).1) (fun j => eI ((rwS l).2.getD j default).2) seen, .row u (pickR (rwS l).2 n seen).length 2 (rowL (pickR (rwS l).2 n seen)) 234], 0⟩
   simp only at hsd hsn
   have hsl := seen_len hsd hsn
   have hpl := pickR_len (rwS l).2 n seen
   refine VC.sr ?_
   refine VO.op rfl (OpE.nextM (i := 0) rfl hB rfl rfl rfl trivial ?_ ?_)
   ·intro hall56
    refine VO.val rfl rfl (OpV.extract rfl rfl rfl) ?_
    refine VO.nil ?_
    refine VC.seq ?_
    refine VC.condF rfl rfl ?_
    refine VC.exit ?_
    refine VC.sr ?_
    refine VO.mv rfl rfl rfl rfl ?_
    refine VO.op rfl (OpE.callH (rest := [_]) rfl hB rfl Tryz.call133 rfl rfl (specH_fnv (sortFunc_rw (l0 := pickR (rwS l).2 n seen) (F := 134) (cs := []) (c := cRw) (by omega) Tryz.call134 (fun x z => inspect_Rows1) ltRw_trans ltRw_as ltRw_neg)) (List.Perm.swap _ _ _) (fun _ _ => trivial) ?_)
    rintro _ _ ⟨r, hpr, rfl, rfl⟩
    refine VO.nil ?_
    refine VC.seq ?_
    have hrr : rowsR (rwS l).2 n = r := rowsR_one hmn hsd hsn hall56 hpr.1 hpr.2
    have hrl : r.length = (pickR (rwS l).2 n seen).length := hpr.1.length_eq
    have hrb : ∀ k, k < r.length → 0 ≤ (r.getD k default).count ∧ (r.getD k default).count < 100 := fun k hk => by
     have hm : r.getD k default ∈ r := by rw [List.getD_eq_getElem?_getD, List.getElem?_eq_getElem hk]; exact List.getElem_mem hk
     have h5 := rowsU_mem hmn ((rowsR_perm (rwS l).2 n).subset (by rw [hrr]; exact hm))
     have h6 := (hmb (r.getD k default).key).2
     omega
    refine VC.le _ (Le.rowT (t := 11) (i := 0) (xs := r) hB hnew rfl rfl hrl.symm) ?_
    refine VC.le _ (Le.drop 1) ?_
    refine VC.region ?_
    refine VO.ma rfl rfl rfl rfl ?_
    refine VO.nil ?_
    refine VC.seq ?_
    refine VC.sr ?_
    refine VO.mv rfl rfl rfl rfl ?_
    refine VO.val rfl rfl (OpV.len_im rfl Tryz.underlying232 rfl) ?_
    refine VO.mv rfl rfl rfl rfl ?_
    refine VO.nil ?_
    refine VC.block ?_
    refine VC.le _ (Le.nilRow 2 58) ?_
    refine VC.loopK [(72, _), (73, _)] ⟨rfl, rfl, trivial⟩ ({zz : Value × Nat // zz.2 ≤ r.length}) (fun (iZ : {zz : Value × Nat // zz.2 ≤ r.length}) => match iZ with | ⟨⟨u, k⟩, hq2⟩ => [(14, .v u), (74, avI (k : Int))]) (fun (iZ : {zz : Value × Nat // zz.2 ≤ r.length}) => match iZ with | ⟨⟨u, k⟩, hq2⟩ => [.row u k 2 (rowL ((rwOut r).take k)) 58]) (fun (iZ : {zz : Value × Nat // zz.2 ≤ r.length}) => match iZ with | ⟨⟨u, k⟩, hq2⟩ => 0) (fun (iZ : {zz : Value × Nat // zz.2 ≤ r.length}) => match iZ with | ⟨⟨u, k⟩, hq2⟩ => r.length - k) ⟨(.slice none 0 0, 0), Nat.zero_le _⟩ (Le.mk hB [0] ⟨rfl, rfl, rfl, rfl, trivial⟩ rfl rfl (Nat.le_refl _)) ?_
    rintro ⟨⟨u, k⟩, hq2⟩
    show VC _ _ _ _ ⟨[(14, .v u), (74, avI (k : Int))] ++ [(72, _), (73, _)], [.row u k 2 (rowL ((rwOut r).take k)) 58], 0⟩
    simp only at hq2
    refine VC.seq ?_
    skip
    refine VC.region ?_
    refine VO.val rfl rfl (OpV.lss rfl rfl rfl) ?_
    refine VO.nil ?_
    refine VC.seq ?_
    refine VC.cond rfl (fun aH2b => ?_) (fun aH2b => ?_)
    ·have aH2 := aH2b
     try simp only [qq] at aH2
     refine VC.skip ?_
     refine VC.seq ?_
     refine VC.block ?_
     refine VC.sr ?_
     refine VO.val rfl rfl (OpV.indexAddr_E rfl Tryz.underlying232 Tryz.sizeOf234 rfl rfl rfl (by omega)) ?_
     refine VO.val rfl rfl (OpV.loadK_at rfl hB OutW.no Tryz.isAgg234 Tryz.sizeOf234 rfl rfl) ?_
     refine VO.op rfl (OpE.alloc rfl hB rfl Tryz.zeroValue234 rfl ?_)
     intro g16
     refine VO.op rfl (OpE.store (i := 1) rfl hB rfl Tryz.sizeOf234 rfl rfl rfl rfl rfl rfl (Nle rfl) trivial ?_)
     refine VO.nil ?_
     refine VC.draw (fun j b => j = 8 ∧ u.ownBlock = some b) hB (by kernel_rfl) ?_
     refine VA.take (i := 0) rfl (by kernel_rfl) (by kernel_rfl) (by kernel_rfl) rfl rfl (OpV.move (.inl rfl) rfl) ?_
     refine VA.take (i := 1) rfl (by kernel_rfl) (by kernel_rfl) (by kernel_rfl) rfl rfl (OpV.fieldAddrO 0 rfl Tryz.underlying234 rfl rfl Tryz.sizeOf9 rfl) ?_
     refine VA.takeT [2, 6, 7, 8] (i := 2) (by kernel_rfl) (by kernel_rfl) rfl (by kernel_rfl) (by kernel_rfl) (by kernel_rfl) rfl rfl (OpV.load_own (i := 1) rfl hB Tryz.isAgg9 rfl rfl rfl (fun ⟨j, h1, h2, _⟩ => by subst h2; cases h1)) ?_
     refine VA.take (i := 3) rfl (by kernel_rfl) (by kernel_rfl) (by kernel_rfl) rfl rfl (OpV.fieldAddrO 1 rfl Tryz.underlying234 rfl rfl Tryz.sizeOf3 rfl) ?_
     refine VA.takeT [4, 5, 6, 7, 8] (i := 4) (by kernel_rfl) (by kernel_rfl) rfl (by kernel_rfl) (by kernel_rfl) (by kernel_rfl) rfl rfl (OpV.load_own (i := 1) rfl hB Tryz.isAgg3 rfl rfl rfl (fun ⟨j, h1, h2, _⟩ => by subst h2; cases h1)) ?_
     refine VA.le _ (Le.recast (t := 82) (y := avI ((r.getD k default).count.toNat : Int)) rfl (fun w Z u h => by rw [Int.toNat_of_nonneg (hrb k (by omega)).1]; exact h)) ?_
     refine VA.all (rs := [5]) (by kernel_rfl) (by decide) ?_
     refine ⟨⟨_, rfl, .inl rfl, ?_⟩, trivial⟩
     refine OpE.call rfl hB rfl Tryz.call135 rfl (SpecN.spec (itoa_100 (i := (r.getD k default).count.toNat) (by have := hrb k (by omega); omega))) ?_
     rintro _ rfl
     refine VA.take (i := 6) rfl (by kernel_rfl) (by kernel_rfl) (by kernel_rfl) rfl rfl (OpV.build (pls := #[(0, 1), (1, 1)]) rfl Tryz.zeroValue58 Tryz.underlying58 (fun w => by kernel_rfl) rfl rfl) ?_
     refine VA.all (rs := [7]) (by kernel_rfl) (by decide) ?_
     refine ⟨⟨_, rfl, .inl rfl, ?_⟩, trivial⟩
     refine OpE.buildSlice (zc := #[.string ⟨#[]⟩, .string ⟨#[]⟩]) rfl hB rfl Tryz.underlying53 Tryz.sizeOf58 Tryz.zeroValue58 (by decide) (by decide) (by kernel_rfl) rfl rfl ?_
     refine VA.all (rs := [8]) (by kernel_rfl) (by decide) ?_
     refine ⟨⟨_, rfl, .inl rfl, ?_⟩, trivial⟩
     refine OpE.append1 (i := 0) rfl hB rfl Tryz.underlying53 (infoOf Tryz.t58 2 (by kernel_rfl) rfl rfl) rfl (by decide) (by decide) rfl rfl rfl rfl (rowL_snoc _ (⟨(r.getD k default).key, decB (r.getD k default).count.toNat⟩ : PairS)) (by omega) (fun _ h => ⟨rfl, h⟩) ?_
     intro u86
     refine VA.take (i := 9) rfl (by kernel_rfl) (by kernel_rfl) (by kernel_rfl) rfl rfl (OpV.move (.inr rfl) rfl) ?_
     refine VA.done (by kernel_rfl) ?_
     refine VC.region ?_
     refine VO.val rfl rfl (OpV.add rfl rfl rfl (by unfold fits; omega)) ?_
     refine VO.mv rfl rfl rfl rfl ?_
     refine VO.nil ?_
     exact Exists.intro (⟨(u86, k + 1), by show _ ≤ _; omega⟩) (And.intro (Le.mk hB [0] ⟨rfl, rfl, rfl, rfl, trivial⟩ rfl (by dsimp only; rw [rwOut_take (by omega)]; rfl) (Nat.le_refl _)) (by first | omega | (show _ < _; omega) | (simp only []; omega)))
    ·have aH2 := aH2b
     try simp only [qq] at aH2
     obtain rfl : k = r.length := by omega
     rw [rwOut_all]
     refine VC.exit ?_
     refine VC.sr ?_
     refine VO.mv rfl rfl rfl rfl ?_
     refine VO.ma rfl rfl rfl rfl ?_
     refine VO.ma rfl rfl rfl rfl ?_
     refine VO.nil ?_
     refine VC.ret ?_
     exact Exists.intro _ (And.intro (RetV.two Tryz.results54 (ResV.tmp rfl) (ResV.tmp rfl)) (⟨_, _, rwOut r, by rw [show leastE l n = 0 by omega], (rwOut_len r).symm, rfl⟩))
   ·intro j56 hj56 hn56
    have hsd2 : (j56 :: seen).Nodup := List.nodup_cons.2 ⟨hn56, hsd⟩
    have hsn2 : ∀ j ∈ j56 :: seen, j < (rwS l).2.length := fun j hj => (List.mem_cons.1 hj).elim (fun e => e ▸ hj56) (hsn j)
    have hsl2 := seen_len hsd2 hsn2
    have hsl3 : (j56 :: seen).length = seen.length + 1 := rfl
    refine VO.val rfl rfl (OpV.extract rfl rfl rfl) ?_
    refine VO.nil ?_
    refine VC.seq ?_
    refine VC.condT rfl rfl ?_
    refine VC.skip ?_
    refine VC.block ?_
    refine VC.sr ?_
    refine VO.val rfl rfl (OpV.entryM (i := 0) rfl hB rfl rfl) ?_
    refine VO.val rfl rfl (OpV.extract rfl rfl rfl) ?_
    refine VO.val rfl rfl (OpV.extract rfl rfl rfl) ?_
    refine VO.ma rfl rfl rfl rfl ?_
    refine VO.ma rfl rfl rfl rfl ?_
    refine VO.nil ?_
    refine VC.sr ?_
    refine VO.mv rfl rfl rfl rfl ?_
    refine VO.mv rfl rfl rfl rfl ?_
    refine VO.val rfl rfl (OpV.geq rfl rfl rfl) ?_
    refine VO.nil ?_
    refine VC.cond rfl (fun h4b => ?_) (fun h4b => ?_)
    ·have h4 := h4b
     try simp only [qq] at h4
     refine VC.region ?_
     refine VO.mv rfl rfl rfl rfl ?_
     refine VO.mv rfl rfl rfl rfl ?_
     refine VO.mv rfl rfl rfl rfl ?_
     refine VO.val rfl rfl (OpV.build (pls := #[(0, 1), (1, 1)]) rfl Tryz.zeroValue234 Tryz.underlying234 (fun w => by kernel_rfl) rfl rfl) ?_
     refine VO.op rfl (OpE.buildSlice (zc := #[.string ⟨#[]⟩, .int .i64 0]) rfl hB rfl Tryz.underlying232 Tryz.sizeOf234 Tryz.zeroValue234 (by decide) (by decide) (by kernel_rfl) rfl rfl ?_)
     refine VO.op rfl (OpE.append1 (i := 1) rfl hB rfl Tryz.underlying232 (infoOf Tryz.t234 2 (by kernel_rfl) rfl rfl) rfl (by decide) (by decide) rfl rfl rfl rfl (rowL_snoc _ (ndOf ((rwS l).2.getD j56 default))) (by omega) (fun _ _ => trivial) ?_)
     intro u69
     refine VO.ma rfl rfl rfl rfl ?_
     refine VO.nil ?_
     exact Exists.intro (⟨(u69, j56 :: seen), hsd2, hsn2⟩) (And.intro (Le.mk hB [0, 1] ⟨rfl, rfl, rfl, trivial⟩ rfl (by dsimp only; first | (rw [pickR_yes h4, List.length_append]; rfl) | (rw [pickR_no (by omega)]; rfl)) (Nat.le_refl _)) (by first | omega | (show _ < _; omega) | (simp only []; omega)))
    ·have h4 := h4b
     try simp only [qq] at h4
     refine VC.skip ?_
     exact Exists.intro (⟨(u, j56 :: seen), hsd2, hsn2⟩) (And.intro (Le.mk hB [0, 1] ⟨rfl, rfl, rfl, trivial⟩ rfl (by dsimp only; first | (rw [pickR_yes h4, List.length_append]; rfl) | (rw [pickR_no (by omega)]; rfl)) (Nat.le_refl _)) (by first | omega | (show _ < _; omega) | (simp only []; omega)))
set_option maxHeartbeats 8000000 in
theorem inspect_GoodBoardsO {l : List LookS} (hs : SmLk l) :
  SpecH Tryz.prog 55 [avL l] [] (fun y hp' => ∃ (u : Value) (xs : List ByteArray), y = .tup [.v u, avI (lookF l)] ∧ hp' = [.row u xs.length 1 (strsL xs) 9]) := by
 refine SpecH.of_VC Tryz.func55 rfl Tryz.ntmps55 (Nle rfl) fun w A hB => ?_
 refine VC.seq ?_
 have hl := hs.len
 refine VC.region ?_
 refine VO.ma rfl rfl rfl rfl ?_
 refine VO.ma rfl rfl rfl rfl ?_
 refine VO.nil ?_
 refine VC.seq ?_
 refine VC.sr ?_
 refine VO.mv rfl rfl rfl rfl ?_
 refine VO.op rfl (OpE.call rfl hB rfl Tryz.call128 rfl (SpecN.spec (inspect_CheckLooks hs)) ?_)
 rintro _ rfl
 refine VO.ma rfl rfl rfl rfl ?_
 refine VO.nil ?_
 refine VC.sr ?_
 refine VO.mv rfl rfl rfl rfl ?_
 refine VO.val rfl rfl (OpV.neq rfl rfl rfl) ?_
 refine VO.nil ?_
 refine VC.cond rfl (fun h0b => ?_) (fun h0b => ?_)
 ·have h0 := h0b
  try simp only [qq] at h0
  refine VC.sr ?_
  refine VO.mv rfl rfl rfl rfl ?_
  refine VO.ma rfl rfl rfl rfl ?_
  refine VO.ma rfl rfl rfl rfl ?_
  refine VO.nil ?_
  refine VC.le _ (Le.nilRow 1 9) ?_
  refine VC.ret ?_
  exact Exists.intro _ (And.intro (RetV.two Tryz.results55 (ResV.tmp rfl) (ResV.tmp rfl)) (⟨_, [], rfl, rfl⟩))
 ·have h0 := h0b
  try simp only [qq] at h0
  refine VC.skip ?_
  refine VC.sr ?_
  refine VO.mv rfl rfl rfl rfl ?_
  refine VO.op rfl (OpE.callH (hp := []) (rest := _) rfl hB rfl Tryz.call136 rfl rfl (inspect_shares (f := fun x => [x.board]) hl Tryz.call137 (fun i => inspect_GoodBoards1) (fun i => by simp)) (List.Perm.refl _) (fun _ h => by obtain ⟨e, he, _⟩ := h; cases he) ?_)
  rintro _ _ ⟨gm, rfl, rfl⟩
  refine VO.ma rfl rfl rfl rfl ?_
  refine VO.nil ?_
  refine VC.sr ?_
  refine VO.mv rfl rfl rfl rfl ?_
  refine VO.op rfl (OpE.callH0 rfl hB rfl Tryz.call138 rfl rfl (specH_fnv (maps_DeleteFunc_sh (l := shV (·.board) l) (pd := fun _ s => decide ((0 : Int) < (s.1 : Int))) (cs := []) (shM_nodup _) Tryz.call139 (fun p _ => inspect_GoodBoards2))) (List.Perm.refl _) (fun _ _ => trivial) ?_)
  rintro _ _ ⟨rfl, l', hl', rfl⟩
  have hq := selK_len (q := fun b => decide ((0 : Int) < (b : Int))) hl'
  refine VO.nil ?_
  refine VC.sr ?_
  refine VO.mv rfl rfl rfl rfl ?_
  refine VO.op rfl (OpE.callH rfl hB rfl Tryz.call141 rfl rfl (maps_Keys_sh (some gm)) (List.Perm.refl _) (fun _ _ => trivial) ?_)
  rintro _ _ ⟨g16, rfl, rfl⟩
  refine VO.op rfl (OpE.callH0 rfl hB rfl Tryz.call140 rfl rfl (slices_Sorted_shX (l := l') (E := eSh) (selK_nd (q := fun b => decide ((0 : Int) < (b : Int))) hl') (selK_sz (q := fun b => decide ((0 : Int) < (b : Int))) hs.board hl') (by omega)) (List.Perm.refl _) (fun _ _ => trivial) ?_)
  rintro _ _ ⟨u17, rfl, rfl⟩
  refine VO.ma rfl rfl rfl rfl ?_
  refine VO.ma rfl rfl rfl rfl ?_
  refine VO.nil ?_
  refine VC.le _ (Le.pickH [0] rfl rfl) ?_
  refine VC.ret ?_
  exact Exists.intro _ (And.intro (RetV.two Tryz.results55 (ResV.tmp rfl) (ResV.tmp rfl)) (⟨_, sKeys l', by rw [show lookF l = 0 by omega], by rw [sKeys_len]; rfl⟩))
end
section
theorem slices_Equal_lk {xs ys : List LookS} (hl : xs.length ≤ 1000000000) (hl' : ys.length ≤ 1000000000) :
  SpecN Tryz.prog 57 [avL xs, avL ys] (fun y => y = avB (eqLs eqLk xs ys)) := by
 refine SpecN.of_VCN Tryz.func57 rfl Tryz.ntmps57 (Nle rfl) fun w A hB => ?_
 refine VC.sr ?_
 refine VO.ma rfl rfl rfl rfl ?_
 refine VO.nil ?_
 refine VC.seq ?_
 refine VC.sr ?_
 refine VO.mv rfl rfl rfl rfl ?_
 refine VO.val rfl rfl (OpV.len_im rfl Tryz.underlying118 rfl) ?_
 refine VO.mv rfl rfl rfl rfl ?_
 refine VO.val rfl rfl (OpV.len_im rfl Tryz.underlying118 rfl) ?_
 refine VO.val rfl rfl (OpV.neq rfl rfl rfl) ?_
 refine VO.nil ?_
 refine VC.cond rfl (fun aH1b => ?_) (fun aH1b => ?_)
 ·have aH1 := aH1b
  try simp only [qq] at aH1
  refine VC.sr ?_
  refine VO.ma rfl rfl rfl rfl ?_
  refine VO.nil ?_
  refine VC.ret ?_
  exact Exists.intro _ (And.intro (RetN.one Tryz.results57 (ResN.v rfl)) (by first | rw [eqLs_len (by omega)] | rw [eqLs_at (d := default) (q := q) (by omega) (not_true_false h2b)] | rw [eqLs_all (d := default) (by omega) (fun j hj => hn j (by omega))]))
 ·have aH1 := aH1b
  try simp only [qq] at aH1
  refine VC.skip ?_
  refine VC.seq ?_
  refine VC.sr ?_
  refine VO.mv rfl rfl rfl rfl ?_
  refine VO.val rfl rfl (OpV.len_im rfl Tryz.underlying118 rfl) ?_
  refine VO.mv rfl rfl rfl rfl ?_
  refine VO.nil ?_
  refine VC.block ?_
  refine VC.loopK [(0, _), (1, _), (12, _)] ⟨rfl, rfl, rfl, trivial⟩ ({q : Nat // q ≤ xs.length ∧ ∀ j, j < q → eqLk (xs.getD j default) (ys.getD j default) = true}) (fun (iZ : {q : Nat // q ≤ xs.length ∧ ∀ j, j < q → eqLk (xs.getD j default) (ys.getD j default) = true}) => match iZ with | ⟨q, hq, hn⟩ => [(13, avI (q : Int))]) (fun (iZ : {q : Nat // q ≤ xs.length ∧ ∀ j, j < q → eqLk (xs.getD j default) (ys.getD j default) = true}) => match iZ with | ⟨q, hq, hn⟩ => []) (fun (iZ : {q : Nat // q ≤ xs.length ∧ ∀ j, j < q → eqLk (xs.getD j default) (ys.getD j default) = true}) => match iZ with | ⟨q, hq, hn⟩ => 0) (fun (iZ : {q : Nat // q ≤ xs.length ∧ ∀ j, j < q → eqLk (xs.getD j default) (ys.getD j default) = true}) => match iZ with | ⟨q, hq, hn⟩ => xs.length - q) ⟨0, Nat.zero_le _, fun j hj => absurd hj (Nat.not_lt_zero j)⟩ (Le.mk hB [] ⟨rfl, rfl, rfl, rfl, trivial⟩ rfl rfl (Nat.le_refl _)) ?_
  rintro ⟨q, hq, hn⟩
  show VC _ _ _ _ ⟨[(13, avI (q : Int))] ++ [(0, _), (1, _), (12, _)], [], 0⟩
  refine VC.sr ?_
  refine VO.val rfl rfl (OpV.lss rfl rfl rfl) ?_
  refine VO.nil ?_
  refine VC.seq ?_
  refine VC.cond rfl (fun aH2b => ?_) (fun aH2b => ?_)
  ·have aH2 := aH2b
   try simp only [qq] at aH2
   refine VC.skip ?_
   refine VC.seq ?_
   refine VC.block ?_
   refine VC.sr ?_
   refine VO.mv rfl rfl rfl rfl ?_
   refine VO.ma rfl rfl rfl rfl ?_
   refine VO.nil ?_
   refine VC.seq ?_
   refine VC.draw (fun _ => NoB) hB (by kernel_rfl) ?_
   refine VA.take (i := 0) rfl (by kernel_rfl) (by kernel_rfl) (by kernel_rfl) rfl rfl (OpV.move (.inl rfl) rfl) ?_
   refine VA.take (i := 1) rfl (by kernel_rfl) (by kernel_rfl) (by kernel_rfl) rfl rfl (OpV.move (.inl rfl) rfl) ?_
   refine VA.take (i := 2) rfl (by kernel_rfl) (by kernel_rfl) (by kernel_rfl) rfl rfl (OpV.indexAddr_E rfl Tryz.underlying118 Tryz.sizeOf124 rfl rfl rfl (by omega)) ?_
   refine VA.take (i := 3) rfl (by kernel_rfl) (by kernel_rfl) (by kernel_rfl) rfl rfl (OpV.loadK_at rfl hB OutW.wi0 Tryz.isAgg124 Tryz.sizeOf124 rfl rfl) ?_
   refine VA.take (i := 4) rfl (by kernel_rfl) (by kernel_rfl) (by kernel_rfl) rfl rfl (OpV.move (.inl rfl) rfl) ?_
   refine VA.take (i := 5) rfl (by kernel_rfl) (by kernel_rfl) (by kernel_rfl) rfl rfl (OpV.move (.inl rfl) rfl) ?_
   refine VA.take (i := 6) rfl (by kernel_rfl) (by kernel_rfl) (by kernel_rfl) rfl rfl (OpV.indexAddr_E rfl Tryz.underlying118 Tryz.sizeOf124 rfl rfl rfl (by omega)) ?_
   refine VA.take (i := 7) rfl (by kernel_rfl) (by kernel_rfl) (by kernel_rfl) rfl rfl (OpV.loadK_at rfl hB OutW.wi0 Tryz.isAgg124 Tryz.sizeOf124 rfl rfl) ?_
   refine VA.take (i := 8) rfl (by kernel_rfl) (by kernel_rfl) (by kernel_rfl) rfl rfl (OpV.aneq rfl Tryz.underlying124 (by kernel_rfl) (by kernel_rfl) rfl rfl (EqFs.str Tryz.underlying9 Tryz.isAgg9 rfl (by decide) (EqFs.str Tryz.underlying9 Tryz.isAgg9 rfl (by decide) (EqFs.int Tryz.underlying3 Tryz.isAgg3 rfl (by decide) (EqFs.int Tryz.underlying3 Tryz.isAgg3 rfl (by decide) (EqFs.bool Tryz.underlying4 Tryz.isAgg4 rfl (by decide) (EqFs.str Tryz.underlying9 Tryz.isAgg9 rfl (by decide) (EqFs.str Tryz.underlying9 Tryz.isAgg9 rfl (by decide) (EqFs.str Tryz.underlying9 Tryz.isAgg9 rfl (by decide) (EqFs.nil _)))))))))) ?_
   refine VA.done (by kernel_rfl) ?_
   refine VC.cond rfl (fun h2b => ?_) (fun h2b => ?_)
   ·have h2 := h2b
    try simp only [qq] at h2
    refine VC.sr ?_
    refine VO.ma rfl rfl rfl rfl ?_
    refine VO.nil ?_
    refine VC.ret ?_
    exact Exists.intro _ (And.intro (RetN.one Tryz.results57 (ResN.v rfl)) (by first | rw [eqLs_len (by omega)] | rw [eqLs_at (d := default) (q := q) (by omega) (not_true_false h2b)] | rw [eqLs_all (d := default) (by omega) (fun j hj => hn j (by omega))]))
   ·have h2 := h2b
    try simp only [qq] at h2
    refine VC.skip ?_
    refine VC.region ?_
    refine VO.val rfl rfl (OpV.add rfl rfl rfl (by unfold fits; omega)) ?_
    refine VO.mv rfl rfl rfl rfl ?_
    refine VO.nil ?_
    exact Exists.intro (⟨q + 1, by omega, lt_succ_cases hn (not_false_true h2b)⟩) (And.intro (Le.mk hB [] ⟨rfl, rfl, rfl, rfl, trivial⟩ rfl rfl (Nat.le_refl _)) (by first | omega | (show _ < _; omega) | (simp only []; omega)))
  ·have aH2 := aH2b
   try simp only [qq] at aH2
   refine VC.exit ?_
   refine VC.sr ?_
   refine VO.ma rfl rfl rfl rfl ?_
   refine VO.nil ?_
   refine VC.ret ?_
   exact Exists.intro _ (And.intro (RetN.one Tryz.results57 (ResN.v rfl)) (by first | rw [eqLs_len (by omega)] | rw [eqLs_at (d := default) (q := q) (by omega) (not_true_false h2b)] | rw [eqLs_all (d := default) (by omega) (fun j hj => hn j (by omega))]))
end
section
structure PaceS where
 product : ByteArray
 cycle : Int
 needs : List NeedS
instance : Inhabited PaceS := ⟨⟨ByteArray.empty, 0, []⟩⟩
instance : Sxc PaceS where
 k := 3
 pos := by decide
 cell m j := match j with
  | 0 => avS m.product
  | 1 => avI m.cycle
  | 2 => avL m.needs
  | _ => .any
structure OrdrS where
 key : ByteArray
 product : ByteArray
 count : Int
 ready : Int
 due : Int
instance : Inhabited OrdrS := ⟨⟨ByteArray.empty, ByteArray.empty, 0, 0, 0⟩⟩
instance : Sxc OrdrS where
 k := 5
 pos := by decide
 cell m j := match j with
  | 0 => avS m.key
  | 1 => avS m.product
  | 2 => avI m.count
  | 3 => avI m.ready
  | 4 => avI m.due
  | _ => .any
structure WinS where
 fr : Int
 «to» : Int
instance : Inhabited WinS := ⟨⟨0, 0⟩⟩
instance : Sxc WinS where
 k := 2
 pos := by decide
 cell m j := match j with
  | 0 => avI m.fr
  | 1 => avI m.to
  | _ => .any
abbrev avPc (x : PaceS) : AV := .agg [avS x.product, avI x.cycle, avL x.needs]
structure SmPc (p : List PaceS) : Prop where
 len : p.length ≤ 1000000
 prod : ∀ i, (p.getD i default).product.size ≤ 1000000
 nlen : ∀ i, (p.getD i default).needs.length ≤ 1000000
 nkey : ∀ i j, ((p.getD i default).needs.getD j default).key.size ≤ 1000000
structure SmOr (o : List OrdrS) : Prop where
 len : o.length ≤ 1000000
 key : ∀ i, (o.getD i default).key.size ≤ 1000000
 prod : ∀ i, (o.getD i default).product.size ≤ 1000000
def paceE (p : List PaceS) (i : Nat) : Int :=
 if keyF (p.getD i default).product = false then 5
 else if (decide (0 < i) && sLe (p.getD i default).product (p.getD (i - 1) default).product) = true then 7
 else if outR (p.getD i default).cycle 1 10000000 = true then 1
 else needsF (p.getD i default).needs 1 1000
def paceF (p : List PaceS) : Int := if 200 < p.length then 2 else firstE (paceE p) p.length
def ordrE (o : List OrdrS) (i : Nat) : Int :=
 if (keyF (o.getD i default).key && keyF (o.getD i default).product) = false then 5
 else if (outR (o.getD i default).count 1 100000 || (outR (o.getD i default).ready 0 345686399999 || outR (o.getD i default).due 0 345686399999)) = true then 1
 else if (decide (0 < i) && sLe (o.getD i default).key (o.getD (i - 1) default).key) = true then 7
 else 0
def ordrF (o : List OrdrS) : Int := if 200 < o.length then 2 else firstE (ordrE o) o.length
section
variable {p : List PaceS} {i : Nat}
theorem paceE_5 (h : keyF (p.getD i default).product = false) : paceE p i = 5 := by rw [paceE, if_pos h]
theorem paceE_7 (h : keyF (p.getD i default).product = true) (hi : 0 < i) (hs : sLe (p.getD i default).product (p.getD (i - 1) default).product = true) : paceE p i = 7 := by
 rw [paceE, if_neg (by rw [h]; simp), if_pos (by rw [hs, decide_eq_true hi]; rfl)]
theorem paceE_x (h : keyF (p.getD i default).product = true) (hs : i = 0 ∨ sLe (p.getD i default).product (p.getD (i - 1) default).product = false) :
  paceE p i = if outR (p.getD i default).cycle 1 10000000 = true then 1 else needsF (p.getD i default).needs 1 1000 := by
 rw [paceE, if_neg (by rw [h]; simp), if_neg]
 rcases hs with rfl | hs
 ·simp
 ·rw [hs]; simp
theorem paceE_1 (h : keyF (p.getD i default).product = true) (hs : i = 0 ∨ sLe (p.getD i default).product (p.getD (i - 1) default).product = false) (ho : outR (p.getD i default).cycle 1 10000000 = true) : paceE p i = 1 := by rw [paceE_x h hs, if_pos ho]
theorem paceE_n (h : keyF (p.getD i default).product = true) (hs : i = 0 ∨ sLe (p.getD i default).product (p.getD (i - 1) default).product = false) (ho : outR (p.getD i default).cycle 1 10000000 = false) : paceE p i = needsF (p.getD i default).needs 1 1000 := by rw [paceE_x h hs, if_neg (by rw [ho]; simp)]
theorem paceF_2 (h : 200 < p.length) : paceF p = 2 := by rw [paceF, if_pos h]
theorem paceF_at (h : p.length ≤ 200) {q : Nat} (hq : q < p.length) (hn : ∀ j, j < q → paceE p j = 0) {e : Int} (he : paceE p q = e) (h0 : e ≠ 0) : paceF p = e := by
 rw [paceF, if_neg (by omega), firstE_found hn (by rw [he]; exact h0) hq, he]
theorem paceF_ok (h : p.length ≤ 200) (hn : ∀ j, j < p.length → paceE p j = 0) : paceF p = 0 := by rw [paceF, if_neg (by omega), firstE_none hn]
end
section
variable {o : List OrdrS} {i : Nat}
theorem ordrE_5a (h : keyF (o.getD i default).key = false) : ordrE o i = 5 := by rw [ordrE, if_pos (by rw [h]; rfl)]
theorem ordrE_5b (h : keyF (o.getD i default).product = false) : ordrE o i = 5 := by rw [ordrE, if_pos (by rw [h, Bool.and_false])]
theorem ordrE_1 (h1 : keyF (o.getD i default).key = true) (h2 : keyF (o.getD i default).product = true) (ho : (outR (o.getD i default).count 1 100000 || (outR (o.getD i default).ready 0 345686399999 || outR (o.getD i default).due 0 345686399999)) = true) : ordrE o i = 1 := by
 rw [ordrE, if_neg (by rw [h1, h2]; simp), if_pos ho]
theorem ordrE_7 (h1 : keyF (o.getD i default).key = true) (h2 : keyF (o.getD i default).product = true) (ho : (outR (o.getD i default).count 1 100000 || (outR (o.getD i default).ready 0 345686399999 || outR (o.getD i default).due 0 345686399999)) = false) (hi : 0 < i) (hs : sLe (o.getD i default).key (o.getD (i - 1) default).key = true) : ordrE o i = 7 := by
 rw [ordrE, if_neg (by rw [h1, h2]; simp), if_neg (by rw [ho]; simp), if_pos (by rw [hs, decide_eq_true hi]; rfl)]
theorem ordrE_0 (h1 : keyF (o.getD i default).key = true) (h2 : keyF (o.getD i default).product = true) (ho : (outR (o.getD i default).count 1 100000 || (outR (o.getD i default).ready 0 345686399999 || outR (o.getD i default).due 0 345686399999)) = false) (hs : i = 0 ∨ sLe (o.getD i default).key (o.getD (i - 1) default).key = false) : ordrE o i = 0 := by
 rw [ordrE, if_neg (by rw [h1, h2]; simp), if_neg (by rw [ho]; simp), if_neg]
 rcases hs with rfl | hs
 ·simp
 ·rw [hs]; simp
theorem ordrF_2 (h : 200 < o.length) : ordrF o = 2 := by rw [ordrF, if_pos h]
theorem ordrF_at (h : o.length ≤ 200) {q : Nat} (hq : q < o.length) (hn : ∀ j, j < q → ordrE o j = 0) {e : Int} (he : ordrE o q = e) (h0 : e ≠ 0) : ordrF o = e := by
 rw [ordrF, if_neg (by omega), firstE_found hn (by rw [he]; exact h0) hq, he]
theorem ordrF_ok (h : o.length ≤ 200) (hn : ∀ j, j < o.length → ordrE o j = 0) : ordrF o = 0 := by rw [ordrF, if_neg (by omega), firstE_none hn]
end
def hasP (p : List PaceS) (k : ByteArray) : Bool := p.any fun x => sEq x.product k
def paceO (p : List PaceS) (k : ByteArray) : PaceS := (p.find? fun x => sEq x.product k).getD default
def bothF (p : List PaceS) (o : List OrdrS) : Int :=
 if paceF p ≠ 0 then paceF p else if ordrF o ≠ 0 then ordrF o else if o.all (fun x => hasP p x.product) = true then 0 else 8
theorem bothF_1 {p : List PaceS} {o : List OrdrS} (h : paceF p ≠ 0) : bothF p o = paceF p := by rw [bothF, if_pos h]
theorem bothF_2 {p : List PaceS} {o : List OrdrS} (h : paceF p = 0) (h2 : ordrF o ≠ 0) : bothF p o = ordrF o := by rw [bothF, if_neg (by omega), if_pos h2]
theorem bothF_3 {p : List PaceS} {o : List OrdrS} (h : paceF p = 0) (h2 : ordrF o = 0) : bothF p o = if o.all (fun x => hasP p x.product) = true then 0 else 8 := by rw [bothF, if_neg (by omega), if_neg (by omega)]
theorem bothF_0 {p : List PaceS} {o : List OrdrS} (h : bothF p o = 0) : paceF p = 0 ∧ ordrF o = 0 ∧ o.all (fun x => hasP p x.product) = true := by
 unfold bothF at h
 split at h
 ·contradiction
 ·split at h
  ·contradiction
  ·split at h
   ·rename_i h1 h2 h3; exact ⟨by simpa using h1, by simpa using h2, h3⟩
   ·cases h
structure PacesOk (p : List PaceS) : Prop where
 len : p.length ≤ 200
 all : ∀ j, j < p.length → paceE p j = 0
theorem pacesOk {p : List PaceS} (h : paceF p = 0) : PacesOk p := by
 unfold paceF at h
 split at h
 ·cases h
 ·exact ⟨by omega, firstE_zero h⟩
structure OrdrsOk (o : List OrdrS) : Prop where
 len : o.length ≤ 200
 all : ∀ j, j < o.length → ordrE o j = 0
theorem ordrsOk {o : List OrdrS} (h : ordrF o = 0) : OrdrsOk o := by
 unfold ordrF at h
 split at h
 ·cases h
 ·exact ⟨by omega, firstE_zero h⟩
theorem paceE_zero {p : List PaceS} {i : Nat} (h : paceE p i = 0) : keyF (p.getD i default).product = true ∧ (0 < i → sLe (p.getD i default).product (p.getD (i - 1) default).product = false) ∧ (1 ≤ (p.getD i default).cycle ∧ (p.getD i default).cycle ≤ 10000000) ∧ needsF (p.getD i default).needs 1 1000 = 0 := by
 unfold paceE at h
 split at h
 ·cases h
 ·rename_i h1
  split at h
  ·cases h
  ·rename_i h2
   split at h
   ·cases h
   ·rename_i h3
    refine ⟨by simpa using h1, fun hi => ?_, ?_, h⟩
    ·rw [decide_eq_true hi, Bool.true_and] at h2
     simpa using h2
    ·simp only [outR, Bool.or_eq_true, decide_eq_true_eq, not_or] at h3
     omega
theorem ordrE_zero {o : List OrdrS} {i : Nat} (h : ordrE o i = 0) : (keyF (o.getD i default).key = true ∧ keyF (o.getD i default).product = true) ∧ (0 < i → sLe (o.getD i default).key (o.getD (i - 1) default).key = false) ∧ (1 ≤ (o.getD i default).count ∧ (o.getD i default).count ≤ 100000) ∧ (0 ≤ (o.getD i default).ready ∧ (o.getD i default).ready ≤ 345686399999) ∧ (0 ≤ (o.getD i default).due ∧ (o.getD i default).due ≤ 345686399999) := by
 unfold ordrE at h
 split at h
 ·cases h
 ·rename_i h1
  split at h
  ·cases h
  ·rename_i h2
   split at h
   ·cases h
   ·rename_i h3
    have h1' : (keyF (o.getD i default).key && keyF (o.getD i default).product) = true := by simpa using h1
    rw [Bool.and_eq_true] at h1'
    simp only [outR, Bool.or_eq_true, decide_eq_true_eq, not_or] at h2
    refine ⟨h1', fun hi => ?_, by omega, by omega, by omega⟩
    rw [decide_eq_true hi, Bool.true_and] at h3
    simpa using h3
def chgN (a b : List NeedS) (q : Nat) : Nat := ((b.take q).filter fun x => !(a.any fun y => sEq y.key x.key)).length
theorem chgN_le (a b : List NeedS) (q : Nat) : chgN a b q ≤ b.length := by
 unfold chgN
 have := List.length_filter_le (fun x => !(a.any fun y => sEq y.key x.key)) (b.take q)
 rw [List.length_take] at this
 omega
theorem chgN_t {a b : List NeedS} {q : Nat} (h : q < b.length) (hx : a.any (fun y => sEq y.key (b.getD q default).key) = false) : chgN a b (q + 1) = chgN a b q + 1 := by
 unfold chgN
 rw [List.take_add_one, List.getElem?_eq_getElem h, List.filter_append, List.length_append]
 have : b.getD q default = b[q] := by rw [List.getD_eq_getElem?_getD, List.getElem?_eq_getElem h]; rfl
 rw [this] at hx
 simp [hx]
theorem chgN_f {a b : List NeedS} {q : Nat} (h : q < b.length) (hx : a.any (fun y => sEq y.key (b.getD q default).key) = true) : chgN a b (q + 1) = chgN a b q := by
 unfold chgN
 rw [List.take_add_one, List.getElem?_eq_getElem h, List.filter_append, List.length_append]
 have : b.getD q default = b[q] := by rw [List.getD_eq_getElem?_getD, List.getElem?_eq_getElem h]; rfl
 rw [this] at hx
 simp [hx]
def chgI (a b : PaceS) (each : Int) : Int := each * (chgN a.needs b.needs b.needs.length : Int)
def schF (n : Nat) (l : List Int) : Int := if l.length = n ∧ l.Nodup ∧ (∀ x ∈ l, 0 ≤ x ∧ x < n) then 0 else 3
def startF (start each : Int) : Int := if (outR start 0 345686399999 || outR each 0 10000000) = true then 1 else 0
def scheF (p : List PaceS) (o : List OrdrS) (l : List Int) (start each : Int) : Int :=
 if bothF p o ≠ 0 then bothF p o else if schF o.length l ≠ 0 then schF o.length l else startF start each
def longO (p : List PaceS) (x : OrdrS) : Int := (paceO p x.product).cycle * x.count
def turnO (p : List PaceS) (each : Int) (x y : OrdrS) : Int := chgI (paceO p x.product) (paceO p y.product) each
structure ResS where
 late : Int
 many : Int
 en : Int
section
variable (p : List PaceS) (o : List OrdrS) (l : List Int) (start each : Int)
abbrev orA (i : Int) : OrdrS := o.getD i.toNat default
def endP : Nat → Int
 | 0 => max start (orA o (l.getD 0 0)).ready + longO p (orA o (l.getD 0 0))
 | q + 1 => max (endP q + turnO p each (orA o (l.getD q 0)) (orA o (l.getD (q + 1) 0))) (orA o (l.getD (q + 1) 0)).ready + longO p (orA o (l.getD (q + 1) 0))
def fromP : Nat → Int
 | 0 => max start (orA o (l.getD 0 0)).ready
 | q + 1 => max (endP p o l start each q + turnO p each (orA o (l.getD q 0)) (orA o (l.getD (q + 1) 0))) (orA o (l.getD (q + 1) 0)).ready
def winP (q : Nat) : WinS := ⟨fromP p o l start each q, endP p o l start each q⟩
theorem endP_from (q : Nat) : endP p o l start each q = fromP p o l start each q + longO p (orA o (l.getD q 0)) := by cases q <;> rfl
def resP : Nat → ResS
 | 0 => ⟨0, 0, start⟩
 | q + 1 => if (orA o (l.getD q 0)).due < endP p o l start each q
   then ⟨(resP q).late + (endP p o l start each q - (orA o (l.getD q 0)).due), (resP q).many + 1, endP p o l start each q⟩
   else ⟨(resP q).late, (resP q).many, endP p o l start each q⟩
theorem resP_en (q : Nat) : (resP p o l start each (q + 1)).en = endP p o l start each q := by rw [resP]; split <;> rfl
def timesQ : Nat → List WinS
 | 0 => List.replicate o.length default
 | q + 1 => (timesQ q).set (l.getD q 0).toNat (winP p o l start each q)
theorem timesQ_len (q : Nat) : (timesQ p o l start each q).length = o.length := by
 induction q with
 | zero => simp [timesQ]
 | succ q ih => simp [timesQ, ih]
end
end
section
theorem pace_rise {p : List PaceS} (h : PacesOk p) : RiseK PaceS.product p := fun j h0 hj => (paceE_zero (h.all j hj)).2.1 h0
theorem needsF_lenP {l : List NeedS} {lo hi : Int} (h : needsF l lo hi = 0) : l.length ≤ 1000 := by
 unfold needsF at h
 split at h
 ·cases h
 ·omega
theorem paceO_in {p : List PaceS} {k : ByteArray} (h : hasP p k = true) : ∃ j, j < p.length ∧ paceO p k = p.getD j default := by
 unfold hasP at h
 cases hf : p.find? (fun x => sEq x.product k) with
 | none => rw [List.find?_eq_none] at hf; obtain ⟨x, hx, he⟩ := List.any_eq_true.1 h; exact absurd he (hf x hx)
 | some x =>
  obtain ⟨j, hj, e⟩ := List.getElem_of_mem (List.mem_of_find?_eq_some hf)
  refine ⟨j, hj, ?_⟩
  rw [paceO, hf, List.getD_eq_getElem?_getD, List.getElem?_eq_getElem hj, e]
theorem paceO_ok {p : List PaceS} (hp : PacesOk p) {k : ByteArray} (h : hasP p k = true) : (1 ≤ (paceO p k).cycle ∧ (paceO p k).cycle ≤ 10000000) ∧ (paceO p k).needs.length ≤ 1000 := by
 obtain ⟨j, hj, e⟩ := paceO_in h
 rw [e]
 have := paceE_zero (hp.all j hj)
 exact ⟨this.2.2.1, needsF_lenP this.2.2.2⟩
theorem paceO_sm {p : List PaceS} (hp : SmPc p) (k : ByteArray) : (paceO p k).needs.length ≤ 1000000 ∧ ∀ j, ((paceO p k).needs.getD j default).key.size ≤ 1000000 := by
 by_cases h : hasP p k = true
 ·obtain ⟨j, _, e⟩ := paceO_in h
  rw [e]; exact ⟨hp.nlen j, hp.nkey j⟩
 ·have : paceO p k = default := by
   unfold paceO
   exact find_none' (by simpa [hasP] using h)
  rw [this]
  exact ⟨by simp [default], fun j => by simp [default]⟩
theorem mul_bd {a b A B : Int} (h0 : 0 ≤ a) (h1 : a ≤ A) (h2 : 0 ≤ b) (h3 : b ≤ B) : 0 ≤ a * b ∧ a * b ≤ A * B :=
 ⟨Int.mul_nonneg h0 h2, Int.le_trans (Int.mul_le_mul_of_nonneg_right h1 h2) (Int.mul_le_mul_of_nonneg_left h3 (Int.le_trans h0 h1))⟩
structure OrdrsB (o : List OrdrS) : Prop where
 len : o.length ≤ 201
 all : ∀ j, j < o.length → (1 ≤ (o.getD j default).count ∧ (o.getD j default).count ≤ 100000) ∧ (0 ≤ (o.getD j default).ready ∧ (o.getD j default).ready ≤ 345686399999) ∧ (0 ≤ (o.getD j default).due ∧ (o.getD j default).due ≤ 345686399999)
theorem OrdrsOk.bd {o : List OrdrS} (h : OrdrsOk o) : OrdrsB o := ⟨by have := h.len; omega, fun j hj => (ordrE_zero (h.all j hj)).2.2⟩
structure SchOk (p : List PaceS) (o : List OrdrS) (l : List Int) (start each : Int) : Prop where
 pok : PacesOk p
 ook : OrdrsB o
 has : ∀ j, j < o.length → hasP p (o.getD j default).product = true
 len : l.length = o.length
 ord : Ord o.length l
 st : 0 ≤ start ∧ start ≤ 345686399999
 ea : 0 ≤ each ∧ each ≤ 10000000
theorem bothF_has {p : List PaceS} {o : List OrdrS} (h : bothF p o = 0) : ∀ j, j < o.length → hasP p (o.getD j default).product = true := fun j hj => by
 have := List.all_eq_true.1 (bothF_0 h).2.2 (o[j]) (List.getElem_mem hj)
 rwa [List.getD_eq_getElem?_getD, List.getElem?_eq_getElem hj]
theorem schF_0 {n : Nat} {l : List Int} (h : schF n l = 0) : l.length = n ∧ Ord n l := by
 unfold schF at h
 split at h
 ·rename_i h1; exact ⟨h1.1, h1.2.1, h1.2.2⟩
 ·cases h
theorem startF_0 {s e : Int} (h : startF s e = 0) : (0 ≤ s ∧ s ≤ 345686399999) ∧ (0 ≤ e ∧ e ≤ 10000000) := by
 unfold startF at h
 split at h
 ·cases h
 ·rename_i h1
  simp only [outR, Bool.or_eq_true, decide_eq_true_eq, not_or] at h1
  omega
theorem schOk {p : List PaceS} {o : List OrdrS} {l : List Int} {s e : Int} (h : scheF p o l s e = 0) : SchOk p o l s e := by
 unfold scheF at h
 split at h
 ·contradiction
 ·split at h
  ·contradiction
  ·rename_i h1 h2
   have h1' : bothF p o = 0 := by simpa using h1
   have h2' : schF o.length l = 0 := by simpa using h2
   have h3 := bothF_0 h1'
   have h4 := startF_0 h
   exact ⟨pacesOk h3.1, (ordrsOk h3.2.1).bd, bothF_has h1', (schF_0 h2').1, (schF_0 h2').2, h4.1, h4.2⟩
section
variable {p : List PaceS} {o : List OrdrS} {l : List Int} {start each : Int} (h : SchOk p o l start each)
include h
theorem SchOk.at_ {q : Nat} (hq : q < l.length) : 0 ≤ l.getD q 0 ∧ (l.getD q 0).toNat < o.length := by
 have := h.ord.lt (l[q]) (List.getElem_mem hq)
 rw [List.getD_eq_getElem?_getD, List.getElem?_eq_getElem hq]
 simp only [Option.getD_some]
 omega
theorem SchOk.long {i : Nat} (hi : i < o.length) : 0 ≤ longO p (o.getD i default) ∧ longO p (o.getD i default) ≤ 1000000000000 := by
 have h1 := (paceO_ok h.pok (h.has i hi)).1
 have h2 := (h.ook.all i hi).1
 have := mul_bd (by omega : 0 ≤ (paceO p (o.getD i default).product).cycle) h1.2 (by omega : 0 ≤ (o.getD i default).count) h2.2
 unfold longO
 omega
theorem SchOk.turn {i j : Nat} (hj : j < o.length) : 0 ≤ turnO p each (o.getD i default) (o.getD j default) ∧ turnO p each (o.getD i default) (o.getD j default) ≤ 10000000000 := by
 have h1 := (paceO_ok h.pok (h.has j hj)).2
 have h2 := chgN_le (paceO p (o.getD i default).product).needs (paceO p (o.getD j default).product).needs (paceO p (o.getD j default).product).needs.length
 have := mul_bd h.ea.1 h.ea.2 (by omega : (0 : Int) ≤ (chgN (paceO p (o.getD i default).product).needs (paceO p (o.getD j default).product).needs (paceO p (o.getD j default).product).needs.length : Int)) (by omega : _ ≤ (1000 : Int))
 unfold turnO chgI
 omega
theorem SchOk.bd : ∀ q, q < l.length → (0 ≤ fromP p o l start each q ∧ fromP p o l start each q ≤ endP p o l start each q) ∧ endP p o l start each q ≤ 345686400000 + (q + 1) * 1010000000000
 | 0, hq => by
  have h1 := h.at_ hq
  have h2 := h.long h1.2
  have h3 := (h.ook.all _ h1.2).2.1
  have h4 := h.st
  simp only [fromP, endP, orA]
  omega
 | q + 1, hq => by
  have h1 := h.at_ hq
  have h2 := h.long h1.2
  have h3 := (h.ook.all _ h1.2).2.1
  have h5 := SchOk.bd q (by omega)
  have h6 := h.turn (i := (l.getD q 0).toNat) h1.2
  simp only [fromP, endP, orA]
  omega
theorem SchOk.res : ∀ q, q ≤ l.length → (0 ≤ (resP p o l start each q).late ∧ (resP p o l start each q).late ≤ q * 300000000000000) ∧ (0 ≤ (resP p o l start each q).many ∧ (resP p o l start each q).many ≤ q) ∧ (0 ≤ (resP p o l start each q).en ∧ (resP p o l start each q).en ≤ 300000000000000)
 | 0, hq => by
  have h4 := h.st
  simp only [resP]
  omega
 | q + 1, hq => by
  have h1 := h.at_ (q := q) (by omega)
  have h3 := (h.ook.all _ h1.2).2.2
  have h5 := h.bd q (by omega)
  have h6 := SchOk.res q (by omega)
  have h7 := h.ook.len
  have h8 := h.len
  simp only [resP, orA]
  split
  ·rename_i hd
   simp only
   omega
  ·simp only
   omega
end
def schC (p : List PaceS) (o : List OrdrS) (each : Int) : Nat → AV
 | 0 => avL o
 | 1 => avInts (o.map (longO p))
 | _ => avM (o.map fun x => o.map (turnO p each x))
def schAV (p : List PaceS) (o : List OrdrS) (l : List Int) (start each : Int) : AV := if scheF p o l start each = 0 then .at_ 3 (schC p o each) else .v (.pointer none)
def timesR (p : List PaceS) (o : List OrdrS) (l : List Int) (start each : Int) : List WinS := if scheF p o l start each = 0 then timesQ p o l start each l.length else []
theorem scheF_1 {p : List PaceS} {o : List OrdrS} {l : List Int} {s e : Int} (h : bothF p o ≠ 0) : scheF p o l s e = bothF p o := by rw [scheF, if_pos h]
theorem scheF_2 {p : List PaceS} {o : List OrdrS} {l : List Int} {s e : Int} (h : bothF p o = 0) (h2 : schF o.length l ≠ 0) : scheF p o l s e = schF o.length l := by rw [scheF, if_neg (by omega), if_pos h2]
theorem scheF_3 {p : List PaceS} {o : List OrdrS} {l : List Int} {s e : Int} (h : bothF p o = 0) (h2 : schF o.length l = 0) : scheF p o l s e = startF s e := by rw [scheF, if_neg (by omega), if_neg (by omega)]
theorem schAV_no {p : List PaceS} {o : List OrdrS} {l : List Int} {s e : Int} (h : scheF p o l s e ≠ 0) : schAV p o l s e = .v (.pointer none) := by rw [schAV, if_neg h]
theorem schAV_ok {p : List PaceS} {o : List OrdrS} {l : List Int} {s e : Int} (h : scheF p o l s e = 0) : schAV p o l s e = .at_ 3 (schC p o e) := by rw [schAV, if_pos h]
theorem resP_t {p : List PaceS} {o : List OrdrS} {l : List Int} {s e : Int} {q : Nat} (h : (orA o (l.getD q 0)).due < endP p o l s e q) : resP p o l s e (q + 1) = ⟨(resP p o l s e q).late + (endP p o l s e q - (orA o (l.getD q 0)).due), (resP p o l s e q).many + 1, endP p o l s e q⟩ := by rw [resP, if_pos h]
theorem resP_f {p : List PaceS} {o : List OrdrS} {l : List Int} {s e : Int} {q : Nat} (h : ¬ (orA o (l.getD q 0)).due < endP p o l s e q) : resP p o l s e (q + 1) = ⟨(resP p o l s e q).late, (resP p o l s e q).many, endP p o l s e q⟩ := by rw [resP, if_neg h]
theorem map_getD {α β : Type} (f : α → β) {l : List α} {i : Nat} (h : i < l.length) (d : α) (e : β) : (l.map f).getD i e = f (l.getD i d) := by
 simp [List.getD_eq_getElem?_getD, h]
def runA {τ : Type} (step : τ → Int → WinS → τ) (p : List PaceS) (o : List OrdrS) (l : List Int) (start each : Int) (a : τ) : Nat → τ
 | 0 => a
 | q + 1 => step (runA step p o l start each a q) (l.getD q 0) (winP p o l start each q)
theorem runA_times (p : List PaceS) (o : List OrdrS) (l : List Int) (start each : Int) : ∀ q, runA (fun (a : List WinS) i w => a.set i.toNat w) p o l start each (List.replicate o.length default) q = timesQ p o l start each q
 | 0 => rfl
 | q + 1 => by rw [runA, runA_times p o l start each q]; rfl
def DoesW (n : Nat) {τ : Type} (K : τ → List Ent → Prop) (step : τ → Int → WinS → τ) (P : Program) (F : FuncId) (caps : Array Value) : Prop :=
 ∀ (i : Int) (w : WinS) (a : τ) (h : List Ent), 0 ≤ i → i.toNat < n → K a h →
  SpecH P F ([avI i, .agg [avI w.fr, avI w.to]] ++ caps.toList.map .v) h (fun y hp' => K (step a i w) hp')
theorem map_snoc {α β : Type} {l : List α} {q : Nat} (f : α → β) (h : q < l.length) (d : α) : (l.take (q + 1)).map f = (l.take q).map f ++ [f (l.getD q d)] := by
 rw [List.take_add_one, List.map_append, List.getD_eq_getElem?_getD, List.getElem?_eq_getElem h]; rfl
theorem Ord.take {n : Nat} {l : List Int} {q : Nat} (h : Ord n (l.take q)) (hq : q < l.length) (h0 : 0 ≤ l.getD q 0) (h1 : (l.getD q 0).toNat < n) (h2 : l.getD q 0 ∉ l.take q) : Ord n (l.take (q + 1)) := by
 have := h.snoc h1 (by rwa [Int.toNat_of_nonneg h0])
 rw [Int.toNat_of_nonneg h0] at this
 rw [List.take_add_one, List.getElem?_eq_getElem hq]
 rwa [List.getD_eq_getElem?_getD, List.getElem?_eq_getElem hq] at this
theorem schF_len {n : Nat} {l : List Int} (h : l.length ≠ n) : schF n l = 3 := by rw [schF, if_neg fun e => h e.1]
theorem schF_out {n : Nat} {l : List Int} {q : Nat} (hq : q < l.length) (h : l.getD q 0 < 0 ∨ (n : Int) ≤ l.getD q 0) : schF n l = 3 := by
 rw [schF, if_neg fun e => ?_]
 have := e.2.2 (l[q]) (List.getElem_mem hq)
 rw [List.getD_eq_getElem?_getD, List.getElem?_eq_getElem hq] at h
 simp only [Option.getD_some] at h
 omega
theorem schF_twice {n : Nat} {l : List Int} {q : Nat} (hq : q < l.length) (h : l.getD q 0 ∈ l.take q) : schF n l = 3 := by
 rw [schF, if_neg fun e => ?_]
 rw [List.getD_eq_getElem?_getD, List.getElem?_eq_getElem hq] at h
 simp only [Option.getD_some] at h
 obtain ⟨i, hi, he⟩ := List.getElem_of_mem h
 simp at hi
 rw [List.getElem_take] at he
 have := List.pairwise_iff_getElem.1 e.2.1 i q (by omega) hq (by omega)
 exact this he
theorem schF_ok {n : Nat} {l : List Int} (hl : l.length = n) (h : Ord n l) : schF n l = 0 := by rw [schF, if_pos ⟨hl, h.nd, h.lt⟩]
theorem usedL_take {n : Nat} {l : List Int} {q : Nat} (hq : q < l.length) (h0 : 0 ≤ l.getD q 0) (h1 : (l.getD q 0).toNat < n) : (usedL n (l.take q)).set (l.getD q 0).toNat (avB true) = usedL n (l.take (q + 1)) := by
 rw [usedL_set h1, Int.toNat_of_nonneg h0, List.take_add_one, List.getElem?_eq_getElem hq]
 rw [List.getD_eq_getElem?_getD, List.getElem?_eq_getElem hq]
 rfl
end
section
theorem line_NeedsFault {l : List NeedS} {lo hi : Int} (hl : l.length ≤ 1000000000) (hb : ∀ i, (l.getD i default).key.size ≤ 1000000000) :
  SpecN Tryz.prog 193 [avL l, avI lo, avI hi] (fun y => y = avI (needsF l lo hi)) := by
 refine SpecN.of_VCN Tryz.func193 rfl Tryz.ntmps193 (Nle rfl) fun w A hB => ?_
 refine VC.sr ?_
 refine VO.ma rfl rfl rfl rfl ?_
 refine VO.nil ?_
 refine VC.seq ?_
 refine VC.sr ?_
 refine VO.mv rfl rfl rfl rfl ?_
 refine VO.val rfl rfl (OpV.len_im rfl Tryz.underlying68 rfl) ?_
 refine VO.val rfl rfl (OpV.gtr rfl rfl rfl) ?_
 refine VO.nil ?_
 refine VC.cond rfl (fun aH1b => ?_) (fun aH1b => ?_)
 ·have aH1 := aH1b
  try simp only [qq] at aH1
  refine VC.sr ?_
  refine VO.ma rfl rfl rfl rfl ?_
  refine VO.nil ?_
  refine VC.ret ?_
  exact Exists.intro _ (And.intro (RetN.one Tryz.results193 (ResN.v rfl)) (by rw [needsF_big (by omega)]))
 ·have aH1 := aH1b
  try simp only [qq] at aH1
  refine VC.skip ?_
  refine VC.seq ?_
  refine VC.sr ?_
  refine VO.mv rfl rfl rfl rfl ?_
  refine VO.val rfl rfl (OpV.len_im rfl Tryz.underlying68 rfl) ?_
  refine VO.mv rfl rfl rfl rfl ?_
  refine VO.nil ?_
  refine VC.block ?_
  refine VC.loopK [] trivial ({q : Nat // q ≤ l.length ∧ ∀ j, j < q → needE l lo hi j = 0}) (fun (iZ : {q : Nat // q ≤ l.length ∧ ∀ j, j < q → needE l lo hi j = 0}) => match iZ with | ⟨q, hq, hn⟩ => [(0, avL l), (1, avI lo), (2, avI hi), (12, avL l), (13, avI l.length), (14, avI (q : Int))]) (fun (iZ : {q : Nat // q ≤ l.length ∧ ∀ j, j < q → needE l lo hi j = 0}) => match iZ with | ⟨q, hq, hn⟩ => []) (fun (iZ : {q : Nat // q ≤ l.length ∧ ∀ j, j < q → needE l lo hi j = 0}) => match iZ with | ⟨q, hq, hn⟩ => 0) (fun (iZ : {q : Nat // q ≤ l.length ∧ ∀ j, j < q → needE l lo hi j = 0}) => match iZ with | ⟨q, hq, hn⟩ => l.length - q) ⟨0, Nat.zero_le _, fun j hj => absurd hj (Nat.not_lt_zero j)⟩ (Le.mk hB [] ⟨rfl, rfl, rfl, rfl, rfl, rfl, trivial⟩ rfl rfl (Nat.le_refl _)) ?_
  rintro ⟨q, hq, hn⟩
  show VC _ _ _ _ ⟨[(0, avL l), (1, avI lo), (2, avI hi), (12, avL l), (13, avI l.length), (14, avI (q : Int))] ++ [], [], 0⟩
  refine VC.sr ?_
  refine VO.val rfl rfl (OpV.lss rfl rfl rfl) ?_
  refine VO.nil ?_
  refine VC.seq ?_
  refine VC.cond rfl (fun aH2b => ?_) (fun aH2b => ?_)
  ·have aH2 := aH2b
   try simp only [qq] at aH2
   refine VC.skip ?_
   refine VC.seq ?_
   refine VC.block ?_
   refine VC.sr ?_
   refine VO.mv rfl rfl rfl rfl ?_
   refine VO.val rfl rfl (OpV.indexAddr_E rfl Tryz.underlying68 Tryz.sizeOf90 rfl rfl rfl (by omega)) ?_
   refine VO.val rfl rfl (OpV.loadK_at rfl hB OutW.no Tryz.isAgg90 Tryz.sizeOf90 rfl rfl) ?_
   refine VO.op rfl (OpE.alloc rfl hB rfl Tryz.zeroValue90 rfl ?_)
   intro g8
   refine VO.ma rfl rfl rfl rfl ?_
   refine VO.op rfl (OpE.store (i := 0) rfl hB rfl Tryz.sizeOf90 rfl rfl rfl rfl rfl rfl (Nle rfl) trivial ?_)
   refine VO.nil ?_
   refine VC.block ?_
   refine VC.sr ?_
   refine VO.val rfl rfl (OpV.fieldAddrO 0 rfl Tryz.underlying90 rfl rfl Tryz.sizeOf9 rfl) ?_
   refine VO.val rfl rfl (OpV.load_own (i := 0) rfl hB Tryz.isAgg9 rfl rfl rfl (fun h => h)) ?_
   refine VO.op rfl (OpE.call rfl hB rfl Tryz.call230 rfl (SpecN.spec (kit_IsKey (hb _))) ?_)
   rintro _ rfl
   refine VO.val rfl rfl (OpV.not rfl rfl) ?_
   refine VO.ma rfl rfl rfl rfl ?_
   refine VO.nil ?_
   refine VC.cond rfl (fun hkb => ?_) (fun hkb => ?_)
   ·have hk := hkb
    try simp only [qq] at hk
    refine VC.sr ?_
    refine VO.ma rfl rfl rfl rfl ?_
    refine VO.nil ?_
    refine VC.ret ?_
    exact Exists.intro _ (And.intro (RetN.one Tryz.results193 (ResN.v rfl)) (by rw [needsF_at (by omega) (by omega) hn (needE_5 hk) (by decide)]))
   ·have hk := hkb
    try simp only [qq] at hk
    refine VC.seq ?_
    refine VC.draw (fun _ => NoB) hB (by kernel_rfl) ?_
    refine VA.take (i := 0) rfl (by kernel_rfl) (by kernel_rfl) (by kernel_rfl) rfl rfl (OpV.move (.inl rfl) rfl) ?_
    refine VA.take (i := 1) rfl (by kernel_rfl) (by kernel_rfl) (by kernel_rfl) rfl rfl (OpV.gtr rfl rfl rfl) ?_
    refine VA.take (i := 2) rfl (by kernel_rfl) (by kernel_rfl) (by kernel_rfl) rfl rfl (OpV.move (.inl rfl) rfl) ?_
    refine VA.split (t := 27) rfl (fun aK3b => ?_) (fun aK3b => ?_)
    ·have aK3 := aK3b
     try simp only [qq] at aK3
     refine VA.takeY (i := 3) rfl (by kernel_rfl) (by kernel_rfl) (by kernel_rfl) rfl rfl rfl rfl aK3b (OpV.fieldAddrO 0 rfl Tryz.underlying90 rfl rfl Tryz.sizeOf9 rfl) ?_
     refine VA.takeY (i := 4) rfl (by kernel_rfl) (by kernel_rfl) (by kernel_rfl) rfl rfl rfl rfl aK3b (OpV.load_own (i := 0) rfl hB Tryz.isAgg9 rfl rfl rfl Wi.not0) ?_
     refine VA.takeY (i := 5) rfl (by kernel_rfl) (by kernel_rfl) (by kernel_rfl) rfl rfl rfl rfl aK3b (OpV.move (.inl rfl) rfl) ?_
     refine VA.takeY (i := 6) rfl (by kernel_rfl) (by kernel_rfl) (by kernel_rfl) rfl rfl rfl rfl aK3b (OpV.move (.inl rfl) rfl) ?_
     refine VA.takeY (i := 7) rfl (by kernel_rfl) (by kernel_rfl) (by kernel_rfl) rfl rfl rfl rfl aK3b (OpV.sub rfl rfl rfl (by unfold fits; omega)) ?_
     refine VA.takeY (i := 8) rfl (by kernel_rfl) (by kernel_rfl) (by kernel_rfl) rfl rfl rfl rfl aK3b (OpV.indexAddr_E rfl Tryz.underlying68 Tryz.sizeOf90 rfl rfl (show ((q : Int) - 1) = ((q - 1 : Nat) : Int) by omega) (by omega)) ?_
     refine VA.takeY (i := 9) rfl (by kernel_rfl) (by kernel_rfl) (by kernel_rfl) rfl rfl rfl rfl aK3b (OpV.fieldAddr_atO 0 rfl Tryz.underlying90 rfl rfl Tryz.sizeOf9 rfl rfl) ?_
     refine VA.takeY (i := 10) rfl (by kernel_rfl) (by kernel_rfl) (by kernel_rfl) rfl rfl rfl rfl aK3b (OpV.load_at rfl hB OutW.wi0 Tryz.isAgg9 rfl rfl) ?_
     refine VA.takeY (i := 11) rfl (by kernel_rfl) (by kernel_rfl) (by kernel_rfl) rfl rfl rfl rfl aK3b (OpV.sleq rfl rfl rfl) ?_
     refine VA.take (i := 12) rfl (by kernel_rfl) (by kernel_rfl) (by kernel_rfl) rfl rfl (OpV.pickT rfl rfl rfl rfl aK3b) ?_
     refine VA.take (i := 13) rfl (by kernel_rfl) (by kernel_rfl) (by kernel_rfl) rfl rfl (OpV.move (.inr rfl) rfl) ?_
     refine VA.done (by kernel_rfl) ?_
     refine VC.cond rfl (fun hsb => ?_) (fun hsb => ?_)
     ·have hs := hsb
      try simp only [qq] at hs
      refine VC.sr ?_
      refine VO.ma rfl rfl rfl rfl ?_
      refine VO.nil ?_
      refine VC.ret ?_
      exact Exists.intro _ (And.intro (RetN.one Tryz.results193 (ResN.v rfl)) (by rw [needsF_at (by omega) (by omega) hn (needE_7 hk (by omega) hs) (by decide)]))
     ·have hs := hsb
      try simp only [qq] at hs
      refine VC.sr ?_
      refine VO.val rfl rfl (OpV.fieldAddrO 1 rfl Tryz.underlying90 rfl rfl Tryz.sizeOf3 rfl) ?_
      refine VO.val rfl rfl (OpV.load_own (i := 0) rfl hB Tryz.isAgg3 rfl rfl rfl (fun h => h)) ?_
      refine VO.mv rfl rfl rfl rfl ?_
      refine VO.mv rfl rfl rfl rfl ?_
      refine VO.op rfl (OpE.call rfl hB rfl Tryz.call161 rfl (SpecN.spec (kit_Outside)) ?_)
      rintro _ rfl
      refine VO.ma rfl rfl rfl rfl ?_
      refine VO.nil ?_
      refine VC.cond rfl (fun hob => ?_) (fun hob => ?_)
      ·have ho := hob
       try simp only [qq] at ho
       refine VC.sr ?_
       refine VO.ma rfl rfl rfl rfl ?_
       refine VO.nil ?_
       refine VC.ret ?_
       exact Exists.intro _ (And.intro (RetN.one Tryz.results193 (ResN.v rfl)) (by first | rw [needsF_at (by omega) (by omega) hn (needE_1 hk (.inr hs) ho) (by decide)] | rw [needsF_at (by omega) (by omega) hn (needE_1 hk (.inl (by omega)) ho) (by decide)]))
      ·have ho := hob
       try simp only [qq] at ho
       refine VC.skip ?_
       refine VC.region ?_
       refine VO.val rfl rfl (OpV.add rfl rfl rfl (by unfold fits; omega)) ?_
       refine VO.mv rfl rfl rfl rfl ?_
       refine VO.nil ?_
       exact Exists.intro (⟨q + 1, by omega, lt_succ_cases hn (needE_0 hk (.inr hs) ho)⟩) (And.intro (Le.mk hB [] ⟨rfl, rfl, rfl, rfl, rfl, rfl, trivial⟩ rfl rfl (Nat.le_refl _)) (by first | omega | (show _ < _; omega) | (simp only []; omega)))
    ·have aK3 := aK3b
     try simp only [qq] at aK3
     refine VA.takeX (i := 3) rfl (by kernel_rfl) (by kernel_rfl) (by kernel_rfl) rfl rfl rfl rfl aK3b ?_
     refine VA.takeX (i := 4) rfl (by kernel_rfl) (by kernel_rfl) (by kernel_rfl) rfl rfl rfl rfl aK3b ?_
     refine VA.takeX (i := 5) rfl (by kernel_rfl) (by kernel_rfl) (by kernel_rfl) rfl rfl rfl rfl aK3b ?_
     refine VA.takeX (i := 6) rfl (by kernel_rfl) (by kernel_rfl) (by kernel_rfl) rfl rfl rfl rfl aK3b ?_
     refine VA.takeX (i := 7) rfl (by kernel_rfl) (by kernel_rfl) (by kernel_rfl) rfl rfl rfl rfl aK3b ?_
     refine VA.takeX (i := 8) rfl (by kernel_rfl) (by kernel_rfl) (by kernel_rfl) rfl rfl rfl rfl aK3b ?_
     refine VA.takeX (i := 9) rfl (by kernel_rfl) (by kernel_rfl) (by kernel_rfl) rfl rfl rfl rfl aK3b ?_
     refine VA.takeX (i := 10) rfl (by kernel_rfl) (by kernel_rfl) (by kernel_rfl) rfl rfl rfl rfl aK3b ?_
     refine VA.takeX (i := 11) rfl (by kernel_rfl) (by kernel_rfl) (by kernel_rfl) rfl rfl rfl rfl aK3b ?_
     refine VA.take (i := 12) rfl (by kernel_rfl) (by kernel_rfl) (by kernel_rfl) rfl rfl (OpV.pickF rfl rfl rfl rfl aK3b) ?_
     refine VA.take (i := 13) rfl (by kernel_rfl) (by kernel_rfl) (by kernel_rfl) rfl rfl (OpV.move (.inr rfl) rfl) ?_
     refine VA.done (by kernel_rfl) ?_
     refine VC.condF rfl rfl ?_
     refine VC.sr ?_
     refine VO.val rfl rfl (OpV.fieldAddrO 1 rfl Tryz.underlying90 rfl rfl Tryz.sizeOf3 rfl) ?_
     refine VO.val rfl rfl (OpV.load_own (i := 0) rfl hB Tryz.isAgg3 rfl rfl rfl (fun h => h)) ?_
     refine VO.mv rfl rfl rfl rfl ?_
     refine VO.mv rfl rfl rfl rfl ?_
     refine VO.op rfl (OpE.call rfl hB rfl Tryz.call161 rfl (SpecN.spec (kit_Outside)) ?_)
     rintro _ rfl
     refine VO.ma rfl rfl rfl rfl ?_
     refine VO.nil ?_
     refine VC.cond rfl (fun hob => ?_) (fun hob => ?_)
     ·have ho := hob
      try simp only [qq] at ho
      refine VC.sr ?_
      refine VO.ma rfl rfl rfl rfl ?_
      refine VO.nil ?_
      refine VC.ret ?_
      exact Exists.intro _ (And.intro (RetN.one Tryz.results193 (ResN.v rfl)) (by first | rw [needsF_at (by omega) (by omega) hn (needE_1 hk (.inr hs) ho) (by decide)] | rw [needsF_at (by omega) (by omega) hn (needE_1 hk (.inl (by omega)) ho) (by decide)]))
     ·have ho := hob
      try simp only [qq] at ho
      refine VC.skip ?_
      refine VC.region ?_
      refine VO.val rfl rfl (OpV.add rfl rfl rfl (by unfold fits; omega)) ?_
      refine VO.mv rfl rfl rfl rfl ?_
      refine VO.nil ?_
      exact Exists.intro (⟨q + 1, by omega, lt_succ_cases hn (needE_0 hk (.inl (by omega)) ho)⟩) (And.intro (Le.mk hB [] ⟨rfl, rfl, rfl, rfl, rfl, rfl, trivial⟩ rfl rfl (Nat.le_refl _)) (by first | omega | (show _ < _; omega) | (simp only []; omega)))
  ·have aH2 := aH2b
   try simp only [qq] at aH2
   refine VC.exit ?_
   refine VC.sr ?_
   refine VO.ma rfl rfl rfl rfl ?_
   refine VO.nil ?_
   refine VC.ret ?_
   exact Exists.intro _ (And.intro (RetN.one Tryz.results193 (ResN.v rfl)) (by rw [needsF_ok (by omega) (fun j hj => hn j (by omega))]))
theorem line_CheckNeeds {l : List NeedS} (hl : l.length ≤ 1000000000) (hb : ∀ i, (l.getD i default).key.size ≤ 1000000000) :
  SpecN Tryz.prog 173 [avL l] (fun y => y = avI (needsF l 1 1000)) := by
 refine SpecN.of_VCN Tryz.func173 rfl Tryz.ntmps173 (Nle rfl) fun w A hB => ?_
 refine VC.sr ?_
 refine VO.ma rfl rfl rfl rfl ?_
 refine VO.nil ?_
 refine VC.sr ?_
 refine VO.mv rfl rfl rfl rfl ?_
 refine VO.op rfl (OpE.call rfl hB rfl Tryz.call193 rfl (SpecN.spec (line_NeedsFault hl hb)) ?_)
 rintro _ rfl
 refine VO.ma rfl rfl rfl rfl ?_
 refine VO.nil ?_
 refine VC.ret ?_
 exact Exists.intro _ (And.intro (RetN.one Tryz.results173 (ResN.v rfl)) (rfl))
end
section
abbrev boxPc (g : Nat) (x : PaceS) (ty : TypeId) : Ent := .box g ⟨[avS x.product, avI x.cycle, avL x.needs], ty, 3⟩
theorem nil_pace {w : World} {Z : Nat → Prop} {u : Value} (h : Rep w Z (.agg [avS ⟨#[]⟩, avI 0, .v (.slice none 0 0)]) u) : Rep w Z (avPc default) u := by
 cases h with
 | agg cs us hl hr =>
  refine .agg _ us hl fun j hj => ?_
  match j, hj with
  | 0, _ => exact hr 0 (by simp)
  | 1, _ => exact hr 1 (by simp)
  | 2, _ =>
   have := hr 2 (by simp)
   show Rep w Z (.im 0 2 _) _
   rw [this.eq_v]; exact .nil _ _
set_option maxHeartbeats 4000000 in
theorem plan_orderFault {o : List OrdrS} {i : Nat} (hs : SmOr o) (hi : i < o.length) :
  SpecN Tryz.prog 195 [avL o, avI (i : Int)] (fun y => y = avI (ordrE o i)) := by
 refine SpecN.of_VCN Tryz.func195 rfl Tryz.ntmps195 (Nle rfl) fun w A hB => ?_
 refine VC.seq ?_
 have hl := hs.len
 refine VC.region ?_
 refine VO.ma rfl rfl rfl rfl ?_
 refine VO.nil ?_
 refine VC.sr ?_
 refine VO.mv rfl rfl rfl rfl ?_
 refine VO.mv rfl rfl rfl rfl ?_
 refine VO.val rfl rfl (OpV.indexAddr_E rfl Tryz.underlying93 Tryz.sizeOf110 rfl rfl rfl (by omega)) ?_
 refine VO.val rfl rfl (OpV.loadK_at rfl hB OutW.no Tryz.isAgg110 Tryz.sizeOf110 rfl rfl) ?_
 refine VO.op rfl (OpE.alloc rfl hB rfl Tryz.zeroValue110 rfl ?_)
 intro g5
 refine VO.op rfl (OpE.store (i := 0) rfl hB rfl Tryz.sizeOf110 rfl rfl rfl rfl rfl rfl (Nle rfl) trivial ?_)
 refine VO.nil ?_
 refine VC.seq ?_
 refine VC.block ?_
 refine VC.sr ?_
 refine VO.val rfl rfl (OpV.fieldAddrO 0 rfl Tryz.underlying110 rfl rfl Tryz.sizeOf9 rfl) ?_
 refine VO.val rfl rfl (OpV.load_own (i := 0) rfl hB Tryz.isAgg9 rfl rfl rfl (fun h => h)) ?_
 refine VO.op rfl (OpE.call rfl hB rfl Tryz.call230 rfl (SpecN.spec (kit_IsKey (by have := hs.key i; omega))) ?_)
 rintro _ rfl
 refine VO.val rfl rfl (OpV.not rfl rfl) ?_
 refine VO.mv rfl rfl rfl rfl ?_
 refine VO.opG rfl rfl rfl rfl (fun aK1b => ?_) (fun aK1b => ?_)
 ·replace aK1b : _ = false := aK1b
  have aK1 := aK1b
  try simp only [qq] at aK1
  refine OpE.val (W := NoB) (OpV.fieldAddrO 1 rfl Tryz.underlying110 rfl rfl Tryz.sizeOf9 rfl) rfl ?_
  refine VO.opY rfl rfl rfl rfl aK1b ?_
  refine OpE.val (W := NoB) (OpV.load_own (i := 0) rfl hB Tryz.isAgg9 rfl rfl rfl (fun h => h)) rfl ?_
  refine VO.opY rfl rfl rfl rfl aK1b ?_
  refine OpE.call rfl hB rfl Tryz.call230 rfl (SpecN.spec (kit_IsKey (by have := hs.prod i; omega))) ?_
  rintro _ rfl
  refine VO.opY rfl rfl rfl rfl aK1b ?_
  refine OpE.val (W := NoB) (OpV.not rfl rfl) rfl ?_
  refine VO.val rfl rfl (OpV.pickF rfl rfl rfl rfl aK1b) ?_
  refine VO.ma rfl rfl rfl rfl ?_
  refine VO.nil ?_
  refine VC.cond rfl (fun aH2b => ?_) (fun aH2b => ?_)
  ·have aH2 := aH2b
   try simp only [qq] at aH2
   refine VC.sr ?_
   refine VO.ma rfl rfl rfl rfl ?_
   refine VO.nil ?_
   refine VC.ret ?_
   exact Exists.intro _ (And.intro (RetN.one Tryz.results195 (ResN.v rfl)) (by first | rw [ordrE_5a (by assumption)] | rw [ordrE_5b (by assumption)]))
  ·have aH2 := aH2b
   try simp only [qq] at aH2
   refine VC.sr ?_
   refine VO.val rfl rfl (OpV.fieldAddrO 2 rfl Tryz.underlying110 rfl rfl Tryz.sizeOf3 rfl) ?_
   refine VO.val rfl rfl (OpV.load_own (i := 0) rfl hB Tryz.isAgg3 rfl rfl rfl (fun h => h)) ?_
   refine VO.op rfl (OpE.call rfl hB rfl Tryz.call161 rfl (SpecN.spec (kit_Outside)) ?_)
   rintro _ rfl
   refine VO.mv rfl rfl rfl rfl ?_
   refine VO.opG rfl rfl rfl rfl (fun aK3b => ?_) (fun aK3b => ?_)
   ·replace aK3b : _ = false := aK3b
    have aK3 := aK3b
    try simp only [qq] at aK3
    refine OpE.val (W := NoB) (OpV.fieldAddrO 3 rfl Tryz.underlying110 rfl rfl Tryz.sizeOf3 rfl) rfl ?_
    refine VO.opY rfl rfl rfl rfl aK3b ?_
    refine OpE.val (W := NoB) (OpV.load_own (i := 0) rfl hB Tryz.isAgg3 rfl rfl rfl (fun h => h)) rfl ?_
    refine VO.opY rfl rfl rfl rfl aK3b ?_
    refine OpE.call rfl hB rfl Tryz.call188 rfl (SpecN.spec (kit_IsMoment)) ?_
    rintro _ rfl
    refine VO.opY rfl rfl rfl rfl aK3b ?_
    refine OpE.val (W := NoB) (OpV.not rfl rfl) rfl ?_
    refine VO.val rfl rfl (OpV.pickF rfl rfl rfl rfl aK3b) ?_
    refine VO.mv rfl rfl rfl rfl ?_
    refine VO.opG rfl rfl rfl rfl (fun aK4b => ?_) (fun aK4b => ?_)
    ·replace aK4b : _ = false := aK4b
     have aK4 := aK4b
     try simp only [qq] at aK4
     refine OpE.val (W := NoB) (OpV.fieldAddrO 4 rfl Tryz.underlying110 rfl rfl Tryz.sizeOf3 rfl) rfl ?_
     refine VO.opY rfl rfl rfl rfl aK4b ?_
     refine OpE.val (W := NoB) (OpV.load_own (i := 0) rfl hB Tryz.isAgg3 rfl rfl rfl (fun h => h)) rfl ?_
     refine VO.opY rfl rfl rfl rfl aK4b ?_
     refine OpE.call rfl hB rfl Tryz.call188 rfl (SpecN.spec (kit_IsMoment)) ?_
     rintro _ rfl
     refine VO.opY rfl rfl rfl rfl aK4b ?_
     refine OpE.val (W := NoB) (OpV.not rfl rfl) rfl ?_
     refine VO.val rfl rfl (OpV.pickF rfl rfl rfl rfl aK4b) ?_
     refine VO.ma rfl rfl rfl rfl ?_
     refine VO.nil ?_
     refine VC.cond rfl (fun aH5b => ?_) (fun aH5b => ?_)
     ·have aH5 := aH5b
      try simp only [qq] at aH5
      refine VC.sr ?_
      refine VO.ma rfl rfl rfl rfl ?_
      refine VO.nil ?_
      refine VC.ret ?_
      exact Exists.intro _ (And.intro (RetN.one Tryz.results195 (ResN.v rfl)) (by rw [ordrE_1 (by assumption) (by assumption) (by first | exact or3a (by assumption) | exact or3b (by assumption) | exact or3c (by assumption))]))
     ·have aH5 := aH5b
      try simp only [qq] at aH5
      refine VC.seq ?_
      refine VC.draw (fun _ => NoB) hB (by kernel_rfl) ?_
      refine VA.take (i := 0) rfl (by kernel_rfl) (by kernel_rfl) (by kernel_rfl) rfl rfl (OpV.move (.inl rfl) rfl) ?_
      refine VA.take (i := 1) rfl (by kernel_rfl) (by kernel_rfl) (by kernel_rfl) rfl rfl (OpV.gtr rfl rfl rfl) ?_
      refine VA.take (i := 2) rfl (by kernel_rfl) (by kernel_rfl) (by kernel_rfl) rfl rfl (OpV.move (.inl rfl) rfl) ?_
      refine VA.split (t := 40) rfl (fun aK6b => ?_) (fun aK6b => ?_)
      ·have aK6 := aK6b
       try simp only [qq] at aK6
       refine VA.takeY (i := 3) rfl (by kernel_rfl) (by kernel_rfl) (by kernel_rfl) rfl rfl rfl rfl aK6b (OpV.fieldAddrO 0 rfl Tryz.underlying110 rfl rfl Tryz.sizeOf9 rfl) ?_
       refine VA.takeY (i := 4) rfl (by kernel_rfl) (by kernel_rfl) (by kernel_rfl) rfl rfl rfl rfl aK6b (OpV.load_own (i := 0) rfl hB Tryz.isAgg9 rfl rfl rfl Wi.not0) ?_
       refine VA.takeY (i := 5) rfl (by kernel_rfl) (by kernel_rfl) (by kernel_rfl) rfl rfl rfl rfl aK6b (OpV.move (.inl rfl) rfl) ?_
       refine VA.takeY (i := 6) rfl (by kernel_rfl) (by kernel_rfl) (by kernel_rfl) rfl rfl rfl rfl aK6b (OpV.move (.inl rfl) rfl) ?_
       refine VA.takeY (i := 7) rfl (by kernel_rfl) (by kernel_rfl) (by kernel_rfl) rfl rfl rfl rfl aK6b (OpV.sub rfl rfl rfl (by unfold fits; omega)) ?_
       refine VA.takeY (i := 8) rfl (by kernel_rfl) (by kernel_rfl) (by kernel_rfl) rfl rfl rfl rfl aK6b (OpV.indexAddr_E rfl Tryz.underlying93 Tryz.sizeOf110 rfl rfl (show ((i : Int) - 1) = ((i - 1 : Nat) : Int) by omega) (by omega)) ?_
       refine VA.takeY (i := 9) rfl (by kernel_rfl) (by kernel_rfl) (by kernel_rfl) rfl rfl rfl rfl aK6b (OpV.fieldAddr_atO 0 rfl Tryz.underlying110 rfl rfl Tryz.sizeOf9 rfl rfl) ?_
       refine VA.takeY (i := 10) rfl (by kernel_rfl) (by kernel_rfl) (by kernel_rfl) rfl rfl rfl rfl aK6b (OpV.load_at rfl hB OutW.wi0 Tryz.isAgg9 rfl rfl) ?_
       refine VA.takeY (i := 11) rfl (by kernel_rfl) (by kernel_rfl) (by kernel_rfl) rfl rfl rfl rfl aK6b (OpV.sleq rfl rfl rfl) ?_
       refine VA.take (i := 12) rfl (by kernel_rfl) (by kernel_rfl) (by kernel_rfl) rfl rfl (OpV.pickT rfl rfl rfl rfl aK6b) ?_
       refine VA.take (i := 13) rfl (by kernel_rfl) (by kernel_rfl) (by kernel_rfl) rfl rfl (OpV.move (.inr rfl) rfl) ?_
       refine VA.done (by kernel_rfl) ?_
       refine VC.cond rfl (fun aH7b => ?_) (fun aH7b => ?_)
       ·have aH7 := aH7b
        try simp only [qq] at aH7
        refine VC.sr ?_
        refine VO.ma rfl rfl rfl rfl ?_
        refine VO.nil ?_
        refine VC.ret ?_
        exact Exists.intro _ (And.intro (RetN.one Tryz.results195 (ResN.v rfl)) (by rw [ordrE_7 (by assumption) (by assumption) (or3f (by assumption) (by assumption) (by assumption)) (by omega) (by assumption)]))
       ·have aH7 := aH7b
        try simp only [qq] at aH7
        refine VC.skip ?_
        refine VC.sr ?_
        refine VO.ma rfl rfl rfl rfl ?_
        refine VO.nil ?_
        refine VC.ret ?_
        exact Exists.intro _ (And.intro (RetN.one Tryz.results195 (ResN.v rfl)) (by first | rw [ordrE_0 (by assumption) (by assumption) (or3f (by assumption) (by assumption) (by assumption)) (.inr (by assumption))] | rw [ordrE_0 (by assumption) (by assumption) (or3f (by assumption) (by assumption) (by assumption)) (.inl (by omega))]))
      ·have aK6 := aK6b
       try simp only [qq] at aK6
       refine VA.takeX (i := 3) rfl (by kernel_rfl) (by kernel_rfl) (by kernel_rfl) rfl rfl rfl rfl aK6b ?_
       refine VA.takeX (i := 4) rfl (by kernel_rfl) (by kernel_rfl) (by kernel_rfl) rfl rfl rfl rfl aK6b ?_
       refine VA.takeX (i := 5) rfl (by kernel_rfl) (by kernel_rfl) (by kernel_rfl) rfl rfl rfl rfl aK6b ?_
       refine VA.takeX (i := 6) rfl (by kernel_rfl) (by kernel_rfl) (by kernel_rfl) rfl rfl rfl rfl aK6b ?_
       refine VA.takeX (i := 7) rfl (by kernel_rfl) (by kernel_rfl) (by kernel_rfl) rfl rfl rfl rfl aK6b ?_
       refine VA.takeX (i := 8) rfl (by kernel_rfl) (by kernel_rfl) (by kernel_rfl) rfl rfl rfl rfl aK6b ?_
       refine VA.takeX (i := 9) rfl (by kernel_rfl) (by kernel_rfl) (by kernel_rfl) rfl rfl rfl rfl aK6b ?_
       refine VA.takeX (i := 10) rfl (by kernel_rfl) (by kernel_rfl) (by kernel_rfl) rfl rfl rfl rfl aK6b ?_
       refine VA.takeX (i := 11) rfl (by kernel_rfl) (by kernel_rfl) (by kernel_rfl) rfl rfl rfl rfl aK6b ?_
       refine VA.take (i := 12) rfl (by kernel_rfl) (by kernel_rfl) (by kernel_rfl) rfl rfl (OpV.pickF rfl rfl rfl rfl aK6b) ?_
       refine VA.take (i := 13) rfl (by kernel_rfl) (by kernel_rfl) (by kernel_rfl) rfl rfl (OpV.move (.inr rfl) rfl) ?_
       refine VA.done (by kernel_rfl) ?_
       refine VC.condF rfl rfl ?_
       refine VC.skip ?_
       refine VC.sr ?_
       refine VO.ma rfl rfl rfl rfl ?_
       refine VO.nil ?_
       refine VC.ret ?_
       exact Exists.intro _ (And.intro (RetN.one Tryz.results195 (ResN.v rfl)) (by first | rw [ordrE_0 (by assumption) (by assumption) (or3f (by assumption) (by assumption) (by assumption)) (.inr (by assumption))] | rw [ordrE_0 (by assumption) (by assumption) (or3f (by assumption) (by assumption) (by assumption)) (.inl (by omega))]))
    ·replace aK4b : _ = true := aK4b
     have aK4 := aK4b
     try simp only [qq] at aK4
     refine VO.opX rfl rfl rfl rfl aK4b ?_
     refine VO.opX rfl rfl rfl rfl aK4b ?_
     refine VO.opX rfl rfl rfl rfl aK4b ?_
     refine VO.val rfl rfl (OpV.pickT rfl rfl rfl rfl aK4b) ?_
     refine VO.ma rfl rfl rfl rfl ?_
     refine VO.nil ?_
     refine VC.condT rfl rfl ?_
     refine VC.sr ?_
     refine VO.ma rfl rfl rfl rfl ?_
     refine VO.nil ?_
     refine VC.ret ?_
     exact Exists.intro _ (And.intro (RetN.one Tryz.results195 (ResN.v rfl)) (by rw [ordrE_1 (by assumption) (by assumption) (by first | exact or3a (by assumption) | exact or3b (by assumption) | exact or3c (by assumption))]))
   ·replace aK3b : _ = true := aK3b
    have aK3 := aK3b
    try simp only [qq] at aK3
    refine VO.opX rfl rfl rfl rfl aK3b ?_
    refine VO.opX rfl rfl rfl rfl aK3b ?_
    refine VO.opX rfl rfl rfl rfl aK3b ?_
    refine VO.val rfl rfl (OpV.pickT rfl rfl rfl rfl aK3b) ?_
    refine VO.mv rfl rfl rfl rfl ?_
    refine VO.opX rfl rfl rfl rfl rfl ?_
    refine VO.opX rfl rfl rfl rfl rfl ?_
    refine VO.opX rfl rfl rfl rfl rfl ?_
    refine VO.opX rfl rfl rfl rfl rfl ?_
    refine VO.val rfl rfl (OpV.pickT rfl rfl rfl rfl rfl) ?_
    refine VO.ma rfl rfl rfl rfl ?_
    refine VO.nil ?_
    refine VC.condT rfl rfl ?_
    refine VC.sr ?_
    refine VO.ma rfl rfl rfl rfl ?_
    refine VO.nil ?_
    refine VC.ret ?_
    exact Exists.intro _ (And.intro (RetN.one Tryz.results195 (ResN.v rfl)) (by rw [ordrE_1 (by assumption) (by assumption) (by first | exact or3a (by assumption) | exact or3b (by assumption) | exact or3c (by assumption))]))
 ·replace aK1b : _ = true := aK1b
  have aK1 := aK1b
  try simp only [qq] at aK1
  refine VO.opX rfl rfl rfl rfl aK1b ?_
  refine VO.opX rfl rfl rfl rfl aK1b ?_
  refine VO.opX rfl rfl rfl rfl aK1b ?_
  refine VO.val rfl rfl (OpV.pickT rfl rfl rfl rfl aK1b) ?_
  refine VO.ma rfl rfl rfl rfl ?_
  refine VO.nil ?_
  refine VC.condT rfl rfl ?_
  refine VC.sr ?_
  refine VO.ma rfl rfl rfl rfl ?_
  refine VO.nil ?_
  refine VC.ret ?_
  exact Exists.intro _ (And.intro (RetN.one Tryz.results195 (ResN.v rfl)) (by first | rw [ordrE_5a (by assumption)] | rw [ordrE_5b (by assumption)]))
theorem plan_CheckOrders {o : List OrdrS} (hs : SmOr o) :
  SpecN Tryz.prog 119 [avL o] (fun y => y = avI (ordrF o)) := by
 refine SpecN.of_VCN Tryz.func119 rfl Tryz.ntmps119 (Nle rfl) fun w A hB => ?_
 refine VC.seq ?_
 have hl := hs.len
 refine VC.region ?_
 refine VO.ma rfl rfl rfl rfl ?_
 refine VO.nil ?_
 refine VC.seq ?_
 refine VC.sr ?_
 refine VO.mv rfl rfl rfl rfl ?_
 refine VO.val rfl rfl (OpV.len_im rfl Tryz.underlying93 rfl) ?_
 refine VO.val rfl rfl (OpV.gtr rfl rfl rfl) ?_
 refine VO.nil ?_
 refine VC.cond rfl (fun aH1b => ?_) (fun aH1b => ?_)
 ·have aH1 := aH1b
  try simp only [qq] at aH1
  refine VC.sr ?_
  refine VO.ma rfl rfl rfl rfl ?_
  refine VO.nil ?_
  refine VC.ret ?_
  exact Exists.intro _ (And.intro (RetN.one Tryz.results119 (ResN.v rfl)) (by rw [ordrF_2 (by omega)]))
 ·have aH1 := aH1b
  try simp only [qq] at aH1
  refine VC.skip ?_
  refine VC.seq ?_
  refine VC.sr ?_
  refine VO.mv rfl rfl rfl rfl ?_
  refine VO.val rfl rfl (OpV.len_im rfl Tryz.underlying93 rfl) ?_
  refine VO.mv rfl rfl rfl rfl ?_
  refine VO.nil ?_
  refine VC.block ?_
  refine VC.loopK [(0, _), (9, _)] ⟨rfl, rfl, trivial⟩ ({q : Nat // q ≤ o.length ∧ ∀ j, j < q → ordrE o j = 0}) (fun (iZ : {q : Nat // q ≤ o.length ∧ ∀ j, j < q → ordrE o j = 0}) => match iZ with | ⟨q, hq, hn⟩ => [(10, avI (q : Int))]) (fun (iZ : {q : Nat // q ≤ o.length ∧ ∀ j, j < q → ordrE o j = 0}) => match iZ with | ⟨q, hq, hn⟩ => []) (fun (iZ : {q : Nat // q ≤ o.length ∧ ∀ j, j < q → ordrE o j = 0}) => match iZ with | ⟨q, hq, hn⟩ => 0) (fun (iZ : {q : Nat // q ≤ o.length ∧ ∀ j, j < q → ordrE o j = 0}) => match iZ with | ⟨q, hq, hn⟩ => o.length - q) ⟨0, Nat.zero_le _, fun j hj => absurd hj (Nat.not_lt_zero j)⟩ (Le.mk hB [] ⟨rfl, rfl, rfl, trivial⟩ rfl rfl (Nat.le_refl _)) ?_
  rintro ⟨q, hq, hn⟩
  show VC _ _ _ _ ⟨[(10, avI (q : Int))] ++ [(0, _), (9, _)], [], 0⟩
  refine VC.sr ?_
  refine VO.val rfl rfl (OpV.lss rfl rfl rfl) ?_
  refine VO.nil ?_
  refine VC.seq ?_
  refine VC.cond rfl (fun aH2b => ?_) (fun aH2b => ?_)
  ·have aH2 := aH2b
   try simp only [qq] at aH2
   refine VC.skip ?_
   refine VC.seq ?_
   refine VC.block ?_
   refine VC.sr ?_
   refine VO.mv rfl rfl rfl rfl ?_
   refine VO.ma rfl rfl rfl rfl ?_
   refine VO.nil ?_
   refine VC.sr ?_
   refine VO.mv rfl rfl rfl rfl ?_
   refine VO.mv rfl rfl rfl rfl ?_
   refine VO.op rfl (OpE.call rfl hB rfl Tryz.call195 rfl (SpecN.spec (plan_orderFault hs (by omega))) ?_)
   rintro _ rfl
   refine VO.ma rfl rfl rfl rfl ?_
   refine VO.nil ?_
   refine VC.sr ?_
   refine VO.mv rfl rfl rfl rfl ?_
   refine VO.val rfl rfl (OpV.neq rfl rfl rfl) ?_
   refine VO.nil ?_
   refine VC.cond rfl (fun h2b => ?_) (fun h2b => ?_)
   ·have h2 := h2b
    try simp only [qq] at h2
    refine VC.sr ?_
    refine VO.mv rfl rfl rfl rfl ?_
    refine VO.ma rfl rfl rfl rfl ?_
    refine VO.nil ?_
    refine VC.ret ?_
    exact Exists.intro _ (And.intro (RetN.one Tryz.results119 (ResN.v rfl)) (by rw [ordrF_at (by omega) (by omega) hn rfl h2]))
   ·have h2 := h2b
    try simp only [qq] at h2
    refine VC.skip ?_
    refine VC.region ?_
    refine VO.val rfl rfl (OpV.add rfl rfl rfl (by unfold fits; omega)) ?_
    refine VO.mv rfl rfl rfl rfl ?_
    refine VO.nil ?_
    exact Exists.intro (⟨q + 1, by omega, lt_succ_cases hn ((by omega))⟩) (And.intro (Le.mk hB [] ⟨rfl, rfl, rfl, trivial⟩ rfl rfl (Nat.le_refl _)) (by first | omega | (show _ < _; omega) | (simp only []; omega)))
  ·have aH2 := aH2b
   try simp only [qq] at aH2
   refine VC.exit ?_
   refine VC.sr ?_
   refine VO.ma rfl rfl rfl rfl ?_
   refine VO.nil ?_
   refine VC.ret ?_
   exact Exists.intro _ (And.intro (RetN.one Tryz.results119 (ResN.v rfl)) (by rw [ordrF_ok (by omega) (fun j hj => hn j (by omega))]))
set_option maxHeartbeats 4000000 in
theorem plan_CheckPaces {p : List PaceS} (hs : SmPc p) :
  SpecN Tryz.prog 187 [avL p] (fun y => y = avI (paceF p)) := by
 refine SpecN.of_VCN Tryz.func187 rfl Tryz.ntmps187 (Nle rfl) fun w A hB => ?_
 refine VC.seq ?_
 have hl := hs.len
 refine VC.region ?_
 refine VO.ma rfl rfl rfl rfl ?_
 refine VO.nil ?_
 refine VC.seq ?_
 refine VC.sr ?_
 refine VO.mv rfl rfl rfl rfl ?_
 refine VO.val rfl rfl (OpV.len_im rfl Tryz.underlying92 rfl) ?_
 refine VO.val rfl rfl (OpV.gtr rfl rfl rfl) ?_
 refine VO.nil ?_
 refine VC.cond rfl (fun aH1b => ?_) (fun aH1b => ?_)
 ·have aH1 := aH1b
  try simp only [qq] at aH1
  refine VC.sr ?_
  refine VO.ma rfl rfl rfl rfl ?_
  refine VO.nil ?_
  refine VC.ret ?_
  exact Exists.intro _ (And.intro (RetN.one Tryz.results187 (ResN.v rfl)) (by rw [paceF_2 (by omega)]))
 ·have aH1 := aH1b
  try simp only [qq] at aH1
  refine VC.skip ?_
  refine VC.seq ?_
  refine VC.sr ?_
  refine VO.mv rfl rfl rfl rfl ?_
  refine VO.val rfl rfl (OpV.len_im rfl Tryz.underlying92 rfl) ?_
  refine VO.mv rfl rfl rfl rfl ?_
  refine VO.nil ?_
  refine VC.block ?_
  refine VC.loopK [(0, _), (9, _), (10, _)] ⟨rfl, rfl, rfl, trivial⟩ ({q : Nat // q ≤ p.length ∧ ∀ j, j < q → paceE p j = 0}) (fun (iZ : {q : Nat // q ≤ p.length ∧ ∀ j, j < q → paceE p j = 0}) => match iZ with | ⟨q, hq, hn⟩ => [(11, avI (q : Int))]) (fun (iZ : {q : Nat // q ≤ p.length ∧ ∀ j, j < q → paceE p j = 0}) => match iZ with | ⟨q, hq, hn⟩ => []) (fun (iZ : {q : Nat // q ≤ p.length ∧ ∀ j, j < q → paceE p j = 0}) => match iZ with | ⟨q, hq, hn⟩ => 0) (fun (iZ : {q : Nat // q ≤ p.length ∧ ∀ j, j < q → paceE p j = 0}) => match iZ with | ⟨q, hq, hn⟩ => p.length - q) ⟨0, Nat.zero_le _, fun j hj => absurd hj (Nat.not_lt_zero j)⟩ (Le.mk hB [] ⟨rfl, rfl, rfl, rfl, trivial⟩ rfl rfl (Nat.le_refl _)) ?_
  rintro ⟨q, hq, hn⟩
  show VC _ _ _ _ ⟨[(11, avI (q : Int))] ++ [(0, _), (9, _), (10, _)], [], 0⟩
  refine VC.sr ?_
  refine VO.val rfl rfl (OpV.lss rfl rfl rfl) ?_
  refine VO.nil ?_
  refine VC.seq ?_
  refine VC.cond rfl (fun aH2b => ?_) (fun aH2b => ?_)
  ·have aH2 := aH2b
   try simp only [qq] at aH2
   refine VC.skip ?_
   refine VC.seq ?_
   refine VC.block ?_
   refine VC.sr ?_
   refine VO.mv rfl rfl rfl rfl ?_
   refine VO.val rfl rfl (OpV.indexAddr_E rfl Tryz.underlying92 Tryz.sizeOf115 rfl rfl rfl (by omega)) ?_
   refine VO.val rfl rfl (OpV.loadK_at rfl hB OutW.no Tryz.isAgg115 Tryz.sizeOf115 rfl rfl) ?_
   refine VO.op rfl (OpE.alloc rfl hB rfl Tryz.zeroValue115 rfl ?_)
   intro g4
   refine VO.ma rfl rfl rfl rfl ?_
   refine VO.op rfl (OpE.store (i := 0) rfl hB rfl Tryz.sizeOf115 rfl rfl rfl rfl rfl rfl (Nle rfl) trivial ?_)
   refine VO.nil ?_
   refine VC.seq ?_
   refine VC.block ?_
   refine VC.sr ?_
   refine VO.val rfl rfl (OpV.fieldAddrO 0 rfl Tryz.underlying115 rfl rfl Tryz.sizeOf9 rfl) ?_
   refine VO.val rfl rfl (OpV.load_own (i := 0) rfl hB Tryz.isAgg9 rfl rfl rfl (fun h => h)) ?_
   refine VO.op rfl (OpE.call rfl hB rfl Tryz.call230 rfl (SpecN.spec (kit_IsKey (by have := hs.prod q; omega))) ?_)
   rintro _ rfl
   refine VO.val rfl rfl (OpV.not rfl rfl) ?_
   refine VO.ma rfl rfl rfl rfl ?_
   refine VO.nil ?_
   refine VC.cond rfl (fun k2b => ?_) (fun k2b => ?_)
   ·have k2 := k2b
    try simp only [qq] at k2
    refine VC.sr ?_
    refine VO.ma rfl rfl rfl rfl ?_
    refine VO.nil ?_
    refine VC.ret ?_
    exact Exists.intro _ (And.intro (RetN.one Tryz.results187 (ResN.v rfl)) (by rw [paceF_at (by omega) (by omega) hn (paceE_5 k2) (by decide)]))
   ·have k2 := k2b
    try simp only [qq] at k2
    refine VC.seq ?_
    refine VC.draw (fun _ => NoB) hB (by kernel_rfl) ?_
    refine VA.take (i := 0) rfl (by kernel_rfl) (by kernel_rfl) (by kernel_rfl) rfl rfl (OpV.move (.inl rfl) rfl) ?_
    refine VA.take (i := 1) rfl (by kernel_rfl) (by kernel_rfl) (by kernel_rfl) rfl rfl (OpV.gtr rfl rfl rfl) ?_
    refine VA.take (i := 2) rfl (by kernel_rfl) (by kernel_rfl) (by kernel_rfl) rfl rfl (OpV.move (.inl rfl) rfl) ?_
    refine VA.split (t := 24) rfl (fun aK3b => ?_) (fun aK3b => ?_)
    ·have aK3 := aK3b
     try simp only [qq] at aK3
     refine VA.takeY (i := 3) rfl (by kernel_rfl) (by kernel_rfl) (by kernel_rfl) rfl rfl rfl rfl aK3b (OpV.fieldAddrO 0 rfl Tryz.underlying115 rfl rfl Tryz.sizeOf9 rfl) ?_
     refine VA.takeY (i := 4) rfl (by kernel_rfl) (by kernel_rfl) (by kernel_rfl) rfl rfl rfl rfl aK3b (OpV.load_own (i := 0) rfl hB Tryz.isAgg9 rfl rfl rfl Wi.not0) ?_
     refine VA.takeY (i := 5) rfl (by kernel_rfl) (by kernel_rfl) (by kernel_rfl) rfl rfl rfl rfl aK3b (OpV.move (.inl rfl) rfl) ?_
     refine VA.takeY (i := 6) rfl (by kernel_rfl) (by kernel_rfl) (by kernel_rfl) rfl rfl rfl rfl aK3b (OpV.move (.inl rfl) rfl) ?_
     refine VA.takeY (i := 7) rfl (by kernel_rfl) (by kernel_rfl) (by kernel_rfl) rfl rfl rfl rfl aK3b (OpV.sub rfl rfl rfl (by unfold fits; omega)) ?_
     refine VA.takeY (i := 8) rfl (by kernel_rfl) (by kernel_rfl) (by kernel_rfl) rfl rfl rfl rfl aK3b (OpV.indexAddr_E rfl Tryz.underlying92 Tryz.sizeOf115 rfl rfl (show ((q : Int) - 1) = ((q - 1 : Nat) : Int) by omega) (by omega)) ?_
     refine VA.takeY (i := 9) rfl (by kernel_rfl) (by kernel_rfl) (by kernel_rfl) rfl rfl rfl rfl aK3b (OpV.fieldAddr_atO 0 rfl Tryz.underlying115 rfl rfl Tryz.sizeOf9 rfl rfl) ?_
     refine VA.takeY (i := 10) rfl (by kernel_rfl) (by kernel_rfl) (by kernel_rfl) rfl rfl rfl rfl aK3b (OpV.load_at rfl hB OutW.wi0 Tryz.isAgg9 rfl rfl) ?_
     refine VA.takeY (i := 11) rfl (by kernel_rfl) (by kernel_rfl) (by kernel_rfl) rfl rfl rfl rfl aK3b (OpV.sleq rfl rfl rfl) ?_
     refine VA.take (i := 12) rfl (by kernel_rfl) (by kernel_rfl) (by kernel_rfl) rfl rfl (OpV.pickT rfl rfl rfl rfl aK3b) ?_
     refine VA.take (i := 13) rfl (by kernel_rfl) (by kernel_rfl) (by kernel_rfl) rfl rfl (OpV.move (.inr rfl) rfl) ?_
     refine VA.done (by kernel_rfl) ?_
     refine VC.cond rfl (fun k3b => ?_) (fun k3b => ?_)
     ·have k3 := k3b
      try simp only [qq] at k3
      refine VC.sr ?_
      refine VO.ma rfl rfl rfl rfl ?_
      refine VO.nil ?_
      refine VC.ret ?_
      exact Exists.intro _ (And.intro (RetN.one Tryz.results187 (ResN.v rfl)) (by rw [paceF_at (by omega) (by omega) hn (paceE_7 k2 (by omega) (by assumption)) (by decide)]))
     ·have k3 := k3b
      try simp only [qq] at k3
      refine VC.sr ?_
      refine VO.val rfl rfl (OpV.fieldAddrO 1 rfl Tryz.underlying115 rfl rfl Tryz.sizeOf3 rfl) ?_
      refine VO.val rfl rfl (OpV.load_own (i := 0) rfl hB Tryz.isAgg3 rfl rfl rfl (fun h => h)) ?_
      refine VO.op rfl (OpE.call rfl hB rfl Tryz.call161 rfl (SpecN.spec (kit_Outside)) ?_)
      rintro _ rfl
      refine VO.ma rfl rfl rfl rfl ?_
      refine VO.nil ?_
      refine VC.cond rfl (fun k4b => ?_) (fun k4b => ?_)
      ·have k4 := k4b
       try simp only [qq] at k4
       refine VC.sr ?_
       refine VO.ma rfl rfl rfl rfl ?_
       refine VO.nil ?_
       refine VC.ret ?_
       exact Exists.intro _ (And.intro (RetN.one Tryz.results187 (ResN.v rfl)) (by first | rw [paceF_at (by omega) (by omega) hn (paceE_1 k2 (.inr (by assumption)) k4) (by decide)] | rw [paceF_at (by omega) (by omega) hn (paceE_1 k2 (.inl (by omega)) k4) (by decide)]))
      ·have k4 := k4b
       try simp only [qq] at k4
       refine VC.skip ?_
       refine VC.sr ?_
       refine VO.val rfl rfl (OpV.fieldAddrO 2 rfl Tryz.underlying115 rfl rfl Tryz.sizeOf68 rfl) ?_
       refine VO.val rfl rfl (OpV.load_own (i := 0) rfl hB Tryz.isAgg68 rfl rfl rfl (fun h => h)) ?_
       refine VO.op rfl (OpE.call rfl hB rfl Tryz.call173 rfl (SpecN.spec (line_CheckNeeds (by have := hs.nlen q; omega) (fun j => by have := hs.nkey q j; omega))) ?_)
       rintro _ rfl
       refine VO.ma rfl rfl rfl rfl ?_
       refine VO.nil ?_
       refine VC.sr ?_
       refine VO.mv rfl rfl rfl rfl ?_
       refine VO.val rfl rfl (OpV.neq rfl rfl rfl) ?_
       refine VO.nil ?_
       refine VC.cond rfl (fun k5b => ?_) (fun k5b => ?_)
       ·have k5 := k5b
        try simp only [qq] at k5
        refine VC.sr ?_
        refine VO.mv rfl rfl rfl rfl ?_
        refine VO.ma rfl rfl rfl rfl ?_
        refine VO.nil ?_
        refine VC.ret ?_
        exact Exists.intro _ (And.intro (RetN.one Tryz.results187 (ResN.v rfl)) (by first | rw [paceF_at (by omega) (by omega) hn (paceE_n k2 (.inr (by assumption)) k4) k5] | rw [paceF_at (by omega) (by omega) hn (paceE_n k2 (.inl (by omega)) k4) k5]))
       ·have k5 := k5b
        try simp only [qq] at k5
        refine VC.skip ?_
        refine VC.region ?_
        refine VO.val rfl rfl (OpV.add rfl rfl rfl (by unfold fits; omega)) ?_
        refine VO.mv rfl rfl rfl rfl ?_
        refine VO.nil ?_
        exact Exists.intro (⟨q + 1, by omega, lt_succ_cases hn ((by first | (rw [paceE_n k2 (.inr (by assumption)) k4]; omega) | (rw [paceE_n k2 (.inl (by omega)) k4]; omega)))⟩) (And.intro (Le.mk hB [] ⟨rfl, rfl, rfl, rfl, trivial⟩ rfl rfl (Nat.le_refl _)) (by first | omega | (show _ < _; omega) | (simp only []; omega)))
    ·have aK3 := aK3b
     try simp only [qq] at aK3
     refine VA.takeX (i := 3) rfl (by kernel_rfl) (by kernel_rfl) (by kernel_rfl) rfl rfl rfl rfl aK3b ?_
     refine VA.takeX (i := 4) rfl (by kernel_rfl) (by kernel_rfl) (by kernel_rfl) rfl rfl rfl rfl aK3b ?_
     refine VA.takeX (i := 5) rfl (by kernel_rfl) (by kernel_rfl) (by kernel_rfl) rfl rfl rfl rfl aK3b ?_
     refine VA.takeX (i := 6) rfl (by kernel_rfl) (by kernel_rfl) (by kernel_rfl) rfl rfl rfl rfl aK3b ?_
     refine VA.takeX (i := 7) rfl (by kernel_rfl) (by kernel_rfl) (by kernel_rfl) rfl rfl rfl rfl aK3b ?_
     refine VA.takeX (i := 8) rfl (by kernel_rfl) (by kernel_rfl) (by kernel_rfl) rfl rfl rfl rfl aK3b ?_
     refine VA.takeX (i := 9) rfl (by kernel_rfl) (by kernel_rfl) (by kernel_rfl) rfl rfl rfl rfl aK3b ?_
     refine VA.takeX (i := 10) rfl (by kernel_rfl) (by kernel_rfl) (by kernel_rfl) rfl rfl rfl rfl aK3b ?_
     refine VA.takeX (i := 11) rfl (by kernel_rfl) (by kernel_rfl) (by kernel_rfl) rfl rfl rfl rfl aK3b ?_
     refine VA.take (i := 12) rfl (by kernel_rfl) (by kernel_rfl) (by kernel_rfl) rfl rfl (OpV.pickF rfl rfl rfl rfl aK3b) ?_
     refine VA.take (i := 13) rfl (by kernel_rfl) (by kernel_rfl) (by kernel_rfl) rfl rfl (OpV.move (.inr rfl) rfl) ?_
     refine VA.done (by kernel_rfl) ?_
     refine VC.condF rfl rfl ?_
     refine VC.sr ?_
     refine VO.val rfl rfl (OpV.fieldAddrO 1 rfl Tryz.underlying115 rfl rfl Tryz.sizeOf3 rfl) ?_
     refine VO.val rfl rfl (OpV.load_own (i := 0) rfl hB Tryz.isAgg3 rfl rfl rfl (fun h => h)) ?_
     refine VO.op rfl (OpE.call rfl hB rfl Tryz.call161 rfl (SpecN.spec (kit_Outside)) ?_)
     rintro _ rfl
     refine VO.ma rfl rfl rfl rfl ?_
     refine VO.nil ?_
     refine VC.cond rfl (fun k4b => ?_) (fun k4b => ?_)
     ·have k4 := k4b
      try simp only [qq] at k4
      refine VC.sr ?_
      refine VO.ma rfl rfl rfl rfl ?_
      refine VO.nil ?_
      refine VC.ret ?_
      exact Exists.intro _ (And.intro (RetN.one Tryz.results187 (ResN.v rfl)) (by first | rw [paceF_at (by omega) (by omega) hn (paceE_1 k2 (.inr (by assumption)) k4) (by decide)] | rw [paceF_at (by omega) (by omega) hn (paceE_1 k2 (.inl (by omega)) k4) (by decide)]))
     ·have k4 := k4b
      try simp only [qq] at k4
      refine VC.skip ?_
      refine VC.sr ?_
      refine VO.val rfl rfl (OpV.fieldAddrO 2 rfl Tryz.underlying115 rfl rfl Tryz.sizeOf68 rfl) ?_
      refine VO.val rfl rfl (OpV.load_own (i := 0) rfl hB Tryz.isAgg68 rfl rfl rfl (fun h => h)) ?_
      refine VO.op rfl (OpE.call rfl hB rfl Tryz.call173 rfl (SpecN.spec (line_CheckNeeds (by have := hs.nlen q; omega) (fun j => by have := hs.nkey q j; omega))) ?_)
      rintro _ rfl
      refine VO.ma rfl rfl rfl rfl ?_
      refine VO.nil ?_
      refine VC.sr ?_
      refine VO.mv rfl rfl rfl rfl ?_
      refine VO.val rfl rfl (OpV.neq rfl rfl rfl) ?_
      refine VO.nil ?_
      refine VC.cond rfl (fun k5b => ?_) (fun k5b => ?_)
      ·have k5 := k5b
       try simp only [qq] at k5
       refine VC.sr ?_
       refine VO.mv rfl rfl rfl rfl ?_
       refine VO.ma rfl rfl rfl rfl ?_
       refine VO.nil ?_
       refine VC.ret ?_
       exact Exists.intro _ (And.intro (RetN.one Tryz.results187 (ResN.v rfl)) (by first | rw [paceF_at (by omega) (by omega) hn (paceE_n k2 (.inr (by assumption)) k4) k5] | rw [paceF_at (by omega) (by omega) hn (paceE_n k2 (.inl (by omega)) k4) k5]))
      ·have k5 := k5b
       try simp only [qq] at k5
       refine VC.skip ?_
       refine VC.region ?_
       refine VO.val rfl rfl (OpV.add rfl rfl rfl (by unfold fits; omega)) ?_
       refine VO.mv rfl rfl rfl rfl ?_
       refine VO.nil ?_
       exact Exists.intro (⟨q + 1, by omega, lt_succ_cases hn ((by first | (rw [paceE_n k2 (.inr (by assumption)) k4]; omega) | (rw [paceE_n k2 (.inl (by omega)) k4]; omega)))⟩) (And.intro (Le.mk hB [] ⟨rfl, rfl, rfl, rfl, trivial⟩ rfl rfl (Nat.le_refl _)) (by first | omega | (show _ < _; omega) | (simp only []; omega)))
  ·have aH2 := aH2b
   try simp only [qq] at aH2
   refine VC.exit ?_
   refine VC.sr ?_
   refine VO.ma rfl rfl rfl rfl ?_
   refine VO.nil ?_
   refine VC.ret ?_
   exact Exists.intro _ (And.intro (RetN.one Tryz.results187 (ResN.v rfl)) (by rw [paceF_ok (by omega) (fun j hj => hn j (by omega))]))
theorem plan_paceOf1 {x : PaceS} {k : ByteArray}  :
  SpecN Tryz.prog 198 [avT x, avS k] (fun y => y = avI (cmpB x.product k)) := by
 refine SpecN.of_VCN Tryz.func198 rfl Tryz.ntmps198 (Nle rfl) fun w A hB => ?_
 refine VC.sr ?_
 refine VO.op rfl (OpE.box rfl hB rfl rfl rfl ?_)
 intro g2
 refine VO.ma rfl rfl rfl rfl ?_
 refine VO.nil ?_
 refine VC.sr ?_
 refine VO.val rfl rfl (OpV.fieldAddrO 0 rfl Tryz.underlying115 rfl rfl Tryz.sizeOf9 rfl) ?_
 refine VO.val rfl rfl (OpV.load_own (i := 0) rfl hB Tryz.isAgg9 rfl rfl rfl (fun h => h)) ?_
 refine VO.mv rfl rfl rfl rfl ?_
 refine VO.op rfl (OpE.call rfl hB rfl Tryz.call95 rfl (SpecN.spec (strings_Compare_S)) ?_)
 rintro _ rfl
 refine VO.ma rfl rfl rfl rfl ?_
 refine VO.nil ?_
 refine VC.ret ?_
 exact Exists.intro _ (And.intro (RetN.one Tryz.results198 (ResN.v rfl)) (rfl))
theorem bsf_pace {xs : List PaceS} {t : ByteArray} {F : FuncId} {cs : List AV} {c : PaceS → Int} {s0 : Nat} (hl : xs.length ≤ 1000000) (hcall : ∀ us w, (callFunc F us).run Tryz.prog w = .ok (.enter F us) w) (hF : ∀ x, Spec Tryz.prog F ([avT x, avS t] ++ cs) (fun y => y = avI (c x))) (hs : s0 ≤ xs.length) (hlo : ∀ j, j < s0 → c (xs.getD j default) < 0) (hhi : ∀ j, s0 ≤ j → j < xs.length → 0 ≤ c (xs.getD j default)) :
  SpecN Tryz.prog 197 [avL xs, avS t, .fn F cs] (fun y => y = .tup [avI (s0 : Int), avB (decide (s0 < xs.length) && decide (c (xs.getD s0 default) = 0))]) := by
 refine SpecN.of_VCN Tryz.func197 rfl Tryz.ntmps197 (Nle rfl) fun w A hB => ?_
 refine VC.sr ?_
 refine VO.ma rfl rfl rfl rfl ?_
 refine VO.ma rfl rfl rfl rfl ?_
 refine VO.nil ?_
 refine VC.sr ?_
 refine VO.mv rfl rfl rfl rfl ?_
 refine VO.val rfl rfl (OpV.len_im rfl Tryz.underlying92 rfl) ?_
 refine VO.ma rfl rfl rfl rfl ?_
 refine VO.nil ?_
 refine VC.sr ?_
 refine VO.mv rfl rfl rfl rfl ?_
 refine VO.ma rfl rfl rfl rfl ?_
 refine VO.ma rfl rfl rfl rfl ?_
 refine VO.nil ?_
 refine VC.seq ?_
 refine VC.block ?_
 refine VC.loopK [(0, _), (1, _), (2, _), (8, _)] ⟨rfl, rfl, rfl, rfl, trivial⟩ ({z : Nat × Nat // z.1 ≤ s0 ∧ s0 ≤ z.2 ∧ z.2 ≤ xs.length}) (fun (iZ : {z : Nat × Nat // z.1 ≤ s0 ∧ s0 ≤ z.2 ∧ z.2 ≤ xs.length}) => match iZ with | ⟨⟨i, j⟩, h1, h2, h3⟩ => [(9, avI (i : Int)), (10, avI (j : Int))]) (fun (iZ : {z : Nat × Nat // z.1 ≤ s0 ∧ s0 ≤ z.2 ∧ z.2 ≤ xs.length}) => match iZ with | ⟨⟨i, j⟩, h1, h2, h3⟩ => []) (fun (iZ : {z : Nat × Nat // z.1 ≤ s0 ∧ s0 ≤ z.2 ∧ z.2 ≤ xs.length}) => match iZ with | ⟨⟨i, j⟩, h1, h2, h3⟩ => 0) (fun (iZ : {z : Nat × Nat // z.1 ≤ s0 ∧ s0 ≤ z.2 ∧ z.2 ≤ xs.length}) => match iZ with | ⟨⟨i, j⟩, h1, h2, h3⟩ => j - i) ⟨(0, xs.length), Nat.zero_le _, hs, Nat.le_refl _⟩ (Le.mk hB [] ⟨rfl, rfl, rfl, rfl, rfl, rfl, trivial⟩ rfl rfl (Nat.le_refl _)) ?_
 rintro ⟨⟨i, j⟩, h1, h2, h3⟩
 show VC _ _ _ _ ⟨[(9, avI (i : Int)), (10, avI (j : Int))] ++ [(0, _), (1, _), (2, _), (8, _)], [], 0⟩
 simp only at h1 h2 h3
 refine VC.seq ?_
 refine VC.sr ?_
 refine VO.mv rfl rfl rfl rfl ?_
 refine VO.mv rfl rfl rfl rfl ?_
 refine VO.val rfl rfl (OpV.lss rfl rfl rfl) ?_
 refine VO.nil ?_
 refine VC.cond rfl (fun aH1b => ?_) (fun aH1b => ?_)
 ·have aH1 := aH1b
  try simp only [qq] at aH1
  refine VC.skip ?_
  refine VC.block ?_
  refine VC.sr ?_
  refine VO.mv rfl rfl rfl rfl ?_
  refine VO.mv rfl rfl rfl rfl ?_
  refine VO.val rfl rfl (OpV.add rfl rfl rfl (by unfold fits; omega)) ?_
  refine VO.val rfl rfl (OpV.conv rfl Tryz.underlying3 Tryz.underlying282 rfl (IntWalk.u64_in _ (by omega))) ?_
  refine VO.val rfl rfl (OpV.shr1 rfl rfl rfl rfl (by omega)) ?_
  refine VO.val rfl rfl (OpV.conv rfl Tryz.underlying282 Tryz.underlying3 rfl (IntWalk.i64_in _ (by omega))) ?_
  refine VO.ma rfl rfl rfl rfl ?_
  refine VO.nil ?_
  refine VC.sr ?_
  refine VO.mv rfl rfl rfl rfl ?_
  refine VO.mv rfl rfl rfl rfl ?_
  refine VO.mv rfl rfl rfl rfl ?_
  refine VO.val rfl rfl (OpV.indexAddr_E rfl Tryz.underlying92 Tryz.sizeOf115 rfl rfl (Int.toNat_of_nonneg (by omega)).symm (by omega)) ?_
  refine VO.val rfl rfl (OpV.loadK_at rfl hB OutW.no Tryz.isAgg115 Tryz.sizeOf115 rfl rfl) ?_
  refine VO.mv rfl rfl rfl rfl ?_
  refine VO.op rfl (OpE.callF rfl hB rfl hcall rfl rfl (hF _) ?_)
  rintro _ rfl
  refine VO.val rfl rfl (OpV.lss rfl rfl rfl) ?_
  refine VO.nil ?_
  refine VC.cond rfl (fun hcb => ?_) (fun hcb => ?_)
  ·have hc := hcb
   try simp only [qq] at hc
   refine VC.region ?_
   refine VO.mv rfl rfl rfl rfl ?_
   refine VO.val rfl rfl (OpV.add rfl rfl rfl (by unfold fits; omega)) ?_
   refine VO.ma rfl rfl rfl rfl ?_
   refine VO.nil ?_
   exact Exists.intro (⟨((((i : Int) + j) / 2).toNat + 1, j), bsf_lo hhi (by omega) hc, h2, h3⟩) (And.intro (Le.mk hB [] ⟨(by first | rfl | exact congrArg (fun z => some (avI z)) (by omega)), (by first | rfl | exact congrArg (fun z => some (avI z)) (by omega)), rfl, rfl, rfl, rfl, trivial⟩ rfl rfl (Nat.le_refl _)) (by first | omega | (show _ < _; omega) | (simp only []; omega)))
  ·have hc := hcb
   try simp only [qq] at hc
   refine VC.region ?_
   refine VO.mv rfl rfl rfl rfl ?_
   refine VO.ma rfl rfl rfl rfl ?_
   refine VO.nil ?_
   exact Exists.intro (⟨(i, (((i : Int) + j) / 2).toNat), h1, bsf_hi (h := (((i : Int) + j) / 2).toNat) hlo hc, by show _ ≤ xs.length; omega⟩) (And.intro (Le.mk hB [] ⟨(by first | rfl | exact congrArg (fun z => some (avI z)) (by omega)), (by first | rfl | exact congrArg (fun z => some (avI z)) (by omega)), rfl, rfl, rfl, rfl, trivial⟩ rfl rfl (Nat.le_refl _)) (by first | omega | (show _ < _; omega) | (simp only []; omega)))
 ·have aH1 := aH1b
  try simp only [qq] at aH1
  obtain rfl : i = s0 := by omega
  refine VC.exit ?_
  refine VC.sr ?_
  refine VO.mv rfl rfl rfl rfl ?_
  refine VO.mv rfl rfl rfl rfl ?_
  refine VO.mv rfl rfl rfl rfl ?_
  refine VO.val rfl rfl (OpV.lss rfl rfl rfl) ?_
  refine VO.mv rfl rfl rfl rfl ?_
  refine VO.opG rfl rfl rfl rfl (fun aK2b => ?_) (fun aK2b => ?_)
  ·replace aK2b : _ = true := aK2b
   have aK2 := aK2b
   try simp only [qq] at aK2
   refine OpE.val (W := NoB) (OpV.move (.inl rfl) rfl) rfl ?_
   refine VO.opY rfl rfl rfl rfl aK2b ?_
   refine OpE.val (W := NoB) (OpV.move (.inl rfl) rfl) rfl ?_
   refine VO.opY rfl rfl rfl rfl aK2b ?_
   refine OpE.val (W := NoB) (OpV.move (.inl rfl) rfl) rfl ?_
   refine VO.opY rfl rfl rfl rfl aK2b ?_
   refine OpE.val (W := NoB) (OpV.indexAddr_E rfl Tryz.underlying92 Tryz.sizeOf115 rfl rfl rfl (by omega)) rfl ?_
   refine VO.opY rfl rfl rfl rfl aK2b ?_
   refine OpE.val (W := NoB) (OpV.loadK_at rfl hB OutW.no Tryz.isAgg115 Tryz.sizeOf115 rfl rfl) rfl ?_
   refine VO.opY rfl rfl rfl rfl aK2b ?_
   refine OpE.val (W := NoB) (OpV.move (.inl rfl) rfl) rfl ?_
   refine VO.opY rfl rfl rfl rfl aK2b ?_
   refine OpE.callF rfl hB rfl hcall rfl rfl (hF _) ?_
   rintro _ rfl
   refine VO.opY rfl rfl rfl rfl aK2b ?_
   refine OpE.val (W := NoB) (OpV.eql rfl rfl rfl) rfl ?_
   refine VO.val rfl rfl (OpV.pickT rfl rfl rfl rfl aK2b) ?_
   refine VO.ma rfl rfl rfl rfl ?_
   refine VO.ma rfl rfl rfl rfl ?_
   refine VO.nil ?_
   refine VC.ret ?_
   exact Exists.intro _ (And.intro (RetN.two Tryz.results197 (ResN.v rfl) (ResN.v rfl)) (by first | (rw [decide_eq_true (show i < xs.length by omega)]; rfl) | (rw [decide_eq_false (show ¬ i < xs.length by omega)]; rfl)))
  ·replace aK2b : _ = false := aK2b
   have aK2 := aK2b
   try simp only [qq] at aK2
   refine VO.opX rfl rfl rfl rfl aK2b ?_
   refine VO.opX rfl rfl rfl rfl aK2b ?_
   refine VO.opX rfl rfl rfl rfl aK2b ?_
   refine VO.opX rfl rfl rfl rfl aK2b ?_
   refine VO.opX rfl rfl rfl rfl aK2b ?_
   refine VO.opX rfl rfl rfl rfl aK2b ?_
   refine VO.opX rfl rfl rfl rfl aK2b ?_
   refine VO.val rfl rfl (OpV.pickF rfl rfl rfl rfl aK2b) ?_
   refine VO.ma rfl rfl rfl rfl ?_
   refine VO.ma rfl rfl rfl rfl ?_
   refine VO.nil ?_
   refine VC.ret ?_
   exact Exists.intro _ (And.intro (RetN.two Tryz.results197 (ResN.v rfl) (ResN.v rfl)) (by first | (rw [decide_eq_true (show i < xs.length by omega)]; rfl) | (rw [decide_eq_false (show ¬ i < xs.length by omega)]; rfl)))
theorem plan_paceOf {p : List PaceS} {k : ByteArray} (hl : p.length ≤ 1000000) (hr : RiseK PaceS.product p) :
  Spec Tryz.prog 122 [avL p, avS k] (fun y => y = .tup [avPc (paceO p k), avB (hasP p k)]) := by
 refine Spec.of_VC Tryz.func122 rfl Tryz.ntmps122 (Nle rfl) fun w A hB => ?_
 refine VC.sr ?_
 refine VO.op rfl (OpE.alloc rfl hB rfl Tryz.zeroValue115 rfl ?_)
 intro g4
 refine VO.ma rfl rfl rfl rfl ?_
 refine VO.nil ?_
 refine VC.sr ?_
 refine VO.mv rfl rfl rfl rfl ?_
 refine VO.mv rfl rfl rfl rfl ?_
 refine VO.op rfl (OpE.callL rfl hB rfl Tryz.call197 (bsf_pace (c := fun x => cmpB x.product k) (s0 := lowK PaceS.product p k) hl Tryz.call198 (fun x => plan_paceOf1.spec) lowK_le (lowK_cmp hr).1 (lowK_cmp hr).2) (ArgsP.cons (ArgP.ev rfl) (ArgsP.cons (ArgP.ev rfl) (ArgsP.cons (ArgP.fn0 rfl) (ArgsP.nil)))) ?_)
 rintro _ rfl
 refine VO.mv rfl rfl rfl rfl ?_
 refine VO.val rfl rfl (OpV.extract rfl rfl rfl) ?_
 refine VO.val rfl rfl (OpV.extract rfl rfl rfl) ?_
 refine VO.le _ (Le.recast (t := 13) (y := avB (hasP p k)) rfl (fun w Z u h => by rw [hasP, ← lowK_any hr, ← cmp_zero]; exact h)) ?_
 have hle := lowK_le (key := PaceS.product) (l := p) (k := k)
 refine VO.ma rfl rfl rfl rfl ?_
 refine VO.ma rfl rfl rfl rfl ?_
 refine VO.nil ?_
 refine VC.seq ?_
 refine VC.sr ?_
 refine VO.mv rfl rfl rfl rfl ?_
 refine VO.val rfl rfl (OpV.not rfl rfl) ?_
 refine VO.nil ?_
 refine VC.cond rfl (fun h0b => ?_) (fun h0b => ?_)
 ·have h0 := h0b
  try simp only [qq] at h0
  refine VC.sr ?_
  refine VO.val rfl rfl (OpV.build (pls := #[(0, 1), (1, 1), (2, 1)]) rfl Tryz.zeroValue115 Tryz.underlying115 (fun w => by kernel_rfl) rfl rfl) ?_
  refine VO.le _ (Le.recast (t := 16) (y := avPc default) rfl (fun w Z u h => nil_pace h)) ?_
  refine VO.op rfl (OpE.store (i := 0) rfl hB rfl Tryz.sizeOf115 rfl rfl rfl rfl rfl rfl (Nle rfl) trivial ?_)
  refine VO.ma rfl rfl rfl rfl ?_
  refine VO.nil ?_
  refine VC.ret ?_
  exact Exists.intro _ (And.intro (RetV.two Tryz.results122 ((by first | exact ResV.cellK (i := 0) Tryz.isAgg115 Tryz.sizeOf115 rfl rfl rfl)) (ResV.tmp rfl)) (by rw [h0, paceO, find_none' h0]; rfl))
 ·have h0 := h0b
  try simp only [qq] at h0
  have h1 := (lowK_any hr (k := k)).trans h0
  rw [Bool.and_eq_true, decide_eq_true_eq] at h1
  refine VC.skip ?_
  refine VC.sr ?_
  refine VO.mv rfl rfl rfl rfl ?_
  refine VO.mv rfl rfl rfl rfl ?_
  refine VO.val rfl rfl (OpV.indexAddr_E rfl Tryz.underlying92 Tryz.sizeOf115 rfl rfl rfl (by omega)) ?_
  refine VO.val rfl rfl (OpV.loadK_at rfl hB OutW.no Tryz.isAgg115 Tryz.sizeOf115 rfl rfl) ?_
  refine VO.op rfl (OpE.store (i := 0) rfl hB rfl Tryz.sizeOf115 rfl rfl rfl rfl rfl rfl (Nle rfl) trivial ?_)
  refine VO.ma rfl rfl rfl rfl ?_
  refine VO.nil ?_
  refine VC.ret ?_
  exact Exists.intro _ (And.intro (RetV.two Tryz.results122 ((by first | exact ResV.cellK (i := 0) Tryz.isAgg115 Tryz.sizeOf115 rfl rfl rfl)) (ResV.tmp rfl)) (by rw [h0, paceO, lowK_find hr h1.1 h1.2]; rfl))
set_option maxHeartbeats 4000000 in
theorem plan_fault {p : List PaceS} {o : List OrdrS} (hp : SmPc p) (ho : SmOr o) :
  SpecN Tryz.prog 103 [avL p, avL o] (fun y => y = avI (bothF p o)) := by
 refine SpecN.of_VCN Tryz.func103 rfl Tryz.ntmps103 (Nle rfl) fun w A hB => ?_
 refine VC.seq ?_
 have hl := hp.len
 have hl2 := ho.len
 refine VC.region ?_
 refine VO.ma rfl rfl rfl rfl ?_
 refine VO.nil ?_
 refine VC.seq ?_
 refine VC.sr ?_
 refine VO.mv rfl rfl rfl rfl ?_
 refine VO.op rfl (OpE.call rfl hB rfl Tryz.call187 rfl (SpecN.spec (plan_CheckPaces hp)) ?_)
 rintro _ rfl
 refine VO.ma rfl rfl rfl rfl ?_
 refine VO.nil ?_
 refine VC.sr ?_
 refine VO.mv rfl rfl rfl rfl ?_
 refine VO.val rfl rfl (OpV.neq rfl rfl rfl) ?_
 refine VO.nil ?_
 refine VC.cond rfl (fun h0b => ?_) (fun h0b => ?_)
 ·have h0 := h0b
  try simp only [qq] at h0
  refine VC.sr ?_
  refine VO.mv rfl rfl rfl rfl ?_
  refine VO.ma rfl rfl rfl rfl ?_
  refine VO.nil ?_
  refine VC.ret ?_
  exact Exists.intro _ (And.intro (RetN.one Tryz.results103 (ResN.v rfl)) (by rw [bothF_1 h0]))
 ·have h0 := h0b
  try simp only [qq] at h0
  refine VC.skip ?_
  refine VC.seq ?_
  refine VC.sr ?_
  refine VO.mv rfl rfl rfl rfl ?_
  refine VO.op rfl (OpE.call rfl hB rfl Tryz.call119 rfl (SpecN.spec (plan_CheckOrders ho)) ?_)
  rintro _ rfl
  refine VO.ma rfl rfl rfl rfl ?_
  refine VO.nil ?_
  refine VC.sr ?_
  refine VO.mv rfl rfl rfl rfl ?_
  refine VO.val rfl rfl (OpV.neq rfl rfl rfl) ?_
  refine VO.nil ?_
  refine VC.cond rfl (fun h1b => ?_) (fun h1b => ?_)
  ·have h1 := h1b
   try simp only [qq] at h1
   refine VC.sr ?_
   refine VO.mv rfl rfl rfl rfl ?_
   refine VO.ma rfl rfl rfl rfl ?_
   refine VO.nil ?_
   refine VC.ret ?_
   exact Exists.intro _ (And.intro (RetN.one Tryz.results103 (ResN.v rfl)) (by rw [bothF_2 (by omega) h1]))
  ·have h1 := h1b
   try simp only [qq] at h1
   refine VC.skip ?_
   refine VC.seq ?_
   refine VC.sr ?_
   refine VO.mv rfl rfl rfl rfl ?_
   refine VO.val rfl rfl (OpV.len_im rfl Tryz.underlying93 rfl) ?_
   refine VO.mv rfl rfl rfl rfl ?_
   refine VO.nil ?_
   refine VC.block ?_
   refine VC.loopK [(0, _), (21, _), (22, _)] ⟨rfl, rfl, rfl, trivial⟩ ({q : Nat // q ≤ o.length ∧ ∀ j, j < q → hasP p (o.getD j default).product = true}) (fun (iZ : {q : Nat // q ≤ o.length ∧ ∀ j, j < q → hasP p (o.getD j default).product = true}) => match iZ with | ⟨q, hq, hn⟩ => [(23, avI (q : Int))]) (fun (iZ : {q : Nat // q ≤ o.length ∧ ∀ j, j < q → hasP p (o.getD j default).product = true}) => match iZ with | ⟨q, hq, hn⟩ => []) (fun (iZ : {q : Nat // q ≤ o.length ∧ ∀ j, j < q → hasP p (o.getD j default).product = true}) => match iZ with | ⟨q, hq, hn⟩ => 0) (fun (iZ : {q : Nat // q ≤ o.length ∧ ∀ j, j < q → hasP p (o.getD j default).product = true}) => match iZ with | ⟨q, hq, hn⟩ => o.length - q) ⟨0, Nat.zero_le _, fun j hj => absurd hj (Nat.not_lt_zero j)⟩ (Le.mk hB [] ⟨rfl, rfl, rfl, rfl, trivial⟩ rfl rfl (Nat.le_refl _)) ?_
   rintro ⟨q, hq, hn⟩
   show VC _ _ _ _ ⟨[(23, avI (q : Int))] ++ [(0, _), (21, _), (22, _)], [], 0⟩
   refine VC.sr ?_
   refine VO.val rfl rfl (OpV.lss rfl rfl rfl) ?_
   refine VO.nil ?_
   refine VC.seq ?_
   refine VC.cond rfl (fun aH1b => ?_) (fun aH1b => ?_)
   ·have aH1 := aH1b
    try simp only [qq] at aH1
    refine VC.skip ?_
    refine VC.seq ?_
    refine VC.block ?_
    refine VC.sr ?_
    refine VO.val rfl rfl (OpV.indexAddr_E rfl Tryz.underlying93 Tryz.sizeOf110 rfl rfl rfl (by omega)) ?_
    refine VO.val rfl rfl (OpV.loadK_at rfl hB OutW.no Tryz.isAgg110 Tryz.sizeOf110 rfl rfl) ?_
    refine VO.op rfl (OpE.alloc rfl hB rfl Tryz.zeroValue110 rfl ?_)
    intro g8
    refine VO.op rfl (OpE.store (i := 0) rfl hB rfl Tryz.sizeOf110 rfl rfl rfl rfl rfl rfl (Nle rfl) trivial ?_)
    refine VO.nil ?_
    refine VC.sr ?_
    refine VO.mv rfl rfl rfl rfl ?_
    refine VO.val rfl rfl (OpV.fieldAddrO 1 rfl Tryz.underlying110 rfl rfl Tryz.sizeOf9 rfl) ?_
    refine VO.val rfl rfl (OpV.load_own (i := 0) rfl hB Tryz.isAgg9 rfl rfl rfl (fun h => h)) ?_
    refine VO.op rfl (OpE.call rfl hB rfl Tryz.call122 rfl (plan_paceOf (k := (o.getD q default).product) (by omega) (pace_rise (pacesOk (by omega)))) ?_)
    rintro _ rfl
    refine VO.mv rfl rfl rfl rfl ?_
    refine VO.val rfl rfl (OpV.extract rfl rfl rfl) ?_
    refine VO.val rfl rfl (OpV.extract rfl rfl rfl) ?_
    refine VO.op rfl (OpE.alloc rfl hB rfl Tryz.zeroValue115 rfl ?_)
    intro g9
    refine VO.op rfl (OpE.store (i := 1) rfl hB rfl Tryz.sizeOf115 rfl rfl rfl rfl rfl rfl (Nle rfl) trivial ?_)
    refine VO.ma rfl rfl rfl rfl ?_
    refine VO.nil ?_
    refine VC.sr ?_
    refine VO.mv rfl rfl rfl rfl ?_
    refine VO.val rfl rfl (OpV.not rfl rfl) ?_
    refine VO.nil ?_
    refine VC.cond rfl (fun h3b => ?_) (fun h3b => ?_)
    ·have h3 := h3b
     try simp only [qq] at h3
     refine VC.sr ?_
     refine VO.ma rfl rfl rfl rfl ?_
     refine VO.nil ?_
     refine VC.ret ?_
     exact Exists.intro _ (And.intro (RetN.one Tryz.results103 (ResN.v rfl)) (by rw [bothF_3 (by omega) (by omega), if_neg (by rw [all_no (d := default) (q := q) (by omega) h3]; simp)]))
    ·have h3 := h3b
     try simp only [qq] at h3
     refine VC.skip ?_
     refine VC.region ?_
     refine VO.val rfl rfl (OpV.add rfl rfl rfl (by unfold fits; omega)) ?_
     refine VO.mv rfl rfl rfl rfl ?_
     refine VO.nil ?_
     exact Exists.intro (⟨q + 1, by omega, lt_succ_cases hn (h3)⟩) (And.intro (Le.mk hB [] ⟨rfl, rfl, rfl, rfl, trivial⟩ rfl rfl (Nat.le_refl _)) (by first | omega | (show _ < _; omega) | (simp only []; omega)))
   ·have aH1 := aH1b
    try simp only [qq] at aH1
    refine VC.exit ?_
    refine VC.sr ?_
    refine VO.ma rfl rfl rfl rfl ?_
    refine VO.nil ?_
    refine VC.ret ?_
    exact Exists.intro _ (And.intro (RetN.one Tryz.results103 (ResN.v rfl)) (by rw [bothF_3 (by omega) (by omega), if_pos (all_yes (d := default) (fun j hj => hn j (by omega)))]))
set_option maxHeartbeats 4000000 in
theorem plan_scheduleFault {o : List OrdrS} {l : List Int} (ho : o.length ≤ 1000000) (hl : l.length ≤ 1000000) :
  SpecN Tryz.prog 192 [avL o, avInts l] (fun y => y = avI (schF o.length l)) := by
 refine SpecN.of_VCN Tryz.func192 rfl Tryz.ntmps192 (Nle rfl) fun w A hB => ?_
 refine VC.sr ?_
 refine VO.ma rfl rfl rfl rfl ?_
 refine VO.nil ?_
 refine VC.seq ?_
 refine VC.sr ?_
 refine VO.mv rfl rfl rfl rfl ?_
 refine VO.val rfl rfl (OpV.len_im rfl Tryz.underlying22 rfl) ?_
 refine VO.mv rfl rfl rfl rfl ?_
 refine VO.val rfl rfl (OpV.len_im rfl Tryz.underlying93 rfl) ?_
 refine VO.val rfl rfl (OpV.neq rfl rfl rfl) ?_
 refine VO.nil ?_
 refine VC.cond rfl (fun aH1b => ?_) (fun aH1b => ?_)
 ·have aH1 := aH1b
  try simp only [qq] at aH1
  refine VC.sr ?_
  refine VO.ma rfl rfl rfl rfl ?_
  refine VO.nil ?_
  refine VC.ret ?_
  exact Exists.intro _ (And.intro (RetN.one Tryz.results192 (ResN.v rfl)) (by rw [schF_len (by omega)]))
 ·have aH1 := aH1b
  try simp only [qq] at aH1
  refine VC.skip ?_
  refine VC.sr ?_
  refine VO.mv rfl rfl rfl rfl ?_
  refine VO.val rfl rfl (OpV.len_im rfl Tryz.underlying93 rfl) ?_
  refine VO.op rfl (OpE.make rfl hB rfl Tryz.underlying294 (infoOf Tryz.t4 1 (by kernel_rfl) rfl rfl) (by decide) rfl rfl (n := o.length) rfl rfl (by omega) (usedL_make rfl) ?_)
  intro g15
  rw [usedL_len]
  refine VO.ma rfl rfl rfl rfl ?_
  refine VO.nil ?_
  refine VC.seq ?_
  refine VC.sr ?_
  refine VO.mv rfl rfl rfl rfl ?_
  refine VO.val rfl rfl (OpV.len_im rfl Tryz.underlying22 rfl) ?_
  refine VO.mv rfl rfl rfl rfl ?_
  refine VO.nil ?_
  refine VC.block ?_
  refine VC.loopK [(0, _), (5, _), (16, _), (17, _)] ⟨rfl, rfl, rfl, rfl, trivial⟩ ({q : Nat // q ≤ l.length ∧ Ord o.length (l.take q)}) (fun (iZ : {q : Nat // q ≤ l.length ∧ Ord o.length (l.take q)}) => match iZ with | ⟨q, hq, hn⟩ => [(18, avI (q : Int))]) (fun (iZ : {q : Nat // q ≤ l.length ∧ Ord o.length (l.take q)}) => match iZ with | ⟨q, hq, hn⟩ => [.box g15 ⟨usedL o.length (l.take q), 4, o.length⟩]) (fun (iZ : {q : Nat // q ≤ l.length ∧ Ord o.length (l.take q)}) => match iZ with | ⟨q, hq, hn⟩ => 0) (fun (iZ : {q : Nat // q ≤ l.length ∧ Ord o.length (l.take q)}) => match iZ with | ⟨q, hq, hn⟩ => l.length - q) ⟨0, Nat.zero_le _, Ord.nil _⟩ (Le.mk hB [0] ⟨rfl, rfl, rfl, rfl, rfl, trivial⟩ rfl rfl (Nat.le_refl _)) ?_
  rintro ⟨q, hq, hn⟩
  show VC _ _ _ _ ⟨[(18, avI (q : Int))] ++ [(0, _), (5, _), (16, _), (17, _)], [.box g15 ⟨usedL o.length (l.take q), 4, o.length⟩], 0⟩
  refine VC.sr ?_
  refine VO.val rfl rfl (OpV.lss rfl rfl rfl) ?_
  refine VO.nil ?_
  refine VC.seq ?_
  refine VC.cond rfl (fun aH2b => ?_) (fun aH2b => ?_)
  ·have aH2 := aH2b
   try simp only [qq] at aH2
   refine VC.skip ?_
   refine VC.seq ?_
   refine VC.block ?_
   refine VC.sr ?_
   refine VO.val rfl rfl (OpV.indexAddr_1 rfl Tryz.underlying22 Tryz.sizeOf3 rfl rfl rfl (by omega)) ?_
   refine VO.val rfl rfl (OpV.load_at rfl hB OutW.no Tryz.isAgg3 rfl rfl) ?_
   refine VO.ma rfl rfl rfl rfl ?_
   refine VO.nil ?_
   refine VC.seq ?_
   refine VC.sr ?_
   refine VO.mv rfl rfl rfl rfl ?_
   refine VO.val rfl rfl (OpV.lss rfl rfl rfl) ?_
   refine VO.mv rfl rfl rfl rfl ?_
   refine VO.opG rfl rfl rfl rfl (fun aK3b => ?_) (fun aK3b => ?_)
   ·replace aK3b : _ = false := aK3b
    have aK3 := aK3b
    try simp only [qq] at aK3
    refine OpE.val (W := NoB) (OpV.move (.inl rfl) rfl) rfl ?_
    refine VO.opY rfl rfl rfl rfl aK3b ?_
    refine OpE.val (W := NoB) (OpV.move (.inl rfl) rfl) rfl ?_
    refine VO.opY rfl rfl rfl rfl aK3b ?_
    refine OpE.val (W := NoB) (OpV.len_im rfl Tryz.underlying93 rfl) rfl ?_
    refine VO.opY rfl rfl rfl rfl aK3b ?_
    refine OpE.val (W := NoB) (OpV.geq rfl rfl rfl) rfl ?_
    refine VO.val rfl rfl (OpV.pickF rfl rfl rfl rfl aK3b) ?_
    refine VO.mv rfl rfl rfl rfl ?_
    refine VO.opG rfl rfl rfl rfl (fun aK4b => ?_) (fun aK4b => ?_)
    ·replace aK4b : _ = false := aK4b
     have aK4 := aK4b
     try simp only [qq] at aK4
     refine OpE.val (W := NoB) (OpV.move (.inl rfl) rfl) rfl ?_
     refine VO.opY rfl rfl rfl rfl aK4b ?_
     refine OpE.val (W := NoB) (OpV.move (.inl rfl) rfl) rfl ?_
     refine VO.opY rfl rfl rfl rfl aK4b ?_
     refine OpE.val (W := NoB) (OpV.indexAddr_o rfl Tryz.underlying294 Tryz.sizeOf4 rfl rfl (show l.getD q 0 = (((l.getD q 0).toNat : Nat) : Int) by omega) (by omega)) rfl ?_
     refine VO.opY rfl rfl rfl rfl aK4b ?_
     refine OpE.val (W := NoB) (OpV.load_own (i := 0) rfl hB Tryz.isAgg4 rfl rfl (usedL_get (q := (l.getD q 0).toNat) (by omega)) (fun h => h)) rfl ?_
     refine VO.le _ (Le.recast (t := 34) (y := avB (decide (l.getD q 0 ∈ l.take q))) rfl (fun w Z u h => by rw [Int.toNat_of_nonneg (by omega)] at h; exact h)) ?_
     refine VO.val rfl rfl (OpV.pickF rfl rfl rfl rfl aK4b) ?_
     refine VO.nil ?_
     refine VC.cond rfl (fun hxb => ?_) (fun hxb => ?_)
     ·have hx := hxb
      try simp only [qq] at hx
      refine VC.sr ?_
      refine VO.ma rfl rfl rfl rfl ?_
      refine VO.nil ?_
      refine VC.ret ?_
      exact Exists.intro _ (And.intro (RetN.one Tryz.results192 (ResN.v rfl)) (by first | rw [schF_out (q := q) (by omega) (by omega)] | rw [schF_twice (q := q) (by omega) (by assumption)]))
     ·have hx := hxb
      try simp only [qq] at hx
      have hx' : l.getD q 0 ∉ l.take q := by assumption
      refine VC.skip ?_
      refine VC.region ?_
      refine VO.mv rfl rfl rfl rfl ?_
      refine VO.mv rfl rfl rfl rfl ?_
      refine VO.val rfl rfl (OpV.indexAddr_o rfl Tryz.underlying294 Tryz.sizeOf4 rfl rfl (show l.getD q 0 = (((l.getD q 0).toNat : Nat) : Int) by omega) (by omega)) ?_
      refine VO.op rfl (OpE.store1 (i := 0) rfl hB rfl Tryz.sizeOf4 rfl rfl rfl rfl rfl rfl (by rw [usedL_len]; omega) (usedL_take (by omega) (by omega) (by omega)) trivial ?_)
      refine VO.nil ?_
      refine VC.region ?_
      refine VO.val rfl rfl (OpV.add rfl rfl rfl (by unfold fits; omega)) ?_
      refine VO.mv rfl rfl rfl rfl ?_
      refine VO.nil ?_
      exact Exists.intro (⟨q + 1, by omega, Ord.take hn (by omega) (by omega) (by omega) hx'⟩) (And.intro (Le.mk hB [0] ⟨rfl, rfl, rfl, rfl, rfl, trivial⟩ rfl rfl (Nat.le_refl _)) (by first | omega | (show _ < _; omega) | (simp only []; omega)))
    ·replace aK4b : _ = true := aK4b
     have aK4 := aK4b
     try simp only [qq] at aK4
     refine VO.opX rfl rfl rfl rfl aK4b ?_
     refine VO.opX rfl rfl rfl rfl aK4b ?_
     refine VO.opX rfl rfl rfl rfl aK4b ?_
     refine VO.val rfl rfl (OpV.pickT rfl rfl rfl rfl aK4b) ?_
     refine VO.nil ?_
     refine VC.condT rfl rfl ?_
     refine VC.sr ?_
     refine VO.ma rfl rfl rfl rfl ?_
     refine VO.nil ?_
     refine VC.ret ?_
     exact Exists.intro _ (And.intro (RetN.one Tryz.results192 (ResN.v rfl)) (by first | rw [schF_out (q := q) (by omega) (by omega)] | rw [schF_twice (q := q) (by omega) (by assumption)]))
   ·replace aK3b : _ = true := aK3b
    have aK3 := aK3b
    try simp only [qq] at aK3
    refine VO.opX rfl rfl rfl rfl aK3b ?_
    refine VO.opX rfl rfl rfl rfl aK3b ?_
    refine VO.opX rfl rfl rfl rfl aK3b ?_
    refine VO.val rfl rfl (OpV.pickT rfl rfl rfl rfl aK3b) ?_
    refine VO.mv rfl rfl rfl rfl ?_
    refine VO.opX rfl rfl rfl rfl rfl ?_
    refine VO.opX rfl rfl rfl rfl rfl ?_
    refine VO.opX rfl rfl rfl rfl rfl ?_
    refine VO.opX rfl rfl rfl rfl rfl ?_
    refine VO.val rfl rfl (OpV.pickT rfl rfl rfl rfl rfl) ?_
    refine VO.nil ?_
    refine VC.condT rfl rfl ?_
    refine VC.sr ?_
    refine VO.ma rfl rfl rfl rfl ?_
    refine VO.nil ?_
    refine VC.ret ?_
    exact Exists.intro _ (And.intro (RetN.one Tryz.results192 (ResN.v rfl)) (by first | rw [schF_out (q := q) (by omega) (by omega)] | rw [schF_twice (q := q) (by omega) (by assumption)]))
  ·have aH2 := aH2b
   try simp only [qq] at aH2
   refine VC.exit ?_
   refine VC.sr ?_
   refine VO.ma rfl rfl rfl rfl ?_
   refine VO.nil ?_
   refine VC.ret ?_
   exact Exists.intro _ (And.intro (RetN.one Tryz.results192 (ResN.v rfl)) (by rw [schF_ok (by omega) (by rwa [List.take_of_length_le (by omega)] at hn)]))
theorem plan_numbersFault {s e : Int}  :
  SpecN Tryz.prog 104 [avI s, avI e] (fun y => y = avI (startF s e)) := by
 refine SpecN.of_VCN Tryz.func104 rfl Tryz.ntmps104 (Nle rfl) fun w A hB => ?_
 refine VC.sr ?_
 refine VO.ma rfl rfl rfl rfl ?_
 refine VO.nil ?_
 refine VC.seq ?_
 refine VC.sr ?_
 refine VO.mv rfl rfl rfl rfl ?_
 refine VO.op rfl (OpE.call rfl hB rfl Tryz.call188 rfl (SpecN.spec (kit_IsMoment)) ?_)
 rintro _ rfl
 refine VO.val rfl rfl (OpV.not rfl rfl) ?_
 refine VO.mv rfl rfl rfl rfl ?_
 refine VO.opG rfl rfl rfl rfl (fun aK1b => ?_) (fun aK1b => ?_)
 ·replace aK1b : _ = false := aK1b
  have aK1 := aK1b
  try simp only [qq] at aK1
  refine OpE.val (W := NoB) (OpV.move (.inl rfl) rfl) rfl ?_
  refine VO.opY rfl rfl rfl rfl aK1b ?_
  refine OpE.call rfl hB rfl Tryz.call161 rfl (SpecN.spec (kit_Outside)) ?_
  rintro _ rfl
  refine VO.val rfl rfl (OpV.pickF rfl rfl rfl rfl aK1b) ?_
  refine VO.nil ?_
  refine VC.cond rfl (fun aH2b => ?_) (fun aH2b => ?_)
  ·have aH2 := aH2b
   try simp only [qq] at aH2
   refine VC.sr ?_
   refine VO.ma rfl rfl rfl rfl ?_
   refine VO.nil ?_
   refine VC.ret ?_
   exact Exists.intro _ (And.intro (RetN.one Tryz.results104 (ResN.v rfl)) (by rw [startF, if_pos (by first | exact or2a (by assumption) | exact or2b (by assumption))]))
  ·have aH2 := aH2b
   try simp only [qq] at aH2
   refine VC.skip ?_
   refine VC.sr ?_
   refine VO.ma rfl rfl rfl rfl ?_
   refine VO.nil ?_
   refine VC.ret ?_
   exact Exists.intro _ (And.intro (RetN.one Tryz.results104 (ResN.v rfl)) (by rw [startF, if_neg (by rw [or2f (by assumption) (by assumption)]; simp)]))
 ·replace aK1b : _ = true := aK1b
  have aK1 := aK1b
  try simp only [qq] at aK1
  refine VO.opX rfl rfl rfl rfl aK1b ?_
  refine VO.val rfl rfl (OpV.pickT rfl rfl rfl rfl aK1b) ?_
  refine VO.nil ?_
  refine VC.condT rfl rfl ?_
  refine VC.sr ?_
  refine VO.ma rfl rfl rfl rfl ?_
  refine VO.nil ?_
  refine VC.ret ?_
  exact Exists.intro _ (And.intro (RetN.one Tryz.results104 (ResN.v rfl)) (by rw [startF, if_pos (by first | exact or2a (by assumption) | exact or2b (by assumption))]))
theorem slices_IndexFunc_need {xs : List NeedS} {F : FuncId} {cs : List AV} {p : NeedS → Bool} (hl : xs.length ≤ 1000000000) (hcall : ∀ us w, (callFunc F us).run Tryz.prog w = .ok (.enter F us) w) (hF : ∀ x, Spec Tryz.prog F ([avT x] ++ cs) (fun y => y = avB (p x))) :
  SpecN Tryz.prog 323 [avL xs, .fn F cs] (fun y => y = avI (fidx p xs)) := by
 refine SpecN.of_VCN Tryz.func323 rfl Tryz.ntmps323 (Nle rfl) fun w A hB => ?_
 refine VC.sr ?_
 refine VO.ma rfl rfl rfl rfl ?_
 refine VO.nil ?_
 refine VC.seq ?_
 refine VC.sr ?_
 refine VO.mv rfl rfl rfl rfl ?_
 refine VO.val rfl rfl (OpV.len_im rfl Tryz.underlying68 rfl) ?_
 refine VO.mv rfl rfl rfl rfl ?_
 refine VO.nil ?_
 refine VC.block ?_
 refine VC.loopK [(0, _), (1, _), (7, _)] ⟨rfl, rfl, rfl, trivial⟩ ({q : Nat // q ≤ xs.length ∧ ∀ j, j < q → p (xs.getD j default) = false}) (fun (iZ : {q : Nat // q ≤ xs.length ∧ ∀ j, j < q → p (xs.getD j default) = false}) => match iZ with | ⟨q, hq, hn⟩ => [(8, avI (q : Int))]) (fun (iZ : {q : Nat // q ≤ xs.length ∧ ∀ j, j < q → p (xs.getD j default) = false}) => match iZ with | ⟨q, hq, hn⟩ => []) (fun (iZ : {q : Nat // q ≤ xs.length ∧ ∀ j, j < q → p (xs.getD j default) = false}) => match iZ with | ⟨q, hq, hn⟩ => 0) (fun (iZ : {q : Nat // q ≤ xs.length ∧ ∀ j, j < q → p (xs.getD j default) = false}) => match iZ with | ⟨q, hq, hn⟩ => xs.length - q) ⟨0, Nat.zero_le _, fun j hj => absurd hj (Nat.not_lt_zero j)⟩ (Le.mk hB [] ⟨rfl, rfl, rfl, rfl, trivial⟩ rfl rfl (Nat.le_refl _)) ?_
 rintro ⟨q, hq, hn⟩
 show VC _ _ _ _ ⟨[(8, avI (q : Int))] ++ [(0, _), (1, _), (7, _)], [], 0⟩
 refine VC.sr ?_
 refine VO.val rfl rfl (OpV.lss rfl rfl rfl) ?_
 refine VO.nil ?_
 refine VC.seq ?_
 refine VC.cond rfl (fun aH1b => ?_) (fun aH1b => ?_)
 ·have aH1 := aH1b
  try simp only [qq] at aH1
  refine VC.skip ?_
  refine VC.seq ?_
  refine VC.block ?_
  refine VC.sr ?_
  refine VO.mv rfl rfl rfl rfl ?_
  refine VO.ma rfl rfl rfl rfl ?_
  refine VO.nil ?_
  refine VC.sr ?_
  refine VO.mv rfl rfl rfl rfl ?_
  refine VO.mv rfl rfl rfl rfl ?_
  refine VO.mv rfl rfl rfl rfl ?_
  refine VO.val rfl rfl (OpV.indexAddr_E rfl Tryz.underlying68 Tryz.sizeOf90 rfl rfl rfl (by omega)) ?_
  refine VO.val rfl rfl (OpV.loadK_at rfl hB OutW.no Tryz.isAgg90 Tryz.sizeOf90 rfl rfl) ?_
  refine VO.op rfl (OpE.callF rfl hB rfl hcall rfl rfl (hF _) ?_)
  rintro _ rfl
  refine VO.nil ?_
  refine VC.cond rfl (fun aH2b => ?_) (fun aH2b => ?_)
  ·have aH2 := aH2b
   try simp only [qq] at aH2
   refine VC.sr ?_
   refine VO.mv rfl rfl rfl rfl ?_
   refine VO.ma rfl rfl rfl rfl ?_
   refine VO.nil ?_
   refine VC.ret ?_
   exact Exists.intro _ (And.intro (RetN.one Tryz.results323 (ResN.v rfl)) (by first | (rw [fidx_found (d := default) (q := q) (by omega) hn (by assumption)]) | (rw [fidx_none (d := default) (fun j hj => hn j (by omega))])))
  ·have aH2 := aH2b
   try simp only [qq] at aH2
   refine VC.skip ?_
   refine VC.region ?_
   refine VO.val rfl rfl (OpV.add rfl rfl rfl (by unfold fits; omega)) ?_
   refine VO.mv rfl rfl rfl rfl ?_
   refine VO.nil ?_
   exact Exists.intro (⟨q + 1, by omega, lt_succ_cases hn ((by assumption))⟩) (And.intro (Le.mk hB [] ⟨rfl, rfl, rfl, rfl, trivial⟩ rfl rfl (Nat.le_refl _)) (by first | omega | (show _ < _; omega) | (simp only []; omega)))
 ·have aH1 := aH1b
  try simp only [qq] at aH1
  refine VC.exit ?_
  refine VC.sr ?_
  refine VO.ma rfl rfl rfl rfl ?_
  refine VO.nil ?_
  refine VC.ret ?_
  exact Exists.intro _ (And.intro (RetN.one Tryz.results323 (ResN.v rfl)) (by first | (rw [fidx_found (d := default) (q := q) (by omega) hn (by assumption)]) | (rw [fidx_none (d := default) (fun j hj => hn j (by omega))])))
theorem slices_ContainsFunc_need {xs : List NeedS} {F : FuncId} {cs : List AV} {p : NeedS → Bool} (hl : xs.length ≤ 1000000000) (hcall : ∀ us w, (callFunc F us).run Tryz.prog w = .ok (.enter F us) w) (hF : ∀ x, Spec Tryz.prog F ([avT x] ++ cs) (fun y => y = avB (p x))) :
  SpecN Tryz.prog 259 [avL xs, .fn F cs] (fun y => y = avB (xs.any p)) := by
 refine SpecN.of_VCN Tryz.func259 rfl Tryz.ntmps259 (Nle rfl) fun w A hB => ?_
 refine VC.sr ?_
 refine VO.ma rfl rfl rfl rfl ?_
 refine VO.nil ?_
 refine VC.sr ?_
 refine VO.mv rfl rfl rfl rfl ?_
 refine VO.mv rfl rfl rfl rfl ?_
 refine VO.op rfl (OpE.call rfl hB rfl Tryz.call323 rfl (SpecN.spec (slices_IndexFunc_need hl hcall hF)) ?_)
 rintro _ rfl
 refine VO.val rfl rfl (OpV.geq rfl rfl rfl) ?_
 refine VO.ma rfl rfl rfl rfl ?_
 refine VO.nil ?_
 refine VC.ret ?_
 exact Exists.intro _ (And.intro (RetN.one Tryz.results259 (ResN.v rfl)) (by rw [← fidx_any]))
theorem plan_changeover1 {x o : NeedS}  :
  SpecN Tryz.prog 260 [avT o, .at_ 2 (Sxc.cell x)] (fun y => y = avB (sEq o.key x.key)) := by
 refine SpecN.of_VCN Tryz.func260 rfl Tryz.ntmps260 (Nle rfl) fun w A hB => ?_
 refine VC.sr ?_
 refine VO.op rfl (OpE.box rfl hB rfl rfl rfl ?_)
 intro g2
 refine VO.ma rfl rfl rfl rfl ?_
 refine VO.nil ?_
 refine VC.sr ?_
 refine VO.val rfl rfl (OpV.fieldAddrO 0 rfl Tryz.underlying90 rfl rfl Tryz.sizeOf9 rfl) ?_
 refine VO.val rfl rfl (OpV.load_own (i := 0) rfl hB Tryz.isAgg9 rfl rfl rfl (fun h => h)) ?_
 refine VO.val rfl rfl (OpV.fieldAddr_atO 0 rfl Tryz.underlying90 rfl rfl Tryz.sizeOf9 rfl rfl) ?_
 refine VO.val rfl rfl (OpV.load_at rfl hB OutW.no Tryz.isAgg9 rfl rfl) ?_
 refine VO.val rfl rfl (OpV.seql rfl rfl rfl) ?_
 refine VO.ma rfl rfl rfl rfl ?_
 refine VO.nil ?_
 refine VC.ret ?_
 exact Exists.intro _ (And.intro (RetN.one Tryz.results260 (ResN.v rfl)) (rfl))
set_option maxHeartbeats 4000000 in
theorem plan_changeover {a b : PaceS} {each : Int} (ha : a.needs.length ≤ 1000000) (hb : b.needs.length ≤ 1000000) (he : 0 ≤ each ∧ each ≤ 10000000) :
  SpecN Tryz.prog 189 [avPc a, avPc b, avI each] (fun y => y = avI (chgI a b each)) := by
 refine SpecN.of_VCN Tryz.func189 rfl Tryz.ntmps189 (Nle rfl) fun w A hB => ?_
 refine VC.sr ?_
 refine VO.op rfl (OpE.box rfl hB rfl rfl rfl ?_)
 intro g3
 refine VO.op rfl (OpE.box rfl hB rfl rfl rfl ?_)
 intro g4
 refine VO.ma rfl rfl rfl rfl ?_
 refine VO.nil ?_
 refine VC.sr ?_
 refine VO.ma rfl rfl rfl rfl ?_
 refine VO.nil ?_
 refine VC.seq ?_
 refine VC.sr ?_
 refine VO.val rfl rfl (OpV.fieldAddrO 2 rfl Tryz.underlying115 rfl rfl Tryz.sizeOf68 rfl) ?_
 refine VO.val rfl rfl (OpV.load_own (i := 1) rfl hB Tryz.isAgg68 rfl rfl rfl (fun h => h)) ?_
 refine VO.val rfl rfl (OpV.len_im rfl Tryz.underlying68 rfl) ?_
 refine VO.mv rfl rfl rfl rfl ?_
 refine VO.nil ?_
 refine VC.block ?_
 refine VC.loopK [(2, _), (3, _), (11, _), (12, _)] ⟨rfl, rfl, rfl, rfl, trivial⟩ ({q : Nat // q ≤ b.needs.length}) (fun (iZ : {q : Nat // q ≤ b.needs.length}) => match iZ with | ⟨q, hq⟩ => [(7, avI (each * (chgN a.needs b.needs q : Int))), (13, avI (q : Int))]) (fun (iZ : {q : Nat // q ≤ b.needs.length}) => match iZ with | ⟨q, hq⟩ => [boxPc g3 a 115]) (fun (iZ : {q : Nat // q ≤ b.needs.length}) => match iZ with | ⟨q, hq⟩ => 0) (fun (iZ : {q : Nat // q ≤ b.needs.length}) => match iZ with | ⟨q, hq⟩ => b.needs.length - q) ⟨0, Nat.zero_le _⟩ (Le.mk hB [0] ⟨(by rw [show chgN a.needs b.needs 0 = 0 by simp [chgN]]; simp; rfl), rfl, rfl, rfl, rfl, rfl, trivial⟩ rfl rfl (Nat.le_refl _)) ?_
 rintro ⟨q, hq⟩
 show VC _ _ _ _ ⟨[(7, avI (each * (chgN a.needs b.needs q : Int))), (13, avI (q : Int))] ++ [(2, _), (3, _), (11, _), (12, _)], [boxPc g3 a 115], 0⟩
 have hcn := chgN_le a.needs b.needs q
 have hcm := mul_bd he.1 he.2 (by omega : (0 : Int) ≤ (chgN a.needs b.needs q : Int)) (by omega : _ ≤ (1000000 : Int))
 refine VC.sr ?_
 refine VO.val rfl rfl (OpV.lss rfl rfl rfl) ?_
 refine VO.nil ?_
 refine VC.seq ?_
 refine VC.cond rfl (fun aH1b => ?_) (fun aH1b => ?_)
 ·have aH1 := aH1b
  try simp only [qq] at aH1
  refine VC.skip ?_
  refine VC.seq ?_
  refine VC.block ?_
  refine VC.sr ?_
  refine VO.val rfl rfl (OpV.indexAddr_E rfl Tryz.underlying68 Tryz.sizeOf90 rfl rfl rfl (by omega)) ?_
  refine VO.val rfl rfl (OpV.loadK_at rfl hB OutW.no Tryz.isAgg90 Tryz.sizeOf90 rfl rfl) ?_
  refine VO.op rfl (OpE.alloc rfl hB rfl Tryz.zeroValue90 rfl ?_)
  intro g9
  refine VO.op rfl (OpE.store (i := 1) rfl hB rfl Tryz.sizeOf90 rfl rfl rfl rfl rfl rfl (Nle rfl) trivial ?_)
  refine VO.nil ?_
  refine VC.sr ?_
  refine VO.val rfl rfl (OpV.fieldAddrO 2 rfl Tryz.underlying115 rfl rfl Tryz.sizeOf68 rfl) ?_
  refine VO.val rfl rfl (OpV.load_own (i := 0) rfl hB Tryz.isAgg68 rfl rfl rfl (fun h => h)) ?_
  refine VO.val rfl rfl (OpV.makeFunc1 rfl rfl) ?_
  refine VO.op rfl (OpE.callL rfl hB rfl Tryz.call259 (slices_ContainsFunc_need (p := fun o => sEq o.key (b.needs.getD q default).key) (by omega) Tryz.call260 (fun x => plan_changeover1.spec)) (ArgsP.cons (ArgP.ev rfl) (ArgsP.cons (ArgP.fn1 (i := 1) (m := 2) (f := Sxc.cell (b.needs.getD q default)) rfl rfl (Nle rfl) (lt2 rfl rfl)) (ArgsP.nil))) ?_)
  rintro _ rfl
  refine VO.val rfl rfl (OpV.not rfl rfl) ?_
  refine VO.nil ?_
  refine VC.cond rfl (fun hxb => ?_) (fun hxb => ?_)
  ·have hx := hxb
   try simp only [qq] at hx
   refine VC.region ?_
   refine VO.mv rfl rfl rfl rfl ?_
   refine VO.mv rfl rfl rfl rfl ?_
   refine VO.val rfl rfl (OpV.add rfl rfl rfl (by unfold fits; omega)) ?_
   refine VO.ma rfl rfl rfl rfl ?_
   refine VO.nil ?_
   refine VC.region ?_
   refine VO.val rfl rfl (OpV.add rfl rfl rfl (by unfold fits; omega)) ?_
   refine VO.mv rfl rfl rfl rfl ?_
   refine VO.nil ?_
   exact Exists.intro (⟨q + 1, by omega⟩) (And.intro (Le.mk hB [0] ⟨(by first | (rw [chgN_t (by omega) hx, Int.natCast_add, Int.mul_add, Int.natCast_one, Int.mul_one]; rfl) | (rw [chgN_f (by omega) hx]; rfl)), rfl, rfl, rfl, rfl, rfl, trivial⟩ rfl rfl (Nat.le_refl _)) (by first | omega | (show _ < _; omega) | (simp only []; omega)))
  ·have hx := hxb
   try simp only [qq] at hx
   refine VC.skip ?_
   refine VC.region ?_
   refine VO.val rfl rfl (OpV.add rfl rfl rfl (by unfold fits; omega)) ?_
   refine VO.mv rfl rfl rfl rfl ?_
   refine VO.nil ?_
   exact Exists.intro (⟨q + 1, by omega⟩) (And.intro (Le.mk hB [0] ⟨(by first | (rw [chgN_t (by omega) hx, Int.natCast_add, Int.mul_add, Int.natCast_one, Int.mul_one]; rfl) | (rw [chgN_f (by omega) hx]; rfl)), rfl, rfl, rfl, rfl, rfl, trivial⟩ rfl rfl (Nat.le_refl _)) (by first | omega | (show _ < _; omega) | (simp only []; omega)))
 ·have aH1 := aH1b
  try simp only [qq] at aH1
  refine VC.exit ?_
  refine VC.seq ?_
  have hqe : q = b.needs.length := by omega
  rw [hqe]
  refine VC.region ?_
  refine VO.mv rfl rfl rfl rfl ?_
  refine VO.ma rfl rfl rfl rfl ?_
  refine VO.nil ?_
  refine VC.ret ?_
  exact Exists.intro _ (And.intro (RetN.one Tryz.results189 (ResN.v rfl)) (rfl))
end
section
section
variable {P : Program} {B : Bs} {s : St'}
theorem Le.cellRow {i k j g n sz : Nat} {o' : Own'} {u : Value} {cs : List AV} {ty : TypeId} {y : AV} (hB : B.Ok) (hi : s.hp[i]? = some (.box g o')) (hj : o'.cs[j]? = some (.v u)) (hk : s.hp[k]? = some (.row u n sz cs ty)) (hik : i < k) (hy : ∀ w Z u, Rep w Z (.im n sz fun j => cs.getD j .any) u → Rep w Z y u) :
  Le B s ⟨s.sl, (s.hp.eraseIdx k).set i (.box g ⟨o'.cs.set j y, o'.ty, o'.tot⟩), s.k⟩ := fun a w hr => by
 have hr1 := hr.erase k
 have hi1 : (s.hp.eraseIdx k)[i]? = some (.box g o') := by rw [List.getElem?_eraseIdx, if_pos hik]; exact hi
 have hz : ∀ b, Zn B (s.hp.eraseIdx k) w b → Zn B ((s.hp.eraseIdx k).set i (.box g ⟨o'.cs.set j y, o'.ty, o'.tot⟩)) w b := fun b hb => ⟨hb.1, fun p hp hpb => by
  rcases List.mem_or_eq_of_mem_set hp with h | h
  ·exact hb.2.1 p h hpb
  ·subst h; exact hb.2.1 _ (List.mem_of_getElem? hi1) hpb, hb.2.2⟩
 have hz0 : ∀ b, Zn B s.hp w b → Zn B (s.hp.eraseIdx k) w b := fun b hb => ⟨hb.1, fun p hp => hb.2.1 p ((List.eraseIdx_sublist s.hp k).subset hp), hb.2.2⟩
 refine hr1.set hB hi1 (w' := w) (Chg.refl _ w) (.inl rfl) ?_
 obtain ⟨c, h1, h2, h3, h4⟩ := hr1.blocks _ (List.mem_of_getElem? hi1)
 refine ⟨c, h1, h2, by simpa using h3, fun q hq => ?_⟩
 have hq' : q < o'.cs.length := by simpa using hq
 obtain ⟨hjl, hje⟩ := List.getElem?_eq_some_iff.1 hj
 obtain ⟨v, k1, k2⟩ := h4 q hq'
 refine ⟨v, k1, ?_⟩
 rw [List.getElem_set]
 split
 ·rename_i e
  subst e
  rw [hje] at k2
  rw [k2.eq_v]
  exact hy _ _ _ (hr.repRow hk (fun b hb => hz b (hz0 b hb)) fun g' hg hl => hz g' (hr.erased hB hk hg))
 ·exact k2.keep fun b hb _ => ⟨rfl, hz b hb⟩
end
end
end Go.Proofs.YtcploodfholkkaaGreatDoor
