/- Part 3 of a proof: the walks and laws that it needs. -/
import Derived.Test.YtaaokimiadfidaaGreatDoorProg
import Derived.Shelf.Strings.Trim
import Derived.Shelf.Small.Utf8
import Derived.Shelf.Small.Bits
import Derived.Shelf.Small.Strs
import Derived.Shelf.Strconv.Itoa0
import Derived.Shelf.Strconv.Itoa1
import Derived.Shelf.LaysM
import Derived.Shelf.Strconv.Itoa2
import Derived.Shelf.Strconv.Itoa3
import Derived.Shelf.Strings.Search1
import Derived.Shelf.Strings.Runes
import Derived.Shelf.Strings.AsciiSet
import Derived.Shelf.Bits.Mul64
import Derived.Shelf.Unicode.DecodeSlow
import Derived.Shelf.Unicode.DecodeAny
import Derived.Ground.Names2Prog
import Derived.Shelf.Slices.Clone
import Derived.Shelf.Slices.CompactS
import Derived.Shelf.Slices.SearchI
import Derived.Shelf.Slices.Cells
import Derived.Ground.SlgnProg
import Derived.Shelf.SlicesE.Clone
import Derived.Ground.SlgmProg
import Derived.Shelf.SortM.Plain
import Derived.Shelf.SortM.SortNone
import Derived.Lib.SlicesCompact
import Derived.Test.YtaaokimiadfidaaGreatDoorZK2
namespace Go.Proofs.YtaaokimiadfidaaGreatDoor
open Go.RowKit
set_option linter.unusedVariables false
set_option linter.unusedSimpArgs false
def swp (l : List Int) (j : Nat) : List Int := (l.set j (l.getD (j - 1) 0)).set (j - 1) (l.getD j 0)
theorem swp_perm {l : List Int} {j : Nat} (h0 : 0 < j) (h : j < l.length) : (swp l j).Perm l := by
 obtain ⟨q, rfl⟩ : ∃ q, j = q + 1 := ⟨j - 1, by omega⟩
 have e : l = l.take q ++ l[q] :: l[q + 1] :: l.drop (q + 2) := by
  conv => lhs; rw [← List.take_append_drop q l]
  rw [List.drop_eq_getElem_cons (by omega : q < l.length), List.drop_eq_getElem_cons (by omega : q + 1 < l.length)]
 have hq : (l.take q).length = q := by simp; omega
 have h1 : l.getD (q + 1 - 1) 0 = l[q] := by simp [show q < l.length by omega]
 have h2 : l.getD (q + 1) 0 = l[q + 1] := by simp [h]
 unfold swp
 rw [h1, h2, show q + 1 - 1 = q by omega]
 have hs := swap_eq (Q := l.take q) (T := l.drop (q + 2)) (x := l[q + 1]) (y := l[q])
 rw [← e, hq] at hs
 rw [hs]
 conv => rhs; rw [e]
 exact (List.Perm.swap _ _ _).append_left _
def downI (c : Int → Int → Int) : Nat → List Int → List Int
 | 0, l => l
 | j + 1, l => if c (l.getD (j + 1) 0) (l.getD j 0) < 0 then downI c j (swp l (j + 1)) else l
theorem downI_perm (c : Int → Int → Int) : ∀ (j : Nat) (l : List Int), j < l.length ∨ l.length = 0 ∨ j = 0 → (downI c j l).Perm l
 | 0, l, _ => .refl _
 | j + 1, l, h => by
  rw [downI]
  split
  ·by_cases hl : j + 1 < l.length
   ·have hp := swp_perm (l := l) (j := j + 1) (by omega) hl
    exact (downI_perm c j _ (.inl (by rw [hp.length_eq]; omega))).trans hp
   ·have h0 : l = [] := List.eq_nil_of_length_eq_zero (by omega)
    subst h0
    have : swp [] (j + 1) = [] := rfl
    rw [this]
    exact downI_perm c j [] (.inr (.inl rfl))
  ·exact .refl _
theorem downI_t {c : Int → Int → Int} {l : List Int} {j : Nat} (h0 : 0 < j) (h : c (l.getD j 0) (l.getD (j - 1) 0) < 0) : downI c j l = downI c (j - 1) (swp l j) := by
 obtain ⟨q, rfl⟩ : ∃ q, j = q + 1 := ⟨j - 1, by omega⟩
 rw [downI, if_pos (by simpa using h)]; rfl
theorem downI_f {c : Int → Int → Int} {l : List Int} {j : Nat} (h : j = 0 ∨ ¬ c (l.getD j 0) (l.getD (j - 1) 0) < 0) : downI c j l = l := by
 cases j with
 | zero => rfl
 | succ q =>
  rcases h with h | h
  ·omega
  ·rw [downI, if_neg (by simpa using h)]
def insT (c : Int → Int → Int) (l : List Int) : Nat → List Int
 | 0 => l
 | i + 1 => downI c (i + 1) (insT c l i)
theorem insT_perm (c : Int → Int → Int) (l : List Int) : ∀ i, i < l.length ∨ i = 0 → (insT c l i).Perm l
 | 0, _ => .refl _
 | i + 1, h => by
  have ih := insT_perm c l i (by omega)
  exact (downI_perm c (i + 1) _ (.inl (by rw [ih.length_eq]; omega))).trans ih
theorem insT_at {c : Int → Int → Int} {l : List Int} {i : Nat} (h : 0 < i) : insT c l i = downI c i (insT c l (i - 1)) := by
 obtain ⟨q, rfl⟩ : ∃ q, i = q + 1 := ⟨i - 1, by omega⟩
 rfl
theorem mem_of {l l0 : List Int} (h : l.Perm l0) {j : Nat} (hj : j < l.length) : l.getD j 0 ∈ l0 := h.subset (by rw [List.getD_eq_getElem?_getD, List.getElem?_eq_getElem hj]; exact List.getElem_mem hj)
set_option maxRecDepth 100000 in
set_option maxHeartbeats 4000000 in
theorem insSortC_int {l0 : List Int} {u : Value} {ty : TypeId} {F : FuncId} {cs : List AV} {c : Int → Int → Int} (hl : l0.length ≤ 1000000) (hcall : ∀ us w, (callFunc F us).run Tryz.prog w = .ok (.enter F us) w) (hF : ∀ x y, x ∈ l0 → y ∈ l0 → Spec Tryz.prog F ([avI x, avI y] ++ cs) (fun z => z = avI (c x y))) :
  SpecH Tryz.prog 337 [.v u, avI 0, avI l0.length, .fn F cs] [.row u l0.length 1 (intsL l0) ty] (fun y hp' => y = .tup [] ∧ hp' = [.row u l0.length 1 (intsL (insT c l0 (l0.length - 1))) ty]) := by
 refine SpecH.of_VC Tryz.func337 rfl Tryz.ntmps337 (Nle rfl) fun w A hB => ?_
 have hnew : True := trivial
 refine VC.sr ?_
 refine VO.mv rfl rfl rfl rfl ?_
 refine VO.val rfl rfl (OpV.add rfl rfl rfl (by unfold fits; omega)) ?_
 refine VO.ma rfl rfl rfl rfl ?_
 refine VO.nil ?_
 refine VC.block ?_
 refine VC.loopK [(0, _), (1, _), (2, _), (3, _)] ⟨rfl, rfl, rfl, rfl, trivial⟩ ({i : Nat // 0 < i ∧ i ≤ max 1 l0.length}) (fun (iZ : {i : Nat // 0 < i ∧ i ≤ max 1 l0.length}) => match iZ with | ⟨i, hi0, hin⟩ => [(8, avI (i : Int))]) (fun (iZ : {i : Nat // 0 < i ∧ i ≤ max 1 l0.length}) => match iZ with | ⟨i, hi0, hin⟩ => [.row u l0.length 1 (intsL (insT c l0 (i - 1))) ty]) (fun (iZ : {i : Nat // 0 < i ∧ i ≤ max 1 l0.length}) => match iZ with | ⟨i, hi0, hin⟩ => 0) (fun (iZ : {i : Nat // 0 < i ∧ i ≤ max 1 l0.length}) => match iZ with | ⟨i, hi0, hin⟩ => l0.length - i) ⟨1, Nat.one_pos, by omega⟩ (Le.mk hB [0] ⟨rfl, rfl, rfl, rfl, rfl, trivial⟩ rfl rfl (Nat.le_refl _)) ?_
 rintro ⟨i, hi0, hin⟩
 show VC _ _ _ _ ⟨[(8, avI (i : Int))] ++ [(0, _), (1, _), (2, _), (3, _)], [.row u l0.length 1 (intsL (insT c l0 (i - 1))) ty], 0⟩
 refine VC.seq ?_
 refine VC.sr ?_
 refine VO.mv rfl rfl rfl rfl ?_
 refine VO.mv rfl rfl rfl rfl ?_
 refine VO.val rfl rfl (OpV.lss rfl rfl rfl) ?_
 refine VO.nil ?_
 refine VC.cond rfl (fun aH1b => ?_) (fun aH1b => ?_)
 ·have aH1 := aH1b
  try simp only [qqT, qqF, qqN, qqM, qqL, qqE] at aH1
  refine VC.skip ?_
  refine VC.seq ?_
  refine VC.block ?_
  refine VC.sr ?_
  refine VO.mv rfl rfl rfl rfl ?_
  refine VO.ma rfl rfl rfl rfl ?_
  refine VO.nil ?_
  refine VC.block ?_
  have hpi := insT_perm c l0 (i - 1) (by omega)
  refine VC.asBox (i := 0) rfl (by omega) (fun g cap hu hcap hmx => ?_)
  subst hu
  refine VC.loopK [(0, _), (1, _), (2, _), (3, _), (8, _)] ⟨rfl, rfl, rfl, rfl, rfl, trivial⟩ ({z : Nat × List Int // z.1 ≤ i ∧ downI c z.1 z.2 = insT c l0 i ∧ z.2.Perm l0}) (fun (iZ : {z : Nat × List Int // z.1 ≤ i ∧ downI c z.1 z.2 = insT c l0 i ∧ z.2.Perm l0}) => match iZ with | ⟨⟨j, l2⟩, hji, hd, hpl⟩ => [(9, avI (j : Int))]) (fun (iZ : {z : Nat × List Int // z.1 ≤ i ∧ downI c z.1 z.2 = insT c l0 i ∧ z.2.Perm l0}) => match iZ with | ⟨⟨j, l2⟩, hji, hd, hpl⟩ => [.box g ⟨intsL l2, ty, cap * 1⟩]) (fun (iZ : {z : Nat × List Int // z.1 ≤ i ∧ downI c z.1 z.2 = insT c l0 i ∧ z.2.Perm l0}) => match iZ with | ⟨⟨j, l2⟩, hji, hd, hpl⟩ => 0) (fun (iZ : {z : Nat × List Int // z.1 ≤ i ∧ downI c z.1 z.2 = insT c l0 i ∧ z.2.Perm l0}) => match iZ with | ⟨⟨j, l2⟩, hji, hd, hpl⟩ => j) ⟨(i, insT c l0 (i - 1)), Nat.le_refl _, (insT_at hi0).symm, hpi⟩ (Le.mk hB [0] ⟨rfl, rfl, rfl, rfl, rfl, rfl, trivial⟩ rfl rfl (Nat.le_refl _)) ?_
  rintro ⟨⟨j, l2⟩, hji, hd, hpl⟩
  show VC _ _ _ _ ⟨[(9, avI (j : Int))] ++ [(0, _), (1, _), (2, _), (3, _), (8, _)], [.box g ⟨intsL l2, ty, cap * 1⟩], 0⟩
  simp only at hji hd hpl
  have hlen2 := hpl.length_eq
  refine VC.seq ?_
  refine VC.seq ?_
  refine VC.draw (fun _ => NoB) hB (by kernel_rfl) ?_
  refine VA.take (i := 0) rfl (by kernel_rfl) (by kernel_rfl) (by kernel_rfl) rfl rfl (OpV.move (.inl rfl) rfl) ?_
  refine VA.take (i := 1) rfl (by kernel_rfl) (by kernel_rfl) (by kernel_rfl) rfl rfl (OpV.move (.inl rfl) rfl) ?_
  refine VA.take (i := 2) rfl (by kernel_rfl) (by kernel_rfl) (by kernel_rfl) rfl rfl (OpV.gtr rfl rfl rfl) ?_
  refine VA.take (i := 3) rfl (by kernel_rfl) (by kernel_rfl) (by kernel_rfl) rfl rfl (OpV.move (.inl rfl) rfl) ?_
  refine VA.split (t := 21) rfl (fun aK2b => ?_) (fun aK2b => ?_)
  ·have aK2 := aK2b
   try simp only [qqT, qqF, qqN, qqM, qqL, qqE] at aK2
   refine VA.takeY (i := 4) rfl (by kernel_rfl) (by kernel_rfl) (by kernel_rfl) rfl rfl rfl rfl aK2b (OpV.move (.inl rfl) rfl) ?_
   refine VA.takeY (i := 5) rfl (by kernel_rfl) (by kernel_rfl) (by kernel_rfl) rfl rfl rfl rfl aK2b (OpV.move (.inl rfl) rfl) ?_
   refine VA.takeY (i := 6) rfl (by kernel_rfl) (by kernel_rfl) (by kernel_rfl) rfl rfl rfl rfl aK2b (OpV.move (.inl rfl) rfl) ?_
   refine VA.takeY (i := 7) rfl (by kernel_rfl) (by kernel_rfl) (by kernel_rfl) rfl rfl rfl rfl aK2b (OpV.indexAddr_o rfl Tryz.underlying22 Tryz.sizeOf3 rfl rfl rfl (by omega)) ?_
   refine VA.takeY (i := 8) rfl (by kernel_rfl) (by kernel_rfl) (by kernel_rfl) rfl rfl rfl rfl aK2b (OpV.load_own (i := 0) rfl hB Tryz.isAgg3 rfl rfl (intsL_get (j := j) (by omega)) Wi.not0) ?_
   refine VA.takeY (i := 9) rfl (by kernel_rfl) (by kernel_rfl) (by kernel_rfl) rfl rfl rfl rfl aK2b (OpV.move (.inl rfl) rfl) ?_
   refine VA.takeY (i := 10) rfl (by kernel_rfl) (by kernel_rfl) (by kernel_rfl) rfl rfl rfl rfl aK2b (OpV.move (.inl rfl) rfl) ?_
   refine VA.takeY (i := 11) rfl (by kernel_rfl) (by kernel_rfl) (by kernel_rfl) rfl rfl rfl rfl aK2b (OpV.sub rfl rfl rfl (by unfold fits; omega)) ?_
   refine VA.takeY (i := 12) rfl (by kernel_rfl) (by kernel_rfl) (by kernel_rfl) rfl rfl rfl rfl aK2b (OpV.indexAddr_o rfl Tryz.underlying22 Tryz.sizeOf3 rfl rfl (show (j : Int) - 1 = ((j - 1 : Nat) : Int) by omega) (by omega)) ?_
   refine VA.takeY (i := 13) rfl (by kernel_rfl) (by kernel_rfl) (by kernel_rfl) rfl rfl rfl rfl aK2b (OpV.load_own (i := 0) rfl hB Tryz.isAgg3 rfl rfl (intsL_get (j := j - 1) (by omega)) Wi.not0) ?_
   refine VA.all (rs := [14]) (by kernel_rfl) (by decide) ?_
   refine ⟨⟨_, rfl, .inr ⟨_, _, _, rfl, rfl, (look_k rfl aK2b)⟩, ?_⟩, trivial⟩
   refine OpE.callF rfl hB rfl hcall rfl rfl (hF _ _ (mem_of hpl (by omega)) (mem_of hpl (by omega))) ?_
   rintro _ rfl
   refine VA.takeY (i := 15) rfl (by kernel_rfl) (by kernel_rfl) (by kernel_rfl) rfl rfl rfl rfl aK2b (OpV.lss rfl rfl rfl) ?_
   refine VA.take (i := 16) rfl (by kernel_rfl) (by kernel_rfl) (by kernel_rfl) rfl rfl (OpV.pickT rfl rfl rfl rfl aK2b) ?_
   refine VA.done (by kernel_rfl) ?_
   refine VC.cond rfl (fun hcb => ?_) (fun hcb => ?_)
   ·have hc := hcb
    try simp only [qqT, qqF, qqN, qqM, qqL, qqE] at hc
    refine VC.skip ?_
    refine VC.seq ?_
    refine VC.block ?_
    refine VC.draw (fun j b => j ∈ [15, 17] ∧ b = g) hB (by kernel_rfl) ?_
    refine VA.take (i := 0) rfl (by kernel_rfl) (by kernel_rfl) (by kernel_rfl) rfl rfl (OpV.move (.inl rfl) rfl) ?_
    refine VA.take (i := 1) rfl (by kernel_rfl) (by kernel_rfl) (by kernel_rfl) rfl rfl (OpV.move (.inl rfl) rfl) ?_
    refine VA.take (i := 2) rfl (by kernel_rfl) (by kernel_rfl) (by kernel_rfl) rfl rfl (OpV.move (.inl rfl) rfl) ?_
    refine VA.take (i := 3) rfl (by kernel_rfl) (by kernel_rfl) (by kernel_rfl) rfl rfl (OpV.move (.inl rfl) rfl) ?_
    refine VA.take (i := 4) rfl (by kernel_rfl) (by kernel_rfl) (by kernel_rfl) rfl rfl (OpV.sub rfl rfl rfl (by unfold fits; omega)) ?_
    refine VA.take (i := 5) rfl (by kernel_rfl) (by kernel_rfl) (by kernel_rfl) rfl rfl (OpV.move (.inl rfl) rfl) ?_
    refine VA.take (i := 6) rfl (by kernel_rfl) (by kernel_rfl) (by kernel_rfl) rfl rfl (OpV.move (.inl rfl) rfl) ?_
    refine VA.take (i := 7) rfl (by kernel_rfl) (by kernel_rfl) (by kernel_rfl) rfl rfl (OpV.sub rfl rfl rfl (by unfold fits; omega)) ?_
    refine VA.take (i := 8) rfl (by kernel_rfl) (by kernel_rfl) (by kernel_rfl) rfl rfl (OpV.indexAddr_o rfl Tryz.underlying22 Tryz.sizeOf3 rfl rfl (show (j : Int) - 1 = ((j - 1 : Nat) : Int) by omega) (by omega)) ?_
    refine VA.take (i := 9) rfl (by kernel_rfl) (by kernel_rfl) (by kernel_rfl) rfl rfl (OpV.load_own (i := 0) rfl hB Tryz.isAgg3 rfl rfl (intsL_get (j := j - 1) (by omega)) (Wi.notD (by kernel_rfl))) ?_
    refine VA.take (i := 10) rfl (by kernel_rfl) (by kernel_rfl) (by kernel_rfl) rfl rfl (OpV.move (.inl rfl) rfl) ?_
    refine VA.take (i := 11) rfl (by kernel_rfl) (by kernel_rfl) (by kernel_rfl) rfl rfl (OpV.move (.inl rfl) rfl) ?_
    refine VA.take (i := 12) rfl (by kernel_rfl) (by kernel_rfl) (by kernel_rfl) rfl rfl (OpV.indexAddr_o rfl Tryz.underlying22 Tryz.sizeOf3 rfl rfl rfl (by omega)) ?_
    refine VA.take (i := 13) rfl (by kernel_rfl) (by kernel_rfl) (by kernel_rfl) rfl rfl (OpV.load_own (i := 0) rfl hB Tryz.isAgg3 rfl rfl (intsL_get (j := j) (by omega)) (Wi.notD (by kernel_rfl))) ?_
    refine VA.take (i := 14) rfl (by kernel_rfl) (by kernel_rfl) (by kernel_rfl) rfl rfl (OpV.indexAddr_o rfl Tryz.underlying22 Tryz.sizeOf3 rfl rfl rfl (by omega)) ?_
    refine VA.all (rs := [15]) (by kernel_rfl) (by decide) ?_
    refine ⟨⟨_, rfl, .inl rfl, ?_⟩, trivial⟩
    refine OpE.store1 (i := 0) rfl hB rfl Tryz.sizeOf3 rfl rfl rfl rfl rfl rfl (by rw [intsL_len]; omega) (intsL_set _ _ _) (by first | exact ⟨rfl, rfl⟩ | exact .inl ⟨rfl, rfl⟩ | exact .inr ⟨rfl, rfl⟩ | exact ⟨rfl, trivial⟩ | exact .inl ⟨rfl, trivial⟩ | exact .inr ⟨rfl, trivial⟩ | exact ⟨by decide, rfl⟩) ?_
    refine VA.take (i := 16) rfl (by kernel_rfl) (by kernel_rfl) (by kernel_rfl) rfl rfl (OpV.indexAddr_o rfl Tryz.underlying22 Tryz.sizeOf3 rfl rfl (show (j : Int) - 1 = ((j - 1 : Nat) : Int) by omega) (by omega)) ?_
    refine VA.all (rs := [17]) (by kernel_rfl) (by decide) ?_
    refine ⟨⟨_, rfl, .inl rfl, ?_⟩, trivial⟩
    refine OpE.store1 (i := 0) rfl hB rfl Tryz.sizeOf3 rfl rfl rfl rfl rfl rfl (by rw [intsL_len, List.length_set]; omega) (intsL_set _ _ _) (by first | exact ⟨rfl, rfl⟩ | exact .inl ⟨rfl, rfl⟩ | exact .inr ⟨rfl, rfl⟩ | exact ⟨rfl, trivial⟩ | exact .inl ⟨rfl, trivial⟩ | exact .inr ⟨rfl, trivial⟩ | exact ⟨by decide, rfl⟩) ?_
    refine VA.done (by kernel_rfl) ?_
    refine VC.region ?_
    refine VO.mv rfl rfl rfl rfl ?_
    refine VO.val rfl rfl (OpV.sub rfl rfl rfl (by unfold fits; omega)) ?_
    refine VO.ma rfl rfl rfl rfl ?_
    refine VO.nil ?_
    exact Exists.intro (⟨(j - 1, swp l2 j), by show j - 1 ≤ i; omega, by rw [← hd]; exact (downI_t (by omega) hc).symm, (swp_perm (by omega) (by omega)).trans hpl⟩) (And.intro (Le.mk hB [0] ⟨(by rw [show ((j - 1 : Nat) : Int) = (j : Int) - 1 by omega]; rfl), rfl, rfl, rfl, rfl, rfl, trivial⟩ rfl rfl (Nat.le_refl _)) (by first | omega | (show _ < _; omega) | (simp only []; omega)))
   ·have hc := hcb
    try simp only [qqT, qqF, qqN, qqM, qqL, qqE] at hc
    have hex : l2 = insT c l0 i := by first | exact (downI_f (.inl (by omega))).symm.trans hd | exact (downI_f (.inr (by omega))).symm.trans hd
    refine VC.le _ (Le.boxRow (i := 0) (n := l0.length) rfl (by rw [intsL_len, hlen2]; omega) hcap hmx) ?_
    refine VC.exit ?_
    refine VC.region ?_
    refine VO.mv rfl rfl rfl rfl ?_
    refine VO.val rfl rfl (OpV.add rfl rfl rfl (by unfold fits; omega)) ?_
    refine VO.ma rfl rfl rfl rfl ?_
    refine VO.nil ?_
    exact Exists.intro (⟨i + 1, Nat.succ_pos _, by omega⟩) (And.intro (Le.mk hB [0] ⟨rfl, rfl, rfl, rfl, rfl, trivial⟩ rfl (by dsimp only; rw [show i + 1 - 1 = i by omega, ← hex]; rfl) (Nat.le_refl _)) (by first | omega | (show _ < _; omega) | (simp only []; omega)))
  ·have aK2 := aK2b
   try simp only [qqT, qqF, qqN, qqM, qqL, qqE] at aK2
   refine VA.takeX (i := 4) rfl (by kernel_rfl) (by kernel_rfl) (by kernel_rfl) rfl rfl rfl rfl aK2b ?_
   refine VA.takeX (i := 5) rfl (by kernel_rfl) (by kernel_rfl) (by kernel_rfl) rfl rfl rfl rfl aK2b ?_
   refine VA.takeX (i := 6) rfl (by kernel_rfl) (by kernel_rfl) (by kernel_rfl) rfl rfl rfl rfl aK2b ?_
   refine VA.takeX (i := 7) rfl (by kernel_rfl) (by kernel_rfl) (by kernel_rfl) rfl rfl rfl rfl aK2b ?_
   refine VA.takeX (i := 8) rfl (by kernel_rfl) (by kernel_rfl) (by kernel_rfl) rfl rfl rfl rfl aK2b ?_
   refine VA.takeX (i := 9) rfl (by kernel_rfl) (by kernel_rfl) (by kernel_rfl) rfl rfl rfl rfl aK2b ?_
   refine VA.takeX (i := 10) rfl (by kernel_rfl) (by kernel_rfl) (by kernel_rfl) rfl rfl rfl rfl aK2b ?_
   refine VA.takeX (i := 11) rfl (by kernel_rfl) (by kernel_rfl) (by kernel_rfl) rfl rfl rfl rfl aK2b ?_
   refine VA.takeX (i := 12) rfl (by kernel_rfl) (by kernel_rfl) (by kernel_rfl) rfl rfl rfl rfl aK2b ?_
   refine VA.takeX (i := 13) rfl (by kernel_rfl) (by kernel_rfl) (by kernel_rfl) rfl rfl rfl rfl aK2b ?_
   refine VA.takeX (i := 14) rfl (by kernel_rfl) (by kernel_rfl) (by kernel_rfl) rfl rfl rfl rfl aK2b ?_
   refine VA.takeX (i := 15) rfl (by kernel_rfl) (by kernel_rfl) (by kernel_rfl) rfl rfl rfl rfl aK2b ?_
   refine VA.take (i := 16) rfl (by kernel_rfl) (by kernel_rfl) (by kernel_rfl) rfl rfl (OpV.pickF rfl rfl rfl rfl aK2b) ?_
   refine VA.done (by kernel_rfl) ?_
   refine VC.condF rfl rfl ?_
   have hex : l2 = insT c l0 i := by first | exact (downI_f (.inl (by omega))).symm.trans hd | exact (downI_f (.inr (by omega))).symm.trans hd
   refine VC.le _ (Le.boxRow (i := 0) (n := l0.length) rfl (by rw [intsL_len, hlen2]; omega) hcap hmx) ?_
   refine VC.exit ?_
   refine VC.region ?_
   refine VO.mv rfl rfl rfl rfl ?_
   refine VO.val rfl rfl (OpV.add rfl rfl rfl (by unfold fits; omega)) ?_
   refine VO.ma rfl rfl rfl rfl ?_
   refine VO.nil ?_
   exact Exists.intro (⟨i + 1, Nat.succ_pos _, by omega⟩) (And.intro (Le.mk hB [0] ⟨rfl, rfl, rfl, rfl, rfl, trivial⟩ rfl (by dsimp only; rw [show i + 1 - 1 = i by omega, ← hex]; rfl) (Nat.le_refl _)) (by first | omega | (show _ < _; omega) | (simp only []; omega)))
 ·have aH1 := aH1b
  try simp only [qqT, qqF, qqN, qqM, qqL, qqE] at aH1
  have hie : i - 1 = l0.length - 1 := by omega
  rw [hie]
  refine VC.exit ?_
  exact Exists.intro _ (And.intro (RetV.none Tryz.results337) (⟨rfl, rfl⟩))
set_option maxRecDepth 100000 in
set_option maxHeartbeats 4000000 in
theorem stableC_int {l0 : List Int} {u : Value} {ty : TypeId} {F : FuncId} {cs : List AV} {c : Int → Int → Int} (hl : l0.length < 20) (hcall : ∀ us w, (callFunc F us).run Tryz.prog w = .ok (.enter F us) w) (hF : ∀ x y, x ∈ l0 → y ∈ l0 → Spec Tryz.prog F ([avI x, avI y] ++ cs) (fun z => z = avI (c x y))) :
  SpecH Tryz.prog 282 [.v u, avI l0.length, .fn F cs] [.row u l0.length 1 (intsL l0) ty] (fun y hp' => y = .tup [] ∧ hp' = [.row u l0.length 1 (intsL (insT c l0 (l0.length - 1))) ty]) := by
 refine SpecH.of_VC Tryz.func282 rfl Tryz.ntmps282 (Nle rfl) fun w A hB => ?_
 have hnew : True := trivial
 refine VC.sr ?_
 refine VO.ma rfl rfl rfl rfl ?_
 refine VO.nil ?_
 refine VC.sr ?_
 refine VO.mv rfl rfl rfl rfl ?_
 refine VO.ma rfl rfl rfl rfl ?_
 refine VO.ma rfl rfl rfl rfl ?_
 refine VO.nil ?_
 refine VC.seq ?_
 refine VC.block ?_
 refine VC.loopK [(0, _), (1, _), (2, _), (6, _)] ⟨rfl, rfl, rfl, rfl, trivial⟩ ({z : Nat // z = 0}) (fun (iZ : {z : Nat // z = 0}) => match iZ with | ⟨z, hz⟩ => [(7, avI 0), (8, avI 20)]) (fun (iZ : {z : Nat // z = 0}) => match iZ with | ⟨z, hz⟩ => [.row u l0.length 1 (intsL l0) ty]) (fun (iZ : {z : Nat // z = 0}) => match iZ with | ⟨z, hz⟩ => 0) (fun (iZ : {z : Nat // z = 0}) => match iZ with | ⟨z, hz⟩ => z) ⟨0, rfl⟩ (Le.mk hB [0] ⟨rfl, rfl, rfl, rfl, rfl, rfl, trivial⟩ rfl rfl (Nat.le_refl _)) ?_
 rintro ⟨z, hz⟩
 show VC _ _ _ _ ⟨[(7, avI 0), (8, avI 20)] ++ [(0, _), (1, _), (2, _), (6, _)], [.row u l0.length 1 (intsL l0) ty], 0⟩
 refine VC.seq ?_
 refine VC.sr ?_
 refine VO.mv rfl rfl rfl rfl ?_
 refine VO.mv rfl rfl rfl rfl ?_
 refine VO.val rfl rfl (OpV.leq rfl rfl rfl) ?_
 refine VO.nil ?_
 refine VC.cond rfl (fun aH1b => ?_) (fun aH1b => ?_)
 ·have aH1 := aH1b
  try simp only [qqT, qqF, qqN, qqM, qqL, qqE] at aH1
  exact VC.absurd (by omega)
 ·have aH1 := aH1b
  try simp only [qqT, qqF, qqN, qqM, qqL, qqE] at aH1
  refine VC.exit ?_
  refine VC.sr ?_
  refine VO.mv rfl rfl rfl rfl ?_
  refine VO.mv rfl rfl rfl rfl ?_
  refine VO.mv rfl rfl rfl rfl ?_
  refine VO.mv rfl rfl rfl rfl ?_
  refine VO.op rfl (OpE.callH0 rfl hB rfl Tryz.call337 rfl rfl (insSortC_int (by omega) hcall hF) (List.Perm.refl _) (fun _ _ => trivial) ?_)
  rintro _ _ ⟨rfl, rfl⟩
  refine VO.nil ?_
  refine VC.block ?_
  refine VC.loopK [(0, _), (1, _), (2, _)] ⟨rfl, rfl, rfl, trivial⟩ ({z : Nat // z = 0}) (fun (iZ : {z : Nat // z = 0}) => match iZ with | ⟨z, hz⟩ => [(6, avI 20)]) (fun (iZ : {z : Nat // z = 0}) => match iZ with | ⟨z, hz⟩ => [.row u l0.length 1 (intsL (insT c l0 (l0.length - 1))) ty]) (fun (iZ : {z : Nat // z = 0}) => match iZ with | ⟨z, hz⟩ => 0) (fun (iZ : {z : Nat // z = 0}) => match iZ with | ⟨z, hz⟩ => z) ⟨0, rfl⟩ (Le.mk hB [0] ⟨rfl, rfl, rfl, rfl, trivial⟩ rfl rfl (Nat.le_refl _)) ?_
  rintro ⟨z, hz⟩
  show VC _ _ _ _ ⟨[(6, avI 20)] ++ [(0, _), (1, _), (2, _)], [.row u l0.length 1 (intsL (insT c l0 (l0.length - 1))) ty], 0⟩
  refine VC.seq ?_
  refine VC.sr ?_
  refine VO.mv rfl rfl rfl rfl ?_
  refine VO.mv rfl rfl rfl rfl ?_
  refine VO.val rfl rfl (OpV.lss rfl rfl rfl) ?_
  refine VO.nil ?_
  refine VC.cond rfl (fun aH2b => ?_) (fun aH2b => ?_)
  ·have aH2 := aH2b
   try simp only [qqT, qqF, qqN, qqM, qqL, qqE] at aH2
   exact VC.absurd (by omega)
  ·have aH2 := aH2b
   try simp only [qqT, qqF, qqN, qqM, qqL, qqE] at aH2
   refine VC.exit ?_
   exact Exists.intro _ (And.intro (RetV.none Tryz.results282) (⟨rfl, rfl⟩))
set_option maxRecDepth 100000 in
theorem sortStable_int {l0 : List Int} {u : Value} {ty : TypeId} {F : FuncId} {cs : List AV} {c : Int → Int → Int} (hl : l0.length < 20) (hcall : ∀ us w, (callFunc F us).run Tryz.prog w = .ok (.enter F us) w) (hF : ∀ x y, x ∈ l0 → y ∈ l0 → Spec Tryz.prog F ([avI x, avI y] ++ cs) (fun z => z = avI (c x y))) :
  SpecH Tryz.prog 183 [.v u, .fn F cs] [.row u l0.length 1 (intsL l0) ty] (fun y hp' => y = .tup [] ∧ hp' = [.row u l0.length 1 (intsL (insT c l0 (l0.length - 1))) ty]) := by
 refine SpecH.of_VC Tryz.func183 rfl Tryz.ntmps183 (Nle rfl) fun w A hB => ?_
 have hnew : True := trivial
 refine VC.region ?_
 refine VO.mv rfl rfl rfl rfl ?_
 refine VO.mv rfl rfl rfl rfl ?_
 refine VO.val rfl rfl (OpV.len_row (i := 0) rfl Tryz.underlying22 rfl rfl) ?_
 refine VO.mv rfl rfl rfl rfl ?_
 refine VO.op rfl (OpE.callH0 rfl hB rfl Tryz.call282 rfl rfl (stableC_int hl hcall hF) (List.Perm.refl _) (fun _ _ => trivial) ?_)
 rintro _ _ ⟨rfl, rfl⟩
 refine VO.nil ?_
 exact Exists.intro _ (And.intro (RetV.none Tryz.results183) (⟨rfl, rfl⟩))
end Go.Proofs.YtaaokimiadfidaaGreatDoor
namespace Go.Proofs.YtaaokimiadfidaaGreatDoor
open Go.RowKit
set_option linter.unusedVariables false
set_option linter.unusedSimpArgs false
theorem out_t {n a b : Int} (h : (decide (a ≤ n) && decide (n ≤ b)) = false) : outR n a b = true := by rw [outR_in, h]; rfl
theorem out_f {n a b : Int} (h : (decide (a ≤ n) && decide (n ≤ b)) = true) : outR n a b = false := by rw [outR_in, h]; rfl
def ordO (x : OrdrS) : Int := if (keyF x.key && keyF x.product) = false then 5 else if (outR x.count 1 100000 || (outR x.ready 0 345686399999 || outR x.due 0 345686399999)) = true then 1 else 0
theorem ordO_5a {x : OrdrS} (h : keyF x.key = false) : ordO x = 5 := by rw [ordO, if_pos (by rw [h]; rfl)]
theorem ordO_5b {x : OrdrS} (h : keyF x.product = false) : ordO x = 5 := by rw [ordO, if_pos (by rw [h, Bool.and_false])]
theorem ordO_1 {x : OrdrS} (h1 : keyF x.key = true) (h2 : keyF x.product = true) (h : (outR x.count 1 100000 || (outR x.ready 0 345686399999 || outR x.due 0 345686399999)) = true) : ordO x = 1 := by rw [ordO, if_neg (by rw [h1, h2]; simp), if_pos h]
theorem ordO_0 {x : OrdrS} (h1 : keyF x.key = true) (h2 : keyF x.product = true) (h : (outR x.count 1 100000 || (outR x.ready 0 345686399999 || outR x.due 0 345686399999)) = false) : ordO x = 0 := by rw [ordO, if_neg (by rw [h1, h2]; simp), if_neg (by rw [h]; simp)]
theorem ordrE_o {o : List OrdrS} {i : Nat} : ordrE o i = if ordO (o.getD i default) ≠ 0 then ordO (o.getD i default) else if (decide (0 < i) && sLe (o.getD i default).key (o.getD (i - 1) default).key) = true then 7 else 0 := by
 unfold ordrE ordO
 split
 ·rw [if_pos (by decide)]
 ·split
  ·rw [if_pos (by decide)]
  ·rw [if_neg (show ¬ ((0 : Int) ≠ 0) from fun h => h rfl)]
theorem ordO_key {x : OrdrS} (h : ordO x = 0) : keyF x.key = true ∧ keyF x.product = true := by
 unfold ordO at h
 split at h
 ·cases h
 ·rename_i h1
  have : (keyF x.key && keyF x.product) = true := by simpa using h1
  rwa [Bool.and_eq_true] at this
def lastK {α : Type} [Inhabited α] (key : α → ByteArray) (l : List α) (q : Nat) : ByteArray := if q = 0 then ⟨#[]⟩ else key (l.getD (q - 1) default)
theorem lastK_succ {α : Type} [Inhabited α] (key : α → ByteArray) (l : List α) (q : Nat) : lastK key l (q + 1) = key (l.getD q default) := by simp [lastK]
theorem lastK_le {α : Type} [Inhabited α] {key : α → ByteArray} {l : List α} {q : Nat} (h : keyF (key (l.getD q default)) = true) : sLe (key (l.getD q default)) (lastK key l q) = (decide (0 < q) && sLe (key (l.getD q default)) (key (l.getD (q - 1) default))) := by
 unfold lastK
 by_cases hq : q = 0
 ·subst hq; rw [if_pos rfl, sLe_empty h]; simp
 ·rw [if_neg hq, decide_eq_true (by omega : 0 < q), Bool.true_and]
section
variable {o : List OrdrS} {q : Nat}
theorem ordrE_oe {e : Int} (h : ordO (o.getD q default) = e) (h0 : e ≠ 0) : ordrE o q = e := by rw [ordrE_o, h, if_pos h0]
theorem ordrE_o7 (h : ordO (o.getD q default) = 0) (h2 : sLe (o.getD q default).key (lastK OrdrS.key o q) = true) : ordrE o q = 7 := by
 rw [lastK_le (ordO_key h).1] at h2
 rw [ordrE_o, if_neg (by omega), if_pos h2]
theorem ordrE_o0 (h : ordO (o.getD q default) = 0) (h2 : sLe (o.getD q default).key (lastK OrdrS.key o q) = false) : ordrE o q = 0 := by
 rw [lastK_le (ordO_key h).1] at h2
 rw [ordrE_o, if_neg (by omega), if_neg (by rw [h2]; simp)]
end
theorem paceE_k {p : List PaceS} {q : Nat} (h : keyF (p.getD q default).product = true) (h2 : sLe (p.getD q default).product (lastK PaceS.product p q) = false) : q = 0 ∨ sLe (p.getD q default).product (p.getD (q - 1) default).product = false := by
 by_cases hq : q = 0
 ·exact .inl hq
 ·rw [lastK_le h, decide_eq_true (by omega : 0 < q), Bool.true_and] at h2; exact .inr h2
theorem paceE_k7 {p : List PaceS} {q : Nat} (h : keyF (p.getD q default).product = true) (h2 : sLe (p.getD q default).product (lastK PaceS.product p q) = true) : paceE p q = 7 := by
 rw [lastK_le h, Bool.and_eq_true, decide_eq_true_eq] at h2
 exact paceE_7 h h2.1 h2.2
set_option maxRecDepth 100000 in
theorem rf_Moment {n : Int}  :
  SpecN Tryz.prog 27 [avI n] (fun y => y = avB (decide (0 ≤ n) && decide (n ≤ 345686399999))) := by
 refine SpecN.of_VCN Tryz.func27 rfl Tryz.ntmps27 (Nle rfl) fun w A hB => ?_
 have hnew : True := trivial
 refine VC.sr ?_
 refine VO.ma rfl rfl rfl rfl ?_
 refine VO.nil ?_
 refine VC.sr ?_
 refine VO.mv rfl rfl rfl rfl ?_
 refine VO.op rfl (OpE.call rfl hB rfl Tryz.call120 rfl (SpecN.spec (rf_in)) ?_)
 rintro _ rfl
 refine VO.ma rfl rfl rfl rfl ?_
 refine VO.nil ?_
 refine VC.ret ?_
 exact Exists.intro _ (And.intro (RetN.one Tryz.results27 (ResN.v rfl)) (rfl))
set_option maxRecDepth 100000 in
set_option maxHeartbeats 4000000 in
theorem rf_orderFault {x : OrdrS} (h1 : x.key.size ≤ 1000000) (h2 : x.product.size ≤ 1000000) :
  SpecN Tryz.prog 169 [avOr x] (fun y => y = avI (ordO x)) := by
 refine SpecN.of_VCN Tryz.func169 rfl Tryz.ntmps169 (Nle rfl) fun w A hB => ?_
 have hnew : True := trivial
 refine VC.sr ?_
 refine VO.op rfl (OpE.box rfl hB rfl rfl rfl ?_)
 intro g1
 refine VO.ma rfl rfl rfl rfl ?_
 refine VO.nil ?_
 refine VC.seq ?_
 refine VC.block ?_
 refine VC.sr ?_
 refine VO.val rfl rfl (OpV.fieldAddrO 0 rfl Tryz.underlying89 rfl rfl Tryz.sizeOf9 rfl) ?_
 refine VO.val rfl rfl (OpV.load_own (i := 0) rfl hB Tryz.isAgg9 rfl rfl rfl (fun h => h)) ?_
 refine VO.op rfl (OpE.call rfl hB rfl Tryz.call26 rfl (SpecN.spec (rf_Key (by omega))) ?_)
 rintro _ rfl
 refine VO.val rfl rfl (OpV.not rfl rfl) ?_
 refine VO.mv rfl rfl rfl rfl ?_
 refine VO.opG rfl rfl rfl rfl (fun aK1b => ?_) (fun aK1b => ?_)
 ·replace aK1b : _ = false := aK1b
  have aK1 := aK1b
  try simp only [qqT, qqF, qqN, qqM, qqL, qqE] at aK1
  refine OpE.val (W := NoB) (OpV.fieldAddrO 1 rfl Tryz.underlying89 rfl rfl Tryz.sizeOf9 rfl) rfl ?_
  refine VO.opY rfl rfl rfl rfl aK1b ?_
  refine OpE.val (W := NoB) (OpV.load_own (i := 0) rfl hB Tryz.isAgg9 rfl rfl rfl (fun h => h)) rfl ?_
  refine VO.opY rfl rfl rfl rfl aK1b ?_
  refine OpE.call rfl hB rfl Tryz.call26 rfl (SpecN.spec (rf_Key (by omega))) ?_
  rintro _ rfl
  refine VO.opY rfl rfl rfl rfl aK1b ?_
  refine OpE.val (W := NoB) (OpV.not rfl rfl) rfl ?_
  refine VO.val rfl rfl (OpV.pickF rfl rfl rfl rfl aK1b) ?_
  refine VO.ma rfl rfl rfl rfl ?_
  refine VO.nil ?_
  refine VC.cond rfl (fun aH2b => ?_) (fun aH2b => ?_)
  ·have aH2 := aH2b
   try simp only [qqT, qqF, qqN, qqM, qqL, qqE] at aH2
   refine VC.sr ?_
   refine VO.ma rfl rfl rfl rfl ?_
   refine VO.nil ?_
   refine VC.ret ?_
   exact Exists.intro _ (And.intro (RetN.one Tryz.results169 (ResN.v rfl)) (by first | rw [ordO_5a (by assumption)] | rw [ordO_5b (by assumption)]))
  ·have aH2 := aH2b
   try simp only [qqT, qqF, qqN, qqM, qqL, qqE] at aH2
   refine VC.sr ?_
   refine VO.val rfl rfl (OpV.fieldAddrO 2 rfl Tryz.underlying89 rfl rfl Tryz.sizeOf3 rfl) ?_
   refine VO.val rfl rfl (OpV.load_own (i := 0) rfl hB Tryz.isAgg3 rfl rfl rfl (fun h => h)) ?_
   refine VO.op rfl (OpE.call rfl hB rfl Tryz.call120 rfl (SpecN.spec (rf_in)) ?_)
   rintro _ rfl
   refine VO.val rfl rfl (OpV.not rfl rfl) ?_
   refine VO.mv rfl rfl rfl rfl ?_
   refine VO.opG rfl rfl rfl rfl (fun aK3b => ?_) (fun aK3b => ?_)
   ·replace aK3b : _ = false := aK3b
    have aK3 := aK3b
    try simp only [qqT, qqF, qqN, qqM, qqL, qqE] at aK3
    refine OpE.val (W := NoB) (OpV.fieldAddrO 3 rfl Tryz.underlying89 rfl rfl Tryz.sizeOf3 rfl) rfl ?_
    refine VO.opY rfl rfl rfl rfl aK3b ?_
    refine OpE.val (W := NoB) (OpV.load_own (i := 0) rfl hB Tryz.isAgg3 rfl rfl rfl (fun h => h)) rfl ?_
    refine VO.opY rfl rfl rfl rfl aK3b ?_
    refine OpE.call rfl hB rfl Tryz.call27 rfl (SpecN.spec (rf_Moment)) ?_
    rintro _ rfl
    refine VO.opY rfl rfl rfl rfl aK3b ?_
    refine OpE.val (W := NoB) (OpV.not rfl rfl) rfl ?_
    refine VO.val rfl rfl (OpV.pickF rfl rfl rfl rfl aK3b) ?_
    refine VO.mv rfl rfl rfl rfl ?_
    refine VO.opG rfl rfl rfl rfl (fun aK4b => ?_) (fun aK4b => ?_)
    ·replace aK4b : _ = false := aK4b
     have aK4 := aK4b
     try simp only [qqT, qqF, qqN, qqM, qqL, qqE] at aK4
     refine OpE.val (W := NoB) (OpV.fieldAddrO 4 rfl Tryz.underlying89 rfl rfl Tryz.sizeOf3 rfl) rfl ?_
     refine VO.opY rfl rfl rfl rfl aK4b ?_
     refine OpE.val (W := NoB) (OpV.load_own (i := 0) rfl hB Tryz.isAgg3 rfl rfl rfl (fun h => h)) rfl ?_
     refine VO.opY rfl rfl rfl rfl aK4b ?_
     refine OpE.call rfl hB rfl Tryz.call27 rfl (SpecN.spec (rf_Moment)) ?_
     rintro _ rfl
     refine VO.opY rfl rfl rfl rfl aK4b ?_
     refine OpE.val (W := NoB) (OpV.not rfl rfl) rfl ?_
     refine VO.val rfl rfl (OpV.pickF rfl rfl rfl rfl aK4b) ?_
     refine VO.ma rfl rfl rfl rfl ?_
     refine VO.nil ?_
     refine VC.cond rfl (fun aH5b => ?_) (fun aH5b => ?_)
     ·have aH5 := aH5b
      try simp only [qqT, qqF, qqN, qqM, qqL, qqE] at aH5
      refine VC.sr ?_
      refine VO.ma rfl rfl rfl rfl ?_
      refine VO.nil ?_
      refine VC.ret ?_
      exact Exists.intro _ (And.intro (RetN.one Tryz.results169 (ResN.v rfl)) (by rw [ordO_1 (by assumption) (by assumption) (by first | exact or3a (out_t (by assumption)) | exact or3b (out_t (by assumption)) | exact or3c (out_t (by assumption)))]))
     ·have aH5 := aH5b
      try simp only [qqT, qqF, qqN, qqM, qqL, qqE] at aH5
      refine VC.skip ?_
      refine VC.sr ?_
      refine VO.ma rfl rfl rfl rfl ?_
      refine VO.nil ?_
      refine VC.ret ?_
      exact Exists.intro _ (And.intro (RetN.one Tryz.results169 (ResN.v rfl)) (by rw [ordO_0 (by assumption) (by assumption) (or3f (out_f (by assumption)) (out_f (by assumption)) (out_f (by assumption)))]))
    ·replace aK4b : _ = true := aK4b
     have aK4 := aK4b
     try simp only [qqT, qqF, qqN, qqM, qqL, qqE] at aK4
     refine VO.opX rfl rfl rfl rfl aK4b ?_
     refine VO.opX rfl rfl rfl rfl aK4b ?_
     refine VO.opX rfl rfl rfl rfl aK4b ?_
     refine VO.val rfl rfl (OpV.pickT rfl rfl rfl rfl aK4b) ?_
     refine VO.ma rfl rfl rfl rfl ?_
     refine VO.nil ?_
     refine VC.condT rfl rfl ?_
     refine VC.sr ?_
     refine VO.ma rfl rfl rfl rfl ?_
     refine VO.nil ?_
     refine VC.ret ?_
     exact Exists.intro _ (And.intro (RetN.one Tryz.results169 (ResN.v rfl)) (by rw [ordO_1 (by assumption) (by assumption) (by first | exact or3a (out_t (by assumption)) | exact or3b (out_t (by assumption)) | exact or3c (out_t (by assumption)))]))
   ·replace aK3b : _ = true := aK3b
    have aK3 := aK3b
    try simp only [qqT, qqF, qqN, qqM, qqL, qqE] at aK3
    refine VO.opX rfl rfl rfl rfl aK3b ?_
    refine VO.opX rfl rfl rfl rfl aK3b ?_
    refine VO.opX rfl rfl rfl rfl aK3b ?_
    refine VO.val rfl rfl (OpV.pickT rfl rfl rfl rfl aK3b) ?_
    refine VO.mv rfl rfl rfl rfl ?_
    refine VO.opX rfl rfl rfl rfl rfl ?_
    refine VO.opX rfl rfl rfl rfl rfl ?_
    refine VO.opX rfl rfl rfl rfl rfl ?_
    refine VO.opX rfl rfl rfl rfl rfl ?_
    refine VO.val rfl rfl (OpV.pickT rfl rfl rfl rfl rfl) ?_
    refine VO.ma rfl rfl rfl rfl ?_
    refine VO.nil ?_
    refine VC.condT rfl rfl ?_
    refine VC.sr ?_
    refine VO.ma rfl rfl rfl rfl ?_
    refine VO.nil ?_
    refine VC.ret ?_
    exact Exists.intro _ (And.intro (RetN.one Tryz.results169 (ResN.v rfl)) (by rw [ordO_1 (by assumption) (by assumption) (by first | exact or3a (out_t (by assumption)) | exact or3b (out_t (by assumption)) | exact or3c (out_t (by assumption)))]))
 ·replace aK1b : _ = true := aK1b
  have aK1 := aK1b
  try simp only [qqT, qqF, qqN, qqM, qqL, qqE] at aK1
  refine VO.opX rfl rfl rfl rfl aK1b ?_
  refine VO.opX rfl rfl rfl rfl aK1b ?_
  refine VO.opX rfl rfl rfl rfl aK1b ?_
  refine VO.val rfl rfl (OpV.pickT rfl rfl rfl rfl aK1b) ?_
  refine VO.ma rfl rfl rfl rfl ?_
  refine VO.nil ?_
  refine VC.condT rfl rfl ?_
  refine VC.sr ?_
  refine VO.ma rfl rfl rfl rfl ?_
  refine VO.nil ?_
  refine VC.ret ?_
  exact Exists.intro _ (And.intro (RetN.one Tryz.results169 (ResN.v rfl)) (by first | rw [ordO_5a (by assumption)] | rw [ordO_5b (by assumption)]))
set_option maxRecDepth 100000 in
set_option maxHeartbeats 4000000 in
theorem rf_OrdersFault {o : List OrdrS} (hs : SmOr o) :
  SpecN Tryz.prog 57 [avL o] (fun y => y = avI (ordrF o)) := by
 refine SpecN.of_VCN Tryz.func57 rfl Tryz.ntmps57 (Nle rfl) fun w A hB => ?_
 have hnew : True := trivial
 refine VC.seq ?_
 have hl := hs.len
 refine VC.region ?_
 refine VO.ma rfl rfl rfl rfl ?_
 refine VO.nil ?_
 refine VC.seq ?_
 refine VC.sr ?_
 refine VO.mv rfl rfl rfl rfl ?_
 refine VO.val rfl rfl (OpV.len_im rfl Tryz.underlying75 rfl) ?_
 refine VO.val rfl rfl (OpV.gtr rfl rfl rfl) ?_
 refine VO.nil ?_
 refine VC.cond rfl (fun aH1b => ?_) (fun aH1b => ?_)
 ·have aH1 := aH1b
  try simp only [qqT, qqF, qqN, qqM, qqL, qqE] at aH1
  refine VC.sr ?_
  refine VO.ma rfl rfl rfl rfl ?_
  refine VO.nil ?_
  refine VC.ret ?_
  exact Exists.intro _ (And.intro (RetN.one Tryz.results57 (ResN.v rfl)) (by rw [ordrF_2 (by omega)]))
 ·have aH1 := aH1b
  try simp only [qqT, qqF, qqN, qqM, qqL, qqE] at aH1
  refine VC.skip ?_
  refine VC.sr ?_
  refine VO.ma rfl rfl rfl rfl ?_
  refine VO.nil ?_
  refine VC.seq ?_
  refine VC.sr ?_
  refine VO.mv rfl rfl rfl rfl ?_
  refine VO.val rfl rfl (OpV.len_im rfl Tryz.underlying75 rfl) ?_
  refine VO.mv rfl rfl rfl rfl ?_
  refine VO.nil ?_
  refine VC.block ?_
  refine VC.loopK [(10, _), (11, _)] ⟨rfl, rfl, trivial⟩ ({q : Nat // q ≤ o.length ∧ ∀ j, j < q → ordrE o j = 0}) (fun (iZ : {q : Nat // q ≤ o.length ∧ ∀ j, j < q → ordrE o j = 0}) => match iZ with | ⟨q, hq, hn⟩ => [(3, avS (lastK OrdrS.key o q)), (12, avI (q : Int))]) (fun (iZ : {q : Nat // q ≤ o.length ∧ ∀ j, j < q → ordrE o j = 0}) => match iZ with | ⟨q, hq, hn⟩ => []) (fun (iZ : {q : Nat // q ≤ o.length ∧ ∀ j, j < q → ordrE o j = 0}) => match iZ with | ⟨q, hq, hn⟩ => 0) (fun (iZ : {q : Nat // q ≤ o.length ∧ ∀ j, j < q → ordrE o j = 0}) => match iZ with | ⟨q, hq, hn⟩ => o.length - q) ⟨0, Nat.zero_le _, fun j hj => absurd hj (Nat.not_lt_zero j)⟩ (Le.mk hB [] ⟨rfl, rfl, rfl, rfl, trivial⟩ rfl rfl (Nat.le_refl _)) ?_
  rintro ⟨q, hq, hn⟩
  show VC _ _ _ _ ⟨[(3, avS (lastK OrdrS.key o q)), (12, avI (q : Int))] ++ [(10, _), (11, _)], [], 0⟩
  refine VC.sr ?_
  refine VO.val rfl rfl (OpV.lss rfl rfl rfl) ?_
  refine VO.nil ?_
  refine VC.seq ?_
  refine VC.cond rfl (fun aH2b => ?_) (fun aH2b => ?_)
  ·have aH2 := aH2b
   try simp only [qqT, qqF, qqN, qqM, qqL, qqE] at aH2
   refine VC.skip ?_
   refine VC.seq ?_
   refine VC.block ?_
   refine VC.sr ?_
   refine VO.val rfl rfl (OpV.indexAddr_E rfl Tryz.underlying75 Tryz.sizeOf89 rfl rfl rfl (by omega)) ?_
   refine VO.val rfl rfl (OpV.loadK_at rfl hB OutW.no Tryz.isAgg89 Tryz.sizeOf89 rfl rfl) ?_
   refine VO.op rfl (OpE.alloc rfl hB rfl Tryz.zeroValue89 rfl ?_)
   intro g5
   refine VO.op rfl (OpE.store (i := 0) rfl hB rfl Tryz.sizeOf89 rfl rfl rfl rfl rfl rfl (Nle rfl) trivial ?_)
   refine VO.nil ?_
   refine VC.seq ?_
   refine VC.sr ?_
   refine VO.val rfl rfl (OpV.loadK_own (i := 0) rfl hB Tryz.isAgg89 Tryz.sizeOf89 rfl rfl rfl (fun h => h)) ?_
   refine VO.op rfl (OpE.call rfl hB rfl Tryz.call169 rfl (SpecN.spec (rf_orderFault (x := o.getD q default) (hs.key q) (hs.prod q))) ?_)
   rintro _ rfl
   refine VO.ma rfl rfl rfl rfl ?_
   refine VO.nil ?_
   refine VC.sr ?_
   refine VO.mv rfl rfl rfl rfl ?_
   refine VO.val rfl rfl (OpV.neq rfl rfl rfl) ?_
   refine VO.nil ?_
   refine VC.cond rfl (fun h2b => ?_) (fun h2b => ?_)
   ·have h2 := h2b
    try simp only [qqT, qqF, qqN, qqM, qqL, qqE] at h2
    refine VC.sr ?_
    refine VO.mv rfl rfl rfl rfl ?_
    refine VO.ma rfl rfl rfl rfl ?_
    refine VO.nil ?_
    refine VC.ret ?_
    exact Exists.intro _ (And.intro (RetN.one Tryz.results57 (ResN.v rfl)) (by rw [ordrF_at (by omega) (by omega) hn (ordrE_oe rfl h2) h2]))
   ·have h2 := h2b
    try simp only [qqT, qqF, qqN, qqM, qqL, qqE] at h2
    refine VC.skip ?_
    refine VC.seq ?_
    refine VC.sr ?_
    refine VO.val rfl rfl (OpV.fieldAddrO 0 rfl Tryz.underlying89 rfl rfl Tryz.sizeOf9 rfl) ?_
    refine VO.val rfl rfl (OpV.load_own (i := 0) rfl hB Tryz.isAgg9 rfl rfl rfl (fun h => h)) ?_
    refine VO.mv rfl rfl rfl rfl ?_
    refine VO.val rfl rfl (OpV.sleq rfl rfl rfl) ?_
    refine VO.nil ?_
    refine VC.cond rfl (fun h3b => ?_) (fun h3b => ?_)
    ·have h3 := h3b
     try simp only [qqT, qqF, qqN, qqM, qqL, qqE] at h3
     refine VC.sr ?_
     refine VO.ma rfl rfl rfl rfl ?_
     refine VO.nil ?_
     refine VC.ret ?_
     exact Exists.intro _ (And.intro (RetN.one Tryz.results57 (ResN.v rfl)) (by rw [ordrF_at (by omega) (by omega) hn (ordrE_o7 (by omega) h3) (by decide)]))
    ·have h3 := h3b
     try simp only [qqT, qqF, qqN, qqM, qqL, qqE] at h3
     refine VC.skip ?_
     refine VC.region ?_
     refine VO.val rfl rfl (OpV.fieldAddrO 0 rfl Tryz.underlying89 rfl rfl Tryz.sizeOf9 rfl) ?_
     refine VO.val rfl rfl (OpV.load_own (i := 0) rfl hB Tryz.isAgg9 rfl rfl rfl (fun h => h)) ?_
     refine VO.ma rfl rfl rfl rfl ?_
     refine VO.nil ?_
     refine VC.region ?_
     refine VO.val rfl rfl (OpV.add rfl rfl rfl (by unfold fits; omega)) ?_
     refine VO.mv rfl rfl rfl rfl ?_
     refine VO.nil ?_
     exact Exists.intro (⟨q + 1, by omega, lt_succ_cases hn ((ordrE_o0 (by omega) h3))⟩) (And.intro (Le.mk hB [] ⟨(by dsimp only; rw [lastK_succ]; rfl), rfl, rfl, rfl, trivial⟩ rfl rfl (Nat.le_refl _)) (by first | omega | (show _ < _; omega) | (simp only []; omega)))
  ·have aH2 := aH2b
   try simp only [qqT, qqF, qqN, qqM, qqL, qqE] at aH2
   refine VC.exit ?_
   refine VC.sr ?_
   refine VO.ma rfl rfl rfl rfl ?_
   refine VO.nil ?_
   refine VC.ret ?_
   exact Exists.intro _ (And.intro (RetN.one Tryz.results57 (ResN.v rfl)) (by rw [ordrF_ok (by omega) (fun j hj => hn j (by omega))]))
set_option maxRecDepth 100000 in
set_option maxHeartbeats 4000000 in
theorem rf_PacesFault {p : List PaceS} (hs : SmPc p) :
  SpecN Tryz.prog 59 [avL p] (fun y => y = avI (paceF p)) := by
 refine SpecN.of_VCN Tryz.func59 rfl Tryz.ntmps59 (Nle rfl) fun w A hB => ?_
 have hnew : True := trivial
 refine VC.seq ?_
 have hl := hs.len
 refine VC.region ?_
 refine VO.ma rfl rfl rfl rfl ?_
 refine VO.nil ?_
 refine VC.seq ?_
 refine VC.sr ?_
 refine VO.mv rfl rfl rfl rfl ?_
 refine VO.val rfl rfl (OpV.len_im rfl Tryz.underlying73 rfl) ?_
 refine VO.val rfl rfl (OpV.gtr rfl rfl rfl) ?_
 refine VO.nil ?_
 refine VC.cond rfl (fun aH1b => ?_) (fun aH1b => ?_)
 ·have aH1 := aH1b
  try simp only [qqT, qqF, qqN, qqM, qqL, qqE] at aH1
  refine VC.sr ?_
  refine VO.ma rfl rfl rfl rfl ?_
  refine VO.nil ?_
  refine VC.ret ?_
  exact Exists.intro _ (And.intro (RetN.one Tryz.results59 (ResN.v rfl)) (by rw [paceF_2 (by omega)]))
 ·have aH1 := aH1b
  try simp only [qqT, qqF, qqN, qqM, qqL, qqE] at aH1
  refine VC.skip ?_
  refine VC.sr ?_
  refine VO.ma rfl rfl rfl rfl ?_
  refine VO.nil ?_
  refine VC.seq ?_
  refine VC.sr ?_
  refine VO.mv rfl rfl rfl rfl ?_
  refine VO.val rfl rfl (OpV.len_im rfl Tryz.underlying73 rfl) ?_
  refine VO.mv rfl rfl rfl rfl ?_
  refine VO.nil ?_
  refine VC.block ?_
  refine VC.loopK [(10, _), (11, _)] ⟨rfl, rfl, trivial⟩ ({q : Nat // q ≤ p.length ∧ ∀ j, j < q → paceE p j = 0}) (fun (iZ : {q : Nat // q ≤ p.length ∧ ∀ j, j < q → paceE p j = 0}) => match iZ with | ⟨q, hq, hn⟩ => [(3, avS (lastK PaceS.product p q)), (12, avI (q : Int))]) (fun (iZ : {q : Nat // q ≤ p.length ∧ ∀ j, j < q → paceE p j = 0}) => match iZ with | ⟨q, hq, hn⟩ => []) (fun (iZ : {q : Nat // q ≤ p.length ∧ ∀ j, j < q → paceE p j = 0}) => match iZ with | ⟨q, hq, hn⟩ => 0) (fun (iZ : {q : Nat // q ≤ p.length ∧ ∀ j, j < q → paceE p j = 0}) => match iZ with | ⟨q, hq, hn⟩ => p.length - q) ⟨0, Nat.zero_le _, fun j hj => absurd hj (Nat.not_lt_zero j)⟩ (Le.mk hB [] ⟨rfl, rfl, rfl, rfl, trivial⟩ rfl rfl (Nat.le_refl _)) ?_
  rintro ⟨q, hq, hn⟩
  show VC _ _ _ _ ⟨[(3, avS (lastK PaceS.product p q)), (12, avI (q : Int))] ++ [(10, _), (11, _)], [], 0⟩
  refine VC.sr ?_
  refine VO.val rfl rfl (OpV.lss rfl rfl rfl) ?_
  refine VO.nil ?_
  refine VC.seq ?_
  refine VC.cond rfl (fun aH2b => ?_) (fun aH2b => ?_)
  ·have aH2 := aH2b
   try simp only [qqT, qqF, qqN, qqM, qqL, qqE] at aH2
   refine VC.skip ?_
   refine VC.seq ?_
   refine VC.block ?_
   refine VC.sr ?_
   refine VO.val rfl rfl (OpV.indexAddr_E rfl Tryz.underlying73 Tryz.sizeOf137 rfl rfl rfl (by omega)) ?_
   refine VO.val rfl rfl (OpV.loadK_at rfl hB OutW.no Tryz.isAgg137 Tryz.sizeOf137 rfl rfl) ?_
   refine VO.op rfl (OpE.alloc rfl hB rfl Tryz.zeroValue137 rfl ?_)
   intro g5
   refine VO.op rfl (OpE.store (i := 0) rfl hB rfl Tryz.sizeOf137 rfl rfl rfl rfl rfl rfl (Nle rfl) trivial ?_)
   refine VO.nil ?_
   refine VC.seq ?_
   refine VC.block ?_
   refine VC.sr ?_
   refine VO.val rfl rfl (OpV.fieldAddrO 0 rfl Tryz.underlying137 rfl rfl Tryz.sizeOf9 rfl) ?_
   refine VO.val rfl rfl (OpV.load_own (i := 0) rfl hB Tryz.isAgg9 rfl rfl rfl (fun h => h)) ?_
   refine VO.op rfl (OpE.call rfl hB rfl Tryz.call26 rfl (SpecN.spec (rf_Key (by have := hs.prod q; omega))) ?_)
   rintro _ rfl
   refine VO.val rfl rfl (OpV.not rfl rfl) ?_
   refine VO.ma rfl rfl rfl rfl ?_
   refine VO.nil ?_
   refine VC.cond rfl (fun k2b => ?_) (fun k2b => ?_)
   ·have k2 := k2b
    try simp only [qqT, qqF, qqN, qqM, qqL, qqE] at k2
    refine VC.sr ?_
    refine VO.ma rfl rfl rfl rfl ?_
    refine VO.nil ?_
    refine VC.ret ?_
    exact Exists.intro _ (And.intro (RetN.one Tryz.results59 (ResN.v rfl)) (by rw [paceF_at (by omega) (by omega) hn (paceE_5 k2) (by decide)]))
   ·have k2 := k2b
    try simp only [qqT, qqF, qqN, qqM, qqL, qqE] at k2
    refine VC.sr ?_
    refine VO.val rfl rfl (OpV.fieldAddrO 0 rfl Tryz.underlying137 rfl rfl Tryz.sizeOf9 rfl) ?_
    refine VO.val rfl rfl (OpV.load_own (i := 0) rfl hB Tryz.isAgg9 rfl rfl rfl (fun h => h)) ?_
    refine VO.mv rfl rfl rfl rfl ?_
    refine VO.val rfl rfl (OpV.sleq rfl rfl rfl) ?_
    refine VO.ma rfl rfl rfl rfl ?_
    refine VO.nil ?_
    refine VC.cond rfl (fun k3b => ?_) (fun k3b => ?_)
    ·have k3 := k3b
     try simp only [qqT, qqF, qqN, qqM, qqL, qqE] at k3
     refine VC.sr ?_
     refine VO.ma rfl rfl rfl rfl ?_
     refine VO.nil ?_
     refine VC.ret ?_
     exact Exists.intro _ (And.intro (RetN.one Tryz.results59 (ResN.v rfl)) (by rw [paceF_at (by omega) (by omega) hn (paceE_k7 k2 k3) (by decide)]))
    ·have k3 := k3b
     try simp only [qqT, qqF, qqN, qqM, qqL, qqE] at k3
     refine VC.sr ?_
     refine VO.val rfl rfl (OpV.fieldAddrO 1 rfl Tryz.underlying137 rfl rfl Tryz.sizeOf3 rfl) ?_
     refine VO.val rfl rfl (OpV.load_own (i := 0) rfl hB Tryz.isAgg3 rfl rfl rfl (fun h => h)) ?_
     refine VO.op rfl (OpE.call rfl hB rfl Tryz.call120 rfl (SpecN.spec (rf_in)) ?_)
     rintro _ rfl
     refine VO.val rfl rfl (OpV.not rfl rfl) ?_
     refine VO.ma rfl rfl rfl rfl ?_
     refine VO.nil ?_
     refine VC.cond rfl (fun k4b => ?_) (fun k4b => ?_)
     ·have k4 := k4b
      try simp only [qqT, qqF, qqN, qqM, qqL, qqE] at k4
      refine VC.sr ?_
      refine VO.ma rfl rfl rfl rfl ?_
      refine VO.nil ?_
      refine VC.ret ?_
      exact Exists.intro _ (And.intro (RetN.one Tryz.results59 (ResN.v rfl)) (by rw [paceF_at (by omega) (by omega) hn (paceE_1 k2 (paceE_k k2 k3) (out_t k4)) (by decide)]))
     ·have k4 := k4b
      try simp only [qqT, qqF, qqN, qqM, qqL, qqE] at k4
      refine VC.skip ?_
      refine VC.seq ?_
      refine VC.sr ?_
      refine VO.val rfl rfl (OpV.fieldAddrO 2 rfl Tryz.underlying137 rfl rfl Tryz.sizeOf77 rfl) ?_
      refine VO.val rfl rfl (OpV.load_own (i := 0) rfl hB Tryz.isAgg77 rfl rfl rfl (fun h => h)) ?_
      refine VO.op rfl (OpE.call rfl hB rfl Tryz.call74 rfl (SpecN.spec (rf_NeedsFault (by have := hs.nlen q; omega) (fun j => by have := hs.nkey q j; omega))) ?_)
      rintro _ rfl
      refine VO.ma rfl rfl rfl rfl ?_
      refine VO.nil ?_
      refine VC.sr ?_
      refine VO.mv rfl rfl rfl rfl ?_
      refine VO.val rfl rfl (OpV.neq rfl rfl rfl) ?_
      refine VO.nil ?_
      refine VC.cond rfl (fun k5b => ?_) (fun k5b => ?_)
      ·have k5 := k5b
       try simp only [qqT, qqF, qqN, qqM, qqL, qqE] at k5
       refine VC.sr ?_
       refine VO.mv rfl rfl rfl rfl ?_
       refine VO.ma rfl rfl rfl rfl ?_
       refine VO.nil ?_
       refine VC.ret ?_
       exact Exists.intro _ (And.intro (RetN.one Tryz.results59 (ResN.v rfl)) (by rw [paceF_at (by omega) (by omega) hn (paceE_n k2 (paceE_k k2 k3) (out_f k4)) k5]))
      ·have k5 := k5b
       try simp only [qqT, qqF, qqN, qqM, qqL, qqE] at k5
       refine VC.skip ?_
       refine VC.region ?_
       refine VO.val rfl rfl (OpV.fieldAddrO 0 rfl Tryz.underlying137 rfl rfl Tryz.sizeOf9 rfl) ?_
       refine VO.val rfl rfl (OpV.load_own (i := 0) rfl hB Tryz.isAgg9 rfl rfl rfl (fun h => h)) ?_
       refine VO.ma rfl rfl rfl rfl ?_
       refine VO.nil ?_
       refine VC.region ?_
       refine VO.val rfl rfl (OpV.add rfl rfl rfl (by unfold fits; omega)) ?_
       refine VO.mv rfl rfl rfl rfl ?_
       refine VO.nil ?_
       exact Exists.intro (⟨q + 1, by omega, lt_succ_cases hn ((by rw [paceE_n k2 (paceE_k k2 k3) (out_f k4)]; omega))⟩) (And.intro (Le.mk hB [] ⟨(by dsimp only; rw [lastK_succ]; rfl), rfl, rfl, rfl, trivial⟩ rfl rfl (Nat.le_refl _)) (by first | omega | (show _ < _; omega) | (simp only []; omega)))
  ·have aH2 := aH2b
   try simp only [qqT, qqF, qqN, qqM, qqL, qqE] at aH2
   refine VC.exit ?_
   refine VC.sr ?_
   refine VO.ma rfl rfl rfl rfl ?_
   refine VO.nil ?_
   refine VC.ret ?_
   exact Exists.intro _ (And.intro (RetN.one Tryz.results59 (ResN.v rfl)) (by rw [paceF_ok (by omega) (fun j hj => hn j (by omega))]))
set_option maxRecDepth 100000 in
theorem slices_IndexFunc_pace {xs : List PaceS} {F : FuncId} {cs : List AV} {p : PaceS → Bool} (hl : xs.length ≤ 1000000000) (hcall : ∀ us w, (callFunc F us).run Tryz.prog w = .ok (.enter F us) w) (hF : ∀ x, Spec Tryz.prog F ([avT x] ++ cs) (fun y => y = avB (p x))) :
  SpecN Tryz.prog 271 [avL xs, .fn F cs] (fun y => y = avI (fidx p xs)) := by
 refine SpecN.of_VCN Tryz.func271 rfl Tryz.ntmps271 (Nle rfl) fun w A hB => ?_
 have hnew : True := trivial
 refine VC.sr ?_
 refine VO.ma rfl rfl rfl rfl ?_
 refine VO.nil ?_
 refine VC.seq ?_
 refine VC.sr ?_
 refine VO.mv rfl rfl rfl rfl ?_
 refine VO.val rfl rfl (OpV.len_im rfl Tryz.underlying73 rfl) ?_
 refine VO.mv rfl rfl rfl rfl ?_
 refine VO.nil ?_
 refine VC.block ?_
 refine VC.loopK [(0, _), (1, _), (7, _)] ⟨rfl, rfl, rfl, trivial⟩ ({q : Nat // q ≤ xs.length ∧ ∀ j, j < q → p (xs.getD j default) = false}) (fun (iZ : {q : Nat // q ≤ xs.length ∧ ∀ j, j < q → p (xs.getD j default) = false}) => match iZ with | ⟨q, hq, hn⟩ => [(8, avI (q : Int))]) (fun (iZ : {q : Nat // q ≤ xs.length ∧ ∀ j, j < q → p (xs.getD j default) = false}) => match iZ with | ⟨q, hq, hn⟩ => []) (fun (iZ : {q : Nat // q ≤ xs.length ∧ ∀ j, j < q → p (xs.getD j default) = false}) => match iZ with | ⟨q, hq, hn⟩ => 0) (fun (iZ : {q : Nat // q ≤ xs.length ∧ ∀ j, j < q → p (xs.getD j default) = false}) => match iZ with | ⟨q, hq, hn⟩ => xs.length - q) ⟨0, Nat.zero_le _, fun j hj => absurd hj (Nat.not_lt_zero j)⟩ (Le.mk hB [] ⟨rfl, rfl, rfl, rfl, trivial⟩ rfl rfl (Nat.le_refl _)) ?_
 rintro ⟨q, hq, hn⟩
 show VC _ _ _ _ ⟨[(8, avI (q : Int))] ++ [(0, _), (1, _), (7, _)], [], 0⟩
 refine VC.sr ?_
 refine VO.val rfl rfl (OpV.lss rfl rfl rfl) ?_
 refine VO.nil ?_
 refine VC.seq ?_
 refine VC.cond rfl (fun aH1b => ?_) (fun aH1b => ?_)
 ·have aH1 := aH1b
  try simp only [qqT, qqF, qqN, qqM, qqL, qqE] at aH1
  refine VC.skip ?_
  refine VC.seq ?_
  refine VC.block ?_
  refine VC.sr ?_
  refine VO.mv rfl rfl rfl rfl ?_
  refine VO.ma rfl rfl rfl rfl ?_
  refine VO.nil ?_
  refine VC.sr ?_
  refine VO.mv rfl rfl rfl rfl ?_
  refine VO.mv rfl rfl rfl rfl ?_
  refine VO.mv rfl rfl rfl rfl ?_
  refine VO.val rfl rfl (OpV.indexAddr_E rfl Tryz.underlying73 Tryz.sizeOf137 rfl rfl rfl (by omega)) ?_
  refine VO.val rfl rfl (OpV.loadK_at rfl hB OutW.no Tryz.isAgg137 Tryz.sizeOf137 rfl rfl) ?_
  refine VO.op rfl (OpE.callF rfl hB rfl hcall rfl rfl (hF _) ?_)
  rintro _ rfl
  refine VO.nil ?_
  refine VC.cond rfl (fun aH2b => ?_) (fun aH2b => ?_)
  ·have aH2 := aH2b
   try simp only [qqT, qqF, qqN, qqM, qqL, qqE] at aH2
   refine VC.sr ?_
   refine VO.mv rfl rfl rfl rfl ?_
   refine VO.ma rfl rfl rfl rfl ?_
   refine VO.nil ?_
   refine VC.ret ?_
   exact Exists.intro _ (And.intro (RetN.one Tryz.results271 (ResN.v rfl)) (by first | (rw [fidx_found (d := default) (q := q) (by omega) hn (by assumption)]) | (rw [fidx_none (d := default) (fun j hj => hn j (by omega))])))
  ·have aH2 := aH2b
   try simp only [qqT, qqF, qqN, qqM, qqL, qqE] at aH2
   refine VC.skip ?_
   refine VC.region ?_
   refine VO.val rfl rfl (OpV.add rfl rfl rfl (by unfold fits; omega)) ?_
   refine VO.mv rfl rfl rfl rfl ?_
   refine VO.nil ?_
   exact Exists.intro (⟨q + 1, by omega, lt_succ_cases hn ((by assumption))⟩) (And.intro (Le.mk hB [] ⟨rfl, rfl, rfl, rfl, trivial⟩ rfl rfl (Nat.le_refl _)) (by first | omega | (show _ < _; omega) | (simp only []; omega)))
 ·have aH1 := aH1b
  try simp only [qqT, qqF, qqN, qqM, qqL, qqE] at aH1
  refine VC.exit ?_
  refine VC.sr ?_
  refine VO.ma rfl rfl rfl rfl ?_
  refine VO.nil ?_
  refine VC.ret ?_
  exact Exists.intro _ (And.intro (RetN.one Tryz.results271 (ResN.v rfl)) (by first | (rw [fidx_found (d := default) (q := q) (by omega) hn (by assumption)]) | (rw [fidx_none (d := default) (fun j hj => hn j (by omega))])))
set_option maxRecDepth 100000 in
theorem rf_PaceOf1 {x : PaceS} {k : ByteArray}  :
  SpecN Tryz.prog 272 [avT x, .at_ 1 (fun _ => avS k)] (fun y => y = avB (sEq x.product k)) := by
 refine SpecN.of_VCN Tryz.func272 rfl Tryz.ntmps272 (Nle rfl) fun w A hB => ?_
 have hnew : True := trivial
 refine VC.sr ?_
 refine VO.op rfl (OpE.box rfl hB rfl rfl rfl ?_)
 intro g2
 refine VO.ma rfl rfl rfl rfl ?_
 refine VO.nil ?_
 refine VC.sr ?_
 refine VO.val rfl rfl (OpV.fieldAddrO 0 rfl Tryz.underlying137 rfl rfl Tryz.sizeOf9 rfl) ?_
 refine VO.val rfl rfl (OpV.load_own (i := 0) rfl hB Tryz.isAgg9 rfl rfl rfl (fun h => h)) ?_
 refine VO.val rfl rfl (OpV.load_at rfl hB OutW.no Tryz.isAgg9 rfl rfl) ?_
 refine VO.val rfl rfl (OpV.seql rfl rfl rfl) ?_
 refine VO.ma rfl rfl rfl rfl ?_
 refine VO.nil ?_
 refine VC.ret ?_
 exact Exists.intro _ (And.intro (RetN.one Tryz.results272 (ResN.v rfl)) (rfl))
theorem find_fidx {α : Type} [Inhabited α] {p : α → Bool} : ∀ {l : List α}, 0 ≤ fidx p l → (l.find? p).getD default = l.getD (fidx p l).toNat default
 | [], h => by simp [fidx] at h
 | x :: r, h => by
  cases hp : p x with
  | true => simp [List.find?, fidx, hp]
  | false =>
   simp only [List.find?, hp, fidx] at h ⊢
   cases hf : fidx p r with
   | ofNat n =>
    have ih := find_fidx (p := p) (l := r) (by rw [hf]; exact Int.natCast_nonneg n)
    rw [hf] at ih
    rw [ih]
    simp
   | negSucc n => rw [hf] at h; simp at h
set_option maxRecDepth 100000 in
theorem rf_PaceOf {p : List PaceS} {k : ByteArray} (hl : p.length ≤ 1000000) :
  Spec Tryz.prog 159 [avL p, avS k] (fun y => y = .tup [avPc (paceO p k), avB (hasP p k)]) := by
 refine Spec.of_VC Tryz.func159 rfl Tryz.ntmps159 (Nle rfl) fun w A hB => ?_
 have hnew : True := trivial
 refine VC.sr ?_
 refine VO.op rfl (OpE.box rfl hB rfl rfl rfl ?_)
 intro g3
 refine VO.op rfl (OpE.alloc rfl hB rfl Tryz.zeroValue137 rfl ?_)
 intro g4
 refine VO.ma rfl rfl rfl rfl ?_
 refine VO.nil ?_
 refine VC.sr ?_
 refine VO.mv rfl rfl rfl rfl ?_
 refine VO.val rfl rfl (OpV.makeFunc1 rfl rfl) ?_
 refine VO.op rfl (OpE.callL rfl hB rfl Tryz.call271 (slices_IndexFunc_pace (p := fun x => sEq x.product k) (by omega) Tryz.call272 (fun x => rf_PaceOf1.spec)) (ArgsP.cons (ArgP.ev rfl) (ArgsP.cons (ArgP.fn1 (i := 0) (m := 1) (f := fun _ => avS k) rfl rfl (Nle rfl) (lt1 rfl)) (ArgsP.nil))) ?_)
 rintro _ rfl
 refine VO.ma rfl rfl rfl rfl ?_
 refine VO.nil ?_
 refine VC.seq ?_
 refine VC.sr ?_
 refine VO.mv rfl rfl rfl rfl ?_
 refine VO.val rfl rfl (OpV.lss rfl rfl rfl) ?_
 refine VO.nil ?_
 refine VC.cond rfl (fun h0b => ?_) (fun h0b => ?_)
 ·have h0 := h0b
  try simp only [qqT, qqF, qqN, qqM, qqL, qqE] at h0
  have hh : hasP p k = false := by unfold hasP; rw [← fidx_any]; exact decide_eq_false (by omega)
  have ho : paceO p k = default := by rw [paceO, find_none' hh]
  refine VC.sr ?_
  refine VO.val rfl rfl (OpV.build (pls := #[(0, 1), (1, 1), (2, 1)]) rfl Tryz.zeroValue137 Tryz.underlying137 (fun w => by kernel_rfl) rfl rfl) ?_
  refine VO.le _ (Le.recast (t := 12) (y := avPc default) rfl (fun w Z u h => nil_pace h)) ?_
  refine VO.op rfl (OpE.store (i := 1) rfl hB rfl Tryz.sizeOf137 rfl rfl rfl rfl rfl rfl (Nle rfl) trivial ?_)
  refine VO.ma rfl rfl rfl rfl ?_
  refine VO.nil ?_
  refine VC.ret ?_
  exact Exists.intro _ (And.intro (RetV.two Tryz.results159 ((by first | exact ResV.cellK (i := 0) Tryz.isAgg137 Tryz.sizeOf137 rfl rfl rfl | exact ResV.cellK (i := 1) Tryz.isAgg137 Tryz.sizeOf137 rfl rfl rfl)) (ResV.tmp rfl)) (by rw [hh, ho]; rfl))
 ·have h0 := h0b
  try simp only [qqT, qqF, qqN, qqM, qqL, qqE] at h0
  have hh : hasP p k = true := by unfold hasP; rw [← fidx_any]; exact decide_eq_true (by omega)
  have ho : paceO p k = p.getD (fidx (fun x => sEq x.product k) p).toNat default := find_fidx (by omega)
  have hb := (fidx_at (d := default) (p := fun x : PaceS => sEq x.product k) (xs := p) (by omega)).1
  refine VC.skip ?_
  refine VC.sr ?_
  refine VO.mv rfl rfl rfl rfl ?_
  refine VO.mv rfl rfl rfl rfl ?_
  refine VO.val rfl rfl (OpV.indexAddr_E rfl Tryz.underlying73 Tryz.sizeOf137 rfl rfl (Int.toNat_of_nonneg (by omega)).symm hb) ?_
  refine VO.val rfl rfl (OpV.loadK_at rfl hB OutW.no Tryz.isAgg137 Tryz.sizeOf137 rfl rfl) ?_
  refine VO.op rfl (OpE.store (i := 1) rfl hB rfl Tryz.sizeOf137 rfl rfl rfl rfl rfl rfl (Nle rfl) trivial ?_)
  refine VO.ma rfl rfl rfl rfl ?_
  refine VO.nil ?_
  refine VC.ret ?_
  exact Exists.intro _ (And.intro (RetV.two Tryz.results159 ((by first | exact ResV.cellK (i := 0) Tryz.isAgg137 Tryz.sizeOf137 rfl rfl rfl | exact ResV.cellK (i := 1) Tryz.isAgg137 Tryz.sizeOf137 rfl rfl rfl)) (ResV.tmp rfl)) (by rw [hh, ho]; rfl))
set_option maxRecDepth 100000 in
set_option maxHeartbeats 4000000 in
theorem rf_BothFault {p : List PaceS} {o : List OrdrS} (hp : SmPc p) (ho : SmOr o) :
  SpecN Tryz.prog 50 [avL p, avL o] (fun y => y = avI (bothF p o)) := by
 refine SpecN.of_VCN Tryz.func50 rfl Tryz.ntmps50 (Nle rfl) fun w A hB => ?_
 have hnew : True := trivial
 refine VC.seq ?_
 have hl := hp.len
 have hl2 := ho.len
 refine VC.region ?_
 refine VO.ma rfl rfl rfl rfl ?_
 refine VO.nil ?_
 refine VC.seq ?_
 refine VC.sr ?_
 refine VO.mv rfl rfl rfl rfl ?_
 refine VO.op rfl (OpE.call rfl hB rfl Tryz.call59 rfl (SpecN.spec (rf_PacesFault hp)) ?_)
 rintro _ rfl
 refine VO.ma rfl rfl rfl rfl ?_
 refine VO.nil ?_
 refine VC.sr ?_
 refine VO.mv rfl rfl rfl rfl ?_
 refine VO.val rfl rfl (OpV.neq rfl rfl rfl) ?_
 refine VO.nil ?_
 refine VC.cond rfl (fun h0b => ?_) (fun h0b => ?_)
 ·have h0 := h0b
  try simp only [qqT, qqF, qqN, qqM, qqL, qqE] at h0
  refine VC.sr ?_
  refine VO.mv rfl rfl rfl rfl ?_
  refine VO.ma rfl rfl rfl rfl ?_
  refine VO.nil ?_
  refine VC.ret ?_
  exact Exists.intro _ (And.intro (RetN.one Tryz.results50 (ResN.v rfl)) (by rw [bothF_1 h0]))
 ·have h0 := h0b
  try simp only [qqT, qqF, qqN, qqM, qqL, qqE] at h0
  refine VC.skip ?_
  refine VC.seq ?_
  refine VC.sr ?_
  refine VO.mv rfl rfl rfl rfl ?_
  refine VO.op rfl (OpE.call rfl hB rfl Tryz.call57 rfl (SpecN.spec (rf_OrdersFault ho)) ?_)
  rintro _ rfl
  refine VO.ma rfl rfl rfl rfl ?_
  refine VO.nil ?_
  refine VC.sr ?_
  refine VO.mv rfl rfl rfl rfl ?_
  refine VO.val rfl rfl (OpV.neq rfl rfl rfl) ?_
  refine VO.nil ?_
  refine VC.cond rfl (fun h1b => ?_) (fun h1b => ?_)
  ·have h1 := h1b
   try simp only [qqT, qqF, qqN, qqM, qqL, qqE] at h1
   refine VC.sr ?_
   refine VO.mv rfl rfl rfl rfl ?_
   refine VO.ma rfl rfl rfl rfl ?_
   refine VO.nil ?_
   refine VC.ret ?_
   exact Exists.intro _ (And.intro (RetN.one Tryz.results50 (ResN.v rfl)) (by rw [bothF_2 (by omega) h1]))
  ·have h1 := h1b
   try simp only [qqT, qqF, qqN, qqM, qqL, qqE] at h1
   refine VC.skip ?_
   refine VC.seq ?_
   refine VC.sr ?_
   refine VO.mv rfl rfl rfl rfl ?_
   refine VO.val rfl rfl (OpV.len_im rfl Tryz.underlying75 rfl) ?_
   refine VO.mv rfl rfl rfl rfl ?_
   refine VO.nil ?_
   refine VC.block ?_
   refine VC.loopK [(0, _), (21, _), (22, _)] ⟨rfl, rfl, rfl, trivial⟩ ({q : Nat // q ≤ o.length ∧ ∀ j, j < q → hasP p (o.getD j default).product = true}) (fun (iZ : {q : Nat // q ≤ o.length ∧ ∀ j, j < q → hasP p (o.getD j default).product = true}) => match iZ with | ⟨q, hq, hn⟩ => [(23, avI (q : Int))]) (fun (iZ : {q : Nat // q ≤ o.length ∧ ∀ j, j < q → hasP p (o.getD j default).product = true}) => match iZ with | ⟨q, hq, hn⟩ => []) (fun (iZ : {q : Nat // q ≤ o.length ∧ ∀ j, j < q → hasP p (o.getD j default).product = true}) => match iZ with | ⟨q, hq, hn⟩ => 0) (fun (iZ : {q : Nat // q ≤ o.length ∧ ∀ j, j < q → hasP p (o.getD j default).product = true}) => match iZ with | ⟨q, hq, hn⟩ => o.length - q) ⟨0, Nat.zero_le _, fun j hj => absurd hj (Nat.not_lt_zero j)⟩ (Le.mk hB [] ⟨rfl, rfl, rfl, rfl, trivial⟩ rfl rfl (Nat.le_refl _)) ?_
   rintro ⟨q, hq, hn⟩
   show VC _ _ _ _ ⟨[(23, avI (q : Int))] ++ [(0, _), (21, _), (22, _)], [], 0⟩
   refine VC.sr ?_
   refine VO.val rfl rfl (OpV.lss rfl rfl rfl) ?_
   refine VO.nil ?_
   refine VC.seq ?_
   refine VC.cond rfl (fun aH1b => ?_) (fun aH1b => ?_)
   ·have aH1 := aH1b
    try simp only [qqT, qqF, qqN, qqM, qqL, qqE] at aH1
    refine VC.skip ?_
    refine VC.seq ?_
    refine VC.block ?_
    refine VC.sr ?_
    refine VO.val rfl rfl (OpV.indexAddr_E rfl Tryz.underlying75 Tryz.sizeOf89 rfl rfl rfl (by omega)) ?_
    refine VO.val rfl rfl (OpV.loadK_at rfl hB OutW.no Tryz.isAgg89 Tryz.sizeOf89 rfl rfl) ?_
    refine VO.op rfl (OpE.alloc rfl hB rfl Tryz.zeroValue89 rfl ?_)
    intro g8
    refine VO.op rfl (OpE.store (i := 0) rfl hB rfl Tryz.sizeOf89 rfl rfl rfl rfl rfl rfl (Nle rfl) trivial ?_)
    refine VO.nil ?_
    refine VC.sr ?_
    refine VO.mv rfl rfl rfl rfl ?_
    refine VO.val rfl rfl (OpV.fieldAddrO 1 rfl Tryz.underlying89 rfl rfl Tryz.sizeOf9 rfl) ?_
    refine VO.val rfl rfl (OpV.load_own (i := 0) rfl hB Tryz.isAgg9 rfl rfl rfl (fun h => h)) ?_
    refine VO.op rfl (OpE.call rfl hB rfl Tryz.call159 rfl (rf_PaceOf (k := (o.getD q default).product) (by omega)) ?_)
    rintro _ rfl
    refine VO.mv rfl rfl rfl rfl ?_
    refine VO.val rfl rfl (OpV.extract rfl rfl rfl) ?_
    refine VO.val rfl rfl (OpV.extract rfl rfl rfl) ?_
    refine VO.op rfl (OpE.alloc rfl hB rfl Tryz.zeroValue137 rfl ?_)
    intro g9
    refine VO.op rfl (OpE.store (i := 1) rfl hB rfl Tryz.sizeOf137 rfl rfl rfl rfl rfl rfl (Nle rfl) trivial ?_)
    refine VO.ma rfl rfl rfl rfl ?_
    refine VO.nil ?_
    refine VC.sr ?_
    refine VO.mv rfl rfl rfl rfl ?_
    refine VO.val rfl rfl (OpV.not rfl rfl) ?_
    refine VO.nil ?_
    refine VC.cond rfl (fun h3b => ?_) (fun h3b => ?_)
    ·have h3 := h3b
     try simp only [qqT, qqF, qqN, qqM, qqL, qqE] at h3
     refine VC.sr ?_
     refine VO.ma rfl rfl rfl rfl ?_
     refine VO.nil ?_
     refine VC.ret ?_
     exact Exists.intro _ (And.intro (RetN.one Tryz.results50 (ResN.v rfl)) (by rw [bothF_3 (by omega) (by omega), if_neg (by rw [all_no (d := default) (q := q) (by omega) h3]; simp)]))
    ·have h3 := h3b
     try simp only [qqT, qqF, qqN, qqM, qqL, qqE] at h3
     refine VC.skip ?_
     refine VC.region ?_
     refine VO.val rfl rfl (OpV.add rfl rfl rfl (by unfold fits; omega)) ?_
     refine VO.mv rfl rfl rfl rfl ?_
     refine VO.nil ?_
     exact Exists.intro (⟨q + 1, by omega, lt_succ_cases hn (h3)⟩) (And.intro (Le.mk hB [] ⟨rfl, rfl, rfl, rfl, trivial⟩ rfl rfl (Nat.le_refl _)) (by first | omega | (show _ < _; omega) | (simp only []; omega)))
   ·have aH1 := aH1b
    try simp only [qqT, qqF, qqN, qqM, qqL, qqE] at aH1
    refine VC.exit ?_
    refine VC.sr ?_
    refine VO.ma rfl rfl rfl rfl ?_
    refine VO.nil ?_
    refine VC.ret ?_
    exact Exists.intro _ (And.intro (RetN.one Tryz.results50 (ResN.v rfl)) (by rw [bothF_3 (by omega) (by omega), if_pos (all_yes (d := default) (fun j hj => hn j (by omega)))]))

end Go.Proofs.YtaaokimiadfidaaGreatDoor
namespace Go.Proofs.YtaaokimiadfidaaGreatDoor
open Go.RowKit
set_option linter.unusedVariables false
set_option linter.unusedSimpArgs false

theorem tab_L {α : Type} [Inhabited α] [Sxc α] (xs : List α) : tab (xs.length * Sxc.k α) (fun q => Sxc.cell (xs.getD (q / Sxc.k α) default) (q % Sxc.k α)) = rowL xs := by
 have hp := Sxc.pos (α := α)
 apply List.ext_getElem?
 intro i
 by_cases hi : i < xs.length * Sxc.k α
 ·have hd : i / Sxc.k α < xs.length := (Nat.div_lt_iff_lt_mul hp).2 hi
  have := rowL_get xs (i / Sxc.k α) (i % Sxc.k α) hd (Nat.mod_lt _ hp)
  rw [Nat.div_add_mod' i (Sxc.k α)] at this
  rw [this, List.getElem?_eq_getElem (by rw [tab_len]; exact hi), tab_get]
 ·rw [List.getElem?_eq_none (by rw [tab_len]; omega), List.getElem?_eq_none (by rw [rowL_len]; omega)]
end Go.Proofs.YtaaokimiadfidaaGreatDoor
namespace Go.Proofs.YtaaokimiadfidaaGreatDoor
open Go.RowKit
set_option linter.unusedVariables false
set_option linter.unusedSimpArgs false

abbrev pt (g : Nat) : AV := .v (.pointer (some ⟨g, 0, none⟩))
theorem filt_all {α : Type} {p : α → Bool} {d : α} {xs : List α} (h : fidx p xs = -1) : xs.filter (fun x => !p x) = xs := by
 apply List.filter_eq_self.2
 intro x hx
 have := fidx_any p xs
 rw [h] at this
 have h2 : xs.any p = false := this.symm.trans (by decide)
 rw [List.any_eq_false] at h2
 simpa using h2 x hx
theorem take_succ_getD {α : Type} {xs : List α} {q : Nat} {d : α} (h : q < xs.length) : xs.take (q + 1) = xs.take q ++ [xs.getD q d] := by
 rw [List.take_succ_eq_append_getElem h]
 simp [h]
theorem filt_start {α : Type} {p : α → Bool} {d : α} {xs : List α} (h : 0 ≤ fidx p xs) : (xs.take ((fidx p xs).toNat + 1)).filter (fun x => !p x) = xs.take (fidx p xs).toNat := by
 obtain ⟨h1, h2, h3⟩ := fidx_at (d := d) h
 rw [take_succ_getD (d := d) h1, List.filter_append, List.filter_cons, h2]
 simp only [Bool.not_true, Bool.false_eq_true, if_false, List.filter_nil, List.append_nil]
 apply List.filter_eq_self.2
 intro x hx
 obtain ⟨j, hj, rfl⟩ := List.mem_iff_getElem.1 hx
 have hj' : j < (fidx p xs).toNat ∧ j < xs.length := by simp at hj; omega
 have := h3 j hj'.1
 rw [List.getD_eq_getElem?_getD, List.getElem?_eq_getElem hj'.2] at this
 simpa using this
theorem filt_yes {α : Type} {p : α → Bool} {d : α} {xs : List α} {q : Nat} (hq : q < xs.length) (h : p (xs.getD q d) = false) : (xs.take (q + 1)).filter (fun x => !p x) = (xs.take q).filter (fun x => !p x) ++ [xs.getD q d] := by
 rw [take_succ_getD (d := d) hq, List.filter_append, List.filter_cons, h]
 rfl
theorem filt_no {α : Type} {p : α → Bool} {d : α} {xs : List α} {q : Nat} (hq : q < xs.length) (h : p (xs.getD q d) = true) : (xs.take (q + 1)).filter (fun x => !p x) = (xs.take q).filter (fun x => !p x) := by
 rw [take_succ_getD (d := d) hq, List.filter_append, List.filter_cons, h]
 simp
theorem take_set_snoc {α : Type} {b : List α} {i : Nat} {x : α} (h : i < b.length) : (b.set i x).take (i + 1) = b.take i ++ [x] := by
 rw [List.take_succ_eq_append_getElem (by rw [List.length_set]; exact h), List.take_set_of_le (Nat.le_refl _)]
 simp
theorem getD_set_ne {α : Type} {b : List α} {i k : Nat} {x d : α} (h : i ≠ k) : (b.set i x).getD k d = b.getD k d := by
 simp only [List.getD_eq_getElem?_getD, List.getElem?_set, if_neg h]
end Go.Proofs.YtaaokimiadfidaaGreatDoor
namespace Go.Proofs.YtaaokimiadfidaaGreatDoor
open Go.RowKit
set_option linter.unusedVariables false
set_option linter.unusedSimpArgs false
def dueC (o : List OrdrS) (x y : Int) : Int := cmpI (o.getD x.toNat default).due (o.getD y.toNat default).due
def dueL (o : List OrdrS) : List Int := insT (dueC o) (idO o.length) ((idO o.length).length - 1)
theorem dueL_perm (o : List OrdrS) : (dueL o).Perm (idO o.length) := insT_perm _ _ _ (by omega)
theorem dueL_len (o : List OrdrS) : (dueL o).length = o.length := by rw [(dueL_perm o).length_eq, idO_len]
theorem idO_mem {n : Nat} {x : Int} (h : x ∈ idO n) : 0 ≤ x ∧ x.toNat < n := by
 have := (idO_ord n).lt x h
 omega
def mixI (q n : Nat) : List Int := idO q ++ List.replicate (n - q) 0
theorem mixI_len {q n : Nat} (h : q ≤ n) : (mixI q n).length = n := by simp [mixI, idO_len]; omega
theorem mixI_all (n : Nat) : mixI n n = idO n := by simp [mixI]
theorem mixI_set {q n : Nat} (h : q < n) : (mixI q n).set q (q : Int) = mixI (q + 1) n := by
 unfold mixI
 rw [List.set_append_right _ _ (by rw [idO_len]; exact Nat.le_refl _), idO_len, Nat.sub_self, show n - q = (n - (q + 1)) + 1 by omega, List.replicate_succ, List.set_cons_zero, idO_succ, List.append_assoc]
 rfl
theorem Le.boxRow1 {B : Bs} {s : St'} {i g n : Nat} {cs : List AV} {ty : TypeId} (hi : s.hp[i]? = some (.box g ⟨cs, ty, n⟩)) (hl : cs.length = n) (hm : n ≤ maxLen) :
  Le B s ⟨s.sl, s.hp.set i (.row (.slice (some ⟨g, 0, none⟩) n n) n 1 cs ty), s.k⟩ := Le.boxRow (cap := n) (sz := 1) (by rw [Nat.mul_one]; exact hi) (by rw [Nat.mul_one]; exact hl) (Nat.le_refl _) hm
theorem cmpI_sub (a b : Int) : cmpI (a - b) 0 = cmpI a b := by
 unfold cmpI
 by_cases h1 : a < b
 ·rw [if_pos (by omega), if_pos h1]
 ·rw [if_neg (by omega), if_neg h1]
  by_cases h2 : b < a
  ·rw [if_pos (by omega), if_pos h2]
  ·rw [if_neg (by omega), if_neg h2]
set_option maxRecDepth 100000 in
theorem plan_byDue1 {o : List OrdrS} {i j : Int} (hl : o.length ≤ 1000000) (hx : 0 ≤ i ∧ i.toNat < o.length) (hy : 0 ≤ j ∧ j.toNat < o.length) :
  Spec Tryz.prog 269 [avI i, avI j, .at_ 1 (fun _ => avL o)] (fun y => y = avI (dueC o i j)) := by
 refine Spec.of_VC Tryz.func269 rfl Tryz.ntmps269 (Nle rfl) fun w A hB => ?_
 have hnew : True := trivial
 refine VC.sr ?_
 refine VO.ma rfl rfl rfl rfl ?_
 refine VO.nil ?_
 refine VC.seq ?_
 refine VC.draw (fun _ => NoB) hB (by kernel_rfl) ?_
 refine VA.take (i := 0) rfl (by kernel_rfl) (by kernel_rfl) (by kernel_rfl) rfl rfl (OpV.load_at rfl hB OutW.wi0 Tryz.isAgg75 rfl rfl) ?_
 refine VA.take (i := 1) rfl (by kernel_rfl) (by kernel_rfl) (by kernel_rfl) rfl rfl (OpV.move (.inl rfl) rfl) ?_
 refine VA.take (i := 2) rfl (by kernel_rfl) (by kernel_rfl) (by kernel_rfl) rfl rfl (OpV.indexAddr_E rfl Tryz.underlying75 Tryz.sizeOf89 rfl rfl (Int.toNat_of_nonneg hx.1).symm (by omega)) ?_
 refine VA.take (i := 3) rfl (by kernel_rfl) (by kernel_rfl) (by kernel_rfl) rfl rfl (OpV.fieldAddr_atO 4 rfl Tryz.underlying89 rfl rfl Tryz.sizeOf3 rfl rfl) ?_
 refine VA.take (i := 4) rfl (by kernel_rfl) (by kernel_rfl) (by kernel_rfl) rfl rfl (OpV.load_at rfl hB OutW.wi0 Tryz.isAgg3 rfl rfl) ?_
 refine VA.take (i := 5) rfl (by kernel_rfl) (by kernel_rfl) (by kernel_rfl) rfl rfl (OpV.load_at rfl hB OutW.wi0 Tryz.isAgg75 rfl rfl) ?_
 refine VA.take (i := 6) rfl (by kernel_rfl) (by kernel_rfl) (by kernel_rfl) rfl rfl (OpV.move (.inl rfl) rfl) ?_
 refine VA.take (i := 7) rfl (by kernel_rfl) (by kernel_rfl) (by kernel_rfl) rfl rfl (OpV.indexAddr_E rfl Tryz.underlying75 Tryz.sizeOf89 rfl rfl (Int.toNat_of_nonneg hy.1).symm (by omega)) ?_
 refine VA.take (i := 8) rfl (by kernel_rfl) (by kernel_rfl) (by kernel_rfl) rfl rfl (OpV.fieldAddr_atO 4 rfl Tryz.underlying89 rfl rfl Tryz.sizeOf3 rfl rfl) ?_
 refine VA.take (i := 9) rfl (by kernel_rfl) (by kernel_rfl) (by kernel_rfl) rfl rfl (OpV.load_at rfl hB OutW.wi0 Tryz.isAgg3 rfl rfl) ?_
 refine VA.all (rs := [10]) (by kernel_rfl) (by decide) ?_
 refine ⟨⟨_, rfl, .inl rfl, ?_⟩, trivial⟩
 refine OpE.call rfl hB rfl Tryz.call177 rfl (SpecN.spec (cmp_Compare_int)) ?_
 rintro _ rfl
 refine VA.take (i := 11) rfl (by kernel_rfl) (by kernel_rfl) (by kernel_rfl) rfl rfl (OpV.move (.inr rfl) rfl) ?_
 refine VA.done (by kernel_rfl) ?_
 refine VC.ret ?_
 exact Exists.intro _ (And.intro (RetV.one Tryz.results269 (ResV.tmp rfl)) (rfl))
set_option maxRecDepth 100000 in
theorem plan_byDue {o : List OrdrS} (hl : o.length < 20) :
  Spec Tryz.prog 156 [avL o] (fun y => y = avInts (dueL o)) := by
 refine Spec.of_VC Tryz.func156 rfl Tryz.ntmps156 (Nle rfl) fun w A hB => ?_
 have hnew : True := trivial
 refine VC.sr ?_
 refine VO.op rfl (OpE.box rfl hB rfl rfl rfl ?_)
 intro g1
 refine VO.ma rfl rfl rfl rfl ?_
 refine VO.nil ?_
 refine VC.seq ?_
 refine VC.le _ (Le.freezeAt (t := 1) (m := 1) (f := fun _ => avL o) (i := 0) rfl rfl (Nat.le_refl _) (fun w Z u h => h.at_congr (g := fun _ => avL o) (fun j hj => by rcases j with _ | j <;> first | rfl | omega)) hnew hB) ?_
 refine VC.region ?_
 refine VO.ma rfl rfl rfl rfl ?_
 refine VO.nil ?_
 refine VC.seq ?_
 refine VC.sr ?_
 refine VO.val rfl rfl (OpV.load_at rfl hB OutW.no Tryz.isAgg75 rfl rfl) ?_
 refine VO.val rfl rfl (OpV.len_im rfl Tryz.underlying75 rfl) ?_
 refine VO.mv rfl rfl rfl rfl ?_
 refine VO.nil ?_
 refine VC.block ?_
 refine VC.le _ (Le.nilRow 1 3) ?_
 refine VC.loopK [] trivial ({t : Value × Nat // t.2 ≤ o.length}) (fun (iZ : {t : Value × Nat // t.2 ≤ o.length}) => match iZ with | ⟨⟨u, q⟩, hq⟩ => [(1, .at_ 1 (fun _ => avL o)), (3, .v u), (6, avI o.length), (7, avI (q : Int))]) (fun (iZ : {t : Value × Nat // t.2 ≤ o.length}) => match iZ with | ⟨⟨u, q⟩, hq⟩ => [.row u (idO q).length 1 (intsL (idO q)) 3]) (fun (iZ : {t : Value × Nat // t.2 ≤ o.length}) => match iZ with | ⟨⟨u, q⟩, hq⟩ => 0) (fun (iZ : {t : Value × Nat // t.2 ≤ o.length}) => match iZ with | ⟨⟨u, q⟩, hq⟩ => o.length - q) ⟨(.slice none 0 0, 0), Nat.zero_le _⟩ (Le.mk hB [0] ⟨rfl, rfl, rfl, rfl, trivial⟩ rfl rfl (Nat.le_refl _)) ?_
 rintro ⟨⟨u, q⟩, hq⟩
 show VC _ _ _ _ ⟨[(1, .at_ 1 (fun _ => avL o)), (3, .v u), (6, avI o.length), (7, avI (q : Int))] ++ [], [.row u (idO q).length 1 (intsL (idO q)) 3], 0⟩
 simp only at hq
 refine VC.sr ?_
 refine VO.val rfl rfl (OpV.lss rfl rfl rfl) ?_
 refine VO.nil ?_
 refine VC.seq ?_
 refine VC.cond rfl (fun aH1b => ?_) (fun aH1b => ?_)
 ·have aH1 := aH1b
  try simp only [qqT, qqF, qqN, qqM, qqL, qqE] at aH1
  refine VC.skip ?_
  refine VC.seq ?_
  refine VC.block ?_
  refine VC.sr ?_
  refine VO.mv rfl rfl rfl rfl ?_
  refine VO.ma rfl rfl rfl rfl ?_
  refine VO.nil ?_
  refine VC.region ?_
  refine VO.mv rfl rfl rfl rfl ?_
  refine VO.mv rfl rfl rfl rfl ?_
  refine VO.op rfl (OpE.buildSlice (zc := #[.int .i64 0]) rfl hB rfl Tryz.underlying22 Tryz.sizeOf3 Tryz.zeroValue3 (by decide) (by decide) (by kernel_rfl) rfl rfl ?_)
  refine VO.op rfl (OpE.append1 (i := 0) rfl hB rfl Tryz.underlying22 (infoOf Tryz.t3 1 (by kernel_rfl) rfl rfl) rfl (by decide) (by decide) rfl rfl rfl rfl ((intsL_snoc _ _).trans (congrArg intsL (idO_succ q).symm)) (by rw [idO_len]; omega) (fun _ _ => trivial) ?_)
  intro u2
  refine VO.ma rfl rfl rfl rfl ?_
  refine VO.nil ?_
  refine VC.region ?_
  refine VO.val rfl rfl (OpV.add rfl rfl rfl (by unfold fits; omega)) ?_
  refine VO.mv rfl rfl rfl rfl ?_
  refine VO.nil ?_
  exact Exists.intro (⟨(u2, q + 1), by show q + 1 ≤ o.length; omega⟩) (And.intro (Le.mk hB [0] ⟨rfl, rfl, rfl, rfl, trivial⟩ rfl (by dsimp only; simp only [idO_len]; rfl) (Nat.le_refl _)) (by first | omega | (show _ < _; omega) | (simp only []; omega)))
 ·have aH1 := aH1b
  try simp only [qqT, qqF, qqN, qqM, qqL, qqE] at aH1
  refine VC.exit ?_
  refine VC.seq ?_
  obtain rfl : q = o.length := by omega
  refine VC.region ?_
  refine VO.mv rfl rfl rfl rfl ?_
  refine VO.val rfl rfl (OpV.makeFuncF1 rfl rfl) ?_
  refine VO.op rfl (OpE.callH0 rfl hB rfl Tryz.call183 rfl rfl (sortStable_int (c := dueC o) (by rw [idO_len]; omega) Tryz.call269 (fun x y hx hy => plan_byDue1 (by omega) (idO_mem hx) (idO_mem hy))) (List.Perm.refl _) (fun _ _ => trivial) ?_)
  rintro _ _ ⟨rfl, rfl⟩
  refine VO.nil ?_
  refine VC.sr ?_
  refine VO.mv rfl rfl rfl rfl ?_
  refine VO.ma rfl rfl rfl rfl ?_
  refine VO.nil ?_
  refine VC.le _ (Le.rowI (xs := dueL o) (t := 2) (i := 0) hB hnew rfl rfl (by rw [dueL_len, idO_len])) ?_
  refine VC.ret ?_
  exact Exists.intro _ (And.intro (RetV.one Tryz.results156 (ResV.tmp rfl)) (rfl))
set_option maxRecDepth 100000 in
theorem rf_sign {n : Int}  :
  SpecN Tryz.prog 185 [avI n] (fun y => y = avI (cmpI n 0)) := by
 refine SpecN.of_VCN Tryz.func185 rfl Tryz.ntmps185 (Nle rfl) fun w A hB => ?_
 have hnew : True := trivial
 refine VC.sr ?_
 refine VO.ma rfl rfl rfl rfl ?_
 refine VO.nil ?_
 refine VC.seq ?_
 refine VC.block ?_
 refine VC.sr ?_
 refine VO.mv rfl rfl rfl rfl ?_
 refine VO.val rfl rfl (OpV.lss rfl rfl rfl) ?_
 refine VO.ma rfl rfl rfl rfl ?_
 refine VO.nil ?_
 refine VC.cond rfl (fun aH1b => ?_) (fun aH1b => ?_)
 ·have aH1 := aH1b
  try simp only [qqT, qqF, qqN, qqM, qqL, qqE] at aH1
  refine VC.sr ?_
  refine VO.ma rfl rfl rfl rfl ?_
  refine VO.nil ?_
  refine VC.ret ?_
  exact Exists.intro _ (And.intro (RetN.one Tryz.results185 (ResN.v rfl)) (by unfold cmpI; first | rw [if_pos (by omega)] | rw [if_neg (by omega), if_pos (by omega)] | rw [if_neg (by omega), if_neg (by omega)]))
 ·have aH1 := aH1b
  try simp only [qqT, qqF, qqN, qqM, qqL, qqE] at aH1
  refine VC.sr ?_
  refine VO.mv rfl rfl rfl rfl ?_
  refine VO.val rfl rfl (OpV.gtr rfl rfl rfl) ?_
  refine VO.ma rfl rfl rfl rfl ?_
  refine VO.nil ?_
  refine VC.cond rfl (fun aH2b => ?_) (fun aH2b => ?_)
  ·have aH2 := aH2b
   try simp only [qqT, qqF, qqN, qqM, qqL, qqE] at aH2
   refine VC.sr ?_
   refine VO.ma rfl rfl rfl rfl ?_
   refine VO.nil ?_
   refine VC.ret ?_
   exact Exists.intro _ (And.intro (RetN.one Tryz.results185 (ResN.v rfl)) (by unfold cmpI; first | rw [if_pos (by omega)] | rw [if_neg (by omega), if_pos (by omega)] | rw [if_neg (by omega), if_neg (by omega)]))
  ·have aH2 := aH2b
   try simp only [qqT, qqF, qqN, qqM, qqL, qqE] at aH2
   refine VC.skip ?_
   refine VC.sr ?_
   refine VO.ma rfl rfl rfl rfl ?_
   refine VO.nil ?_
   refine VC.ret ?_
   exact Exists.intro _ (And.intro (RetN.one Tryz.results185 (ResN.v rfl)) (by unfold cmpI; first | rw [if_pos (by omega)] | rw [if_neg (by omega), if_pos (by omega)] | rw [if_neg (by omega), if_neg (by omega)]))
set_option maxRecDepth 100000 in
theorem rf_byDue1 {o : List OrdrS} {i j : Int} (hl : o.length ≤ 1000000) (hd : ∀ i, i < o.length → 0 ≤ (o.getD i default).due ∧ (o.getD i default).due ≤ 345686399999) (hx : 0 ≤ i ∧ i.toNat < o.length) (hy : 0 ≤ j ∧ j.toNat < o.length) :
  Spec Tryz.prog 274 [avI i, avI j, .at_ 1 (fun _ => avL o)] (fun y => y = avI (dueC o i j)) := by
 have hd1 := hd _ hx.2
 have hd2 := hd _ hy.2
 refine Spec.of_VC Tryz.func274 rfl Tryz.ntmps274 (Nle rfl) fun w A hB => ?_
 have hnew : True := trivial
 refine VC.sr ?_
 refine VO.ma rfl rfl rfl rfl ?_
 refine VO.nil ?_
 refine VC.seq ?_
 refine VC.draw (fun _ => NoB) hB (by kernel_rfl) ?_
 refine VA.take (i := 0) rfl (by kernel_rfl) (by kernel_rfl) (by kernel_rfl) rfl rfl (OpV.load_at rfl hB OutW.wi0 Tryz.isAgg75 rfl rfl) ?_
 refine VA.take (i := 1) rfl (by kernel_rfl) (by kernel_rfl) (by kernel_rfl) rfl rfl (OpV.move (.inl rfl) rfl) ?_
 refine VA.take (i := 2) rfl (by kernel_rfl) (by kernel_rfl) (by kernel_rfl) rfl rfl (OpV.indexAddr_E rfl Tryz.underlying75 Tryz.sizeOf89 rfl rfl (Int.toNat_of_nonneg hx.1).symm (by omega)) ?_
 refine VA.take (i := 3) rfl (by kernel_rfl) (by kernel_rfl) (by kernel_rfl) rfl rfl (OpV.fieldAddr_atO 4 rfl Tryz.underlying89 rfl rfl Tryz.sizeOf3 rfl rfl) ?_
 refine VA.take (i := 4) rfl (by kernel_rfl) (by kernel_rfl) (by kernel_rfl) rfl rfl (OpV.load_at rfl hB OutW.wi0 Tryz.isAgg3 rfl rfl) ?_
 refine VA.take (i := 5) rfl (by kernel_rfl) (by kernel_rfl) (by kernel_rfl) rfl rfl (OpV.load_at rfl hB OutW.wi0 Tryz.isAgg75 rfl rfl) ?_
 refine VA.take (i := 6) rfl (by kernel_rfl) (by kernel_rfl) (by kernel_rfl) rfl rfl (OpV.move (.inl rfl) rfl) ?_
 refine VA.take (i := 7) rfl (by kernel_rfl) (by kernel_rfl) (by kernel_rfl) rfl rfl (OpV.indexAddr_E rfl Tryz.underlying75 Tryz.sizeOf89 rfl rfl (Int.toNat_of_nonneg hy.1).symm (by omega)) ?_
 refine VA.take (i := 8) rfl (by kernel_rfl) (by kernel_rfl) (by kernel_rfl) rfl rfl (OpV.fieldAddr_atO 4 rfl Tryz.underlying89 rfl rfl Tryz.sizeOf3 rfl rfl) ?_
 refine VA.take (i := 9) rfl (by kernel_rfl) (by kernel_rfl) (by kernel_rfl) rfl rfl (OpV.load_at rfl hB OutW.wi0 Tryz.isAgg3 rfl rfl) ?_
 refine VA.take (i := 10) rfl (by kernel_rfl) (by kernel_rfl) (by kernel_rfl) rfl rfl (OpV.sub rfl rfl rfl (by unfold fits; omega)) ?_
 refine VA.all (rs := [11]) (by kernel_rfl) (by decide) ?_
 refine ⟨⟨_, rfl, .inl rfl, ?_⟩, trivial⟩
 refine OpE.call rfl hB rfl Tryz.call185 rfl (SpecN.spec (rf_sign)) ?_
 rintro _ rfl
 refine VA.take (i := 12) rfl (by kernel_rfl) (by kernel_rfl) (by kernel_rfl) rfl rfl (OpV.move (.inr rfl) rfl) ?_
 refine VA.done (by kernel_rfl) ?_
 refine VC.ret ?_
 exact Exists.intro _ (And.intro (RetV.one Tryz.results274 (ResV.tmp rfl)) (by rw [cmpI_sub]; rfl))
set_option maxRecDepth 100000 in
theorem rf_byDue {o : List OrdrS} (hl : o.length < 20) (hd : ∀ i, i < o.length → 0 ≤ (o.getD i default).due ∧ (o.getD i default).due ≤ 345686399999) :
  Spec Tryz.prog 166 [avL o] (fun y => y = avInts (dueL o)) := by
 refine Spec.of_VC Tryz.func166 rfl Tryz.ntmps166 (Nle rfl) fun w A hB => ?_
 have hnew : True := trivial
 refine VC.sr ?_
 refine VO.op rfl (OpE.box rfl hB rfl rfl rfl ?_)
 intro g1
 refine VO.ma rfl rfl rfl rfl ?_
 refine VO.nil ?_
 refine VC.seq ?_
 refine VC.le _ (Le.freezeAt (t := 1) (m := 1) (f := fun _ => avL o) (i := 0) rfl rfl (Nat.le_refl _) (fun w Z u h => h.at_congr (g := fun _ => avL o) (fun j hj => by rcases j with _ | j <;> first | rfl | omega)) hnew hB) ?_
 refine VC.region ?_
 refine VO.val rfl rfl (OpV.load_at rfl hB OutW.no Tryz.isAgg75 rfl rfl) ?_
 refine VO.val rfl rfl (OpV.len_im rfl Tryz.underlying75 rfl) ?_
 refine VO.op rfl (OpE.make rfl hB rfl Tryz.underlying22 (infoOf Tryz.t3 1 (by kernel_rfl) rfl rfl) (by decide) rfl rfl (n := o.length) rfl rfl (by omega) (made_ints _) ?_)
 intro g7
 rw [intsL_len, List.length_replicate]
 refine VO.ma rfl rfl rfl rfl ?_
 refine VO.nil ?_
 refine VC.seq ?_
 refine VC.sr ?_
 refine VO.mv rfl rfl rfl rfl ?_
 refine VO.val rfl rfl (OpV.len_v rfl Tryz.underlying22 rfl) ?_
 refine VO.mv rfl rfl rfl rfl ?_
 refine VO.nil ?_
 refine VC.block ?_
 refine VC.loopK [] trivial ({q : Nat // q ≤ o.length}) (fun (iZ : {q : Nat // q ≤ o.length}) => match iZ with | ⟨q, hq⟩ => [(1, .at_ 1 (fun _ => avL o)), (3, .v (.slice (some ⟨g7, 0, none⟩) o.length o.length)), (9, avI o.length), (10, avI (q : Int))]) (fun (iZ : {q : Nat // q ≤ o.length}) => match iZ with | ⟨q, hq⟩ => [.box g7 ⟨intsL (mixI q o.length), 3, o.length⟩]) (fun (iZ : {q : Nat // q ≤ o.length}) => match iZ with | ⟨q, hq⟩ => 0) (fun (iZ : {q : Nat // q ≤ o.length}) => match iZ with | ⟨q, hq⟩ => o.length - q) ⟨0, Nat.zero_le _⟩ (Le.mk hB [0] ⟨rfl, rfl, rfl, rfl, trivial⟩ rfl rfl (Nat.le_refl _)) ?_
 rintro ⟨q, hq⟩
 show VC _ _ _ _ ⟨[(1, .at_ 1 (fun _ => avL o)), (3, .v (.slice (some ⟨g7, 0, none⟩) o.length o.length)), (9, avI o.length), (10, avI (q : Int))] ++ [], [.box g7 ⟨intsL (mixI q o.length), 3, o.length⟩], 0⟩
 have hml := mixI_len hq
 refine VC.sr ?_
 refine VO.val rfl rfl (OpV.lss rfl rfl rfl) ?_
 refine VO.nil ?_
 refine VC.seq ?_
 refine VC.cond rfl (fun aH1b => ?_) (fun aH1b => ?_)
 ·have aH1 := aH1b
  try simp only [qqT, qqF, qqN, qqM, qqL, qqE] at aH1
  refine VC.skip ?_
  refine VC.seq ?_
  refine VC.block ?_
  refine VC.sr ?_
  refine VO.mv rfl rfl rfl rfl ?_
  refine VO.ma rfl rfl rfl rfl ?_
  refine VO.nil ?_
  refine VC.region ?_
  refine VO.mv rfl rfl rfl rfl ?_
  refine VO.mv rfl rfl rfl rfl ?_
  refine VO.mv rfl rfl rfl rfl ?_
  refine VO.val rfl rfl (OpV.indexAddr_o rfl Tryz.underlying22 Tryz.sizeOf3 rfl rfl rfl (by omega)) ?_
  refine VO.op rfl (OpE.store1 (i := 0) rfl hB rfl Tryz.sizeOf3 rfl rfl rfl rfl rfl rfl (by rw [intsL_len]; omega) ((intsL_set _ _ _).trans (congrArg intsL (mixI_set (by omega)))) trivial ?_)
  refine VO.nil ?_
  refine VC.region ?_
  refine VO.val rfl rfl (OpV.add rfl rfl rfl (by unfold fits; omega)) ?_
  refine VO.mv rfl rfl rfl rfl ?_
  refine VO.nil ?_
  exact Exists.intro (⟨q + 1, by omega⟩) (And.intro (Le.mk hB [0] ⟨rfl, rfl, rfl, rfl, trivial⟩ rfl rfl (Nat.le_refl _)) (by first | omega | (show _ < _; omega) | (simp only []; omega)))
 ·have aH1 := aH1b
  try simp only [qqT, qqF, qqN, qqM, qqL, qqE] at aH1
  refine VC.exit ?_
  refine VC.seq ?_
  obtain rfl : q = o.length := by omega
  rw [mixI_all]
  refine VC.le _ (Le.boxRow1 (i := 0) rfl (by rw [intsL_len, idO_len]) (by simp only [maxLen]; omega)) ?_
  refine VC.le _ (Le.pickH (hp := [.row (.slice (some ⟨g7, 0, none⟩) o.length o.length) (idO o.length).length 1 (intsL (idO o.length)) 3]) [0] rfl (by rw [idO_len]; rfl)) ?_
  refine VC.region ?_
  refine VO.mv rfl rfl rfl rfl ?_
  refine VO.val rfl rfl (OpV.makeFuncF1 rfl rfl) ?_
  refine VO.op rfl (OpE.callH0 rfl hB rfl Tryz.call183 rfl rfl (sortStable_int (c := dueC o) (by rw [idO_len]; omega) Tryz.call274 (fun x y hx hy => rf_byDue1 (by omega) hd (idO_mem hx) (idO_mem hy))) (List.Perm.refl _) (fun _ _ => trivial) ?_)
  rintro _ _ ⟨rfl, rfl⟩
  refine VO.nil ?_
  refine VC.sr ?_
  refine VO.mv rfl rfl rfl rfl ?_
  refine VO.ma rfl rfl rfl rfl ?_
  refine VO.nil ?_
  refine VC.le _ (Le.rowI (xs := dueL o) (t := 2) (i := 0) hB hnew rfl rfl (by rw [dueL_len, idO_len])) ?_
  refine VC.ret ?_
  exact Exists.intro _ (And.intro (RetV.one Tryz.results166 (ResV.tmp rfl)) (rfl))

end Go.Proofs.YtaaokimiadfidaaGreatDoor
namespace Go.Proofs.YtaaokimiadfidaaGreatDoor
open Go.RowKit
set_option linter.unusedVariables false
set_option linter.unusedSimpArgs false
theorem not_true_false {b : Bool} (h : (!b) = true) : b = false := by cases b <;> simp_all
theorem not_false_true {b : Bool} (h : (!b) = false) : b = true := by cases b <;> simp_all
def eqLs {α : Type} (e : α → α → Bool) : List α → List α → Bool
 | [], [] => true
 | x :: l, y :: r => e x y && eqLs e l r
 | _, _ => false
theorem eqLs_self {α : Type} {e : α → α → Bool} (h : ∀ x, e x x = true) : ∀ l : List α, eqLs e l l = true
 | [] => rfl
 | x :: l => by rw [eqLs, h, eqLs_self h l]; rfl
theorem eqLs_len {α : Type} {e : α → α → Bool} : ∀ {l r : List α}, l.length ≠ r.length → eqLs e l r = false
 | [], [], h => absurd rfl h
 | [], _ :: _, _ => rfl
 | _ :: _, [], _ => rfl
 | x :: l, y :: r, h => by rw [eqLs, eqLs_len (by simpa using h), Bool.and_false]
theorem eqLs_at {α : Type} {e : α → α → Bool} {d : α} : ∀ {l r : List α} {q : Nat}, q < l.length → e (l.getD q d) (r.getD q d) = false → eqLs e l r = false
 | [], _, q, h, _ => by simp at h
 | x :: l, [], q, h, _ => rfl
 | x :: l, y :: r, 0, _, h2 => by simp at h2; rw [eqLs, h2]; rfl
 | x :: l, y :: r, q + 1, h1, h2 => by rw [eqLs, eqLs_at (d := d) (q := q) (by simpa using h1) (by simpa using h2), Bool.and_false]
theorem eqLs_all {α : Type} {e : α → α → Bool} {d : α} : ∀ {l r : List α}, l.length = r.length → (∀ j, j < l.length → e (l.getD j d) (r.getD j d) = true) → eqLs e l r = true
 | [], [], _, _ => rfl
 | [], _ :: _, h, _ => by simp at h
 | _ :: _, [], h, _ => by simp at h
 | x :: l, y :: r, h, h2 => by
  have h0 := h2 0 (by simp)
  simp at h0
  rw [eqLs, h0, eqLs_all (d := d) (by simpa using h) (fun j hj => by simpa using h2 (j + 1) (by simpa using hj))]
  rfl
set_option maxRecDepth 100000 in
theorem slices_Equal_str {xs ys : List ByteArray} (hl : xs.length ≤ 1000000000) (hl' : ys.length ≤ 1000000000) :
  SpecN Tryz.prog 61 [avStrs xs, avStrs ys] (fun y => y = avB (eqLs sEq xs ys)) := by
 refine SpecN.of_VCN Tryz.func61 rfl Tryz.ntmps61 (Nle rfl) fun w A hB => ?_
 have hnew : True := trivial
 refine VC.sr ?_
 refine VO.ma rfl rfl rfl rfl ?_
 refine VO.nil ?_
 refine VC.seq ?_
 refine VC.sr ?_
 refine VO.mv rfl rfl rfl rfl ?_
 refine VO.val rfl rfl (OpV.len_im rfl Tryz.underlying67 rfl) ?_
 refine VO.mv rfl rfl rfl rfl ?_
 refine VO.val rfl rfl (OpV.len_im rfl Tryz.underlying67 rfl) ?_
 refine VO.val rfl rfl (OpV.neq rfl rfl rfl) ?_
 refine VO.nil ?_
 refine VC.cond rfl (fun aH1b => ?_) (fun aH1b => ?_)
 ·have aH1 := aH1b
  try simp only [qqT, qqF, qqN, qqM, qqL, qqE] at aH1
  refine VC.sr ?_
  refine VO.ma rfl rfl rfl rfl ?_
  refine VO.nil ?_
  refine VC.ret ?_
  exact Exists.intro _ (And.intro (RetN.one Tryz.results61 (ResN.v rfl)) (by first | rw [eqLs_len (by omega)] | rw [eqLs_at (d := ByteArray.empty) (q := q) (by omega) (not_true_false h2b)] | rw [eqLs_all (d := ByteArray.empty) (by omega) (fun j hj => hn j (by omega))]))
 ·have aH1 := aH1b
  try simp only [qqT, qqF, qqN, qqM, qqL, qqE] at aH1
  refine VC.skip ?_
  refine VC.seq ?_
  refine VC.sr ?_
  refine VO.mv rfl rfl rfl rfl ?_
  refine VO.val rfl rfl (OpV.len_im rfl Tryz.underlying67 rfl) ?_
  refine VO.mv rfl rfl rfl rfl ?_
  refine VO.nil ?_
  refine VC.block ?_
  refine VC.loopK [(0, _), (1, _), (12, _)] ⟨rfl, rfl, rfl, trivial⟩ ({q : Nat // q ≤ xs.length ∧ ∀ j, j < q → sEq (xs.getD j ByteArray.empty) (ys.getD j ByteArray.empty) = true}) (fun (iZ : {q : Nat // q ≤ xs.length ∧ ∀ j, j < q → sEq (xs.getD j ByteArray.empty) (ys.getD j ByteArray.empty) = true}) => match iZ with | ⟨q, hq, hn⟩ => [(13, avI (q : Int))]) (fun (iZ : {q : Nat // q ≤ xs.length ∧ ∀ j, j < q → sEq (xs.getD j ByteArray.empty) (ys.getD j ByteArray.empty) = true}) => match iZ with | ⟨q, hq, hn⟩ => []) (fun (iZ : {q : Nat // q ≤ xs.length ∧ ∀ j, j < q → sEq (xs.getD j ByteArray.empty) (ys.getD j ByteArray.empty) = true}) => match iZ with | ⟨q, hq, hn⟩ => 0) (fun (iZ : {q : Nat // q ≤ xs.length ∧ ∀ j, j < q → sEq (xs.getD j ByteArray.empty) (ys.getD j ByteArray.empty) = true}) => match iZ with | ⟨q, hq, hn⟩ => xs.length - q) ⟨0, Nat.zero_le _, fun j hj => absurd hj (Nat.not_lt_zero j)⟩ (Le.mk hB [] ⟨rfl, rfl, rfl, rfl, trivial⟩ rfl rfl (Nat.le_refl _)) ?_
  rintro ⟨q, hq, hn⟩
  show VC _ _ _ _ ⟨[(13, avI (q : Int))] ++ [(0, _), (1, _), (12, _)], [], 0⟩
  refine VC.sr ?_
  refine VO.val rfl rfl (OpV.lss rfl rfl rfl) ?_
  refine VO.nil ?_
  refine VC.seq ?_
  refine VC.cond rfl (fun aH2b => ?_) (fun aH2b => ?_)
  ·have aH2 := aH2b
   try simp only [qqT, qqF, qqN, qqM, qqL, qqE] at aH2
   refine VC.skip ?_
   refine VC.seq ?_
   refine VC.block ?_
   refine VC.sr ?_
   refine VO.mv rfl rfl rfl rfl ?_
   refine VO.ma rfl rfl rfl rfl ?_
   refine VO.nil ?_
   refine VC.seq ?_
   refine VC.draw (fun _ => NoB) hB (by kernel_rfl) ?_
   refine VA.take (i := 0) rfl (by kernel_rfl) (by kernel_rfl) (by kernel_rfl) rfl rfl (OpV.move (.inl rfl) rfl) ?_
   refine VA.take (i := 1) rfl (by kernel_rfl) (by kernel_rfl) (by kernel_rfl) rfl rfl (OpV.move (.inl rfl) rfl) ?_
   refine VA.take (i := 2) rfl (by kernel_rfl) (by kernel_rfl) (by kernel_rfl) rfl rfl (OpV.indexAddr_1 rfl Tryz.underlying67 Tryz.sizeOf9 rfl rfl rfl (by omega)) ?_
   refine VA.take (i := 3) rfl (by kernel_rfl) (by kernel_rfl) (by kernel_rfl) rfl rfl (OpV.load_at rfl hB OutW.wi0 Tryz.isAgg9 rfl rfl) ?_
   refine VA.take (i := 4) rfl (by kernel_rfl) (by kernel_rfl) (by kernel_rfl) rfl rfl (OpV.move (.inl rfl) rfl) ?_
   refine VA.take (i := 5) rfl (by kernel_rfl) (by kernel_rfl) (by kernel_rfl) rfl rfl (OpV.move (.inl rfl) rfl) ?_
   refine VA.take (i := 6) rfl (by kernel_rfl) (by kernel_rfl) (by kernel_rfl) rfl rfl (OpV.indexAddr_1 rfl Tryz.underlying67 Tryz.sizeOf9 rfl rfl rfl (by omega)) ?_
   refine VA.take (i := 7) rfl (by kernel_rfl) (by kernel_rfl) (by kernel_rfl) rfl rfl (OpV.load_at rfl hB OutW.wi0 Tryz.isAgg9 rfl rfl) ?_
   refine VA.take (i := 8) rfl (by kernel_rfl) (by kernel_rfl) (by kernel_rfl) rfl rfl (OpV.sneq rfl rfl rfl) ?_
   refine VA.done (by kernel_rfl) ?_
   refine VC.cond rfl (fun h2b => ?_) (fun h2b => ?_)
   ·have h2 := h2b
    try simp only [qqT, qqF, qqN, qqM, qqL, qqE] at h2
    refine VC.sr ?_
    refine VO.ma rfl rfl rfl rfl ?_
    refine VO.nil ?_
    refine VC.ret ?_
    exact Exists.intro _ (And.intro (RetN.one Tryz.results61 (ResN.v rfl)) (by first | rw [eqLs_len (by omega)] | rw [eqLs_at (d := ByteArray.empty) (q := q) (by omega) (not_true_false h2b)] | rw [eqLs_all (d := ByteArray.empty) (by omega) (fun j hj => hn j (by omega))]))
   ·have h2 := h2b
    try simp only [qqT, qqF, qqN, qqM, qqL, qqE] at h2
    refine VC.skip ?_
    refine VC.region ?_
    refine VO.val rfl rfl (OpV.add rfl rfl rfl (by unfold fits; omega)) ?_
    refine VO.mv rfl rfl rfl rfl ?_
    refine VO.nil ?_
    exact Exists.intro (⟨q + 1, by omega, lt_succ_cases hn (not_false_true h2b)⟩) (And.intro (Le.mk hB [] ⟨rfl, rfl, rfl, rfl, trivial⟩ rfl rfl (Nat.le_refl _)) (by first | omega | (show _ < _; omega) | (simp only []; omega)))
  ·have aH2 := aH2b
   try simp only [qqT, qqF, qqN, qqM, qqL, qqE] at aH2
   refine VC.exit ?_
   refine VC.sr ?_
   refine VO.ma rfl rfl rfl rfl ?_
   refine VO.nil ?_
   refine VC.ret ?_
   exact Exists.intro _ (And.intro (RetN.one Tryz.results61 (ResN.v rfl)) (by first | rw [eqLs_len (by omega)] | rw [eqLs_at (d := ByteArray.empty) (q := q) (by omega) (not_true_false h2b)] | rw [eqLs_all (d := ByteArray.empty) (by omega) (fun j hj => hn j (by omega))]))
end Go.Proofs.YtaaokimiadfidaaGreatDoor
namespace Go.Proofs.YtaaokimiadfidaaGreatDoor
open Go.RowKit Go.Sort Go.Lib
set_option linter.unusedVariables false
set_option linter.unusedSimpArgs false
abbrev bysL (xs : List ByteArray) : List (List UInt8) := xs.map fun x => x.data.toList
theorem putRow_at {w : World} {n g : Nat} {d : Array (List UInt8)} {os : Array Obj} {c : Array Value} {ty : TypeId} (hg : w.heap[g]? = some (.cells c ty (0, 0))) : (grow (putRow encStr (Sort.ahead w n) g 0 d) os).heap[g]? = some (.cells (putCells encStr 0 d c) ty (0, 0)) := by
 have hl := (Array.getElem?_eq_some_iff.1 hg).1
 simp only [grow, putRow, mapBlock, Sort.ahead]
 rw [Array.getElem?_append_left (by simpa using hl), Array.getElem?_modify, if_pos rfl, hg]
 rfl
theorem putRow_chg {w : World} {n g : Nat} {d : Array (List UInt8)} {os : Array Obj} : Chg (fun b => b = g) w (grow (putRow encStr (Sort.ahead w n) g 0 d) os) :=
 ⟨rfl, rfl, rfl, by simp [grow, putRow, mapBlock, Sort.ahead], fun b hb hne => by
  simp only [grow, putRow, mapBlock, Sort.ahead]
  rw [Array.getElem?_append_left (by simpa using hb), Array.getElem?_modify, if_neg (fun e => hne e.symm)]⟩
theorem holds_row {w : World} {g : Nat} {c : Array Value} {ty : TypeId} {xs : List ByteArray} (hg : w.heap[g]? = some (.cells c ty (0, 0))) (hc : ∀ j (h : j < xs.length), c[j]? = some (.string xs[j])) : Holds encStr w g 0 (bysL xs).toArray := by
 intro j hj
 have hj' : j < xs.length := by simpa using hj
 have h1 := hc j hj'
 constructor
 ·simp only [World.cell?, hg, Nat.zero_add]
  rw [h1]
  congr 1
  simp [encStr, hj']
 ·simp [World.frozen?, hg]
theorem putCells_get {d : Array (List UInt8)} {c : Array Value} {j : Nat} (h1 : j < d.size) (h2 : d.size ≤ c.size) : (putCells encStr 0 d c)[j]? = some (encStr d[j]!) := by
 simp only [putCells, Array.getElem?_mapIdx]
 rw [Array.getElem?_eq_getElem (by omega)]
 simp [h1]
theorem SpecH.ofPut {P : Program} {F : FuncId} {ty : TypeId} {u : Value} {xs ys zs : List ByteArray} {V : Value → AV} {U : Value → Value} (hyz : ys.length ≤ zs.length ∧ zs.length = xs.length) (hpre : ys = zs.take ys.length)
  (hV : V = (fun _ => .tup []) ∧ U = (fun v => v) ∧ ys.length = xs.length ∨ V = (fun v => .v v) ∧ U = (fun v => match v with | .slice a _ c => .slice a ys.length c | v => v))
  (h0 : xs.length = 0 → ∀ w, Calls P F #[.slice none 0 0] w fun e w' => ∃ v, e = .returned v ∧ (V = (fun _ => .tup []) ∧ v = .tuple #[] ∨ V = (fun v => .v v) ∧ v = .slice none 0 0) ∧ Chg NoB w w')
  (h1 : ∀ g cap w, xs.length ≤ cap → cap ≤ maxLen → g < w.heap.size → Holds encStr w g 0 (bysL xs).toArray → Calls P F #[.slice (some ⟨g, 0, none⟩) xs.length cap] w fun e w' => ∃ v, e = .returned v ∧ (V = (fun _ => .tup []) ∧ v = .tuple #[] ∨ V = (fun v => .v v) ∧ v = .slice (some ⟨g, 0, none⟩) ys.length cap) ∧ ∃ n os, w' = grow (putRow encStr (Sort.ahead w n) g 0 (bysL zs).toArray) os) :
  SpecH P F [.v u] [.row u xs.length 1 (strsL xs) ty] (fun y hp' => y = V (U u) ∧ hp' = [.row (U u) ys.length 1 (strsL ys) ty]) := fun w A us ha hap hA hE => by
 rw [args1 ha]
 obtain ⟨r1, r2⟩ := hE _ (List.mem_cons_self ..)
 rcases r2 with ⟨rfl, hz⟩ | ⟨g, cap, c, rfl, hn, hm, hg, hs, hc⟩
 ·have hys : ys.length = 0 := by omega
  have hU : U (.slice none 0 0) = .slice none 0 0 := by
   rcases hV with ⟨_, rfl, _⟩ | ⟨_, rfl⟩
   ·rfl
   ·show Value.slice none ys.length 0 = _; rw [hys]
  refine (h0 hz w).mono ?_
  rintro e w' ⟨v, rfl, hv, hch⟩
  refine ⟨_, v, _, ⟨rfl, rfl⟩, rfl, List.pairwise_singleton _ _, ?_, fun e he => ?_, fun b ⟨e, he, hb⟩ _ => ?_, hch.any⟩
  ·rw [hU]
   rcases hv with ⟨hv1, rfl⟩ | ⟨hv1, rfl⟩
   ·rw [hv1]; exact .tup _ _ rfl fun j hj => by simp at hj
   ·rw [hv1]; exact .v _
  ·simp at he; subst he
   exact ⟨by simp [strsL], .inl ⟨hU, hys⟩⟩
  ·simp at he; subst he
   rw [hU] at hb; simp [Ent.blk, Value.ownBlock] at hb
 ·have hgl := (Array.getElem?_eq_some_iff.1 hg).1
  have hcx : ∀ j (h : j < xs.length), c[j]? = some (.string xs[j]) := fun j hj => by
   obtain ⟨v, k1, k2⟩ := hc j (by simpa [strsL] using hj)
   have k3 : Rep w (fun b => b < w.heap.size ∧ A b) (avS xs[j]) v := by simpa [strsL] using k2
   rw [k1, k3.eq_v]
  refine (h1 g cap w hn hm hgl (holds_row hg hcx)).mono ?_
  rintro e w' ⟨v, rfl, hv, n, os, rfl⟩
  have hU : U (.slice (some ⟨g, 0, none⟩) xs.length cap) = .slice (some ⟨g, 0, none⟩) ys.length cap := by
   rcases hV with ⟨_, rfl, e⟩ | ⟨_, rfl⟩
   ·show Value.slice _ xs.length _ = _; rw [e]
   ·rfl
  have hsz : (bysL zs).toArray.size ≤ c.size := by simp; omega
  refine ⟨_, v, _, ⟨rfl, rfl⟩, rfl, List.pairwise_singleton _ _, ?_, fun e he => ?_, fun b ⟨e, he, hb⟩ _ => ?_, putRow_chg.mono fun b _ h => ⟨_, List.mem_cons_self .., by subst h; rfl⟩⟩
  ·rw [hU]
   rcases hv with ⟨hv1, rfl⟩ | ⟨hv1, rfl⟩
   ·rw [hv1]; exact .tup _ _ rfl fun j hj => by simp at hj
   ·rw [hv1]; exact .v _
  ·simp at he; subst he
   refine ⟨by simp [strsL], .inr ⟨g, cap, _, hU, by omega, hm, putRow_at hg, by simp [putCells, hs], fun j hj => ?_⟩⟩
   have hj' : j < ys.length := by simpa [strsL] using hj
   have hjz : j < zs.length := by omega
   refine ⟨.string ys[j], ?_, by simp only [strsL, List.getElem_map]; exact .v _⟩
   rw [putCells_get (by simp; omega) hsz]
   have e1 : ys[j] = zs[j] := by
    have : ys[j] = (zs.take ys.length)[j]'(by rw [List.length_take]; omega) := by congr 1
    rw [this, List.getElem_take]
   rw [e1]
   simp [encStr, hjz]
  ·simp at he; subst he
   rw [hU] at hb
   exact ⟨_, List.mem_cons_self .., hb⟩
def srtB (xs : List ByteArray) : List ByteArray := ((bysL xs).mergeSort (fun x y => decide (x ≤ y))).map bytesOf
theorem srtB_len (xs : List ByteArray) : (srtB xs).length = xs.length := by simp [srtB]
theorem srtB_bys (xs : List ByteArray) : bysL (srtB xs) = (bysL xs).mergeSort (fun x y => decide (x ≤ y)) := by
 unfold srtB bysL
 rw [List.map_map]
 conv => rhs; rw [← List.map_id ((xs.map fun x => x.data.toList).mergeSort (fun x y => decide (x ≤ y)))]
 exact List.map_congr_left fun l _ => by simp [bytesOf]
theorem slices_Sort_O {u : Value} {xs : List ByteArray} {ty : TypeId} (hl : xs.length ≤ 1000000000) :
  SpecH Tryz.prog 40 [.v u] [.row u xs.length 1 (strsL xs) ty] (fun y hp' => y = .tup [] ∧ hp' = [.row u (srtB xs).length 1 (strsL (srtB xs)) ty]) :=
 (SpecH.ofPut (V := fun _ => .tup []) (U := fun v => v) (ys := srtB xs) (zs := srtB xs) ⟨Nat.le_refl _, srtB_len xs⟩ (by rw [List.take_length]) (.inl ⟨rfl, rfl, srtB_len xs⟩)
  (fun h0 w => (AnyM.slices_Sort_string_none Tryz.sort40 none 0 w).mono fun e w' h => by
   obtain ⟨rfl, h⟩ := h
   (subst h; exact ⟨_, rfl, .inl ⟨rfl, rfl⟩, Chg.refl _ _⟩))
  (fun g cap w h1 h2 hg hH => by
   have h := AnyM.slices_Sort_string Tryz.sort40 g 0 cap (bysL xs) w hH hg (by simp; omega)
   rw [List.length_map] at h
   refine h.mono fun e w' h => ?_
   obtain ⟨rfl, n, os, rfl⟩ := h
   exact ⟨_, rfl, .inl ⟨rfl, rfl⟩, n, os, by rw [srtB_bys]⟩)).mono fun y hp' ⟨h1, h2⟩ => ⟨h1, h2⟩
end Go.Proofs.YtaaokimiadfidaaGreatDoor
namespace Go.Proofs.YtaaokimiadfidaaGreatDoor
open Go.RowKit
set_option linter.unusedVariables false
set_option linter.unusedSimpArgs false
def amtP (l : List NeedS) : List (ByteArray × Int) := l.foldl (fun m x => mput m x.key (mgetD m x.key 0 + x.count)) []
def sumK : List NeedS → ByteArray → Int
 | [], _ => 0
 | x :: r, k => (if k = x.key then x.count else 0) + sumK r k
theorem amtP_snoc (l : List NeedS) (x : NeedS) : amtP (l ++ [x]) = mput (amtP l) x.key (mgetD (amtP l) x.key 0 + x.count) := by simp [amtP]
theorem amtP_take {l : List NeedS} {q : Nat} (h : q < l.length) : amtP (l.take (q + 1)) = mput (amtP (l.take q)) (l.getD q default).key (mgetD (amtP (l.take q)) (l.getD q default).key 0 + (l.getD q default).count) := by
 rw [take_snocD h default, amtP_snoc]
theorem amtP_count : ∀ (l : List NeedS) (m : List (ByteArray × Int)) (k : ByteArray), mgetD (l.foldl (fun m x => mput m x.key (mgetD m x.key 0 + x.count)) m) k 0 = mgetD m k 0 + sumK l k
 | [], m, k => by simp [sumK]
 | x :: l, m, k => by
  rw [List.foldl_cons, amtP_count l, mgetD_mput, sumK]
  by_cases e : k = x.key
  ·subst e; simp; omega
  ·rw [if_neg e, if_neg e]; omega
theorem amtP_get (l : List NeedS) (k : ByteArray) : mgetD (amtP l) k 0 = sumK l k := by
 rw [amtP, amtP_count]; simp [mgetD, mget]
theorem sumK_app : ∀ (l r : List NeedS) (k : ByteArray), sumK (l ++ r) k = sumK l k + sumK r k
 | [], r, k => by simp [sumK]
 | x :: l, r, k => by simp only [List.cons_append, sumK, sumK_app l r k]; omega
theorem sumK_bd {c : Int} (h0 : 0 ≤ c) : ∀ {l : List NeedS} (h : ∀ y ∈ l, 0 ≤ y.count ∧ y.count ≤ c) (k : ByteArray), 0 ≤ sumK l k ∧ sumK l k ≤ c * l.length
 | [], _, k => by simp [sumK]
 | x :: l, h, k => by
  have ih := sumK_bd h0 (l := l) (fun y hy => h y (List.mem_cons_of_mem _ hy)) k
  have hx := h x (List.mem_cons_self ..)
  rw [sumK, List.length_cons, Int.natCast_add, Int.mul_add, Int.natCast_one, Int.mul_one]
  split <;> omega
theorem amtP_nodup' : ∀ (l : List NeedS) (m : List (ByteArray × Int)), (m.map (·.1)).Nodup → ((l.foldl (fun m x => mput m x.key (mgetD m x.key 0 + x.count)) m).map (·.1)).Nodup
 | [], m, h => h
 | x :: l, m, h => amtP_nodup' l _ (mput_nodup h _ _)
theorem amtP_nodup (l : List NeedS) : ((amtP l).map (·.1)).Nodup := amtP_nodup' l [] List.nodup_nil
theorem amtP_mem' : ∀ (l : List NeedS) (m : List (ByteArray × Int)) (k : ByteArray), k ∈ (l.foldl (fun m x => mput m x.key (mgetD m x.key 0 + x.count)) m).map (·.1) ↔ k ∈ m.map (·.1) ∨ ∃ x ∈ l, x.key = k
 | [], m, k => by simp
 | x :: l, m, k => by
  rw [List.foldl_cons, amtP_mem' l, mput_mem, or_assoc]
  simp only [List.mem_cons, exists_eq_or_imp]
  exact ⟨fun h => h.elim .inl fun h => h.elim (fun h => .inr (.inl h.symm)) fun h => .inr (.inr h), fun h => h.elim .inl fun h => h.elim (fun h => .inr (.inl h.symm)) fun h => .inr (.inr h)⟩
theorem amtP_mem {l : List NeedS} {k : ByteArray} : k ∈ (amtP l).map (·.1) ↔ ∃ x ∈ l, x.key = k := by rw [amtP, amtP_mem']; simp
theorem nodup_bd {l r : List ByteArray} (h : l.Nodup) (hs : ∀ x ∈ l, x ∈ r) : l.length ≤ r.length := h.length_le_of_subset hs
def subP (m : List (ByteArray × Int)) (l : List NeedS) : List (ByteArray × Int) := l.foldl (fun m x => mput m x.key (mgetD m x.key 0 - x.count)) m
theorem subP_take {m : List (ByteArray × Int)} {l : List NeedS} {q : Nat} (h : q < l.length) : subP m (l.take (q + 1)) = mput (subP m (l.take q)) (l.getD q default).key (mgetD (subP m (l.take q)) (l.getD q default).key 0 - (l.getD q default).count) := by
 rw [take_snocD h default]; simp [subP]
theorem subP_get : ∀ (l : List NeedS) (m : List (ByteArray × Int)) (k : ByteArray), mgetD (subP m l) k 0 = mgetD m k 0 - sumK l k
 | [], m, k => by simp [sumK, subP]
 | x :: l, m, k => by
  show mgetD (subP (mput m x.key (mgetD m x.key 0 - x.count)) l) k 0 = _
  rw [subP_get l, mgetD_mput, sumK]
  by_cases e : k = x.key
  ·subst e; simp; omega
  ·rw [if_neg e, if_neg e]; omega
theorem subP_nodup : ∀ (l : List NeedS) (m : List (ByteArray × Int)), (m.map (·.1)).Nodup → ((subP m l).map (·.1)).Nodup
 | [], m, h => h
 | x :: l, m, h => subP_nodup l _ (mput_nodup h _ _)
theorem subP_mem : ∀ (l : List NeedS) (m : List (ByteArray × Int)) (k : ByteArray), k ∈ (subP m l).map (·.1) ↔ k ∈ m.map (·.1) ∨ ∃ x ∈ l, x.key = k
 | [], m, k => by simp [subP]
 | x :: l, m, k => by
  show k ∈ (subP (mput m x.key (mgetD m x.key 0 - x.count)) l).map (·.1) ↔ _
  rw [subP_mem l, mput_mem, or_assoc]
  simp only [List.mem_cons, exists_eq_or_imp]
  exact ⟨fun h => h.elim .inl fun h => h.elim (fun h => .inr (.inl h.symm)) fun h => .inr (.inr h), fun h => h.elim .inl fun h => h.elim (fun h => .inr (.inl h.symm)) fun h => .inr (.inr h)⟩
def kitN (l : List NeedS) (c : Int) : List NeedS := l.map fun n => (⟨n.key, n.count * c⟩ : NeedS)
theorem kitN_len (l : List NeedS) (c : Int) : (kitN l c).length = l.length := by simp [kitN]
theorem kitN_take {l : List NeedS} {c : Int} {q : Nat} (h : q < l.length) : kitN (l.take (q + 1)) c = kitN (l.take q) c ++ [⟨(l.getD q default).key, (l.getD q default).count * c⟩] := by
 rw [take_snocD h default]; simp [kitN]
def kitL (p : List PaceS) (x : OrdrS) : List NeedS := kitN (paceO p x.product).needs x.count
def kitsL (p : List PaceS) (o : List OrdrS) : List NeedS := o.flatMap (kitL p)
theorem kitsL_take {p : List PaceS} {o : List OrdrS} {q : Nat} (h : q < o.length) : kitsL p (o.take (q + 1)) = kitsL p (o.take q) ++ kitL p (o.getD q default) := by
 rw [take_snocD h default]; simp [kitsL]
def kk0 (p : List PaceS) (o : List OrdrS) (k : ByteArray) : List NeedS := kitL p (o.getD (fidx (fun x => sEq x.key k) o).toNat default)
def shG (st : List NeedS) (n : NeedS) : NeedS := ⟨n.key, n.count - sumK st n.key⟩
def shortL (l st : List NeedS) : List NeedS := ((needsM (amtP l)).map (shG st)).filter fun n => decide (0 < n.count)
def pickS (l : List (ByteArray × Int)) (st : List NeedS) (seen : List Nat) : List NeedS := ((pickN l seen).map (shG st)).filter fun n => decide (0 < n.count)
theorem pickS_t {l : List (ByteArray × Int)} {st : List NeedS} {j : Nat} {seen : List Nat} (h : sumK st (l.getD j default).1 < (l.getD j default).2) : pickS l st (j :: seen) = pickS l st seen ++ [⟨(l.getD j default).1, (l.getD j default).2 - sumK st (l.getD j default).1⟩] := by
 unfold pickS
 rw [pickN_cons, List.map_append, List.filter_append]
 congr 1
 rw [List.map_cons, List.map_nil, List.filter_cons_of_pos (by simp [shG, ndOf, -List.getD_eq_getElem?_getD]; omega)]
 rfl
theorem pickS_f {l : List (ByteArray × Int)} {st : List NeedS} {j : Nat} {seen : List Nat} (h : (l.getD j default).2 ≤ sumK st (l.getD j default).1) : pickS l st (j :: seen) = pickS l st seen := by
 unfold pickS
 rw [pickN_cons, List.map_append, List.filter_append, List.map_cons, List.map_nil, List.filter_cons_of_neg (by simp [shG, ndOf, -List.getD_eq_getElem?_getD]; omega)]
 simp
theorem pickS_len (l : List (ByteArray × Int)) (st : List NeedS) (seen : List Nat) : (pickS l st seen).length ≤ seen.length := by
 unfold pickS
 refine Nat.le_trans (List.length_filter_le _ _) ?_
 rw [List.length_map, pickN_len]; exact Nat.le_refl _
theorem shortL_len (l st : List NeedS) : (shortL l st).length ≤ (amtP l).length := by
 unfold shortL
 refine Nat.le_trans (List.length_filter_le _ _) ?_
 rw [List.length_map, needsM_len]; exact Nat.le_refl _
theorem shG_keys (l : List (ByteArray × Int)) (st : List NeedS) : ((needsM l).map (shG st)).map (·.key) = sKeys l := by
 rw [List.map_map]; unfold needsM; rw [List.map_map]
 conv => rhs; rw [← List.map_id (sKeys l)]
 exact List.map_congr_left fun x _ => rfl
theorem keys_ord {l : List NeedS} {ks : List ByteArray} (h : l.map (·.key) = ks) (ho : ks.Pairwise fun a b => sLt b a = false) : OrdL ltN l := by
 subst h
 rw [List.pairwise_map] at ho
 exact ho.imp fun h => by rw [ltN_sLt]; exact h
theorem keys_nodup {l : List NeedS} (h : (l.map (·.key)).Nodup) : l.Nodup := by
 unfold List.Nodup at h ⊢
 rw [List.pairwise_map] at h
 exact h.imp fun hab e => hab (by rw [e])
theorem keys_tot {l : List NeedS} (h : (l.map (·.key)).Nodup) : ∀ a ∈ l, ∀ b ∈ l, a ≠ b → ltN a b = false → ltN b a = true := fun a ha b hb hne h2 => by
 rw [ltN_sLt] at h2 ⊢
 refine sLt_tot h2 fun e => hne ?_
 obtain ⟨i, hi, rfl⟩ := List.getElem_of_mem ha
 obtain ⟨j, hj, rfl⟩ := List.getElem_of_mem hb
 have := (List.getElem_inj (h₀ := by simpa using hi) (h₁ := by simpa using hj) h).1 (by simpa using e)
 simp [this]
theorem shortL_ord (l st : List NeedS) : OrdL ltN (shortL l st) := (keys_ord (shG_keys (amtP l) st) (sKeys_ord _)).sublist List.filter_sublist
theorem shortL_keys (l st : List NeedS) : ((shortL l st).map (·.key)).Nodup := by
 have h : (((needsM (amtP l)).map (shG st)).map (·.key)).Nodup := by rw [shG_keys]; exact sKeys_nodup (amtP_nodup l)
 exact h.sublist (List.filter_sublist.map _)
theorem shortL_one {l st : List NeedS} {seen : List Nat} {r : List NeedS} (hd : seen.Nodup) (hs : ∀ j ∈ seen, j < (amtP l).length) (ha : ∀ j, j < (amtP l).length → j ∈ seen) (hr : r.Perm (pickS (amtP l) st seen)) (ho : OrdL ltN r) : shortL l st = r :=
 ord_unique (((((needsM_perm (amtP_nodup l)).trans (pickN_perm hd hs ha).symm).map (shG st)).filter _).trans hr.symm) (keys_nodup (shortL_keys l st)) (keys_tot (shortL_keys l st)) (shortL_ord l st) ho
theorem needsM_mem {l : List (ByteArray × Int)} {x : NeedS} : x ∈ needsM l ↔ x.key ∈ l.map (·.1) ∧ x.count = mgetD l x.key 0 := by
 unfold needsM
 rw [List.mem_map]
 constructor
 ·rintro ⟨k, hk, rfl⟩; exact ⟨(sKeys_perm l).subset hk, rfl⟩
 ·rintro ⟨h1, h2⟩; exact ⟨x.key, (sKeys_perm l).symm.subset h1, by rw [← h2]⟩
theorem shortL_mem {l st : List NeedS} {x : NeedS} : x ∈ shortL l st ↔ (∃ y ∈ l, y.key = x.key) ∧ x.count = sumK l x.key - sumK st x.key ∧ 0 < x.count := by
 unfold shortL
 rw [List.mem_filter, List.mem_map]
 constructor
 ·rintro ⟨⟨y, hy, rfl⟩, h⟩
  obtain ⟨h1, h2⟩ := needsM_mem.1 hy
  rw [amtP_get] at h2
  exact ⟨amtP_mem.1 h1, by show y.count - _ = _; rw [h2]; rfl, by simpa using h⟩
 ·rintro ⟨h1, h2, h3⟩
  exact ⟨⟨⟨x.key, sumK l x.key⟩, needsM_mem.2 ⟨amtP_mem.2 h1, by rw [amtP_get]⟩, by unfold shG; rw [← h2]⟩, by simpa using h3⟩
theorem sumK_none : ∀ {l : List NeedS} {k : ByteArray}, (¬ ∃ y ∈ l, y.key = k) → sumK l k = 0
 | [], k, _ => rfl
 | x :: l, k, h => by
  rw [sumK, if_neg (fun e => h ⟨x, List.mem_cons_self .., e.symm⟩), sumK_none fun ⟨y, hy, e⟩ => h ⟨y, List.mem_cons_of_mem _ hy, e⟩]; rfl
theorem short_ref {l st : List NeedS} (hst : ∀ y ∈ st, 0 ≤ y.count ∧ y.count ≤ 1000000000) : (needsM (subP (amtP l) st)).filter (fun n => !decide (n.count ≤ 0)) = shortL l st := by
 have hk : ((needsM (subP (amtP l) st)).map (·.key)).Nodup := by
  have : (needsM (subP (amtP l) st)).map (·.key) = sKeys (subP (amtP l) st) := by
   unfold needsM; rw [List.map_map]
   conv => rhs; rw [← List.map_id (sKeys (subP (amtP l) st))]
   exact List.map_congr_left fun x _ => rfl
  rw [this]; exact sKeys_nodup (subP_nodup st _ (amtP_nodup l))
 have hk2 := hk.sublist (List.filter_sublist (p := fun n : NeedS => !decide (n.count ≤ 0)).map _)
 refine ord_unique ?_ (keys_nodup hk2) (keys_tot hk2) ((needsM_ord _).sublist List.filter_sublist) (shortL_ord l st)
 refine (List.perm_ext_iff_of_nodup (keys_nodup hk2) (keys_nodup (shortL_keys l st))).2 fun x => ?_
 rw [List.mem_filter, needsM_mem, shortL_mem, subP_mem, subP_get, amtP_get, amtP_mem]
 constructor
 ·rintro ⟨⟨h1, h2⟩, h3⟩
  have h3' : 0 < x.count := by simpa using h3
  refine ⟨?_, h2, h3'⟩
  rcases h1 with h1 | h1
  ·exact h1
  ·refine Classical.byContradiction fun hn => ?_
   have := sumK_none hn
   have := (sumK_bd (by decide) hst x.key).1
   omega
 ·rintro ⟨h1, h2, h3⟩
  exact ⟨⟨.inl h1, h2⟩, by simpa using h3⟩
def MBd (b : Int) (m : List (ByteArray × Int)) : Prop := ∀ k, -b ≤ mgetD m k 0 ∧ mgetD m k 0 ≤ b
theorem MBd.amt {c : Int} (h0 : 0 ≤ c) {l : List NeedS} (h : ∀ y ∈ l, 0 ≤ y.count ∧ y.count ≤ c) : MBd (c * l.length) (amtP l) := fun k => by
 rw [amtP_get]; have := sumK_bd h0 h k; omega
theorem MBd.sub {b c : Int} (h0 : 0 ≤ c) {m : List (ByteArray × Int)} {l : List NeedS} (hm : MBd b m) (h : ∀ y ∈ l, 0 ≤ y.count ∧ y.count ≤ c) : MBd (b + c * l.length) (subP m l) := fun k => by
 rw [subP_get]; have := sumK_bd h0 h k; have := hm k; omega
theorem MBd.mono {b c : Int} {m : List (ByteArray × Int)} (hm : MBd b m) (h : b ≤ c) : MBd c m := fun k => by have := hm k; omega
def covT (m : List (ByteArray × Int)) (l : List NeedS) : Bool := l.any fun n => decide (mgetD m n.key 0 < n.count)
def covS (p : List PaceS) (o : List OrdrS) (a : List (ByteArray × Int) × List ByteArray) (i : Int) : List (ByteArray × Int) × List ByteArray :=
 if covT a.1 (kitL p (o.getD i.toNat default)) = true then a else (subP a.1 (kitL p (o.getD i.toNat default)), a.2 ++ [(o.getD i.toNat default).key])
def covR (p : List PaceS) (o : List OrdrS) (st : List NeedS) (l : List Int) : List (ByteArray × Int) × List ByteArray := l.foldl (covS p o) (amtP st, [])
theorem covR_take {p : List PaceS} {o : List OrdrS} {st : List NeedS} {l : List Int} {q : Nat} (h : q < l.length) : covR p o st (l.take (q + 1)) = covS p o (covR p o st (l.take q)) (l.getD q 0) := by
 rw [take_snocD h 0]; simp [covR]
theorem covS_t {p : List PaceS} {o : List OrdrS} {a : List (ByteArray × Int) × List ByteArray} {i : Int} (h : covT a.1 (kitL p (o.getD i.toNat default)) = true) : covS p o a i = a := by rw [covS, if_pos h]
theorem covS_f {p : List PaceS} {o : List OrdrS} {a : List (ByteArray × Int) × List ByteArray} {i : Int} (h : covT a.1 (kitL p (o.getD i.toNat default)) = false) : covS p o a i = (subP a.1 (kitL p (o.getD i.toNat default)), a.2 ++ [(o.getD i.toNat default).key]) := by rw [covS, if_neg (by rw [h]; simp)]
def covL (p : List PaceS) (o : List OrdrS) (st : List NeedS) : List ByteArray := srtB (covR p o st (dueL o)).2
def setP (l : List NeedS) : List (ByteArray × Int) := l.foldl (fun m x => mput m x.key x.count) []
theorem setP_take {l : List NeedS} {q : Nat} (h : q < l.length) : setP (l.take (q + 1)) = mput (setP (l.take q)) (l.getD q default).key (l.getD q default).count := by
 rw [take_snocD h default]; simp [setP]
theorem setP_eq {l : List NeedS} (hr : RiseK NeedS.key l) : ∀ q, q ≤ l.length → setP (l.take q) = amtP (l.take q)
 | 0, _ => rfl
 | q + 1, hq => by
  rw [setP_take (by omega), amtP_take (by omega), setP_eq hr q (by omega), amtP_get, sumK_none, Int.zero_add]
  rintro ⟨y, hy, e⟩
  obtain ⟨i, hi, rfl⟩ := List.getElem_of_mem hy
  rw [List.length_take] at hi
  rw [List.getElem_take] at e
  have h1 := rise_lt hr i q (by omega) (by omega)
  rw [List.getD_eq_getElem?_getD, List.getElem?_eq_getElem (by omega)] at h1
  have e' : (l[i]'(by omega)).key = (l.getD q default).key := e
  simp only [Option.getD_some] at h1
  rw [e', sLt_irr] at h1; cases h1
theorem stock_rise {l : List NeedS} {lo hi : Int} (h : needsF l lo hi = 0) : RiseK NeedS.key l := fun j h0 hj => by
 have hl := needsF_lenP h
 rw [needsF, if_neg (by omega)] at h
 have := firstE_zero h j hj
 unfold needE at this
 split at this
 ·cases this
 ·split at this
  ·cases this
  ·rename_i h1
   rw [decide_eq_true h0, Bool.true_and] at h1
   simpa using h1
theorem needs_bd {l : List NeedS} {lo hi : Int} (h : needsF l lo hi = 0) : ∀ y ∈ l, lo ≤ y.count ∧ y.count ≤ hi := fun y hy => by
 obtain ⟨i, hi', rfl⟩ := List.getElem_of_mem hy
 have hl := needsF_lenP h
 rw [needsF, if_neg (by omega)] at h
 have := firstE_zero h i hi'
 unfold needE at this
 rw [show l.getD i default = l[i] by rw [List.getD_eq_getElem?_getD, List.getElem?_eq_getElem hi']; rfl] at this
 split at this
 ·cases this
 ·split at this
  ·cases this
  ·split at this
   ·cases this
   ·rename_i h1
    unfold outR at h1
    simp at h1
    omega
end Go.Proofs.YtaaokimiadfidaaGreatDoor
namespace Go.Proofs.YtaaokimiadfidaaGreatDoor
open Go.RowKit
set_option linter.unusedVariables false
set_option linter.unusedSimpArgs false
abbrev kvS : ByteArray → Value := fun k => Value.string k
abbrev eI : Int → AV := fun n => avI n
theorem flat_need (xs : List NeedS) : FlatA (rowL xs) := flat_rowL (fun x j hj => by
 match j, hj with
 | 0, _ => exact ⟨_, rfl⟩
 | 1, _ => exact ⟨_, rfl⟩) xs
end Go.Proofs.YtaaokimiadfidaaGreatDoor
namespace Go.Proofs.YtaaokimiadfidaaGreatDoor
open Go.RowKit
set_option linter.unusedVariables false
set_option linter.unusedSimpArgs false

structure BodyS where
 part : ByteArray
 wide : Int
 high : Int
instance : Inhabited BodyS := ⟨⟨ByteArray.empty, 0, 0⟩⟩
instance : Sxc BodyS where
 k := 3
 pos := by decide
 cell m j := match j with
  | 0 => avS m.part
  | 1 => avI m.wide
  | 2 => avI m.high
  | _ => .any
section
variable {l : List BodyS} {i : Nat}
end
end Go.Proofs.YtaaokimiadfidaaGreatDoor
namespace Go.Proofs.YtaaokimiadfidaaGreatDoor
open Go.RowKit
set_option linter.unusedVariables false
set_option linter.unusedSimpArgs false

structure SlotS where
 x : Int
 y : Int
 quarter : Int
 skip : Bool
instance : Inhabited SlotS := ⟨⟨0, 0, 0, false⟩⟩
instance : Sxc SlotS where
 k := 4
 pos := by decide
 cell m j := match j with
  | 0 => avI m.x
  | 1 => avI m.y
  | 2 => avI m.quarter
  | 3 => avB m.skip
  | _ => .any
structure PanS where
 wide : Int
 high : Int
 slots : List SlotS
section
variable {n : PanS}
end
end Go.Proofs.YtaaokimiadfidaaGreatDoor
namespace Go.Proofs.YtaaokimiadfidaaGreatDoor
open Go.RowKit
set_option linter.unusedVariables false
set_option linter.unusedSimpArgs false
section
variable {P : Program} {B : Bs} {s : St'} {o : Oper} {K : St' → Prop} {V : Nat → Nat → Prop} {ops : Array Oper} {Q : Exit → St' → Prop} {n N : Nat} {L : Array Bool}
def VN (P : Program) (B : Bs) (V : Nat → Nat → Prop) (ops : Array Oper) (Q : Exit → St' → Prop) (n : Nat) (L : Array Bool) (s : St') (N : Nat) : Prop :=
 ∀ a w, R B s a w → w.heap.size = N → wpAnyE P .any ops (fun a w => ∃ s, Q .normal s ∧ R B s a w) (fun j => Ew B (V j)) n L a w
def VM (P : Program) (B : Bs) (V : Nat → Nat → Prop) (ops : Array Oper) (Q : Exit → St' → Prop) (n : Nat) (L : Array Bool) (s : St') (N : Nat) : Prop :=
 ∀ a w, R B s a w → N ≤ w.heap.size → wpAnyE P .any ops (fun a w => ∃ s, Q .normal s ∧ R B s a w) (fun j => Ew B (V j)) n L a w
def OpVN (P : Program) (B : Bs) (W : Nat → Prop) (s : St') (o : Oper) (x : AV) (N : Nat) : Prop :=
 ∀ a w, R B s a w → w.heap.size = N → ∃ v, (∀ w', Chg (fun b => B.str b ∨ W b) w w' → (execOp a.eval o).run P w' = .ok (.value v) w') ∧ Rep w (Zn B s.hp w) x v
theorem OpVN.of {W : Nat → Prop} {x : AV} (h : OpV P B W s o x) : OpVN P B W s o x N := fun a w hr _ => h a w hr
theorem new_keep {W : Nat → Prop} (hB : B.Ok) {a : Act} {w w' : World} (hr : R B s a w) (hW : ∀ b, W b → w.heap.size ≤ b) (hc : Chg (fun b => B.str b ∨ W b) w w') {b : Nat} (hZ : Zn B s.hp w b) : w'.heap[b]? = w.heap[b]? := by
 refine hc.block b hZ.1 ?_
 rintro (h | h)
 ·obtain ⟨h1, h2⟩ := hB.str b h
  exact (hZ.2.2 (hB.low b h1)).2 h
 ·exact absurd hZ.1 (Nat.not_lt.2 (hW b h))
theorem OpVN.loadK_at {W : Nat → Prop} {x : Operand} {t m k : Nat} {F : Nat → AV} (ho : o.op = .load t x) (hB : B.Ok) (hW : ∀ b, W b → N ≤ b) (hag : ∀ w, (isAgg t).run P w = .ok true w) (hsz : ∀ w, (sizeOf t).run P w = .ok k w) (hx : evO s x = some (.at_ m F)) (hm : Nat.ble k m = true) : OpVN P B W s o (.agg (tab k F)) N := by
 intro a w hr hN
 have := hr.ev hx
 generalize hv : a.eval x = u at this
 have hm' := Nat.le_of_ble_eq_true hm
 cases this with
 | at_ m f' b off c e u hZ hb hc hr' =>
  refine ⟨.agg ((List.range k).map u).toArray, fun w' hcw => ?_, .agg _ _ (by simp [tab_len]) fun j hj => ?_⟩
  ·have hb' := (new_keep hB hr (fun b h => hN ▸ hW b h) hcw hZ).trans hb
   have hcell : ∀ j v, ((List.range k).map u)[j]? = some v → w'.cell? ((⟨b, off, none⟩ : Addr).add j) = some v := by
    intro j v hj
    simp only [List.getElem?_map, Option.map_eq_some_iff] at hj
    obtain ⟨q, hq, rfl⟩ := hj
    obtain ⟨hlt, hq'⟩ := List.getElem?_eq_some_iff.1 hq
    simp at hlt hq'
    subst hq'
    rw [Addr.add_lit]
    simpa [World.cell?, hb'] using hc j (by omega)
   have hl := run_loadCells_list (P := P) w' ⟨b, off, none⟩ _ hcell
   simp only [List.length_map, List.length_range] at hl
   simp only [execOp, ho, hv, Instr.loadAt, Instr.sureAddr, loadVar, hag, hsz, hl, Sem.run_bind, Sem.run_pure, Result.andThen_ok, if_true]
  ·rw [tab_len] at hj
   rw [tab_get]
   simp [hj]
   exact hr' j (by omega)
theorem VN.take {i : Nat} {x : AV} (hi : ops[i]? = some o) (hs : Region.noSelect ops = true) (hf : Region.free .any ops L i = true) (hr : (Region.ready .any ops L).contains i = true) (hg : o.guard = none) (hd : okd B.nt o.dst = true)
  (hv : OpVN P B (Wi V ops i) s o x N) (h : VN P B V ops Q n (L.setIfInBounds i true) (s.put o.dst x) N) : VN P B V ops Q (n + 1) L s N := fun a w hR hN => by
 obtain ⟨v, h1, h2⟩ := hv a w hR hN
 exact wpAnyE_first (F := Ew B (Wi V ops i)) Ew.tr Ew.rf (fun x => Ew.rf x) Wi.of hi (Region.noSelect_spec hs) n L a w (Region.free_spec hi hf) (by simpa using hr) (.inl ⟨by simp [Region.wanted, hg], h1⟩) (h _ _ (hR.put _ hd _ _ h2) hN)
theorem VM.take {i : Nat} {x : AV} (hi : ops[i]? = some o) (hs : Region.noSelect ops = true) (hf : Region.free .any ops L i = true) (hr : (Region.ready .any ops L).contains i = true) (hg : o.guard = none) (hd : okd B.nt o.dst = true)
  (hv : OpV P B (Wi V ops i) s o x) (h : VM P B V ops Q n (L.setIfInBounds i true) (s.put o.dst x) N) : VM P B V ops Q (n + 1) L s N := fun a w hR hN => by
 obtain ⟨v, h1, h2⟩ := hv a w hR
 exact wpAnyE_first (F := Ew B (Wi V ops i)) Ew.tr Ew.rf (fun x => Ew.rf x) Wi.of hi (Region.noSelect_spec hs) n L a w (Region.free_spec hi hf) (by simpa using hr) (.inl ⟨by simp [Region.wanted, hg], h1⟩) (h _ _ (hR.put _ hd _ _ h2) hN)
theorem VM.done (hr : Region.ready .any ops L = []) (h : Q .normal s) : VM P B V ops Q n L s N := fun a w hR _ => by
 cases n with
 | zero => exact ⟨hr, s, h, hR⟩
 | succ n => exact ⟨fun _ => ⟨s, h, hR⟩, by rw [hr]; simp⟩
def OpM (P : Program) (B : Bs) (W : Nat → Prop) (s : St') (o : Oper) (K : St' → Prop) (N : Nat) : Prop :=
 ∀ a w, R B s a w → N ≤ w.heap.size → ∀ (next : Act → World → Prop) (Qx : Exit → Act → World → Prop), (∀ s' a' w', K s' → R B s' a' w' → Ew B W w w' → next a' w') → o.wp P a w next Qx
theorem OpM.alloc {W : Nat → Prop} {e : TypeId} {z : Value} {cs : List AV} (ho : o.op = .alloc e) (hB : B.Ok) (hd : okd B.nt o.dst = true) (hz : ∀ w, (zeroValue e).run P w = .ok z w) (hcs : cellsOf (.v z) = cs)
  (hK : ∀ g, N ≤ g → K ((St'.mk s.sl (s.hp ++ [.box g ⟨cs, e, cs.length⟩]) s.k).put o.dst (.v (.pointer (some ⟨g, 0, none⟩))))) : OpM P B W s o K N := by
 subst hcs
 intro a w hr hN next Qx hn
 have h1 := hr.newBox hB _ e _ (Rep.cells (.v z) rfl)
 unfold Oper.wp
 simp only [execOp, ho, Instr.alloc, newVar, newRow, Sem.run_bind, hz, run_newObj_alloc, Result.andThen_ok, Sem.run_pure]
 exact hn _ _ _ (hK _ hN) (h1.put _ hd _ _ (.v _)) (.ofN ((Chg.refl _ _).alloc _))
def EachM (P : Program) (B : Bs) (V : Nat → Nat → Prop) (ops : Array Oper) (Q : Exit → St' → Prop) (n : Nat) (L : Array Bool) (s : St') (N : Nat) : List Nat → Prop
 | [] => True
 | i :: r => (∃ o, ops[i]? = some o ∧ o.guard = none ∧ OpM P B (V i) s o (fun s' => VM P B V ops Q n (L.setIfInBounds i true) s' N) N) ∧ EachM P B V ops Q n L s N r
theorem VM.all {rs : List Nat} (hr : Region.ready .any ops L = rs) (hne : rs ≠ []) (h : EachM P B V ops Q n L s N rs) : VM P B V ops Q (n + 1) L s N := fun a w hR hN => by
 refine ⟨fun h0 => absurd (hr ▸ h0) hne, fun i hi => ?_⟩
 rw [hr] at hi
 have key : ∀ rs, EachM P B V ops Q n L s N rs → i ∈ rs → ∃ o, ops[i]? = some o ∧ o.guard = none ∧ OpM P B (V i) s o (fun s' => VM P B V ops Q n (L.setIfInBounds i true) s' N) N := by
  intro rs
  induction rs with
  | nil => intro _ h; simp at h
  | cons j r ih =>
   intro h hi
   rcases List.mem_cons.1 hi with rfl | hi
   ·exact h.1
   ·exact ih h.2 hi
 obtain ⟨o, ho, hg, hop⟩ := key rs h hi
 unfold wpOp
 simp only [ho]
 have hwant : Region.wanted o (yielded ops a.tmps) = true := by simp [Region.wanted, hg]
 rw [if_pos hwant]
 exact .inl (hop a w hR hN _ _ fun s' a' w' k1 k2 k3 => ⟨k3, k1 a' w' k2 (Nat.le_trans hN k3.size)⟩)
theorem VM.le {s' : St'} (h : Le B s s') (k : VM P B V ops Q n L s' N) : VM P B V ops Q n L s N := fun a w hr => k a w (h a w hr)
end
end Go.Proofs.YtaaokimiadfidaaGreatDoor
namespace Go.Proofs.YtaaokimiadfidaaGreatDoor
open Go.RowKit
set_option linter.unusedVariables false
set_option linter.unusedSimpArgs false
abbrev avNd (x : NeedS) : AV := .agg (tab 2 (Sxc.cell x))
set_option maxRecDepth 100000 in
set_option maxHeartbeats 2000000 in
theorem insSort_need {l0 : List NeedS} {u : Value} {ty : TypeId} {F : FuncId} {cs : List AV} {c : NeedS → NeedS → Int} (hl : l0.length ≤ 1000000) (hcall : ∀ us w, (callFunc F us).run Tryz.prog w = .ok (.enter F us) w) (hF : ∀ x y, Spec Tryz.prog F ([avNd x, avNd y] ++ cs) (fun z => z = avI (c x y))) (ht : ∀ {a b d : NeedS}, decide (c a b < 0) = true → decide (c b d < 0) = true → decide (c a d < 0) = true) (ha : ∀ {a b : NeedS}, decide (c a b < 0) = true → decide (c b a < 0) = false) (hn : ∀ {a b d : NeedS}, decide (c b a < 0) = false → decide (c d b < 0) = false → decide (c d a < 0) = false) :
  SpecH Tryz.prog 327 [.v u, avI 0, avI l0.length, .fn F cs] [.row u l0.length 2 (rowL l0) ty] (fun y hp' => ∃ l, (l.Perm l0 ∧ OrdL (fun x y => decide (c x y < 0)) l) ∧ y = .tup [] ∧ hp' = [.row u l0.length 2 (rowL l) ty]) := by
 refine SpecH.of_VC Tryz.func327 rfl Tryz.ntmps327 (Nle rfl) fun w A hB => ?_
 have hnew : True := trivial
 refine VC.sr ?_
 refine VO.mv rfl rfl rfl rfl ?_
 refine VO.val rfl rfl (OpV.add rfl rfl rfl (by unfold fits; omega)) ?_
 refine VO.ma rfl rfl rfl rfl ?_
 refine VO.nil ?_
 refine VC.block ?_
 refine VC.loopK [(0, _), (1, _), (2, _), (3, _)] ⟨rfl, rfl, rfl, rfl, trivial⟩ ({z : Nat × List NeedS // InvO (fun x y => decide (c x y < 0)) l0 z.1 z.2 ∧ 0 < z.1 ∧ z.1 ≤ max 1 l0.length}) (fun (iZ : {z : Nat × List NeedS // InvO (fun x y => decide (c x y < 0)) l0 z.1 z.2 ∧ 0 < z.1 ∧ z.1 ≤ max 1 l0.length}) => match iZ with | ⟨⟨i, l⟩, hi, hi0, hin⟩ => [(8, avI (i : Int))]) (fun (iZ : {z : Nat × List NeedS // InvO (fun x y => decide (c x y < 0)) l0 z.1 z.2 ∧ 0 < z.1 ∧ z.1 ≤ max 1 l0.length}) => match iZ with | ⟨⟨i, l⟩, hi, hi0, hin⟩ => [.row u l0.length 2 (rowL l) ty]) (fun (iZ : {z : Nat × List NeedS // InvO (fun x y => decide (c x y < 0)) l0 z.1 z.2 ∧ 0 < z.1 ∧ z.1 ≤ max 1 l0.length}) => match iZ with | ⟨⟨i, l⟩, hi, hi0, hin⟩ => 0) (fun (iZ : {z : Nat × List NeedS // InvO (fun x y => decide (c x y < 0)) l0 z.1 z.2 ∧ 0 < z.1 ∧ z.1 ≤ max 1 l0.length}) => match iZ with | ⟨⟨i, l⟩, hi, hi0, hin⟩ => l0.length - i) ⟨(1, l0), InvO.one l0, Nat.one_pos, by show 1 ≤ _; omega⟩ (Le.mk hB [0] ⟨rfl, rfl, rfl, rfl, rfl, trivial⟩ rfl rfl (Nat.le_refl _)) ?_
 rintro ⟨⟨i, l⟩, hi, hi0, hin⟩
 show VC _ _ _ _ ⟨[(8, avI (i : Int))] ++ [(0, _), (1, _), (2, _), (3, _)], [.row u l0.length 2 (rowL l) ty], 0⟩
 simp only at hi hi0 hin
 have hll := hi.len
 refine VC.seq ?_
 refine VC.sr ?_
 refine VO.mv rfl rfl rfl rfl ?_
 refine VO.mv rfl rfl rfl rfl ?_
 refine VO.val rfl rfl (OpV.lss rfl rfl rfl) ?_
 refine VO.nil ?_
 refine VC.cond rfl (fun aH1b => ?_) (fun aH1b => ?_)
 ·have aH1 := aH1b
  try simp only [qqT, qqF, qqN, qqM, qqL, qqE] at aH1
  refine VC.skip ?_
  refine VC.seq ?_
  refine VC.block ?_
  refine VC.sr ?_
  refine VO.mv rfl rfl rfl rfl ?_
  refine VO.ma rfl rfl rfl rfl ?_
  refine VO.nil ?_
  refine VC.block ?_
  refine VC.asBox (i := 0) rfl (by omega) (fun g cap hu hcap hmx => ?_)
  subst hu
  refine VC.loopK [(0, _), (1, _), (2, _), (3, _), (8, _)] ⟨rfl, rfl, rfl, rfl, rfl, trivial⟩ ({z : Nat × List NeedS // InvI (fun x y => decide (c x y < 0)) l0 i z.1 z.2}) (fun (iZ : {z : Nat × List NeedS // InvI (fun x y => decide (c x y < 0)) l0 i z.1 z.2}) => match iZ with | ⟨⟨j, l2⟩, hI⟩ => [(9, avI (j : Int))]) (fun (iZ : {z : Nat × List NeedS // InvI (fun x y => decide (c x y < 0)) l0 i z.1 z.2}) => match iZ with | ⟨⟨j, l2⟩, hI⟩ => [.box g ⟨rowL l2, ty, cap * 2⟩]) (fun (iZ : {z : Nat × List NeedS // InvI (fun x y => decide (c x y < 0)) l0 i z.1 z.2}) => match iZ with | ⟨⟨j, l2⟩, hI⟩ => 0) (fun (iZ : {z : Nat × List NeedS // InvI (fun x y => decide (c x y < 0)) l0 i z.1 z.2}) => match iZ with | ⟨⟨j, l2⟩, hI⟩ => j) ⟨(i, l), hi.start (by omega)⟩ (Le.mk hB [0] ⟨rfl, rfl, rfl, rfl, rfl, rfl, trivial⟩ rfl rfl (Nat.le_refl _)) ?_
  rintro ⟨⟨j, l2⟩, hI⟩
  show VC _ _ _ _ ⟨[(9, avI (j : Int))] ++ [(0, _), (1, _), (2, _), (3, _), (8, _)], [.box g ⟨rowL l2, ty, cap * 2⟩], 0⟩
  simp only at hI
  obtain ⟨hlen2, hil, hji⟩ := hI.len
  refine VC.seq ?_
  refine VC.seq ?_
  refine VC.draw (fun _ => NoB) hB (by kernel_rfl) ?_
  refine VA.take (i := 0) rfl (by kernel_rfl) (by kernel_rfl) (by kernel_rfl) rfl rfl (OpV.move (.inl rfl) rfl) ?_
  refine VA.take (i := 1) rfl (by kernel_rfl) (by kernel_rfl) (by kernel_rfl) rfl rfl (OpV.move (.inl rfl) rfl) ?_
  refine VA.take (i := 2) rfl (by kernel_rfl) (by kernel_rfl) (by kernel_rfl) rfl rfl (OpV.gtr rfl rfl rfl) ?_
  refine VA.take (i := 3) rfl (by kernel_rfl) (by kernel_rfl) (by kernel_rfl) rfl rfl (OpV.move (.inl rfl) rfl) ?_
  refine VA.split (t := 21) rfl (fun aK2b => ?_) (fun aK2b => ?_)
  ·have aK2 := aK2b
   try simp only [qqT, qqF, qqN, qqM, qqL, qqE] at aK2
   refine VA.takeY (i := 4) rfl (by kernel_rfl) (by kernel_rfl) (by kernel_rfl) rfl rfl rfl rfl aK2b (OpV.move (.inl rfl) rfl) ?_
   refine VA.takeY (i := 5) rfl (by kernel_rfl) (by kernel_rfl) (by kernel_rfl) rfl rfl rfl rfl aK2b (OpV.move (.inl rfl) rfl) ?_
   refine VA.takeY (i := 6) rfl (by kernel_rfl) (by kernel_rfl) (by kernel_rfl) rfl rfl rfl rfl aK2b (OpV.move (.inl rfl) rfl) ?_
   refine VA.takeY (i := 7) rfl (by kernel_rfl) (by kernel_rfl) (by kernel_rfl) rfl rfl rfl rfl aK2b (OpV.indexAddr_q rfl Tryz.underlying77 Tryz.sizeOf96 rfl rfl rfl (by omega)) ?_
   refine VA.takeY (i := 8) rfl (by kernel_rfl) (by kernel_rfl) (by kernel_rfl) rfl rfl rfl rfl aK2b (OpV.loadK_own (i := 0) rfl hB Tryz.isAgg96 Tryz.sizeOf96 rfl rfl (rowL_cut rfl (by omega)) Wi.not0) ?_
   refine VA.takeY (i := 9) rfl (by kernel_rfl) (by kernel_rfl) (by kernel_rfl) rfl rfl rfl rfl aK2b (OpV.move (.inl rfl) rfl) ?_
   refine VA.takeY (i := 10) rfl (by kernel_rfl) (by kernel_rfl) (by kernel_rfl) rfl rfl rfl rfl aK2b (OpV.move (.inl rfl) rfl) ?_
   refine VA.takeY (i := 11) rfl (by kernel_rfl) (by kernel_rfl) (by kernel_rfl) rfl rfl rfl rfl aK2b (OpV.sub rfl rfl rfl (by unfold fits; omega)) ?_
   refine VA.takeY (i := 12) rfl (by kernel_rfl) (by kernel_rfl) (by kernel_rfl) rfl rfl rfl rfl aK2b (OpV.indexAddr_q rfl Tryz.underlying77 Tryz.sizeOf96 rfl rfl (show (j : Int) - 1 = ((j - 1 : Nat) : Int) by omega) (by omega)) ?_
   refine VA.takeY (i := 13) rfl (by kernel_rfl) (by kernel_rfl) (by kernel_rfl) rfl rfl rfl rfl aK2b (OpV.loadK_own (i := 0) rfl hB Tryz.isAgg96 Tryz.sizeOf96 rfl rfl (rowL_cut rfl (by omega)) Wi.not0) ?_
   refine VA.all (rs := [14]) (by kernel_rfl) (by decide) ?_
   refine ⟨⟨_, rfl, .inr ⟨_, _, _, rfl, rfl, (look_k rfl aK2b)⟩, ?_⟩, trivial⟩
   refine OpE.callF rfl hB rfl hcall rfl rfl (hF _ _) ?_
   rintro _ rfl
   refine VA.takeY (i := 15) rfl (by kernel_rfl) (by kernel_rfl) (by kernel_rfl) rfl rfl rfl rfl aK2b (OpV.lss rfl rfl rfl) ?_
   refine VA.take (i := 16) rfl (by kernel_rfl) (by kernel_rfl) (by kernel_rfl) rfl rfl (OpV.pickT rfl rfl rfl rfl aK2b) ?_
   refine VA.done (by kernel_rfl) ?_
   refine VC.cond rfl (fun hcb => ?_) (fun hcb => ?_)
   ·have hc := hcb
    try simp only [qqT, qqF, qqN, qqM, qqL, qqE] at hc
    refine VC.skip ?_
    refine VC.seq ?_
    refine VC.block ?_
    refine VC.draw (fun j b => j ∈ [15, 17] ∧ b = g) hB (by kernel_rfl) ?_
    refine VA.take (i := 0) rfl (by kernel_rfl) (by kernel_rfl) (by kernel_rfl) rfl rfl (OpV.move (.inl rfl) rfl) ?_
    refine VA.take (i := 1) rfl (by kernel_rfl) (by kernel_rfl) (by kernel_rfl) rfl rfl (OpV.move (.inl rfl) rfl) ?_
    refine VA.take (i := 2) rfl (by kernel_rfl) (by kernel_rfl) (by kernel_rfl) rfl rfl (OpV.move (.inl rfl) rfl) ?_
    refine VA.take (i := 3) rfl (by kernel_rfl) (by kernel_rfl) (by kernel_rfl) rfl rfl (OpV.move (.inl rfl) rfl) ?_
    refine VA.take (i := 4) rfl (by kernel_rfl) (by kernel_rfl) (by kernel_rfl) rfl rfl (OpV.sub rfl rfl rfl (by unfold fits; omega)) ?_
    refine VA.take (i := 5) rfl (by kernel_rfl) (by kernel_rfl) (by kernel_rfl) rfl rfl (OpV.move (.inl rfl) rfl) ?_
    refine VA.take (i := 6) rfl (by kernel_rfl) (by kernel_rfl) (by kernel_rfl) rfl rfl (OpV.move (.inl rfl) rfl) ?_
    refine VA.take (i := 7) rfl (by kernel_rfl) (by kernel_rfl) (by kernel_rfl) rfl rfl (OpV.sub rfl rfl rfl (by unfold fits; omega)) ?_
    refine VA.take (i := 8) rfl (by kernel_rfl) (by kernel_rfl) (by kernel_rfl) rfl rfl (OpV.indexAddr_q rfl Tryz.underlying77 Tryz.sizeOf96 rfl rfl (show (j : Int) - 1 = ((j - 1 : Nat) : Int) by omega) (by omega)) ?_
    refine VA.take (i := 9) rfl (by kernel_rfl) (by kernel_rfl) (by kernel_rfl) rfl rfl (OpV.loadK_own (i := 0) rfl hB Tryz.isAgg96 Tryz.sizeOf96 rfl rfl (rowL_cut rfl (by omega)) (Wi.notD (by kernel_rfl))) ?_
    refine VA.take (i := 10) rfl (by kernel_rfl) (by kernel_rfl) (by kernel_rfl) rfl rfl (OpV.move (.inl rfl) rfl) ?_
    refine VA.take (i := 11) rfl (by kernel_rfl) (by kernel_rfl) (by kernel_rfl) rfl rfl (OpV.move (.inl rfl) rfl) ?_
    refine VA.take (i := 12) rfl (by kernel_rfl) (by kernel_rfl) (by kernel_rfl) rfl rfl (OpV.indexAddr_q rfl Tryz.underlying77 Tryz.sizeOf96 rfl rfl rfl (by omega)) ?_
    refine VA.take (i := 13) rfl (by kernel_rfl) (by kernel_rfl) (by kernel_rfl) rfl rfl (OpV.loadK_own (i := 0) rfl hB Tryz.isAgg96 Tryz.sizeOf96 rfl rfl (rowL_cut rfl (by omega)) (Wi.notD (by kernel_rfl))) ?_
    refine VA.take (i := 14) rfl (by kernel_rfl) (by kernel_rfl) (by kernel_rfl) rfl rfl (OpV.indexAddr_q rfl Tryz.underlying77 Tryz.sizeOf96 rfl rfl rfl (by omega)) ?_
    refine VA.all (rs := [15]) (by kernel_rfl) (by decide) ?_
    refine ⟨⟨_, rfl, .inl rfl, ?_⟩, trivial⟩
    refine OpE.storeE (i := 0) rfl hB rfl Tryz.sizeOf96 rfl rfl rfl rfl rfl rfl (rowL_inE rfl (by omega)) (rowL_setAll (x := l2.getD (j - 1) default) rfl (by omega)) (by first | exact ⟨rfl, rfl⟩ | exact .inl ⟨rfl, rfl⟩ | exact .inr ⟨rfl, rfl⟩ | exact ⟨rfl, trivial⟩ | exact .inl ⟨rfl, trivial⟩ | exact .inr ⟨rfl, trivial⟩ | exact ⟨by decide, rfl⟩) ?_
    refine VA.take (i := 16) rfl (by kernel_rfl) (by kernel_rfl) (by kernel_rfl) rfl rfl (OpV.indexAddr_q rfl Tryz.underlying77 Tryz.sizeOf96 rfl rfl (show (j : Int) - 1 = ((j - 1 : Nat) : Int) by omega) (by omega)) ?_
    refine VA.all (rs := [17]) (by kernel_rfl) (by decide) ?_
    refine ⟨⟨_, rfl, .inl rfl, ?_⟩, trivial⟩
    refine OpE.storeE (i := 0) rfl hB rfl Tryz.sizeOf96 rfl rfl rfl rfl rfl rfl (rowL_inE rfl (by rw [List.length_set]; omega)) (rowL_setAll (x := l2.getD j default) rfl (by rw [List.length_set]; omega)) (by first | exact ⟨rfl, rfl⟩ | exact .inl ⟨rfl, rfl⟩ | exact .inr ⟨rfl, rfl⟩ | exact ⟨rfl, trivial⟩ | exact .inl ⟨rfl, trivial⟩ | exact .inr ⟨rfl, trivial⟩ | exact ⟨by decide, rfl⟩) ?_
    refine VA.done (by kernel_rfl) ?_
    refine VC.region ?_
    refine VO.mv rfl rfl rfl rfl ?_
    refine VO.val rfl rfl (OpV.sub rfl rfl rfl (by unfold fits; omega)) ?_
    refine VO.ma rfl rfl rfl rfl ?_
    refine VO.nil ?_
    exact Exists.intro (⟨(j - 1, (l2.set j (l2.getD (j - 1) default)).set (j - 1) (l2.getD j default)), hI.next ht (by omega) (decide_eq_true hc)⟩) (And.intro (Le.mk hB [0] ⟨(by rw [show ((j - 1 : Nat) : Int) = (j : Int) - 1 by omega]; rfl), rfl, rfl, rfl, rfl, rfl, trivial⟩ rfl rfl (Nat.le_refl _)) (by first | omega | (show _ < _; omega) | (simp only []; omega)))
   ·have hc := hcb
    try simp only [qqT, qqF, qqN, qqM, qqL, qqE] at hc
    have hex : j = 0 ∨ decide (c (l2.getD j default) (l2.getD (j - 1) default) < 0) = false := by first | exact .inl (by omega) | exact .inr (decide_eq_false (by omega))
    refine VC.le _ (Le.boxRow (i := 0) (n := l0.length) rfl (by rw [rowL_len, hlen2]; rfl) hcap hmx) ?_
    refine VC.exit ?_
    refine VC.region ?_
    refine VO.mv rfl rfl rfl rfl ?_
    refine VO.val rfl rfl (OpV.add rfl rfl rfl (by unfold fits; omega)) ?_
    refine VO.ma rfl rfl rfl rfl ?_
    refine VO.nil ?_
    exact Exists.intro (⟨(i + 1, l2), hI.done ha hn hex, Nat.succ_pos _, by show i + 1 ≤ _; omega⟩) (And.intro (Le.mk hB [0] ⟨rfl, rfl, rfl, rfl, rfl, trivial⟩ rfl (by first | rfl | assumption) (Nat.le_refl _)) (by first | omega | (show _ < _; omega) | (simp only []; omega)))
  ·have aK2 := aK2b
   try simp only [qqT, qqF, qqN, qqM, qqL, qqE] at aK2
   refine VA.takeX (i := 4) rfl (by kernel_rfl) (by kernel_rfl) (by kernel_rfl) rfl rfl rfl rfl aK2b ?_
   refine VA.takeX (i := 5) rfl (by kernel_rfl) (by kernel_rfl) (by kernel_rfl) rfl rfl rfl rfl aK2b ?_
   refine VA.takeX (i := 6) rfl (by kernel_rfl) (by kernel_rfl) (by kernel_rfl) rfl rfl rfl rfl aK2b ?_
   refine VA.takeX (i := 7) rfl (by kernel_rfl) (by kernel_rfl) (by kernel_rfl) rfl rfl rfl rfl aK2b ?_
   refine VA.takeX (i := 8) rfl (by kernel_rfl) (by kernel_rfl) (by kernel_rfl) rfl rfl rfl rfl aK2b ?_
   refine VA.takeX (i := 9) rfl (by kernel_rfl) (by kernel_rfl) (by kernel_rfl) rfl rfl rfl rfl aK2b ?_
   refine VA.takeX (i := 10) rfl (by kernel_rfl) (by kernel_rfl) (by kernel_rfl) rfl rfl rfl rfl aK2b ?_
   refine VA.takeX (i := 11) rfl (by kernel_rfl) (by kernel_rfl) (by kernel_rfl) rfl rfl rfl rfl aK2b ?_
   refine VA.takeX (i := 12) rfl (by kernel_rfl) (by kernel_rfl) (by kernel_rfl) rfl rfl rfl rfl aK2b ?_
   refine VA.takeX (i := 13) rfl (by kernel_rfl) (by kernel_rfl) (by kernel_rfl) rfl rfl rfl rfl aK2b ?_
   refine VA.takeX (i := 14) rfl (by kernel_rfl) (by kernel_rfl) (by kernel_rfl) rfl rfl rfl rfl aK2b ?_
   refine VA.takeX (i := 15) rfl (by kernel_rfl) (by kernel_rfl) (by kernel_rfl) rfl rfl rfl rfl aK2b ?_
   refine VA.take (i := 16) rfl (by kernel_rfl) (by kernel_rfl) (by kernel_rfl) rfl rfl (OpV.pickF rfl rfl rfl rfl aK2b) ?_
   refine VA.done (by kernel_rfl) ?_
   refine VC.condF rfl rfl ?_
   have hex : j = 0 ∨ decide (c (l2.getD j default) (l2.getD (j - 1) default) < 0) = false := by first | exact .inl (by omega) | exact .inr (decide_eq_false (by omega))
   refine VC.le _ (Le.boxRow (i := 0) (n := l0.length) rfl (by rw [rowL_len, hlen2]; rfl) hcap hmx) ?_
   refine VC.exit ?_
   refine VC.region ?_
   refine VO.mv rfl rfl rfl rfl ?_
   refine VO.val rfl rfl (OpV.add rfl rfl rfl (by unfold fits; omega)) ?_
   refine VO.ma rfl rfl rfl rfl ?_
   refine VO.nil ?_
   exact Exists.intro (⟨(i + 1, l2), hI.done ha hn hex, Nat.succ_pos _, by show i + 1 ≤ _; omega⟩) (And.intro (Le.mk hB [0] ⟨rfl, rfl, rfl, rfl, rfl, trivial⟩ rfl (by first | rfl | assumption) (Nat.le_refl _)) (by first | omega | (show _ < _; omega) | (simp only []; omega)))
 ·have aH1 := aH1b
  try simp only [qqT, qqF, qqN, qqM, qqL, qqE] at aH1
  refine VC.exit ?_
  exact Exists.intro _ (And.intro (RetV.none Tryz.results327) (⟨l, hi.all (by omega), rfl, rfl⟩))
set_option maxRecDepth 100000 in
theorem pdqSort_need {l0 : List NeedS} {u : Value} {ty : TypeId} {F : FuncId} {cs : List AV} {c : NeedS → NeedS → Int} {k : Int} (hl : l0.length ≤ 12) (hcall : ∀ us w, (callFunc F us).run Tryz.prog w = .ok (.enter F us) w) (hF : ∀ x y, Spec Tryz.prog F ([avNd x, avNd y] ++ cs) (fun z => z = avI (c x y))) (ht : ∀ {a b d : NeedS}, decide (c a b < 0) = true → decide (c b d < 0) = true → decide (c a d < 0) = true) (ha : ∀ {a b : NeedS}, decide (c a b < 0) = true → decide (c b a < 0) = false) (hn : ∀ {a b d : NeedS}, decide (c b a < 0) = false → decide (c d b < 0) = false → decide (c d a < 0) = false) :
  SpecH Tryz.prog 268 [.v u, avI 0, avI l0.length, avI k, .fn F cs] [.row u l0.length 2 (rowL l0) ty] (fun y hp' => ∃ l, (l.Perm l0 ∧ OrdL (fun x y => decide (c x y < 0)) l) ∧ y = .tup [] ∧ hp' = [.row u l0.length 2 (rowL l) ty]) := by
 refine SpecH.of_VC Tryz.func268 rfl Tryz.ntmps268 (Nle rfl) fun w A hB => ?_
 have hnew : True := trivial
 refine VC.sr ?_
 refine VO.ma rfl rfl rfl rfl ?_
 refine VO.nil ?_
 refine VC.sr ?_
 refine VO.ma rfl rfl rfl rfl ?_
 refine VO.nil ?_
 refine VC.block ?_
 refine VC.loopK [(0, _), (4, _)] ⟨rfl, rfl, trivial⟩ ({z : Nat // z = 0}) (fun (iZ : {z : Nat // z = 0}) => match iZ with | ⟨z, hz⟩ => [(1, avI 0), (2, avI l0.length), (3, avI k), (10, avB true), (11, avB true)]) (fun (iZ : {z : Nat // z = 0}) => match iZ with | ⟨z, hz⟩ => [.row u l0.length 2 (rowL l0) ty]) (fun (iZ : {z : Nat // z = 0}) => match iZ with | ⟨z, hz⟩ => 0) (fun (iZ : {z : Nat // z = 0}) => match iZ with | ⟨z, hz⟩ => z) ⟨0, rfl⟩ (Le.mk hB [0] ⟨rfl, rfl, rfl, rfl, rfl, rfl, rfl, trivial⟩ rfl rfl (Nat.le_refl _)) ?_
 rintro ⟨z, hz⟩
 show VC _ _ _ _ ⟨[(1, avI 0), (2, avI l0.length), (3, avI k), (10, avB true), (11, avB true)] ++ [(0, _), (4, _)], [.row u l0.length 2 (rowL l0) ty], 0⟩
 refine VC.block ?_
 refine VC.sr ?_
 refine VO.mv rfl rfl rfl rfl ?_
 refine VO.mv rfl rfl rfl rfl ?_
 refine VO.val rfl rfl (OpV.sub rfl rfl rfl (by unfold fits; omega)) ?_
 refine VO.ma rfl rfl rfl rfl ?_
 refine VO.nil ?_
 refine VC.seq ?_
 refine VC.sr ?_
 refine VO.mv rfl rfl rfl rfl ?_
 refine VO.val rfl rfl (OpV.leq rfl rfl rfl) ?_
 refine VO.nil ?_
 refine VC.cond rfl (fun aH1b => ?_) (fun aH1b => ?_)
 ·have aH1 := aH1b
  try simp only [qqT, qqF, qqN, qqM, qqL, qqE] at aH1
  refine VC.sr ?_
  refine VO.mv rfl rfl rfl rfl ?_
  refine VO.mv rfl rfl rfl rfl ?_
  refine VO.mv rfl rfl rfl rfl ?_
  refine VO.mv rfl rfl rfl rfl ?_
  refine VO.op rfl (OpE.callH0 rfl hB rfl Tryz.call327 rfl rfl (insSort_need (by omega) hcall hF ht ha hn) (List.Perm.refl _) (fun _ _ => trivial) ?_)
  rintro _ _ ⟨l, hpl, rfl, rfl⟩
  refine VO.nil ?_
  refine VC.ret ?_
  exact Exists.intro _ (And.intro (RetV.none Tryz.results268) (⟨l, hpl, rfl, rfl⟩))
 ·have aH1 := aH1b
  try simp only [qqT, qqF, qqN, qqM, qqL, qqE] at aH1
  exact VC.absurd (by omega)
set_option maxRecDepth 100000 in
theorem sortFunc_need {l0 : List NeedS} {u : Value} {ty : TypeId} {F : FuncId} {cs : List AV} {c : NeedS → NeedS → Int} (hl : l0.length ≤ 12) (hcall : ∀ us w, (callFunc F us).run Tryz.prog w = .ok (.enter F us) w) (hF : ∀ x y, Spec Tryz.prog F ([avNd x, avNd y] ++ cs) (fun z => z = avI (c x y))) (ht : ∀ {a b d : NeedS}, decide (c a b < 0) = true → decide (c b d < 0) = true → decide (c a d < 0) = true) (ha : ∀ {a b : NeedS}, decide (c a b < 0) = true → decide (c b a < 0) = false) (hn : ∀ {a b d : NeedS}, decide (c b a < 0) = false → decide (c d b < 0) = false → decide (c d a < 0) = false) :
  SpecH Tryz.prog 154 [.v u, .fn F cs] [.row u l0.length 2 (rowL l0) ty] (fun y hp' => ∃ l, (l.Perm l0 ∧ OrdL (fun x y => decide (c x y < 0)) l) ∧ y = .tup [] ∧ hp' = [.row u l0.length 2 (rowL l) ty]) := by
 refine SpecH.of_VC Tryz.func154 rfl Tryz.ntmps154 (Nle rfl) fun w A hB => ?_
 have hnew : True := trivial
 refine VC.sr ?_
 refine VO.mv rfl rfl rfl rfl ?_
 refine VO.val rfl rfl (OpV.len_row (i := 0) rfl Tryz.underlying77 rfl rfl) ?_
 refine VO.ma rfl rfl rfl rfl ?_
 refine VO.nil ?_
 refine VC.region ?_
 refine VO.mv rfl rfl rfl rfl ?_
 refine VO.mv rfl rfl rfl rfl ?_
 refine VO.mv rfl rfl rfl rfl ?_
 refine VO.val rfl rfl (OpV.conv rfl Tryz.underlying3 Tryz.underlying191 rfl (IntWalk.u64_in _ (by omega))) ?_
 refine VO.op rfl (OpE.call rfl hB rfl Tryz.call143 rfl (SpecN.spec (bits_Len_S (x := (l0.length : Int)) (by omega) (by omega))) ?_)
 rintro _ ⟨k, rfl⟩
 refine VO.mv rfl rfl rfl rfl ?_
 refine VO.op rfl (OpE.callH0 rfl hB rfl Tryz.call268 rfl rfl (pdqSort_need hl hcall hF ht ha hn) (List.Perm.refl _) (fun _ _ => trivial) ?_)
 rintro _ _ ⟨l, hpl, rfl, rfl⟩
 refine VO.nil ?_
 exact Exists.intro _ (And.intro (RetV.none Tryz.results154) (⟨l, hpl, rfl, rfl⟩))
end Go.Proofs.YtaaokimiadfidaaGreatDoor
namespace Go.Proofs.YtaaokimiadfidaaGreatDoor
open Go.RowKit
set_option linter.unusedVariables false
set_option linter.unusedSimpArgs false
theorem SpecH.fnv {P : Program} {F G : FuncId} {x : AV} {hp : List Ent} {Q : AV → List Ent → Prop} (h : SpecH P F [x, .fn G []] hp Q) : SpecH P F [x, .v (.func (.func G) #[] #[])] hp Q := fun w A us ha h2 h3 h4 => by
 refine h w A us ⟨ha.1, fun j hj => ?_⟩ h2 h3 h4
 match j, hj with
 | 0, hj => exact ha.2 0 (by simp)
 | 1, hj =>
  have h1 := ha.2 1 (by simp)
  have e : us.getD 1 undef = .func (.func G) #[] #[] := h1.eq_v
  show Rep w _ (.fn G []) (us.getD 1 undef)
  rw [e]
  exact .fn G [] #[] rfl fun j hj => by simp at hj
def eqNd (x y : NeedS) : Bool := sEq x.key y.key && (decide (x.count = y.count) && true)
theorem eqNd_self (x : NeedS) : eqNd x x = true := by simp [eqNd, sEq_refl]
set_option maxRecDepth 100000 in
theorem slices_Equal_need {xs ys : List NeedS} (hl : xs.length ≤ 1000000000) (hl' : ys.length ≤ 1000000000) :
  SpecN Tryz.prog 60 [avL xs, avL ys] (fun y => y = avB (eqLs eqNd xs ys)) := by
 refine SpecN.of_VCN Tryz.func60 rfl Tryz.ntmps60 (Nle rfl) fun w A hB => ?_
 have hnew : True := trivial
 refine VC.sr ?_
 refine VO.ma rfl rfl rfl rfl ?_
 refine VO.nil ?_
 refine VC.seq ?_
 refine VC.sr ?_
 refine VO.mv rfl rfl rfl rfl ?_
 refine VO.val rfl rfl (OpV.len_im rfl Tryz.underlying77 rfl) ?_
 refine VO.mv rfl rfl rfl rfl ?_
 refine VO.val rfl rfl (OpV.len_im rfl Tryz.underlying77 rfl) ?_
 refine VO.val rfl rfl (OpV.neq rfl rfl rfl) ?_
 refine VO.nil ?_
 refine VC.cond rfl (fun aH1b => ?_) (fun aH1b => ?_)
 ·have aH1 := aH1b
  try simp only [qqT, qqF, qqN, qqM, qqL, qqE] at aH1
  refine VC.sr ?_
  refine VO.ma rfl rfl rfl rfl ?_
  refine VO.nil ?_
  refine VC.ret ?_
  exact Exists.intro _ (And.intro (RetN.one Tryz.results60 (ResN.v rfl)) (by first | rw [eqLs_len (by omega)] | rw [eqLs_at (d := default) (q := q) (by omega) (not_true_false h2b)] | rw [eqLs_all (d := default) (by omega) (fun j hj => hn j (by omega))]))
 ·have aH1 := aH1b
  try simp only [qqT, qqF, qqN, qqM, qqL, qqE] at aH1
  refine VC.skip ?_
  refine VC.seq ?_
  refine VC.sr ?_
  refine VO.mv rfl rfl rfl rfl ?_
  refine VO.val rfl rfl (OpV.len_im rfl Tryz.underlying77 rfl) ?_
  refine VO.mv rfl rfl rfl rfl ?_
  refine VO.nil ?_
  refine VC.block ?_
  refine VC.loopK [(0, _), (1, _), (12, _)] ⟨rfl, rfl, rfl, trivial⟩ ({q : Nat // q ≤ xs.length ∧ ∀ j, j < q → eqNd (xs.getD j default) (ys.getD j default) = true}) (fun (iZ : {q : Nat // q ≤ xs.length ∧ ∀ j, j < q → eqNd (xs.getD j default) (ys.getD j default) = true}) => match iZ with | ⟨q, hq, hn⟩ => [(13, avI (q : Int))]) (fun (iZ : {q : Nat // q ≤ xs.length ∧ ∀ j, j < q → eqNd (xs.getD j default) (ys.getD j default) = true}) => match iZ with | ⟨q, hq, hn⟩ => []) (fun (iZ : {q : Nat // q ≤ xs.length ∧ ∀ j, j < q → eqNd (xs.getD j default) (ys.getD j default) = true}) => match iZ with | ⟨q, hq, hn⟩ => 0) (fun (iZ : {q : Nat // q ≤ xs.length ∧ ∀ j, j < q → eqNd (xs.getD j default) (ys.getD j default) = true}) => match iZ with | ⟨q, hq, hn⟩ => xs.length - q) ⟨0, Nat.zero_le _, fun j hj => absurd hj (Nat.not_lt_zero j)⟩ (Le.mk hB [] ⟨rfl, rfl, rfl, rfl, trivial⟩ rfl rfl (Nat.le_refl _)) ?_
  rintro ⟨q, hq, hn⟩
  show VC _ _ _ _ ⟨[(13, avI (q : Int))] ++ [(0, _), (1, _), (12, _)], [], 0⟩
  refine VC.sr ?_
  refine VO.val rfl rfl (OpV.lss rfl rfl rfl) ?_
  refine VO.nil ?_
  refine VC.seq ?_
  refine VC.cond rfl (fun aH2b => ?_) (fun aH2b => ?_)
  ·have aH2 := aH2b
   try simp only [qqT, qqF, qqN, qqM, qqL, qqE] at aH2
   refine VC.skip ?_
   refine VC.seq ?_
   refine VC.block ?_
   refine VC.sr ?_
   refine VO.mv rfl rfl rfl rfl ?_
   refine VO.ma rfl rfl rfl rfl ?_
   refine VO.nil ?_
   refine VC.seq ?_
   refine VC.draw (fun _ => NoB) hB (by kernel_rfl) ?_
   refine VA.take (i := 0) rfl (by kernel_rfl) (by kernel_rfl) (by kernel_rfl) rfl rfl (OpV.move (.inl rfl) rfl) ?_
   refine VA.take (i := 1) rfl (by kernel_rfl) (by kernel_rfl) (by kernel_rfl) rfl rfl (OpV.move (.inl rfl) rfl) ?_
   refine VA.take (i := 2) rfl (by kernel_rfl) (by kernel_rfl) (by kernel_rfl) rfl rfl (OpV.indexAddr_E rfl Tryz.underlying77 Tryz.sizeOf96 rfl rfl rfl (by omega)) ?_
   refine VA.take (i := 3) rfl (by kernel_rfl) (by kernel_rfl) (by kernel_rfl) rfl rfl (OpV.loadK_at rfl hB OutW.wi0 Tryz.isAgg96 Tryz.sizeOf96 rfl rfl) ?_
   refine VA.take (i := 4) rfl (by kernel_rfl) (by kernel_rfl) (by kernel_rfl) rfl rfl (OpV.move (.inl rfl) rfl) ?_
   refine VA.take (i := 5) rfl (by kernel_rfl) (by kernel_rfl) (by kernel_rfl) rfl rfl (OpV.move (.inl rfl) rfl) ?_
   refine VA.take (i := 6) rfl (by kernel_rfl) (by kernel_rfl) (by kernel_rfl) rfl rfl (OpV.indexAddr_E rfl Tryz.underlying77 Tryz.sizeOf96 rfl rfl rfl (by omega)) ?_
   refine VA.take (i := 7) rfl (by kernel_rfl) (by kernel_rfl) (by kernel_rfl) rfl rfl (OpV.loadK_at rfl hB OutW.wi0 Tryz.isAgg96 Tryz.sizeOf96 rfl rfl) ?_
   refine VA.take (i := 8) rfl (by kernel_rfl) (by kernel_rfl) (by kernel_rfl) rfl rfl (OpV.aneq rfl Tryz.underlying96 (by kernel_rfl) (by kernel_rfl) rfl rfl (EqFs.str Tryz.underlying9 Tryz.isAgg9 rfl (by decide) (EqFs.int Tryz.underlying3 Tryz.isAgg3 rfl (by decide) (EqFs.nil _)))) ?_
   refine VA.done (by kernel_rfl) ?_
   refine VC.cond rfl (fun h2b => ?_) (fun h2b => ?_)
   ·have h2 := h2b
    try simp only [qqT, qqF, qqN, qqM, qqL, qqE] at h2
    refine VC.sr ?_
    refine VO.ma rfl rfl rfl rfl ?_
    refine VO.nil ?_
    refine VC.ret ?_
    exact Exists.intro _ (And.intro (RetN.one Tryz.results60 (ResN.v rfl)) (by first | rw [eqLs_len (by omega)] | rw [eqLs_at (d := default) (q := q) (by omega) (not_true_false h2b)] | rw [eqLs_all (d := default) (by omega) (fun j hj => hn j (by omega))]))
   ·have h2 := h2b
    try simp only [qqT, qqF, qqN, qqM, qqL, qqE] at h2
    refine VC.skip ?_
    refine VC.region ?_
    refine VO.val rfl rfl (OpV.add rfl rfl rfl (by unfold fits; omega)) ?_
    refine VO.mv rfl rfl rfl rfl ?_
    refine VO.nil ?_
    exact Exists.intro (⟨q + 1, by omega, lt_succ_cases hn (not_false_true h2b)⟩) (And.intro (Le.mk hB [] ⟨rfl, rfl, rfl, rfl, trivial⟩ rfl rfl (Nat.le_refl _)) (by first | omega | (show _ < _; omega) | (simp only []; omega)))
  ·have aH2 := aH2b
   try simp only [qqT, qqF, qqN, qqM, qqL, qqE] at aH2
   refine VC.exit ?_
   refine VC.sr ?_
   refine VO.ma rfl rfl rfl rfl ?_
   refine VO.nil ?_
   refine VC.ret ?_
   exact Exists.intro _ (And.intro (RetN.one Tryz.results60 (ResN.v rfl)) (by first | rw [eqLs_len (by omega)] | rw [eqLs_at (d := default) (q := q) (by omega) (not_true_false h2b)] | rw [eqLs_all (d := default) (by omega) (fun j hj => hn j (by omega))]))






set_option maxRecDepth 100000 in
theorem rf_needsOf1 {x z : NeedS}  :
  SpecN Tryz.prog 273 [avNd x, avNd z] (fun y => y = avI (cmpB x.key z.key)) := by
 refine SpecN.of_VCN Tryz.func273 rfl Tryz.ntmps273 (Nle rfl) fun w A hB => ?_
 have hnew : True := trivial
 refine VC.sr ?_
 refine VO.op rfl (OpE.box rfl hB rfl rfl rfl ?_)
 intro g2
 refine VO.op rfl (OpE.box rfl hB rfl rfl rfl ?_)
 intro g3
 refine VO.ma rfl rfl rfl rfl ?_
 refine VO.nil ?_
 refine VC.sr ?_
 refine VO.val rfl rfl (OpV.fieldAddrO 0 rfl Tryz.underlying96 rfl rfl Tryz.sizeOf9 rfl) ?_
 refine VO.val rfl rfl (OpV.load_own (i := 0) rfl hB Tryz.isAgg9 rfl rfl rfl (fun h => h)) ?_
 refine VO.val rfl rfl (OpV.fieldAddrO 0 rfl Tryz.underlying96 rfl rfl Tryz.sizeOf9 rfl) ?_
 refine VO.val rfl rfl (OpV.load_own (i := 1) rfl hB Tryz.isAgg9 rfl rfl rfl (fun h => h)) ?_
 refine VO.op rfl (OpE.call rfl hB rfl Tryz.call150 rfl (SpecN.spec (strings_Compare_S)) ?_)
 rintro _ rfl
 refine VO.ma rfl rfl rfl rfl ?_
 refine VO.nil ?_
 refine VC.ret ?_
 exact Exists.intro _ (And.intro (RetN.one Tryz.results273 (ResN.v rfl)) (rfl))
end Go.Proofs.YtaaokimiadfidaaGreatDoor
namespace Go.Proofs.YtaaokimiadfidaaGreatDoor
open Go.RowKit
set_option linter.unusedVariables false
set_option linter.unusedSimpArgs false
set_option maxRecDepth 100000 in
theorem slices_IndexFunc_or {xs : List OrdrS} {F : FuncId} {cs : List AV} {p : OrdrS → Bool} (hl : xs.length ≤ 1000000000) (hcall : ∀ us w, (callFunc F us).run Tryz.prog w = .ok (.enter F us) w) (hF : ∀ x, Spec Tryz.prog F ([avT x] ++ cs) (fun y => y = avB (p x))) :
  SpecN Tryz.prog 160 [avL xs, .fn F cs] (fun y => y = avI (fidx p xs)) := by
 refine SpecN.of_VCN Tryz.func160 rfl Tryz.ntmps160 (Nle rfl) fun w A hB => ?_
 have hnew : True := trivial
 refine VC.sr ?_
 refine VO.ma rfl rfl rfl rfl ?_
 refine VO.nil ?_
 refine VC.seq ?_
 refine VC.sr ?_
 refine VO.mv rfl rfl rfl rfl ?_
 refine VO.val rfl rfl (OpV.len_im rfl Tryz.underlying75 rfl) ?_
 refine VO.mv rfl rfl rfl rfl ?_
 refine VO.nil ?_
 refine VC.block ?_
 refine VC.loopK [(0, _), (1, _), (7, _)] ⟨rfl, rfl, rfl, trivial⟩ ({q : Nat // q ≤ xs.length ∧ ∀ j, j < q → p (xs.getD j default) = false}) (fun (iZ : {q : Nat // q ≤ xs.length ∧ ∀ j, j < q → p (xs.getD j default) = false}) => match iZ with | ⟨q, hq, hn⟩ => [(8, avI (q : Int))]) (fun (iZ : {q : Nat // q ≤ xs.length ∧ ∀ j, j < q → p (xs.getD j default) = false}) => match iZ with | ⟨q, hq, hn⟩ => []) (fun (iZ : {q : Nat // q ≤ xs.length ∧ ∀ j, j < q → p (xs.getD j default) = false}) => match iZ with | ⟨q, hq, hn⟩ => 0) (fun (iZ : {q : Nat // q ≤ xs.length ∧ ∀ j, j < q → p (xs.getD j default) = false}) => match iZ with | ⟨q, hq, hn⟩ => xs.length - q) ⟨0, Nat.zero_le _, fun j hj => absurd hj (Nat.not_lt_zero j)⟩ (Le.mk hB [] ⟨rfl, rfl, rfl, rfl, trivial⟩ rfl rfl (Nat.le_refl _)) ?_
 rintro ⟨q, hq, hn⟩
 show VC _ _ _ _ ⟨[(8, avI (q : Int))] ++ [(0, _), (1, _), (7, _)], [], 0⟩
 refine VC.sr ?_
 refine VO.val rfl rfl (OpV.lss rfl rfl rfl) ?_
 refine VO.nil ?_
 refine VC.seq ?_
 refine VC.cond rfl (fun aH1b => ?_) (fun aH1b => ?_)
 ·have aH1 := aH1b
  try simp only [qqT, qqF, qqN, qqM, qqL, qqE] at aH1
  refine VC.skip ?_
  refine VC.seq ?_
  refine VC.block ?_
  refine VC.sr ?_
  refine VO.mv rfl rfl rfl rfl ?_
  refine VO.ma rfl rfl rfl rfl ?_
  refine VO.nil ?_
  refine VC.sr ?_
  refine VO.mv rfl rfl rfl rfl ?_
  refine VO.mv rfl rfl rfl rfl ?_
  refine VO.mv rfl rfl rfl rfl ?_
  refine VO.val rfl rfl (OpV.indexAddr_E rfl Tryz.underlying75 Tryz.sizeOf89 rfl rfl rfl (by omega)) ?_
  refine VO.val rfl rfl (OpV.loadK_at rfl hB OutW.no Tryz.isAgg89 Tryz.sizeOf89 rfl rfl) ?_
  refine VO.op rfl (OpE.callF rfl hB rfl hcall rfl rfl (hF _) ?_)
  rintro _ rfl
  refine VO.nil ?_
  refine VC.cond rfl (fun aH2b => ?_) (fun aH2b => ?_)
  ·have aH2 := aH2b
   try simp only [qqT, qqF, qqN, qqM, qqL, qqE] at aH2
   refine VC.sr ?_
   refine VO.mv rfl rfl rfl rfl ?_
   refine VO.ma rfl rfl rfl rfl ?_
   refine VO.nil ?_
   refine VC.ret ?_
   exact Exists.intro _ (And.intro (RetN.one Tryz.results160 (ResN.v rfl)) (by first | (rw [fidx_found (d := default) (q := q) (by omega) hn (by assumption)]) | (rw [fidx_none (d := default) (fun j hj => hn j (by omega))])))
  ·have aH2 := aH2b
   try simp only [qqT, qqF, qqN, qqM, qqL, qqE] at aH2
   refine VC.skip ?_
   refine VC.region ?_
   refine VO.val rfl rfl (OpV.add rfl rfl rfl (by unfold fits; omega)) ?_
   refine VO.mv rfl rfl rfl rfl ?_
   refine VO.nil ?_
   exact Exists.intro (⟨q + 1, by omega, lt_succ_cases hn ((by assumption))⟩) (And.intro (Le.mk hB [] ⟨rfl, rfl, rfl, rfl, trivial⟩ rfl rfl (Nat.le_refl _)) (by first | omega | (show _ < _; omega) | (simp only []; omega)))
 ·have aH1 := aH1b
  try simp only [qqT, qqF, qqN, qqM, qqL, qqE] at aH1
  refine VC.exit ?_
  refine VC.sr ?_
  refine VO.ma rfl rfl rfl rfl ?_
  refine VO.nil ?_
  refine VC.ret ?_
  exact Exists.intro _ (And.intro (RetN.one Tryz.results160 (ResN.v rfl)) (by first | (rw [fidx_found (d := default) (q := q) (by omega) hn (by assumption)]) | (rw [fidx_none (d := default) (fun j hj => hn j (by omega))])))


section
variable (p : List PaceS) (o : List OrdrS) (l : List Int) (s e : Int) (x : OrdrS)
end
section
variable {p : List PaceS} {o : List OrdrS} {l : List Int} {s e : Int} {x : OrdrS}
end
end Go.Proofs.YtaaokimiadfidaaGreatDoor
namespace Go.Proofs.YtaaokimiadfidaaGreatDoor
open Go.RowKit
set_option linter.unusedVariables false
set_option linter.unusedSimpArgs false
structure SmN (l : List NeedS) : Prop where
 len : l.length ≤ 1000000
 key : ∀ i, (l.getD i default).key.size ≤ 1000000
def stkE (p : List PaceS) (o : List OrdrS) (st : List NeedS) : Int := if bothF p o ≠ 0 then bothF p o else needsF st 0 1000000000
theorem stkE_1 {p : List PaceS} {o : List OrdrS} {st : List NeedS} (h : bothF p o ≠ 0) : stkE p o st = bothF p o := by rw [stkE, if_pos h]
theorem stkE_2 {p : List PaceS} {o : List OrdrS} {st : List NeedS} (h : bothF p o = 0) : stkE p o st = needsF st 0 1000000000 := by rw [stkE, if_neg (by omega)]
theorem stk_ok {p : List PaceS} {o : List OrdrS} {st : List NeedS} (h : stkE p o st = 0) : bothF p o = 0 ∧ needsF st 0 1000000000 = 0 := by
 unfold stkE at h
 split at h
 ·contradiction
 ·rename_i h1; exact ⟨by simpa using h1, h⟩
def shortR (p : List PaceS) (o : List OrdrS) (st : List NeedS) : List NeedS := if stkE p o st = 0 then shortL (kitsL p o) st else []
def covE (p : List PaceS) (o : List OrdrS) (st : List NeedS) : List ByteArray := if stkE p o st = 0 then covL p o st else []
theorem both_ok {p : List PaceS} {o : List OrdrS} (h : bothF p o = 0) : paceF p = 0 ∧ ordrF o = 0 := by
 unfold bothF at h
 split at h
 ·contradiction
 ·rename_i h1
  split at h
  ·contradiction
  ·rename_i h2; exact ⟨by simpa using h1, by simpa using h2⟩
theorem pace_needs {p : List PaceS} (h : paceF p = 0) (k : ByteArray) : needsF (paceO p k).needs 1 1000 = 0 := by
 unfold paceO
 cases hf : p.find? (fun x => sEq x.product k) with
 | none => rfl
 | some x =>
  obtain ⟨i, hi, rfl⟩ := List.getElem_of_mem (List.mem_of_find?_eq_some hf)
  have := (paceE_zero ((pacesOk h).all i hi)).2.2.2
  rw [List.getD_eq_getElem?_getD, List.getElem?_eq_getElem hi] at this
  exact this
theorem ordr_count {o : List OrdrS} (h : ordrF o = 0) {i : Nat} (hi : i < o.length) : 1 ≤ (o.getD i default).count ∧ (o.getD i default).count ≤ 100000 := by
 have := (ordrE_zero ((ordrsOk h).all i hi)).2.2
 omega
theorem kit_bd {p : List PaceS} {x : OrdrS} (h : paceF p = 0) (hx : 1 ≤ x.count ∧ x.count ≤ 100000) : ∀ y ∈ kitL p x, 0 ≤ y.count ∧ y.count ≤ 100000000 := fun y hy => by
 obtain ⟨n, hn, rfl⟩ := List.mem_map.1 hy
 have h1 := needs_bd (pace_needs h x.product) n hn
 have h2 : n.count * x.count ≤ 1000 * x.count := Int.mul_le_mul_of_nonneg_right (by omega) (by omega)
 exact ⟨Int.mul_nonneg (by omega) (by omega), by show n.count * x.count ≤ _; omega⟩
theorem kit_len {p : List PaceS} {x : OrdrS} (h : paceF p = 0) : (kitL p x).length ≤ 1000 := by
 unfold kitL; rw [kitN_len]; exact needsF_lenP (pace_needs h x.product)
theorem amt_bd {l : List NeedS} (hl : l.length ≤ 1000000) (hb : ∀ y ∈ l, 0 ≤ y.count ∧ y.count ≤ 1000000000) (q : Nat) (k : ByteArray) : 0 ≤ mgetD (amtP (l.take q)) k 0 ∧ mgetD (amtP (l.take q)) k 0 ≤ 1000000000000000 := by
 rw [amtP_get]
 have h1 := sumK_bd (c := 1000000000) (by decide) (l := l.take q) (fun y hy => hb y (List.mem_of_mem_take hy)) k
 have h2 : (l.take q).length ≤ 1000000 := by rw [List.length_take]; omega
 omega
theorem need_bd {l : List NeedS} {c : Int} (h0 : 0 ≤ c) (hb : ∀ y ∈ l, 0 ≤ y.count ∧ y.count ≤ c) (q : Nat) : 0 ≤ (l.getD q default).count ∧ (l.getD q default).count ≤ c := by
 rw [List.getD_eq_getElem?_getD]
 cases h : l[q]? with
 | none => exact ⟨Int.le_refl _, h0⟩
 | some x => exact hb x (List.mem_of_getElem? h)
theorem mul_fit {l : List NeedS} {c : Int} (hn : needsF l 1 1000 = 0) (hc : 1 ≤ c ∧ c ≤ 100000) (q : Nat) : 0 ≤ (l.getD q default).count * c ∧ (l.getD q default).count * c ≤ 100000000 := by
 have h1 := need_bd (c := 1000) (by decide) (fun y hy => by have := needs_bd hn y hy; omega) q
 have h2 : (l.getD q default).count * c ≤ 1000 * c := Int.mul_le_mul_of_nonneg_right h1.2 (by omega)
 exact ⟨Int.mul_nonneg h1.1 (by omega), by omega⟩
theorem nd_oneK (xs : List NeedS) (x : Nat) (h : x < xs.length * 2) : ((fun q => Sxc.cell (xs.getD q default)) (x / Sxc.k NeedS) (x % Sxc.k NeedS)).one = true := by
 have : x % Sxc.k NeedS < 2 := Nat.mod_lt _ (by decide)
 match x % Sxc.k NeedS, this with
 | 0, _ => rfl
 | 1, _ => rfl
theorem app_kit (A B : List NeedS) : rowL A ++ tab (B.length * 2) (fun x => (fun q => Sxc.cell (B.getD q default)) (x / Sxc.k NeedS) (x % Sxc.k NeedS)) = rowL (A ++ B) := (congrArg (fun z => rowL A ++ z) (tab_L B)).trans (by simp [rowL])
set_option maxRecDepth 100000 in
set_option maxHeartbeats 4000000 in
theorem plan_kitOfX {p : List PaceS} {x : OrdrS} {pc : PaceS} (hl : p.length ≤ 1000000) (hr : RiseK PaceS.product p) (hpc : paceO p x.product = pc) (hn : needsF pc.needs 1 1000 = 0) (hc : 1 ≤ x.count ∧ x.count ≤ 100000) :
  SpecN Tryz.prog 151 [avL p, avOr x] (fun y => y = avL (kitN pc.needs x.count)) := by
 have hnl := needsF_lenP hn
 refine SpecN.of_VCN Tryz.func151 rfl Tryz.ntmps151 (Nle rfl) fun w A hB => ?_
 have hnew : True := trivial
 refine VC.sr ?_
 refine VO.op rfl (OpE.box rfl hB rfl rfl rfl ?_)
 intro g3
 refine VO.ma rfl rfl rfl rfl ?_
 refine VO.nil ?_
 refine VC.sr ?_
 refine VO.mv rfl rfl rfl rfl ?_
 refine VO.val rfl rfl (OpV.fieldAddrO 1 rfl Tryz.underlying89 rfl rfl Tryz.sizeOf9 rfl) ?_
 refine VO.val rfl rfl (OpV.load_own (i := 0) rfl hB Tryz.isAgg9 rfl rfl rfl (fun h => h)) ?_
 refine VO.op rfl (OpE.call rfl hB rfl Tryz.call265 rfl (plan_paceOf hl hr) ?_)
 rintro _ rfl
 refine VO.le _ (Le.recast (t := 14) (y := .tup [avPc pc, avB (hasP p x.product)]) rfl (fun w Z u h => by rw [← hpc]; exact h)) ?_
 refine VO.mv rfl rfl rfl rfl ?_
 refine VO.val rfl rfl (OpV.extract rfl rfl rfl) ?_
 refine VO.val rfl rfl (OpV.extract rfl rfl rfl) ?_
 refine VO.op rfl (OpE.alloc rfl hB rfl Tryz.zeroValue137 rfl ?_)
 intro g5
 refine VO.op rfl (OpE.store (i := 1) rfl hB rfl Tryz.sizeOf137 rfl rfl rfl rfl rfl rfl (Nle rfl) trivial ?_)
 refine VO.ma rfl rfl rfl rfl ?_
 refine VO.nil ?_
 refine VC.sr ?_
 refine VO.ma rfl rfl rfl rfl ?_
 refine VO.nil ?_
 refine VC.seq ?_
 refine VC.sr ?_
 refine VO.val rfl rfl (OpV.fieldAddrO 2 rfl Tryz.underlying137 rfl rfl Tryz.sizeOf77 rfl) ?_
 refine VO.val rfl rfl (OpV.load_own (i := 1) rfl hB Tryz.isAgg77 rfl rfl rfl (fun h => h)) ?_
 refine VO.val rfl rfl (OpV.len_im rfl Tryz.underlying77 rfl) ?_
 refine VO.mv rfl rfl rfl rfl ?_
 refine VO.nil ?_
 refine VC.block ?_
 refine VC.le _ (Le.nilRow 2 96) ?_
 refine VC.loopK [(3, _), (18, _), (19, _)] ⟨rfl, rfl, rfl, trivial⟩ ({zz : Value × Nat // zz.2 ≤ pc.needs.length}) (fun (iZ : {zz : Value × Nat // zz.2 ≤ pc.needs.length}) => match iZ with | ⟨⟨u, q⟩, hq⟩ => [(7, .v u), (20, avI (q : Int))]) (fun (iZ : {zz : Value × Nat // zz.2 ≤ pc.needs.length}) => match iZ with | ⟨⟨u, q⟩, hq⟩ => [boxOr g3 x 89, .box g5 ⟨[avS pc.product, avI pc.cycle, avL pc.needs], 137, 3⟩, .row u (kitN (pc.needs.take q) x.count).length 2 (rowL (kitN (pc.needs.take q) x.count)) 96]) (fun (iZ : {zz : Value × Nat // zz.2 ≤ pc.needs.length}) => match iZ with | ⟨⟨u, q⟩, hq⟩ => 0) (fun (iZ : {zz : Value × Nat // zz.2 ≤ pc.needs.length}) => match iZ with | ⟨⟨u, q⟩, hq⟩ => pc.needs.length - q) ⟨(.slice none 0 0, 0), Nat.zero_le _⟩ (Le.mk hB [0, 1, 2] ⟨rfl, rfl, rfl, rfl, rfl, trivial⟩ rfl rfl (Nat.le_refl _)) ?_
 rintro ⟨⟨u, q⟩, hq⟩
 show VC _ _ _ _ ⟨[(7, .v u), (20, avI (q : Int))] ++ [(3, _), (18, _), (19, _)], [boxOr g3 x 89, .box g5 ⟨[avS pc.product, avI pc.cycle, avL pc.needs], 137, 3⟩, .row u (kitN (pc.needs.take q) x.count).length 2 (rowL (kitN (pc.needs.take q) x.count)) 96], 0⟩
 simp only at hq
 have hkl := kitN_len (pc.needs.take q) x.count
 have htl : (pc.needs.take q).length ≤ 1000 := by rw [List.length_take]; omega
 refine VC.sr ?_
 refine VO.val rfl rfl (OpV.lss rfl rfl rfl) ?_
 refine VO.nil ?_
 refine VC.seq ?_
 refine VC.cond rfl (fun aH1b => ?_) (fun aH1b => ?_)
 ·have aH1 := aH1b
  try simp only [qqT, qqF, qqN, qqM, qqL, qqE] at aH1
  refine VC.skip ?_
  refine VC.seq ?_
  refine VC.block ?_
  refine VC.sr ?_
  refine VO.val rfl rfl (OpV.indexAddr_E rfl Tryz.underlying77 Tryz.sizeOf96 rfl rfl rfl (by omega)) ?_
  refine VO.val rfl rfl (OpV.loadK_at rfl hB OutW.no Tryz.isAgg96 Tryz.sizeOf96 rfl rfl) ?_
  refine VO.op rfl (OpE.alloc rfl hB rfl Tryz.zeroValue96 rfl ?_)
  intro g9
  refine VO.op rfl (OpE.store (i := 3) rfl hB rfl Tryz.sizeOf96 rfl rfl rfl rfl rfl rfl (Nle rfl) trivial ?_)
  refine VO.nil ?_
  refine VC.region ?_
  refine VO.mv rfl rfl rfl rfl ?_
  refine VO.val rfl rfl (OpV.fieldAddrO 0 rfl Tryz.underlying96 rfl rfl Tryz.sizeOf9 rfl) ?_
  refine VO.val rfl rfl (OpV.load_own (i := 3) rfl hB Tryz.isAgg9 rfl rfl rfl (fun h => h)) ?_
  refine VO.val rfl rfl (OpV.fieldAddrO 1 rfl Tryz.underlying96 rfl rfl Tryz.sizeOf3 rfl) ?_
  refine VO.val rfl rfl (OpV.load_own (i := 3) rfl hB Tryz.isAgg3 rfl rfl rfl (fun h => h)) ?_
  refine VO.val rfl rfl (OpV.fieldAddrO 2 rfl Tryz.underlying89 rfl rfl Tryz.sizeOf3 rfl) ?_
  refine VO.val rfl rfl (OpV.load_own (i := 0) rfl hB Tryz.isAgg3 rfl rfl rfl (fun h => h)) ?_
  refine VO.val rfl rfl (OpV.mul rfl rfl rfl (by have h := mul_fit hn hc q; unfold fits; omega)) ?_
  refine VO.val rfl rfl (OpV.build (pls := #[(0, 1), (1, 1)]) rfl Tryz.zeroValue96 Tryz.underlying96 (fun w => by kernel_rfl) rfl rfl) ?_
  refine VO.op rfl (OpE.buildSlice (zc := #[.string ⟨#[]⟩, .int .i64 0]) rfl hB rfl Tryz.underlying77 Tryz.sizeOf96 Tryz.zeroValue96 (by decide) (by decide) (by kernel_rfl) rfl rfl ?_)
  refine VO.op rfl (OpE.append1 (i := 2) rfl hB rfl Tryz.underlying77 (infoOf Tryz.t96 2 (by kernel_rfl) rfl rfl) rfl (by decide) (by decide) rfl rfl rfl rfl (rowL_snoc _ (⟨(pc.needs.getD q default).key, (pc.needs.getD q default).count * x.count⟩ : NeedS)) (by omega) (fun _ _ => trivial) ?_)
  intro u2
  refine VO.ma rfl rfl rfl rfl ?_
  refine VO.nil ?_
  refine VC.region ?_
  refine VO.val rfl rfl (OpV.add rfl rfl rfl (by unfold fits; omega)) ?_
  refine VO.mv rfl rfl rfl rfl ?_
  refine VO.nil ?_
  exact Exists.intro (⟨(u2, q + 1), by show _ ≤ _; omega⟩) (And.intro (Le.mk hB [0, 1, 2] ⟨rfl, rfl, rfl, rfl, rfl, trivial⟩ rfl (by dsimp only; rw [kitN_take (by omega), List.length_append]; rfl) (Nat.le_refl _)) (by first | omega | (show _ < _; omega) | (simp only []; omega)))
 ·have aH1 := aH1b
  try simp only [qqT, qqF, qqN, qqM, qqL, qqE] at aH1
  refine VC.exit ?_
  refine VC.seq ?_
  have hqe : pc.needs.take q = pc.needs := List.take_of_length_le (by omega)
  rw [hqe]
  refine VC.region ?_
  refine VO.mv rfl rfl rfl rfl ?_
  refine VO.ma rfl rfl rfl rfl ?_
  refine VO.nil ?_
  refine VC.ret ?_
  exact Exists.intro _ (And.intro (RetN.one Tryz.results151 (ResN.rowT (i := 2) rfl rfl rfl (flat_need _))) (rfl))
theorem plan_kitOf {p : List PaceS} {x : OrdrS} (hl : p.length ≤ 1000000) (hp : paceF p = 0) (hc : 1 ≤ x.count ∧ x.count ≤ 100000) : SpecN Tryz.prog 151 [avL p, avOr x] (fun y => y = avL (kitL p x)) := plan_kitOfX hl (pace_rise (pacesOk hp)) rfl (pace_needs hp _) hc

set_option maxRecDepth 100000 in
theorem plan_stocked {p : List PaceS} {o : List OrdrS} {st : List NeedS} (hp : SmPc p) (ho : SmOr o) (hs : SmN st) :
  SpecN Tryz.prog 152 [avL p, avL o, avL st] (fun y => y = avI (stkE p o st)) := by
 refine SpecN.of_VCN Tryz.func152 rfl Tryz.ntmps152 (Nle rfl) fun w A hB => ?_
 have hnew : True := trivial
 refine VC.sr ?_
 refine VO.ma rfl rfl rfl rfl ?_
 refine VO.nil ?_
 refine VC.seq ?_
 refine VC.sr ?_
 refine VO.mv rfl rfl rfl rfl ?_
 refine VO.mv rfl rfl rfl rfl ?_
 refine VO.op rfl (OpE.call rfl hB rfl Tryz.call147 rfl (SpecN.spec (plan_fault hp ho)) ?_)
 rintro _ rfl
 refine VO.ma rfl rfl rfl rfl ?_
 refine VO.nil ?_
 refine VC.sr ?_
 refine VO.mv rfl rfl rfl rfl ?_
 refine VO.val rfl rfl (OpV.neq rfl rfl rfl) ?_
 refine VO.nil ?_
 refine VC.cond rfl (fun h0b => ?_) (fun h0b => ?_)
 ·have h0 := h0b
  try simp only [qqT, qqF, qqN, qqM, qqL, qqE] at h0
  refine VC.sr ?_
  refine VO.mv rfl rfl rfl rfl ?_
  refine VO.ma rfl rfl rfl rfl ?_
  refine VO.nil ?_
  refine VC.ret ?_
  exact Exists.intro _ (And.intro (RetN.one Tryz.results152 (ResN.v rfl)) (by rw [stkE_1 h0]))
 ·have h0 := h0b
  try simp only [qqT, qqF, qqN, qqM, qqL, qqE] at h0
  refine VC.skip ?_
  refine VC.sr ?_
  refine VO.mv rfl rfl rfl rfl ?_
  refine VO.op rfl (OpE.call rfl hB rfl Tryz.call267 rfl (SpecN.spec (line_NeedsFault (by have := hs.len; omega) (fun i => by have := hs.key i; omega))) ?_)
  rintro _ rfl
  refine VO.ma rfl rfl rfl rfl ?_
  refine VO.nil ?_
  refine VC.ret ?_
  exact Exists.intro _ (And.intro (RetN.one Tryz.results152 (ResN.v rfl)) (by rw [stkE_2 (by omega)]))
set_option maxRecDepth 100000 in
theorem plan_Kit1 {x : OrdrS} {k : ByteArray}  :
  SpecN Tryz.prog 149 [avT x, avS k] (fun y => y = avI (cmpB x.key k)) := by
 refine SpecN.of_VCN Tryz.func149 rfl Tryz.ntmps149 (Nle rfl) fun w A hB => ?_
 have hnew : True := trivial
 refine VC.sr ?_
 refine VO.op rfl (OpE.box rfl hB rfl rfl rfl ?_)
 intro g2
 refine VO.ma rfl rfl rfl rfl ?_
 refine VO.nil ?_
 refine VC.sr ?_
 refine VO.val rfl rfl (OpV.fieldAddrO 0 rfl Tryz.underlying89 rfl rfl Tryz.sizeOf9 rfl) ?_
 refine VO.val rfl rfl (OpV.load_own (i := 0) rfl hB Tryz.isAgg9 rfl rfl rfl (fun h => h)) ?_
 refine VO.mv rfl rfl rfl rfl ?_
 refine VO.op rfl (OpE.call rfl hB rfl Tryz.call150 rfl (SpecN.spec (strings_Compare_S)) ?_)
 rintro _ rfl
 refine VO.ma rfl rfl rfl rfl ?_
 refine VO.nil ?_
 refine VC.ret ?_
 exact Exists.intro _ (And.intro (RetN.one Tryz.results149 (ResN.v rfl)) (rfl))
set_option maxRecDepth 100000 in
theorem bsf_ordr {xs : List OrdrS} {t : ByteArray} {F : FuncId} {cs : List AV} {c : OrdrS → Int} {s0 : Nat} (hl : xs.length ≤ 1000000) (hcall : ∀ us w, (callFunc F us).run Tryz.prog w = .ok (.enter F us) w) (hF : ∀ x, Spec Tryz.prog F ([avT x, avS t] ++ cs) (fun y => y = avI (c x))) (hs : s0 ≤ xs.length) (hlo : ∀ j, j < s0 → c (xs.getD j default) < 0) (hhi : ∀ j, s0 ≤ j → j < xs.length → 0 ≤ c (xs.getD j default)) :
  SpecN Tryz.prog 148 [avL xs, avS t, .fn F cs] (fun y => y = .tup [avI (s0 : Int), avB (decide (s0 < xs.length) && decide (c (xs.getD s0 default) = 0))]) := by
 refine SpecN.of_VCN Tryz.func148 rfl Tryz.ntmps148 (Nle rfl) fun w A hB => ?_
 have hnew : True := trivial
 refine VC.sr ?_
 refine VO.ma rfl rfl rfl rfl ?_
 refine VO.ma rfl rfl rfl rfl ?_
 refine VO.nil ?_
 refine VC.sr ?_
 refine VO.mv rfl rfl rfl rfl ?_
 refine VO.val rfl rfl (OpV.len_im rfl Tryz.underlying75 rfl) ?_
 refine VO.ma rfl rfl rfl rfl ?_
 refine VO.nil ?_
 refine VC.sr ?_
 refine VO.mv rfl rfl rfl rfl ?_
 refine VO.ma rfl rfl rfl rfl ?_
 refine VO.ma rfl rfl rfl rfl ?_
 refine VO.nil ?_
 refine VC.seq ?_
 refine VC.block ?_
 refine VC.loopK [(0, _), (1, _), (2, _), (8, _)] ⟨rfl, rfl, rfl, rfl, trivial⟩ ({z : Nat × Nat // z.1 ≤ s0 ∧ s0 ≤ z.2 ∧ z.2 ≤ xs.length}) (fun (iZ : {z : Nat × Nat // z.1 ≤ s0 ∧ s0 ≤ z.2 ∧ z.2 ≤ xs.length}) => match iZ with | ⟨⟨i, j⟩, h1, h2, h3⟩ => [(9, avI (i : Int)), (10, avI (j : Int))]) (fun (iZ : {z : Nat × Nat // z.1 ≤ s0 ∧ s0 ≤ z.2 ∧ z.2 ≤ xs.length}) => match iZ with | ⟨⟨i, j⟩, h1, h2, h3⟩ => []) (fun (iZ : {z : Nat × Nat // z.1 ≤ s0 ∧ s0 ≤ z.2 ∧ z.2 ≤ xs.length}) => match iZ with | ⟨⟨i, j⟩, h1, h2, h3⟩ => 0) (fun (iZ : {z : Nat × Nat // z.1 ≤ s0 ∧ s0 ≤ z.2 ∧ z.2 ≤ xs.length}) => match iZ with | ⟨⟨i, j⟩, h1, h2, h3⟩ => j - i) ⟨(0, xs.length), Nat.zero_le _, hs, Nat.le_refl _⟩ (Le.mk hB [] ⟨rfl, rfl, rfl, rfl, rfl, rfl, trivial⟩ rfl rfl (Nat.le_refl _)) ?_
 rintro ⟨⟨i, j⟩, h1, h2, h3⟩
 show VC _ _ _ _ ⟨[(9, avI (i : Int)), (10, avI (j : Int))] ++ [(0, _), (1, _), (2, _), (8, _)], [], 0⟩
 simp only at h1 h2 h3
 refine VC.seq ?_
 refine VC.sr ?_
 refine VO.mv rfl rfl rfl rfl ?_
 refine VO.mv rfl rfl rfl rfl ?_
 refine VO.val rfl rfl (OpV.lss rfl rfl rfl) ?_
 refine VO.nil ?_
 refine VC.cond rfl (fun aH1b => ?_) (fun aH1b => ?_)
 ·have aH1 := aH1b
  try simp only [qqT, qqF, qqN, qqM, qqL, qqE] at aH1
  refine VC.skip ?_
  refine VC.block ?_
  refine VC.sr ?_
  refine VO.mv rfl rfl rfl rfl ?_
  refine VO.mv rfl rfl rfl rfl ?_
  refine VO.val rfl rfl (OpV.add rfl rfl rfl (by unfold fits; omega)) ?_
  refine VO.val rfl rfl (OpV.conv rfl Tryz.underlying3 Tryz.underlying191 rfl (IntWalk.u64_in _ (by omega))) ?_
  refine VO.val rfl rfl (OpV.shr1 rfl rfl rfl rfl (by omega)) ?_
  refine VO.val rfl rfl (OpV.conv rfl Tryz.underlying191 Tryz.underlying3 rfl (IntWalk.i64_in _ (by omega))) ?_
  refine VO.ma rfl rfl rfl rfl ?_
  refine VO.nil ?_
  refine VC.sr ?_
  refine VO.mv rfl rfl rfl rfl ?_
  refine VO.mv rfl rfl rfl rfl ?_
  refine VO.mv rfl rfl rfl rfl ?_
  refine VO.val rfl rfl (OpV.indexAddr_E rfl Tryz.underlying75 Tryz.sizeOf89 rfl rfl (Int.toNat_of_nonneg (by omega)).symm (by omega)) ?_
  refine VO.val rfl rfl (OpV.loadK_at rfl hB OutW.no Tryz.isAgg89 Tryz.sizeOf89 rfl rfl) ?_
  refine VO.mv rfl rfl rfl rfl ?_
  refine VO.op rfl (OpE.callF rfl hB rfl hcall rfl rfl (hF _) ?_)
  rintro _ rfl
  refine VO.val rfl rfl (OpV.lss rfl rfl rfl) ?_
  refine VO.nil ?_
  refine VC.cond rfl (fun hcb => ?_) (fun hcb => ?_)
  ·have hc := hcb
   try simp only [qqT, qqF, qqN, qqM, qqL, qqE] at hc
   refine VC.region ?_
   refine VO.mv rfl rfl rfl rfl ?_
   refine VO.val rfl rfl (OpV.add rfl rfl rfl (by unfold fits; omega)) ?_
   refine VO.ma rfl rfl rfl rfl ?_
   refine VO.nil ?_
   exact Exists.intro (⟨((((i : Int) + j) / 2).toNat + 1, j), bsf_lo hhi (by omega) hc, h2, h3⟩) (And.intro (Le.mk hB [] ⟨(by first | rfl | exact congrArg (fun z => some (avI z)) (by omega)), (by first | rfl | exact congrArg (fun z => some (avI z)) (by omega)), rfl, rfl, rfl, rfl, trivial⟩ rfl rfl (Nat.le_refl _)) (by first | omega | (show _ < _; omega) | (simp only []; omega)))
  ·have hc := hcb
   try simp only [qqT, qqF, qqN, qqM, qqL, qqE] at hc
   refine VC.region ?_
   refine VO.mv rfl rfl rfl rfl ?_
   refine VO.ma rfl rfl rfl rfl ?_
   refine VO.nil ?_
   exact Exists.intro (⟨(i, (((i : Int) + j) / 2).toNat), h1, bsf_hi (h := (((i : Int) + j) / 2).toNat) hlo hc, by show _ ≤ xs.length; omega⟩) (And.intro (Le.mk hB [] ⟨(by first | rfl | exact congrArg (fun z => some (avI z)) (by omega)), (by first | rfl | exact congrArg (fun z => some (avI z)) (by omega)), rfl, rfl, rfl, rfl, trivial⟩ rfl rfl (Nat.le_refl _)) (by first | omega | (show _ < _; omega) | (simp only []; omega)))
 ·have aH1 := aH1b
  try simp only [qqT, qqF, qqN, qqM, qqL, qqE] at aH1
  obtain rfl : i = s0 := by omega
  refine VC.exit ?_
  refine VC.sr ?_
  refine VO.mv rfl rfl rfl rfl ?_
  refine VO.mv rfl rfl rfl rfl ?_
  refine VO.mv rfl rfl rfl rfl ?_
  refine VO.val rfl rfl (OpV.lss rfl rfl rfl) ?_
  refine VO.mv rfl rfl rfl rfl ?_
  refine VO.opG rfl rfl rfl rfl (fun aK2b => ?_) (fun aK2b => ?_)
  ·replace aK2b : _ = true := aK2b
   have aK2 := aK2b
   try simp only [qqT, qqF, qqN, qqM, qqL, qqE] at aK2
   refine OpE.val (W := NoB) (OpV.move (.inl rfl) rfl) rfl ?_
   refine VO.opY rfl rfl rfl rfl aK2b ?_
   refine OpE.val (W := NoB) (OpV.move (.inl rfl) rfl) rfl ?_
   refine VO.opY rfl rfl rfl rfl aK2b ?_
   refine OpE.val (W := NoB) (OpV.move (.inl rfl) rfl) rfl ?_
   refine VO.opY rfl rfl rfl rfl aK2b ?_
   refine OpE.val (W := NoB) (OpV.indexAddr_E rfl Tryz.underlying75 Tryz.sizeOf89 rfl rfl rfl (by omega)) rfl ?_
   refine VO.opY rfl rfl rfl rfl aK2b ?_
   refine OpE.val (W := NoB) (OpV.loadK_at rfl hB OutW.no Tryz.isAgg89 Tryz.sizeOf89 rfl rfl) rfl ?_
   refine VO.opY rfl rfl rfl rfl aK2b ?_
   refine OpE.val (W := NoB) (OpV.move (.inl rfl) rfl) rfl ?_
   refine VO.opY rfl rfl rfl rfl aK2b ?_
   refine OpE.callF rfl hB rfl hcall rfl rfl (hF _) ?_
   rintro _ rfl
   refine VO.opY rfl rfl rfl rfl aK2b ?_
   refine OpE.val (W := NoB) (OpV.eql rfl rfl rfl) rfl ?_
   refine VO.val rfl rfl (OpV.pickT rfl rfl rfl rfl aK2b) ?_
   refine VO.ma rfl rfl rfl rfl ?_
   refine VO.ma rfl rfl rfl rfl ?_
   refine VO.nil ?_
   refine VC.ret ?_
   exact Exists.intro _ (And.intro (RetN.two Tryz.results148 (ResN.v rfl) (ResN.v rfl)) (by first | (rw [decide_eq_true (show i < xs.length by omega)]; rfl) | (rw [decide_eq_false (show ¬ i < xs.length by omega)]; rfl)))
  ·replace aK2b : _ = false := aK2b
   have aK2 := aK2b
   try simp only [qqT, qqF, qqN, qqM, qqL, qqE] at aK2
   refine VO.opX rfl rfl rfl rfl aK2b ?_
   refine VO.opX rfl rfl rfl rfl aK2b ?_
   refine VO.opX rfl rfl rfl rfl aK2b ?_
   refine VO.opX rfl rfl rfl rfl aK2b ?_
   refine VO.opX rfl rfl rfl rfl aK2b ?_
   refine VO.opX rfl rfl rfl rfl aK2b ?_
   refine VO.opX rfl rfl rfl rfl aK2b ?_
   refine VO.val rfl rfl (OpV.pickF rfl rfl rfl rfl aK2b) ?_
   refine VO.ma rfl rfl rfl rfl ?_
   refine VO.ma rfl rfl rfl rfl ?_
   refine VO.nil ?_
   refine VC.ret ?_
   exact Exists.intro _ (And.intro (RetN.two Tryz.results148 (ResN.v rfl) (ResN.v rfl)) (by first | (rw [decide_eq_true (show i < xs.length by omega)]; rfl) | (rw [decide_eq_false (show ¬ i < xs.length by omega)]; rfl)))
def hasO (o : List OrdrS) (k : ByteArray) : Bool := o.any fun x => sEq x.key k
def kitE (p : List PaceS) (o : List OrdrS) (k : ByteArray) : Int := if bothF p o ≠ 0 then bothF p o else if hasO o k = true then 0 else 8
def kitR (p : List PaceS) (o : List OrdrS) (k : ByteArray) : List NeedS := if kitE p o k = 0 then kk0 p o k else []
theorem kitE_1 {p : List PaceS} {o : List OrdrS} {k : ByteArray} (h : bothF p o ≠ 0) : kitE p o k = bothF p o := by rw [kitE, if_pos h]
theorem kitE_8 {p : List PaceS} {o : List OrdrS} {k : ByteArray} (h : bothF p o = 0) (h2 : hasO o k = false) : kitE p o k = 8 := by rw [kitE, if_neg (by omega), if_neg (by rw [h2]; simp)]
theorem kitE_0 {p : List PaceS} {o : List OrdrS} {k : ByteArray} (h : bothF p o = 0) (h2 : hasO o k = true) : kitE p o k = 0 := by rw [kitE, if_neg (by omega), if_pos h2]
theorem kitE_ok {p : List PaceS} {o : List OrdrS} {k : ByteArray} (h : kitE p o k = 0) : bothF p o = 0 ∧ hasO o k = true := by
 unfold kitE at h
 split at h
 ·contradiction
 ·rename_i h1
  split at h
  ·exact ⟨by simpa using h1, by assumption⟩
  ·cases h
theorem kitR_no {p : List PaceS} {o : List OrdrS} {k : ByteArray} (h : kitE p o k ≠ 0) : kitR p o k = [] := by rw [kitR, if_neg h]
theorem kitR_ok {p : List PaceS} {o : List OrdrS} {k : ByteArray} (h : kitE p o k = 0) : kitR p o k = kk0 p o k := by rw [kitR, if_pos h]
theorem low_fidx {o : List OrdrS} {k : ByteArray} (hr : RiseK OrdrS.key o) (h1 : lowK OrdrS.key o k < o.length) (h2 : sEq (o.getD (lowK OrdrS.key o k) default).key k = true) : fidx (fun x => sEq x.key k) o = (lowK OrdrS.key o k : Int) :=
 fidx_found (d := default) h1 (fun j hj => by
  have := lowK_lt (key := OrdrS.key) (l := o) (k := k) hj
  cases h : sEq (o.getD j default).key k with
  | false => rfl
  | true => rw [sEq_eq.1 h, sLt_irr] at this; cases this) h2
set_option maxRecDepth 100000 in
set_option maxHeartbeats 4000000 in
theorem plan_Kit {p : List PaceS} {o : List OrdrS} {k : ByteArray} (hp : SmPc p) (ho : SmOr o) :
  Spec Tryz.prog 47 [avL p, avL o, avS k] (fun y => y = .tup [avL (kitR p o k), avI (kitE p o k)]) := by
 have hol := ho.len
 have hpl := hp.len
 refine Spec.of_VC Tryz.func47 rfl Tryz.ntmps47 (Nle rfl) fun w A hB => ?_
 have hnew : True := trivial
 refine VC.sr ?_
 refine VO.ma rfl rfl rfl rfl ?_
 refine VO.ma rfl rfl rfl rfl ?_
 refine VO.nil ?_
 refine VC.seq ?_
 refine VC.sr ?_
 refine VO.mv rfl rfl rfl rfl ?_
 refine VO.mv rfl rfl rfl rfl ?_
 refine VO.op rfl (OpE.call rfl hB rfl Tryz.call147 rfl (SpecN.spec (plan_fault hp ho)) ?_)
 rintro _ rfl
 refine VO.ma rfl rfl rfl rfl ?_
 refine VO.nil ?_
 refine VC.sr ?_
 refine VO.mv rfl rfl rfl rfl ?_
 refine VO.val rfl rfl (OpV.neq rfl rfl rfl) ?_
 refine VO.nil ?_
 refine VC.cond rfl (fun h0b => ?_) (fun h0b => ?_)
 ·have h0 := h0b
  try simp only [qqT, qqF, qqN, qqM, qqL, qqE] at h0
  refine VC.sr ?_
  refine VO.mv rfl rfl rfl rfl ?_
  refine VO.ma rfl rfl rfl rfl ?_
  refine VO.ma rfl rfl rfl rfl ?_
  refine VO.nil ?_
  refine VC.le _ (Le.recast (t := 6) (y := avL ([] : List NeedS)) rfl (fun w Z u h => by rw [h.eq_v]; exact .nil _ _)) ?_
  refine VC.ret ?_
  exact Exists.intro _ (And.intro (RetV.two Tryz.results47 (ResV.tmp rfl) (ResV.tmp rfl)) (by rw [kitR_no (by rw [kitE_1 h0]; exact h0), kitE_1 h0]))
 ·have h0 := h0b
  try simp only [qqT, qqF, qqN, qqM, qqL, qqE] at h0
  have h00 : bothF p o = 0 := by omega
  have hro := ordr_rise (ordrsOk (both_ok h00).2)
  refine VC.skip ?_
  refine VC.sr ?_
  refine VO.mv rfl rfl rfl rfl ?_
  refine VO.mv rfl rfl rfl rfl ?_
  refine VO.op rfl (OpE.callL rfl hB rfl Tryz.call148 (bsf_ordr (c := fun x => cmpB x.key k) (s0 := lowK OrdrS.key o k) hol Tryz.call149 (fun x => plan_Kit1.spec) lowK_le (lowK_cmp hro).1 (lowK_cmp hro).2) (ArgsP.cons (ArgP.ev rfl) (ArgsP.cons (ArgP.ev rfl) (ArgsP.cons (ArgP.fn0 rfl) (ArgsP.nil)))) ?_)
  rintro _ rfl
  refine VO.mv rfl rfl rfl rfl ?_
  refine VO.val rfl rfl (OpV.extract rfl rfl rfl) ?_
  refine VO.val rfl rfl (OpV.extract rfl rfl rfl) ?_
  refine VO.le _ (Le.recast (t := 22) (y := avB (hasO o k)) rfl (fun w Z u h => by rw [hasO, ← lowK_any hro, ← cmp_zero]; exact h)) ?_
  refine VO.ma rfl rfl rfl rfl ?_
  refine VO.ma rfl rfl rfl rfl ?_
  refine VO.nil ?_
  refine VC.seq ?_
  refine VC.sr ?_
  refine VO.mv rfl rfl rfl rfl ?_
  refine VO.val rfl rfl (OpV.not rfl rfl) ?_
  refine VO.nil ?_
  refine VC.cond rfl (fun h1b => ?_) (fun h1b => ?_)
  ·have h1 := h1b
   try simp only [qqT, qqF, qqN, qqM, qqL, qqE] at h1
   refine VC.sr ?_
   refine VO.ma rfl rfl rfl rfl ?_
   refine VO.ma rfl rfl rfl rfl ?_
   refine VO.nil ?_
   refine VC.le _ (Le.recast (t := 6) (y := avL ([] : List NeedS)) rfl (fun w Z u h => by rw [h.eq_v]; exact .nil _ _)) ?_
   refine VC.ret ?_
   exact Exists.intro _ (And.intro (RetV.two Tryz.results47 (ResV.tmp rfl) (ResV.tmp rfl)) (by rw [kitR_no (by rw [kitE_8 h00 h1]; decide), kitE_8 h00 h1]))
  ·have h1 := h1b
   try simp only [qqT, qqF, qqN, qqM, qqL, qqE] at h1
   have h2 := (lowK_any hro (k := k)).trans h1
   rw [Bool.and_eq_true, decide_eq_true_eq] at h2
   have hfi := low_fidx hro h2.1 h2.2
   refine VC.skip ?_
   refine VC.sr ?_
   refine VO.mv rfl rfl rfl rfl ?_
   refine VO.mv rfl rfl rfl rfl ?_
   refine VO.mv rfl rfl rfl rfl ?_
   refine VO.val rfl rfl (OpV.indexAddr_E rfl Tryz.underlying75 Tryz.sizeOf89 rfl rfl rfl (by omega)) ?_
   refine VO.val rfl rfl (OpV.loadK_at rfl hB OutW.no Tryz.isAgg89 Tryz.sizeOf89 rfl rfl) ?_
   refine VO.op rfl (OpE.call rfl hB rfl Tryz.call151 rfl (SpecN.spec (plan_kitOf hpl (both_ok h00).1 (ordr_count (both_ok h00).2 h2.1))) ?_)
   rintro _ rfl
   refine VO.ma rfl rfl rfl rfl ?_
   refine VO.ma rfl rfl rfl rfl ?_
   refine VO.nil ?_
   refine VC.ret ?_
   exact Exists.intro _ (And.intro (RetV.two Tryz.results47 (ResV.tmp rfl) (ResV.tmp rfl)) (by rw [kitR_ok (kitE_0 h00 h1), kitE_0 h00 h1, kk0, hfi]; rfl))
set_option maxRecDepth 100000 in
theorem plan_amounts {l : List NeedS} (hl : l.length ≤ 1000000) (hb : ∀ y ∈ l, 0 ≤ y.count ∧ y.count ≤ 1000000000) :
  SpecH Tryz.prog 153 [avL l] [] (fun y hp' => ∃ g, y = .v (.map (some g)) ∧ hp' = [mapE kvS g eI (amtP l)]) := by
 refine SpecH.of_VC Tryz.func153 rfl Tryz.ntmps153 (Nle rfl) fun w A hB => ?_
 have hnew : True := trivial
 refine VC.sr ?_
 refine VO.ma rfl rfl rfl rfl ?_
 refine VO.nil ?_
 refine VC.sr ?_
 refine VO.op rfl (OpE.makeMap (kvS) (eI) rfl hB rfl ?_)
 intro g6
 refine VO.ma rfl rfl rfl rfl ?_
 refine VO.nil ?_
 refine VC.seq ?_
 refine VC.sr ?_
 refine VO.mv rfl rfl rfl rfl ?_
 refine VO.val rfl rfl (OpV.len_im rfl Tryz.underlying77 rfl) ?_
 refine VO.mv rfl rfl rfl rfl ?_
 refine VO.nil ?_
 refine VC.block ?_
 refine VC.loopK [(3, _), (7, _), (8, _)] ⟨rfl, rfl, rfl, trivial⟩ ({q : Nat // q ≤ l.length}) (fun (iZ : {q : Nat // q ≤ l.length}) => match iZ with | ⟨q, hq⟩ => [(9, avI (q : Int))]) (fun (iZ : {q : Nat // q ≤ l.length}) => match iZ with | ⟨q, hq⟩ => [mapE kvS g6 eI (amtP (l.take q))]) (fun (iZ : {q : Nat // q ≤ l.length}) => match iZ with | ⟨q, hq⟩ => 0) (fun (iZ : {q : Nat // q ≤ l.length}) => match iZ with | ⟨q, hq⟩ => l.length - q) ⟨0, Nat.zero_le _⟩ (Le.mk hB [0] ⟨rfl, rfl, rfl, rfl, trivial⟩ rfl rfl (Nat.le_refl _)) ?_
 rintro ⟨q, hq⟩
 show VC _ _ _ _ ⟨[(9, avI (q : Int))] ++ [(3, _), (7, _), (8, _)], [mapE kvS g6 eI (amtP (l.take q))], 0⟩
 have hb1 := amt_bd hl hb q
 have hb2 := need_bd (by decide) hb q
 refine VC.sr ?_
 refine VO.val rfl rfl (OpV.lss rfl rfl rfl) ?_
 refine VO.nil ?_
 refine VC.seq ?_
 refine VC.cond rfl (fun aH1b => ?_) (fun aH1b => ?_)
 ·have aH1 := aH1b
  try simp only [qqT, qqF, qqN, qqM, qqL, qqE] at aH1
  refine VC.skip ?_
  refine VC.seq ?_
  refine VC.block ?_
  refine VC.sr ?_
  refine VO.val rfl rfl (OpV.indexAddr_E rfl Tryz.underlying77 Tryz.sizeOf96 rfl rfl rfl (by omega)) ?_
  refine VO.val rfl rfl (OpV.loadK_at rfl hB OutW.no Tryz.isAgg96 Tryz.sizeOf96 rfl rfl) ?_
  refine VO.op rfl (OpE.alloc rfl hB rfl Tryz.zeroValue96 rfl ?_)
  intro g5
  refine VO.op rfl (OpE.store (i := 1) rfl hB rfl Tryz.sizeOf96 rfl rfl rfl rfl rfl rfl (Nle rfl) trivial ?_)
  refine VO.nil ?_
  refine VC.region ?_
  refine VO.mv rfl rfl rfl rfl ?_
  refine VO.val rfl rfl (OpV.fieldAddrO 0 rfl Tryz.underlying96 rfl rfl Tryz.sizeOf9 rfl) ?_
  refine VO.val rfl rfl (OpV.load_own (i := 1) rfl hB Tryz.isAgg9 rfl rfl rfl (fun h => h)) ?_
  refine VO.val rfl rfl (OpV.lookup_own (i := 0) rfl hB Tryz.underlying100 (KeyOk.str Tryz.underlying9) Tryz.zeroValue3 rfl (KeyE.v rfl) rfl (fun h => h)) ?_
  refine VO.le _ (Le.recast (t := 16) (y := avI (mgetD (amtP (l.take q)) (l.getD q default).key 0)) rfl (fun w Z u h => by unfold mgetD; revert h; cases mget (amtP (l.take q)) (l.getD q default).key <;> exact id)) ?_
  refine VO.val rfl rfl (OpV.fieldAddrO 1 rfl Tryz.underlying96 rfl rfl Tryz.sizeOf3 rfl) ?_
  refine VO.val rfl rfl (OpV.load_own (i := 1) rfl hB Tryz.isAgg3 rfl rfl rfl (fun h => h)) ?_
  refine VO.val rfl rfl (OpV.add rfl rfl rfl (by have h := hb1 (l.getD q default).key; unfold fits; omega)) ?_
  refine VO.op rfl (OpE.mapUpdate (i := 0) (xx := mgetD (amtP (l.take q)) (l.getD q default).key 0 + (l.getD q default).count) rfl hB rfl Tryz.underlying100 (KeyOk.str Tryz.underlying9) rfl (KeyE.v rfl) rfl rfl trivial ?_)
  refine VO.nil ?_
  refine VC.region ?_
  refine VO.val rfl rfl (OpV.add rfl rfl rfl (by unfold fits; omega)) ?_
  refine VO.mv rfl rfl rfl rfl ?_
  refine VO.nil ?_
  exact Exists.intro (⟨q + 1, by omega⟩) (And.intro (Le.mk hB [0] ⟨rfl, rfl, rfl, rfl, trivial⟩ rfl (by dsimp only; rw [amtP_take (by omega)]; rfl) (Nat.le_refl _)) (by first | omega | (show _ < _; omega) | (simp only []; omega)))
 ·have aH1 := aH1b
  try simp only [qqT, qqF, qqN, qqM, qqL, qqE] at aH1
  refine VC.exit ?_
  refine VC.seq ?_
  have hqe : l.take q = l := List.take_of_length_le (by omega)
  rw [hqe]
  refine VC.region ?_
  refine VO.mv rfl rfl rfl rfl ?_
  refine VO.ma rfl rfl rfl rfl ?_
  refine VO.nil ?_
  refine VC.ret ?_
  exact Exists.intro _ (And.intro (RetV.one Tryz.results153 (ResV.tmp rfl)) (⟨_, rfl, rfl⟩))
set_option maxRecDepth 100000 in
theorem plan_Short1 {x z : NeedS}  :
  SpecN Tryz.prog 155 [avNd x, avNd z] (fun y => y = avI (cmpB x.key z.key)) := by
 refine SpecN.of_VCN Tryz.func155 rfl Tryz.ntmps155 (Nle rfl) fun w A hB => ?_
 have hnew : True := trivial
 refine VC.sr ?_
 refine VO.op rfl (OpE.box rfl hB rfl rfl rfl ?_)
 intro g2
 refine VO.op rfl (OpE.box rfl hB rfl rfl rfl ?_)
 intro g3
 refine VO.ma rfl rfl rfl rfl ?_
 refine VO.nil ?_
 refine VC.sr ?_
 refine VO.val rfl rfl (OpV.fieldAddrO 0 rfl Tryz.underlying96 rfl rfl Tryz.sizeOf9 rfl) ?_
 refine VO.val rfl rfl (OpV.load_own (i := 0) rfl hB Tryz.isAgg9 rfl rfl rfl (fun h => h)) ?_
 refine VO.val rfl rfl (OpV.fieldAddrO 0 rfl Tryz.underlying96 rfl rfl Tryz.sizeOf9 rfl) ?_
 refine VO.val rfl rfl (OpV.load_own (i := 1) rfl hB Tryz.isAgg9 rfl rfl rfl (fun h => h)) ?_
 refine VO.op rfl (OpE.call rfl hB rfl Tryz.call150 rfl (SpecN.spec (strings_Compare_S)) ?_)
 rintro _ rfl
 refine VO.ma rfl rfl rfl rfl ?_
 refine VO.nil ?_
 refine VC.ret ?_
 exact Exists.intro _ (And.intro (RetN.one Tryz.results155 (ResN.v rfl)) (rfl))
theorem keys_bd {l : List NeedS} {ks : List ByteArray} (h : ∀ y ∈ l, y.key ∈ ks) : (amtP l).length ≤ ks.length := by
 have := nodup_bd (amtP_nodup l) (r := ks) fun x hx => by
  obtain ⟨y, hy, rfl⟩ := amtP_mem.1 hx
  exact h y hy
 simpa using this
theorem amtP_val {l : List NeedS} {j : Nat} (h : j < (amtP l).length) : ((amtP l).getD j default).2 = sumK l ((amtP l).getD j default).1 := by
 rw [← amtP_get, List.getD_eq_getElem?_getD, List.getElem?_eq_getElem h]
 exact (mget_mem (amtP_nodup l) (List.getElem_mem h)).symm
theorem kits_bd {p : List PaceS} {o : List OrdrS} (h : paceF p = 0) (h2 : ordrF o = 0) : ∀ y ∈ kitsL p o, 0 ≤ y.count ∧ y.count ≤ 100000000 := fun y hy => by
 obtain ⟨x, hx, hy⟩ := List.mem_flatMap.1 hy
 obtain ⟨i, hi, rfl⟩ := List.getElem_of_mem hx
 have := ordr_count h2 hi
 rw [List.getD_eq_getElem?_getD, List.getElem?_eq_getElem hi] at this
 exact kit_bd h this y hy
theorem kits_len {p : List PaceS} (h : paceF p = 0) : ∀ (o : List OrdrS), (kitsL p o).length ≤ 1000 * o.length
 | [] => by simp [kitsL]
 | x :: o => by
  have := kits_len h o
  have := kit_len (x := x) h
  unfold kitsL at *
  rw [List.flatMap_cons, List.length_append, List.length_cons]; omega
set_option maxRecDepth 100000 in
set_option maxHeartbeats 8000000 in
theorem plan_Short {p : List PaceS} {o : List OrdrS} {st : List NeedS} {ks : List ByteArray} (hp : SmPc p) (ho : SmOr o) (hs : SmN st) (hks : ∀ y ∈ kitsL p o, y.key ∈ ks) (hkl : ks.length ≤ 12) :
  SpecN Tryz.prog 48 [avL p, avL o, avL st] (fun y => y = .tup [avL (shortR p o st), avI (stkE p o st)]) := by
 have hol := ho.len
 have hpl := hp.len
 have hsl := hs.len
 refine SpecN.of_VCN Tryz.func48 rfl Tryz.ntmps48 (Nle rfl) fun w A hB => ?_
 have hnew : True := trivial
 refine VC.sr ?_
 refine VO.ma rfl rfl rfl rfl ?_
 refine VO.ma rfl rfl rfl rfl ?_
 refine VO.nil ?_
 refine VC.seq ?_
 refine VC.sr ?_
 refine VO.mv rfl rfl rfl rfl ?_
 refine VO.mv rfl rfl rfl rfl ?_
 refine VO.mv rfl rfl rfl rfl ?_
 refine VO.op rfl (OpE.call rfl hB rfl Tryz.call152 rfl (SpecN.spec (plan_stocked hp ho hs)) ?_)
 rintro _ rfl
 refine VO.ma rfl rfl rfl rfl ?_
 refine VO.nil ?_
 refine VC.sr ?_
 refine VO.mv rfl rfl rfl rfl ?_
 refine VO.val rfl rfl (OpV.neq rfl rfl rfl) ?_
 refine VO.nil ?_
 refine VC.cond rfl (fun h0b => ?_) (fun h0b => ?_)
 ·have h0 := h0b
  try simp only [qqT, qqF, qqN, qqM, qqL, qqE] at h0
  refine VC.sr ?_
  refine VO.mv rfl rfl rfl rfl ?_
  refine VO.ma rfl rfl rfl rfl ?_
  refine VO.ma rfl rfl rfl rfl ?_
  refine VO.nil ?_
  refine VC.ret ?_
  exact Exists.intro _ (And.intro (RetN.two Tryz.results48 (ResN.nilE rfl) (ResN.v rfl)) (by rw [shortR, if_neg h0]; rfl))
 ·have h0 := h0b
  try simp only [qqT, qqF, qqN, qqM, qqL, qqE] at h0
  have hz : stkE p o st = 0 := by omega
  obtain ⟨hb, hn⟩ := stk_ok hz
  obtain ⟨hpf, hof⟩ := both_ok hb
  have hol2 := (ordrsOk hof).len
  have hbd := needs_bd hn
  refine VC.skip ?_
  refine VC.sr ?_
  refine VO.ma rfl rfl rfl rfl ?_
  refine VO.nil ?_
  refine VC.seq ?_
  refine VC.sr ?_
  refine VO.mv rfl rfl rfl rfl ?_
  refine VO.val rfl rfl (OpV.len_im rfl Tryz.underlying75 rfl) ?_
  refine VO.mv rfl rfl rfl rfl ?_
  refine VO.nil ?_
  refine VC.block ?_
  refine VC.le _ (Le.nilRow 2 96) ?_
  refine VC.loopK [(0, _), (2, _), (23, _), (24, _)] ⟨rfl, rfl, rfl, rfl, trivial⟩ ({zz : Value × Nat // zz.2 ≤ o.length}) (fun (iZ : {zz : Value × Nat // zz.2 ≤ o.length}) => match iZ with | ⟨⟨u, q⟩, hq⟩ => [(9, .v u), (25, avI (q : Int))]) (fun (iZ : {zz : Value × Nat // zz.2 ≤ o.length}) => match iZ with | ⟨⟨u, q⟩, hq⟩ => [.row u (kitsL p (o.take q)).length 2 (rowL (kitsL p (o.take q))) 96]) (fun (iZ : {zz : Value × Nat // zz.2 ≤ o.length}) => match iZ with | ⟨⟨u, q⟩, hq⟩ => 0) (fun (iZ : {zz : Value × Nat // zz.2 ≤ o.length}) => match iZ with | ⟨⟨u, q⟩, hq⟩ => o.length - q) ⟨(.slice none 0 0, 0), Nat.zero_le _⟩ (Le.mk hB [0] ⟨rfl, rfl, rfl, rfl, rfl, rfl, trivial⟩ rfl rfl (Nat.le_refl _)) ?_
  rintro ⟨⟨u, q⟩, hq⟩
  show VC _ _ _ _ ⟨[(9, .v u), (25, avI (q : Int))] ++ [(0, _), (2, _), (23, _), (24, _)], [.row u (kitsL p (o.take q)).length 2 (rowL (kitsL p (o.take q))) 96], 0⟩
  simp only at hq
  have hk1 := kits_len hpf (o.take q)
  have hk2 : (o.take q).length ≤ q := by rw [List.length_take]; omega
  have hk3 := kit_len (x := o.getD q default) hpf
  refine VC.sr ?_
  refine VO.val rfl rfl (OpV.lss rfl rfl rfl) ?_
  refine VO.nil ?_
  refine VC.seq ?_
  refine VC.cond rfl (fun h1b => ?_) (fun h1b => ?_)
  ·have h1 := h1b
   try simp only [qqT, qqF, qqN, qqM, qqL, qqE] at h1
   refine VC.skip ?_
   refine VC.seq ?_
   refine VC.block ?_
   refine VC.sr ?_
   refine VO.val rfl rfl (OpV.indexAddr_E rfl Tryz.underlying75 Tryz.sizeOf89 rfl rfl rfl (by omega)) ?_
   refine VO.val rfl rfl (OpV.loadK_at rfl hB OutW.no Tryz.isAgg89 Tryz.sizeOf89 rfl rfl) ?_
   refine VO.op rfl (OpE.alloc rfl hB rfl Tryz.zeroValue89 rfl ?_)
   intro g11
   refine VO.op rfl (OpE.store (i := 1) rfl hB rfl Tryz.sizeOf89 rfl rfl rfl rfl rfl rfl (Nle rfl) trivial ?_)
   refine VO.nil ?_
   refine VC.region ?_
   refine VO.mv rfl rfl rfl rfl ?_
   refine VO.mv rfl rfl rfl rfl ?_
   refine VO.val rfl rfl (OpV.loadK_own (i := 1) rfl hB Tryz.isAgg89 Tryz.sizeOf89 rfl rfl rfl (fun h => h)) ?_
   refine VO.op rfl (OpE.call rfl hB rfl Tryz.call151 rfl (SpecN.spec (plan_kitOf hpl hpf (ordr_count hof (by omega)))) ?_)
   rintro _ rfl
   refine VO.op rfl (OpE.appendP (i := 0) rfl hB rfl Tryz.underlying77 (infoOf Tryz.t96 2 (by kernel_rfl) rfl rfl) rfl (by decide) (by decide) rfl rfl (.im rfl) (nd_oneK (kitL p (o.getD q default))) (by omega) (app_kit (kitsL p (o.take q)) (kitL p (o.getD q default))) (fun _ _ => trivial) ?_)
   intro u2
   refine VO.ma rfl rfl rfl rfl ?_
   refine VO.nil ?_
   refine VC.region ?_
   refine VO.val rfl rfl (OpV.add rfl rfl rfl (by unfold fits; omega)) ?_
   refine VO.mv rfl rfl rfl rfl ?_
   refine VO.nil ?_
   exact Exists.intro (⟨(u2, q + 1), by show _ ≤ _; omega⟩) (And.intro (Le.mk hB [0] ⟨rfl, rfl, rfl, rfl, rfl, rfl, trivial⟩ rfl (by dsimp only; rw [kitsL_take (by omega), List.length_append]; rfl) (Nat.le_refl _)) (by first | omega | (show _ < _; omega) | (simp only []; omega)))
  ·have h1 := h1b
   try simp only [qqT, qqF, qqN, qqM, qqL, qqE] at h1
   refine VC.exit ?_
   refine VC.seq ?_
   have hqe : o.take q = o := List.take_of_length_le (by omega)
   refine VC.le _ (Le.rowT (t := 9) (i := 0) (xs := kitsL p (o.take q)) hB hnew rfl rfl rfl) ?_
   obtain ⟨A, hA⟩ : ∃ A, kitsL p o = A := ⟨_, rfl⟩
   refine VC.le _ (Le.recast (t := 9) (y := avL A) rfl (fun w Z u h => by rw [← hA, ← hqe]; exact h)) ?_
   have hAb := kits_bd hpf hof
   have hAl := kits_len hpf o
   have hAk := keys_bd hks
   rw [hA] at hAb hAl hAk
   refine VC.le ⟨[(2, _), (9, _)], [], _⟩ (Le.mk hB [] ⟨rfl, rfl, trivial⟩ rfl rfl (Nat.le_refl _)) ?_
   refine VC.region ?_
   refine VO.mv rfl rfl rfl rfl ?_
   refine VO.op rfl (OpE.callH (hp := []) (rest := _) rfl hB rfl Tryz.call153 rfl rfl (plan_amounts (by omega) hbd) (List.Perm.refl _) (fun _ h => by obtain ⟨e, he, _⟩ := h; cases he) ?_)
   rintro _ _ ⟨g36, rfl, rfl⟩
   refine VO.ma rfl rfl rfl rfl ?_
   refine VO.nil ?_
   refine VC.sr ?_
   refine VO.ma rfl rfl rfl rfl ?_
   refine VO.nil ?_
   refine VC.seq ?_
   refine VC.sr ?_
   refine VO.mv rfl rfl rfl rfl ?_
   refine VO.op rfl (OpE.callH (hp := []) (rest := _) rfl hB rfl Tryz.call153 rfl rfl (plan_amounts (by omega) (fun y hy => by have := hAb y hy; omega)) (List.Perm.refl _) (fun _ h => by obtain ⟨e, he, _⟩ := h; cases he) ?_)
   rintro _ _ ⟨g38, rfl, rfl⟩
   refine VO.le _ (Le.freezeM (t := 38) (i := 0) hB hnew rfl rfl) ?_
   refine VO.op rfl (OpE.rangeM rfl hB rfl Tryz.underlying100 rfl ?_)
   intro g39
   refine VO.nil ?_
   refine VC.block ?_
   refine VC.le _ (Le.nilRow 2 96) ?_
   refine VC.loopK [(12, _), (39, _)] ⟨rfl, rfl, trivial⟩ ({z : Value × List Nat // z.2.Nodup ∧ ∀ j ∈ z.2, j < (amtP A).length}) (fun (iZ : {z : Value × List Nat // z.2.Nodup ∧ ∀ j ∈ z.2, j < (amtP A).length}) => match iZ with | ⟨⟨u, seen⟩, hsd, hsn⟩ => [(13, .v u)]) (fun (iZ : {z : Value × List Nat // z.2.Nodup ∧ ∀ j ∈ z.2, j < (amtP A).length}) => match iZ with | ⟨⟨u, seen⟩, hsd, hsn⟩ => [mapE kvS g36 eI (amtP st), .it g39 (amtP A).length (fun j => kvS ((amtP A).getD j default).1) (fun j => eI ((amtP A).getD j default).2) seen, .row u (pickS (amtP A) st seen).length 2 (rowL (pickS (amtP A) st seen)) 96]) (fun (iZ : {z : Value × List Nat // z.2.Nodup ∧ ∀ j ∈ z.2, j < (amtP A).length}) => match iZ with | ⟨⟨u, seen⟩, hsd, hsn⟩ => 0) (fun (iZ : {z : Value × List Nat // z.2.Nodup ∧ ∀ j ∈ z.2, j < (amtP A).length}) => match iZ with | ⟨⟨u, seen⟩, hsd, hsn⟩ => (amtP A).length - seen.length) ⟨(.slice none 0 0, []), List.nodup_nil, fun j hj => by simp at hj⟩ (Le.mk hB [0, 1, 2] ⟨rfl, rfl, rfl, trivial⟩ rfl rfl (Nat.le_refl _)) ?_
   rintro ⟨⟨u, seen⟩, hsd, hsn⟩
   show VC _ _ _ _ ⟨[(13, .v u)] ++ [(12, _), (39, _)], [mapE kvS g36 eI (amtP st), .it g39 (amtP A).length (fun j => kvS ((amtP A).getD j default).1) (fun j => eI ((amtP A).getD j default).2) seen, .row u (pickS (amtP A) st seen).length 2 (rowL (pickS (amtP A) st seen)) 96], 0⟩
   simp only at hsd hsn
   have hsl := seen_len hsd hsn
   have hpl := pickS_len (amtP A) st seen
   refine VC.sr ?_
   refine VO.op rfl (OpE.nextM (i := 1) rfl hB rfl rfl rfl trivial ?_ ?_)
   ·intro hall40
    refine VO.val rfl rfl (OpV.extract rfl rfl rfl) ?_
    refine VO.nil ?_
    refine VC.seq ?_
    refine VC.condF rfl rfl ?_
    refine VC.exit ?_
    refine VC.seq ?_
    refine VC.le _ (Le.drop 2) ?_
    refine VC.region ?_
    refine VO.mv rfl rfl rfl rfl ?_
    refine VO.op rfl (OpE.callH0 rfl hB rfl Tryz.call154 rfl rfl (SpecH.fnv (sortFunc_need (l0 := pickS (amtP A) st seen) (F := 155) (cs := []) (c := fun x z => cmpB x.key z.key) (by omega) Tryz.call155 (fun x z => plan_Short1.spec) ltN_trans ltN_as ltN_neg)) (List.Perm.refl _) (fun _ _ => trivial) ?_)
    rintro _ _ ⟨r, hpr, rfl, rfl⟩
    refine VO.nil ?_
    refine VC.sr ?_
    refine VO.mv rfl rfl rfl rfl ?_
    refine VO.ma rfl rfl rfl rfl ?_
    refine VO.ma rfl rfl rfl rfl ?_
    refine VO.nil ?_
    refine VC.ret ?_
    exact Exists.intro _ (And.intro (RetN.two Tryz.results48 (ResN.rowT (i := 0) (xs := r) rfl rfl hpr.1.length_eq.symm (flat_need _)) (ResN.v rfl)) (by rw [shortR, if_pos hz, hz, hA, shortL_one hsd hsn hall40 hpr.1 hpr.2]))
   ·intro j40 hj40 hn40
    have hsd2 : (j40 :: seen).Nodup := List.nodup_cons.2 ⟨hn40, hsd⟩
    have hsn2 : ∀ j ∈ j40 :: seen, j < (amtP A).length := fun j hj => (List.mem_cons.1 hj).elim (fun e => e ▸ hj40) (hsn j)
    have hsl2 := seen_len hsd2 hsn2
    have hsl3 : (j40 :: seen).length = seen.length + 1 := rfl
    have hv1 := amtP_val hj40
    have hv2 := sumK_bd (by decide) hAb ((amtP A).getD j40 default).1
    have hv3 := sumK_bd (by decide) hbd ((amtP A).getD j40 default).1
    refine VO.val rfl rfl (OpV.extract rfl rfl rfl) ?_
    refine VO.nil ?_
    refine VC.seq ?_
    refine VC.condT rfl rfl ?_
    refine VC.skip ?_
    refine VC.block ?_
    refine VC.sr ?_
    refine VO.val rfl rfl (OpV.entryM (i := 1) rfl hB rfl rfl) ?_
    refine VO.val rfl rfl (OpV.extract rfl rfl rfl) ?_
    refine VO.val rfl rfl (OpV.extract rfl rfl rfl) ?_
    refine VO.ma rfl rfl rfl rfl ?_
    refine VO.ma rfl rfl rfl rfl ?_
    refine VO.nil ?_
    refine VC.sr ?_
    refine VO.mv rfl rfl rfl rfl ?_
    refine VO.mv rfl rfl rfl rfl ?_
    refine VO.mv rfl rfl rfl rfl ?_
    refine VO.val rfl rfl (OpV.lookup_own (i := 0) rfl hB Tryz.underlying100 (KeyOk.str Tryz.underlying9) Tryz.zeroValue3 rfl (KeyE.v rfl) rfl (fun h => h)) ?_
    refine VO.le _ (Le.recast (t := 48) (y := avI (sumK st ((amtP A).getD j40 default).1)) rfl (fun w Z u h => by rw [← amtP_get]; unfold mgetD; revert h; cases mget (amtP st) ((amtP A).getD j40 default).1 <;> exact id)) ?_
    refine VO.val rfl rfl (OpV.gtr rfl rfl rfl) ?_
    refine VO.nil ?_
    refine VC.cond rfl (fun k3b => ?_) (fun k3b => ?_)
    ·have k3 := k3b
     try simp only [qqT, qqF, qqN, qqM, qqL, qqE] at k3
     refine VC.region ?_
     refine VO.mv rfl rfl rfl rfl ?_
     refine VO.mv rfl rfl rfl rfl ?_
     refine VO.mv rfl rfl rfl rfl ?_
     refine VO.mv rfl rfl rfl rfl ?_
     refine VO.mv rfl rfl rfl rfl ?_
     refine VO.val rfl rfl (OpV.lookup_own (i := 0) rfl hB Tryz.underlying100 (KeyOk.str Tryz.underlying9) Tryz.zeroValue3 rfl (KeyE.v rfl) rfl (fun h => h)) ?_
     refine VO.le _ (Le.recast (t := 55) (y := avI (sumK st ((amtP A).getD j40 default).1)) rfl (fun w Z u h => by rw [← amtP_get]; unfold mgetD; revert h; cases mget (amtP st) ((amtP A).getD j40 default).1 <;> exact id)) ?_
     refine VO.val rfl rfl (OpV.sub rfl rfl rfl (by unfold fits; omega)) ?_
     refine VO.val rfl rfl (OpV.build (pls := #[(0, 1), (1, 1)]) rfl Tryz.zeroValue96 Tryz.underlying96 (fun w => by kernel_rfl) rfl rfl) ?_
     refine VO.op rfl (OpE.buildSlice (zc := #[.string ⟨#[]⟩, .int .i64 0]) rfl hB rfl Tryz.underlying77 Tryz.sizeOf96 Tryz.zeroValue96 (by decide) (by decide) (by kernel_rfl) rfl rfl ?_)
     refine VO.op rfl (OpE.append1 (i := 2) rfl hB rfl Tryz.underlying77 (infoOf Tryz.t96 2 (by kernel_rfl) rfl rfl) rfl (by decide) (by decide) rfl rfl rfl rfl (rowL_snoc _ (⟨((amtP A).getD j40 default).1, ((amtP A).getD j40 default).2 - sumK st ((amtP A).getD j40 default).1⟩ : NeedS)) (by omega) (fun _ _ => trivial) ?_)
     intro u59
     refine VO.ma rfl rfl rfl rfl ?_
     refine VO.nil ?_
     exact Exists.intro (⟨(u59, j40 :: seen), hsd2, hsn2⟩) (And.intro (Le.mk hB [0, 1, 2] ⟨rfl, rfl, rfl, trivial⟩ rfl (by dsimp only; first | (rw [pickS_t k3, List.length_append]; rfl) | (rw [pickS_f k3]; rfl)) (Nat.le_refl _)) (by first | omega | (show _ < _; omega) | (simp only []; omega)))
    ·have k3 := k3b
     try simp only [qqT, qqF, qqN, qqM, qqL, qqE] at k3
     refine VC.skip ?_
     exact Exists.intro (⟨(u, j40 :: seen), hsd2, hsn2⟩) (And.intro (Le.mk hB [0, 1, 2] ⟨rfl, rfl, rfl, trivial⟩ rfl (by dsimp only; first | (rw [pickS_t k3, List.length_append]; rfl) | (rw [pickS_f k3]; rfl)) (Nat.le_refl _)) (by first | omega | (show _ < _; omega) | (simp only []; omega)))
set_option maxRecDepth 100000 in
theorem slices_IndexFunc_ndH {xs : List NeedS} {F : FuncId} {caps : Array Value} {hpC : List Ent} {p : NeedS → Bool} (hl : xs.length ≤ 1000000000) (hcall : ∀ us w, (callFunc F us).run Tryz.prog w = .ok (.enter F us) w) (hF : ∀ x, SpecH Tryz.prog F ([avT x] ++ caps.toList.map .v) hpC (fun y hp' => y = avB (p x) ∧ hp' = hpC)) :
  SpecH Tryz.prog 270 [avL xs, .v (.func (.func F) #[] caps)] hpC (fun y hp' => y = avI (fidx p xs) ∧ hp' = hpC) := by
 refine SpecH.of_VC Tryz.func270 rfl Tryz.ntmps270 (Nle rfl) fun w A hB => ?_
 have hnew : True := trivial
 refine VC.sr ?_
 refine VO.ma rfl rfl rfl rfl ?_
 refine VO.nil ?_
 refine VC.seq ?_
 refine VC.sr ?_
 refine VO.mv rfl rfl rfl rfl ?_
 refine VO.val rfl rfl (OpV.len_im rfl Tryz.underlying77 rfl) ?_
 refine VO.mv rfl rfl rfl rfl ?_
 refine VO.nil ?_
 refine VC.block ?_
 refine VC.loopK [(0, _), (1, _), (7, _)] ⟨rfl, rfl, rfl, trivial⟩ ({q : Nat // q ≤ xs.length ∧ ∀ j, j < q → p (xs.getD j (default : NeedS)) = false}) (fun (iZ : {q : Nat // q ≤ xs.length ∧ ∀ j, j < q → p (xs.getD j (default : NeedS)) = false}) => match iZ with | ⟨q, hq, hn⟩ => [(8, avI (q : Int))]) (fun (iZ : {q : Nat // q ≤ xs.length ∧ ∀ j, j < q → p (xs.getD j (default : NeedS)) = false}) => match iZ with | ⟨q, hq, hn⟩ => hpC) (fun (iZ : {q : Nat // q ≤ xs.length ∧ ∀ j, j < q → p (xs.getD j (default : NeedS)) = false}) => match iZ with | ⟨q, hq, hn⟩ => 0) (fun (iZ : {q : Nat // q ≤ xs.length ∧ ∀ j, j < q → p (xs.getD j (default : NeedS)) = false}) => match iZ with | ⟨q, hq, hn⟩ => xs.length - q) ⟨0, Nat.zero_le _, fun j hj => absurd hj (Nat.not_lt_zero j)⟩ (Le.mkP hB ⟨rfl, rfl, rfl, rfl, trivial⟩ (List.Sublist.refl _) (List.Perm.refl _) (Nat.le_refl _)) ?_
 rintro ⟨q, hq, hn⟩
 show VC _ _ _ _ ⟨[(8, avI (q : Int))] ++ [(0, _), (1, _), (7, _)], hpC, 0⟩
 refine VC.sr ?_
 refine VO.val rfl rfl (OpV.lss rfl rfl rfl) ?_
 refine VO.nil ?_
 refine VC.seq ?_
 refine VC.cond rfl (fun aH1b => ?_) (fun aH1b => ?_)
 ·have aH1 := aH1b
  try simp only [qqT, qqF, qqN, qqM, qqL, qqE] at aH1
  refine VC.skip ?_
  refine VC.seq ?_
  refine VC.block ?_
  refine VC.sr ?_
  refine VO.mv rfl rfl rfl rfl ?_
  refine VO.ma rfl rfl rfl rfl ?_
  refine VO.nil ?_
  refine VC.sr ?_
  refine VO.mv rfl rfl rfl rfl ?_
  refine VO.mv rfl rfl rfl rfl ?_
  refine VO.mv rfl rfl rfl rfl ?_
  refine VO.val rfl rfl (OpV.indexAddr_E rfl Tryz.underlying77 Tryz.sizeOf96 rfl rfl rfl (by omega)) ?_
  refine VO.val rfl rfl (OpV.loadK_at rfl hB OutW.no Tryz.isAgg96 Tryz.sizeOf96 rfl rfl) ?_
  refine VO.op rfl (OpE.callH0 rfl hB rfl hcall rfl rfl (hF _) (List.Perm.refl _) (fun _ _ => trivial) ?_)
  rintro _ _ ⟨rfl, rfl⟩
  refine VO.nil ?_
  refine VC.cond rfl (fun aH2b => ?_) (fun aH2b => ?_)
  ·have aH2 := aH2b
   try simp only [qqT, qqF, qqN, qqM, qqL, qqE] at aH2
   refine VC.sr ?_
   refine VO.mv rfl rfl rfl rfl ?_
   refine VO.ma rfl rfl rfl rfl ?_
   refine VO.nil ?_
   refine VC.ret ?_
   exact Exists.intro _ (And.intro (RetV.one Tryz.results270 (ResV.tmp rfl)) (⟨by first | (rw [fidx_found (d := (default : NeedS)) (q := q) (by omega) hn (by assumption)]) | (rw [fidx_none (d := (default : NeedS)) (fun j hj => hn j (by omega))]), rfl⟩))
  ·have aH2 := aH2b
   try simp only [qqT, qqF, qqN, qqM, qqL, qqE] at aH2
   refine VC.skip ?_
   refine VC.region ?_
   refine VO.val rfl rfl (OpV.add rfl rfl rfl (by unfold fits; omega)) ?_
   refine VO.mv rfl rfl rfl rfl ?_
   refine VO.nil ?_
   exact Exists.intro (⟨q + 1, by omega, lt_succ_cases hn (by assumption)⟩) (And.intro (Le.mkP hB ⟨rfl, rfl, rfl, rfl, trivial⟩ (List.Sublist.refl _) (List.Perm.refl _) (Nat.le_refl _)) (by first | omega | (show _ < _; omega) | (simp only []; omega)))
 ·have aH1 := aH1b
  try simp only [qqT, qqF, qqN, qqM, qqL, qqE] at aH1
  refine VC.exit ?_
  refine VC.sr ?_
  refine VO.ma rfl rfl rfl rfl ?_
  refine VO.nil ?_
  refine VC.ret ?_
  exact Exists.intro _ (And.intro (RetV.one Tryz.results270 (ResV.tmp rfl)) (⟨by first | (rw [fidx_found (d := (default : NeedS)) (q := q) (by omega) hn (by assumption)]) | (rw [fidx_none (d := (default : NeedS)) (fun j hj => hn j (by omega))]), rfl⟩))
set_option maxRecDepth 100000 in
theorem slices_ContainsFunc_ndH {xs : List NeedS} {F : FuncId} {caps : Array Value} {hpC : List Ent} {p : NeedS → Bool} (hl : xs.length ≤ 1000000000) (hcall : ∀ us w, (callFunc F us).run Tryz.prog w = .ok (.enter F us) w) (hF : ∀ x, SpecH Tryz.prog F ([avT x] ++ caps.toList.map .v) hpC (fun y hp' => y = avB (p x) ∧ hp' = hpC)) :
  SpecH Tryz.prog 157 [avL xs, .v (.func (.func F) #[] caps)] hpC (fun y hp' => y = avB (xs.any p) ∧ hp' = hpC) := by
 refine SpecH.of_VC Tryz.func157 rfl Tryz.ntmps157 (Nle rfl) fun w A hB => ?_
 have hnew : True := trivial
 refine VC.sr ?_
 refine VO.ma rfl rfl rfl rfl ?_
 refine VO.nil ?_
 refine VC.sr ?_
 refine VO.mv rfl rfl rfl rfl ?_
 refine VO.mv rfl rfl rfl rfl ?_
 refine VO.op rfl (OpE.callH0 rfl hB rfl Tryz.call270 rfl rfl (slices_IndexFunc_ndH hl hcall hF) (List.Perm.refl _) (fun _ _ => trivial) ?_)
 rintro _ _ ⟨rfl, rfl⟩
 refine VO.val rfl rfl (OpV.geq rfl rfl rfl) ?_
 refine VO.ma rfl rfl rfl rfl ?_
 refine VO.nil ?_
 refine VC.ret ?_
 exact Exists.intro _ (And.intro (RetV.one Tryz.results157 (ResV.tmp rfl)) (⟨by rw [← fidx_any], rfl⟩))
abbrev bxM (g gm : Nat) : Ent := .box g ⟨[.v (.map (some gm))], 100, 1⟩
set_option maxRecDepth 100000 in
theorem plan_Covered1 {x : NeedS} {gm g9 : Nat} {mm : List (ByteArray × Int)}  :
  SpecH Tryz.prog 158 [avT x, pt g9] [mapE kvS gm eI mm, bxM g9 gm] (fun y hp' => y = avB (decide (mgetD mm x.key 0 < x.count)) ∧ hp' = [mapE kvS gm eI mm, bxM g9 gm]) := by
 refine SpecH.of_VC Tryz.func158 rfl Tryz.ntmps158 (Nle rfl) fun w A hB => ?_
 have hnew : True := trivial
 refine VC.sr ?_
 refine VO.op rfl (OpE.box rfl hB rfl rfl rfl ?_)
 intro g2
 refine VO.ma rfl rfl rfl rfl ?_
 refine VO.nil ?_
 refine VC.sr ?_
 refine VO.val rfl rfl (OpV.fieldAddrO 1 rfl Tryz.underlying96 rfl rfl Tryz.sizeOf3 rfl) ?_
 refine VO.val rfl rfl (OpV.load_own (i := 2) rfl hB Tryz.isAgg3 rfl rfl rfl (fun h => h)) ?_
 refine VO.val rfl rfl (OpV.load_own (i := 1) rfl hB Tryz.isAgg100 rfl rfl rfl (fun h => h)) ?_
 refine VO.val rfl rfl (OpV.fieldAddrO 0 rfl Tryz.underlying96 rfl rfl Tryz.sizeOf9 rfl) ?_
 refine VO.val rfl rfl (OpV.load_own (i := 2) rfl hB Tryz.isAgg9 rfl rfl rfl (fun h => h)) ?_
 refine VO.val rfl rfl (OpV.lookup_own (i := 0) rfl hB Tryz.underlying100 (KeyOk.str Tryz.underlying9) Tryz.zeroValue3 rfl (KeyE.v rfl) rfl (fun h => h)) ?_
 refine VO.le _ (Le.recast (t := 9) (y := avI (mgetD mm x.key 0)) rfl (fun w Z u h => by unfold mgetD; revert h; cases mget mm x.key <;> exact id)) ?_
 refine VO.val rfl rfl (OpV.gtr rfl rfl rfl) ?_
 refine VO.le _ (Le.pickH [0, 1] rfl rfl) ?_
 refine VO.ma rfl rfl rfl rfl ?_
 refine VO.nil ?_
 refine VC.ret ?_
 exact Exists.intro _ (And.intro (RetV.one Tryz.results158 (ResV.tmp rfl)) (⟨rfl, rfl⟩))
structure CovI (p : List PaceS) (o : List OrdrS) (st : List NeedS) (l : List Int) (q : Nat) (mm : List (ByteArray × Int)) (cl : List ByteArray) : Prop where
 eq : covR p o st (l.take q) = (mm, cl)
 bd : MBd (1000000000000 + 100000000000 * q) mm
 len : cl.length ≤ q
theorem CovI.zero {p : List PaceS} {o : List OrdrS} {st : List NeedS} {l : List Int} (hb : ∀ y ∈ st, 0 ≤ y.count ∧ y.count ≤ 1000000000) (hl : st.length ≤ 1000) : CovI p o st l 0 (amtP st) [] :=
 ⟨by simp [covR], (MBd.amt (by decide) hb).mono (by omega), Nat.le_refl _⟩
section
variable {p : List PaceS} {o : List OrdrS} {st : List NeedS} {l : List Int} {q i : Nat} {mm : List (ByteArray × Int)} {cl : List ByteArray} {kt : List NeedS}
theorem CovI.skip (h : CovI p o st l q mm cl) (hq : q < l.length) (hi : l.getD q 0 = (i : Int)) (hk : kitL p (o.getD i default) = kt) (ht : kt.any (fun n => decide (mgetD mm n.key 0 < n.count)) = true) : CovI p o st l (q + 1) mm cl := by
 refine ⟨?_, h.bd.mono (by omega), by have := h.len; omega⟩
 rw [covR_take hq, h.eq, hi, covS_t]
 show covT mm (kitL p (o.getD (i : Int).toNat default)) = true
 rw [Int.toNat_natCast, hk]; exact ht
theorem CovI.take (h : CovI p o st l q mm cl) (hq : q < l.length) (hi : l.getD q 0 = (i : Int)) (hk : kitL p (o.getD i default) = kt) (ht : kt.any (fun n => decide (mgetD mm n.key 0 < n.count)) = false) (hb : ∀ y ∈ kt, 0 ≤ y.count ∧ y.count ≤ 100000000) (hl : kt.length ≤ 1000) : CovI p o st l (q + 1) (subP mm kt) (cl ++ [(o.getD i default).key]) := by
 refine ⟨?_, (h.bd.sub (by decide) hb).mono (by omega), by have := h.len; rw [List.length_append]; simp; omega⟩
 rw [covR_take hq, h.eq, hi, covS_f]
 ·show (subP mm (kitL p (o.getD (i : Int).toNat default)), _) = _
  rw [Int.toNat_natCast, hk]
 ·show covT mm (kitL p (o.getD (i : Int).toNat default)) = false
  rw [Int.toNat_natCast, hk]; exact ht
theorem CovI.inner (h : CovI p o st l q mm cl) (hb : ∀ y ∈ kt, 0 ≤ y.count ∧ y.count ≤ 100000000) (hl : kt.length ≤ 1000) (r : Nat) (k : ByteArray) : -(1000000000000 + 100000000000 * (q + 1 : Int)) ≤ mgetD (subP mm (kt.take r)) k 0 ∧ mgetD (subP mm (kt.take r)) k 0 ≤ 1000000000000 + 100000000000 * (q + 1 : Int) := by
 have h1 := (h.bd.sub (by decide) (l := kt.take r) fun y hy => hb y (List.mem_of_mem_take hy)) k
 have h2 : (kt.take r).length ≤ 1000 := by rw [List.length_take]; omega
 omega
end
theorem due_at {o : List OrdrS} {q : Nat} (h : q < (dueL o).length) : ∃ i : Nat, (dueL o).getD q 0 = (i : Int) ∧ i < o.length := by
 have hm : (dueL o).getD q 0 ∈ dueL o := by rw [List.getD_eq_getElem?_getD, List.getElem?_eq_getElem h]; exact List.getElem_mem h
 have := idO_mem ((dueL_perm o).subset hm)
 exact ⟨((dueL o).getD q 0).toNat, by omega, this.2⟩
set_option maxRecDepth 100000 in
set_option maxHeartbeats 8000000 in
theorem plan_Covered {p : List PaceS} {o : List OrdrS} {st : List NeedS} (hp : SmPc p) (ho : SmOr o) (hs : SmN st) (hl : o.length < 20) :
  SpecN Tryz.prog 49 [avL p, avL o, avL st] (fun y => y = .tup [avStrs (covE p o st), avI (stkE p o st)]) := by
 have hpl := hp.len
 have hsl := hs.len
 refine SpecN.of_VCN Tryz.func49 rfl Tryz.ntmps49 (Nle rfl) fun w A hB => ?_
 have hnew : True := trivial
 refine VC.sr ?_
 refine VO.ma rfl rfl rfl rfl ?_
 refine VO.ma rfl rfl rfl rfl ?_
 refine VO.nil ?_
 refine VC.seq ?_
 refine VC.sr ?_
 refine VO.mv rfl rfl rfl rfl ?_
 refine VO.mv rfl rfl rfl rfl ?_
 refine VO.mv rfl rfl rfl rfl ?_
 refine VO.op rfl (OpE.call rfl hB rfl Tryz.call152 rfl (SpecN.spec (plan_stocked hp ho hs)) ?_)
 rintro _ rfl
 refine VO.ma rfl rfl rfl rfl ?_
 refine VO.nil ?_
 refine VC.sr ?_
 refine VO.mv rfl rfl rfl rfl ?_
 refine VO.val rfl rfl (OpV.neq rfl rfl rfl) ?_
 refine VO.nil ?_
 refine VC.cond rfl (fun h0b => ?_) (fun h0b => ?_)
 ·have h0 := h0b
  try simp only [qqT, qqF, qqN, qqM, qqL, qqE] at h0
  refine VC.sr ?_
  refine VO.mv rfl rfl rfl rfl ?_
  refine VO.ma rfl rfl rfl rfl ?_
  refine VO.ma rfl rfl rfl rfl ?_
  refine VO.nil ?_
  refine VC.ret ?_
  exact Exists.intro _ (And.intro (RetN.two Tryz.results49 (ResN.nilE rfl) (ResN.v rfl)) (by rw [covE, if_neg h0]; rfl))
 ·have h0 := h0b
  try simp only [qqT, qqF, qqN, qqM, qqL, qqE] at h0
  have hz : stkE p o st = 0 := by omega
  obtain ⟨hb, hn⟩ := stk_ok hz
  obtain ⟨hpf, hof⟩ := both_ok hb
  have hbd := needs_bd hn
  have hsl2 := needsF_lenP hn
  refine VC.skip ?_
  refine VC.sr ?_
  refine VO.mv rfl rfl rfl rfl ?_
  refine VO.op rfl (OpE.callH (hp := []) (rest := _) rfl hB rfl Tryz.call153 rfl rfl (plan_amounts (by omega) hbd) (List.Perm.refl _) (fun _ h => by obtain ⟨e, he, _⟩ := h; cases he) ?_)
  rintro _ _ ⟨g24, rfl, rfl⟩
  refine VO.op rfl (OpE.alloc rfl hB rfl Tryz.zeroValue100 rfl ?_)
  intro g9
  refine VO.op rfl (OpE.store (i := 1) rfl hB rfl Tryz.sizeOf100 rfl rfl rfl rfl rfl rfl (Nle rfl) trivial ?_)
  refine VO.nil ?_
  refine VC.sr ?_
  refine VO.ma rfl rfl rfl rfl ?_
  refine VO.nil ?_
  refine VC.seq ?_
  refine VC.sr ?_
  refine VO.mv rfl rfl rfl rfl ?_
  refine VO.op rfl (OpE.call rfl hB rfl Tryz.call156 rfl (plan_byDue (by omega)) ?_)
  rintro _ rfl
  obtain ⟨D, hD⟩ : ∃ D, dueL o = D := ⟨_, rfl⟩
  refine VO.le _ (Le.recast (t := 26) (y := avInts D) rfl (fun w Z u h => by rw [← hD]; exact h)) ?_
  have hDl : D.length = o.length := by rw [← hD, dueL_len]
  have hDi : ∀ q, q < D.length → ∃ i : Nat, D.getD q 0 = (i : Int) ∧ i < o.length := fun q hq => by rw [← hD] at hq ⊢; exact due_at hq
  refine VO.val rfl rfl (OpV.len_im rfl Tryz.underlying22 rfl) ?_
  refine VO.mv rfl rfl rfl rfl ?_
  refine VO.nil ?_
  refine VC.block ?_
  refine VC.le _ (Le.nilRow 1 9) ?_
  refine VC.loopK [(0, _), (1, _), (9, _), (26, _), (27, _)] ⟨rfl, rfl, rfl, rfl, rfl, trivial⟩ ({z : Value × List (ByteArray × Int) × List ByteArray × Nat // z.2.2.2 ≤ D.length ∧ CovI p o st D z.2.2.2 z.2.1 z.2.2.1}) (fun (iZ : {z : Value × List (ByteArray × Int) × List ByteArray × Nat // z.2.2.2 ≤ D.length ∧ CovI p o st D z.2.2.2 z.2.1 z.2.2.1}) => match iZ with | ⟨⟨u, mm, cl, q⟩, hq, hci⟩ => [(10, .v u), (28, avI (q : Int))]) (fun (iZ : {z : Value × List (ByteArray × Int) × List ByteArray × Nat // z.2.2.2 ≤ D.length ∧ CovI p o st D z.2.2.2 z.2.1 z.2.2.1}) => match iZ with | ⟨⟨u, mm, cl, q⟩, hq, hci⟩ => [mapE kvS g24 eI mm, bxM g9 g24, .row u cl.length 1 (strsL cl) 9]) (fun (iZ : {z : Value × List (ByteArray × Int) × List ByteArray × Nat // z.2.2.2 ≤ D.length ∧ CovI p o st D z.2.2.2 z.2.1 z.2.2.1}) => match iZ with | ⟨⟨u, mm, cl, q⟩, hq, hci⟩ => 0) (fun (iZ : {z : Value × List (ByteArray × Int) × List ByteArray × Nat // z.2.2.2 ≤ D.length ∧ CovI p o st D z.2.2.2 z.2.1 z.2.2.1}) => match iZ with | ⟨⟨u, mm, cl, q⟩, hq, hci⟩ => D.length - q) ⟨(.slice none 0 0, amtP st, [], 0), Nat.zero_le _, CovI.zero hbd hsl2⟩ (Le.mk hB [0, 1, 2] ⟨rfl, rfl, rfl, rfl, rfl, rfl, rfl, trivial⟩ rfl rfl (Nat.le_refl _)) ?_
  rintro ⟨⟨u, mm, cl, q⟩, hq, hci⟩
  show VC _ _ _ _ ⟨[(10, .v u), (28, avI (q : Int))] ++ [(0, _), (1, _), (9, _), (26, _), (27, _)], [mapE kvS g24 eI mm, bxM g9 g24, .row u cl.length 1 (strsL cl) 9], 0⟩
  simp only at hq hci
  have hcl := hci.len
  refine VC.sr ?_
  refine VO.val rfl rfl (OpV.lss rfl rfl rfl) ?_
  refine VO.nil ?_
  refine VC.seq ?_
  refine VC.cond rfl (fun aH1b => ?_) (fun aH1b => ?_)
  ·have aH1 := aH1b
   try simp only [qqT, qqF, qqN, qqM, qqL, qqE] at aH1
   refine VC.skip ?_
   refine VC.seq ?_
   refine VC.block ?_
   refine VC.sr ?_
   refine VO.val rfl rfl (OpV.indexAddr_1 rfl Tryz.underlying22 Tryz.sizeOf3 rfl rfl rfl (by omega)) ?_
   refine VO.val rfl rfl (OpV.load_at rfl hB OutW.no Tryz.isAgg3 rfl rfl) ?_
   have hql : q < D.length := by omega
   obtain ⟨i, hi, hio⟩ := hDi q hql
   refine VO.le _ (Le.recast (t := 31) (y := avI (i : Int)) rfl (fun w Z u h => by rw [← hi]; exact h)) ?_
   refine VO.ma rfl rfl rfl rfl ?_
   refine VO.nil ?_
   refine VC.sr ?_
   refine VO.mv rfl rfl rfl rfl ?_
   refine VO.mv rfl rfl rfl rfl ?_
   refine VO.mv rfl rfl rfl rfl ?_
   refine VO.val rfl rfl (OpV.indexAddr_E rfl Tryz.underlying75 Tryz.sizeOf89 rfl rfl rfl (by omega)) ?_
   refine VO.val rfl rfl (OpV.loadK_at rfl hB OutW.no Tryz.isAgg89 Tryz.sizeOf89 rfl rfl) ?_
   refine VO.op rfl (OpE.call rfl hB rfl Tryz.call151 rfl (SpecN.spec (plan_kitOf hpl hpf (ordr_count hof (by omega)))) ?_)
   rintro _ rfl
   have hkb := kit_bd (p := p) (x := o.getD i default) hpf (ordr_count hof (by omega))
   have hkl := kit_len (p := p) (x := o.getD i default) hpf
   obtain ⟨kt, hkt⟩ : ∃ kt, kitL p (o.getD i default) = kt := ⟨_, rfl⟩
   refine VO.le _ (Le.recast (t := 37) (y := avL kt) rfl (fun w Z u h => by rw [← hkt]; exact h)) ?_
   rw [hkt] at hkb hkl
   refine VO.ma rfl rfl rfl rfl ?_
   refine VO.nil ?_
   refine VC.seq ?_
   refine VC.sr ?_
   refine VO.mv rfl rfl rfl rfl ?_
   refine VO.val rfl rfl (OpV.makeFunc1 rfl rfl) ?_
   refine VO.op rfl (OpE.callH (rest := [_]) rfl hB rfl Tryz.call157 rfl rfl (slices_ContainsFunc_ndH (xs := kt) (hpC := [mapE kvS g24 eI mm, bxM g9 g24]) (p := fun n => decide (mgetD mm n.key 0 < n.count)) (by omega) Tryz.call158 (fun x => plan_Covered1)) (List.Perm.refl _) (fun _ _ => trivial) ?_)
   rintro _ _ ⟨rfl, rfl⟩
   refine VO.nil ?_
   refine VC.cond rfl (fun h2b => ?_) (fun h2b => ?_)
   ·have h2 := h2b
    try simp only [qqT, qqF, qqN, qqM, qqL, qqE] at h2
    refine VC.exit ?_
    refine VC.region ?_
    refine VO.val rfl rfl (OpV.add rfl rfl rfl (by unfold fits; omega)) ?_
    refine VO.mv rfl rfl rfl rfl ?_
    refine VO.nil ?_
    exact Exists.intro (⟨(u, mm, cl, q + 1), by show q + 1 ≤ _; omega, hci.skip hql hi hkt h2⟩) (And.intro (Le.mk hB [0, 1, 2] ⟨rfl, rfl, rfl, rfl, rfl, rfl, rfl, trivial⟩ rfl (by dsimp only; first | rfl | (rw [List.length_append]; rfl)) (Nat.le_refl _)) (by first | omega | (show _ < _; omega) | (simp only []; omega)))
   ·have h2 := h2b
    try simp only [qqT, qqF, qqN, qqM, qqL, qqE] at h2
    refine VC.skip ?_
    refine VC.seq ?_
    refine VC.sr ?_
    refine VO.mv rfl rfl rfl rfl ?_
    refine VO.val rfl rfl (OpV.len_im rfl Tryz.underlying77 rfl) ?_
    refine VO.mv rfl rfl rfl rfl ?_
    refine VO.nil ?_
    refine VC.block ?_
    refine VC.loopK [(0, _), (1, _), (9, _), (10, _), (12, _), (26, _), (27, _), (28, _), (41, _), (42, _)] ⟨rfl, rfl, rfl, rfl, rfl, rfl, rfl, rfl, rfl, rfl, trivial⟩ ({r : Nat // r ≤ kt.length}) (fun (iZ : {r : Nat // r ≤ kt.length}) => match iZ with | ⟨r, hq1⟩ => [(43, avI (r : Int))]) (fun (iZ : {r : Nat // r ≤ kt.length}) => match iZ with | ⟨r, hq1⟩ => [mapE kvS g24 eI (subP mm (kt.take r)), bxM g9 g24, .row u cl.length 1 (strsL cl) 9]) (fun (iZ : {r : Nat // r ≤ kt.length}) => match iZ with | ⟨r, hq1⟩ => 0) (fun (iZ : {r : Nat // r ≤ kt.length}) => match iZ with | ⟨r, hq1⟩ => kt.length - r) ⟨0, Nat.zero_le _⟩ (Le.mk hB [0, 1, 2] ⟨rfl, rfl, rfl, rfl, rfl, rfl, rfl, rfl, rfl, rfl, rfl, trivial⟩ rfl rfl (Nat.le_refl _)) ?_
    rintro ⟨r, hq1⟩
    show VC _ _ _ _ ⟨[(43, avI (r : Int))] ++ [(0, _), (1, _), (9, _), (10, _), (12, _), (26, _), (27, _), (28, _), (41, _), (42, _)], [mapE kvS g24 eI (subP mm (kt.take r)), bxM g9 g24, .row u cl.length 1 (strsL cl) 9], 0⟩
    have hin := hci.inner hkb hkl r
    have hnb := need_bd (by decide) hkb r
    refine VC.sr ?_
    refine VO.val rfl rfl (OpV.lss rfl rfl rfl) ?_
    refine VO.nil ?_
    refine VC.seq ?_
    refine VC.cond rfl (fun aH2b => ?_) (fun aH2b => ?_)
    ·have aH2 := aH2b
     try simp only [qqT, qqF, qqN, qqM, qqL, qqE] at aH2
     refine VC.skip ?_
     refine VC.seq ?_
     refine VC.block ?_
     refine VC.sr ?_
     refine VO.val rfl rfl (OpV.indexAddr_E rfl Tryz.underlying77 Tryz.sizeOf96 rfl rfl rfl (by omega)) ?_
     refine VO.val rfl rfl (OpV.loadK_at rfl hB OutW.no Tryz.isAgg96 Tryz.sizeOf96 rfl rfl) ?_
     refine VO.op rfl (OpE.alloc rfl hB rfl Tryz.zeroValue96 rfl ?_)
     intro g15
     refine VO.op rfl (OpE.store (i := 3) rfl hB rfl Tryz.sizeOf96 rfl rfl rfl rfl rfl rfl (Nle rfl) trivial ?_)
     refine VO.nil ?_
     refine VC.region ?_
     refine VO.val rfl rfl (OpV.load_own (i := 1) rfl hB Tryz.isAgg100 rfl rfl rfl (fun h => h)) ?_
     refine VO.val rfl rfl (OpV.fieldAddrO 0 rfl Tryz.underlying96 rfl rfl Tryz.sizeOf9 rfl) ?_
     refine VO.val rfl rfl (OpV.load_own (i := 3) rfl hB Tryz.isAgg9 rfl rfl rfl (fun h => h)) ?_
     refine VO.val rfl rfl (OpV.lookup_own (i := 0) rfl hB Tryz.underlying100 (KeyOk.str Tryz.underlying9) Tryz.zeroValue3 rfl (KeyE.v rfl) rfl (fun h => h)) ?_
     refine VO.le _ (Le.recast (t := 50) (y := avI (mgetD (subP mm (kt.take r)) (kt.getD r default).key 0)) rfl (fun w Z u h => by unfold mgetD; revert h; cases mget (subP mm (kt.take r)) (kt.getD r default).key <;> exact id)) ?_
     refine VO.val rfl rfl (OpV.fieldAddrO 1 rfl Tryz.underlying96 rfl rfl Tryz.sizeOf3 rfl) ?_
     refine VO.val rfl rfl (OpV.load_own (i := 3) rfl hB Tryz.isAgg3 rfl rfl rfl (fun h => h)) ?_
     refine VO.val rfl rfl (OpV.sub rfl rfl rfl (by have h := hin (kt.getD r default).key; unfold fits; omega)) ?_
     refine VO.op rfl (OpE.mapUpdate (i := 0) (xx := mgetD (subP mm (kt.take r)) (kt.getD r default).key 0 - (kt.getD r default).count) rfl hB rfl Tryz.underlying100 (KeyOk.str Tryz.underlying9) rfl (KeyE.v rfl) rfl rfl trivial ?_)
     refine VO.nil ?_
     refine VC.region ?_
     refine VO.val rfl rfl (OpV.add rfl rfl rfl (by unfold fits; omega)) ?_
     refine VO.mv rfl rfl rfl rfl ?_
     refine VO.nil ?_
     exact Exists.intro (⟨r + 1, by omega⟩) (And.intro (Le.mk hB [0, 1, 2] ⟨rfl, rfl, rfl, rfl, rfl, rfl, rfl, rfl, rfl, rfl, rfl, trivial⟩ rfl (by dsimp only; rw [subP_take (by omega)]; rfl) (Nat.le_refl _)) (by first | omega | (show _ < _; omega) | (simp only []; omega)))
    ·have aH2 := aH2b
     try simp only [qqT, qqF, qqN, qqM, qqL, qqE] at aH2
     obtain rfl : r = kt.length := by omega
     rw [List.take_length]
     refine VC.exit ?_
     refine VC.region ?_
     refine VO.mv rfl rfl rfl rfl ?_
     refine VO.mv rfl rfl rfl rfl ?_
     refine VO.mv rfl rfl rfl rfl ?_
     refine VO.val rfl rfl (OpV.indexAddr_E rfl Tryz.underlying75 Tryz.sizeOf89 rfl rfl rfl (by omega)) ?_
     refine VO.val rfl rfl (OpV.fieldAddr_atO 0 rfl Tryz.underlying89 rfl rfl Tryz.sizeOf9 rfl rfl) ?_
     refine VO.val rfl rfl (OpV.load_at rfl hB OutW.no Tryz.isAgg9 rfl rfl) ?_
     refine VO.op rfl (OpE.buildSlice (zc := #[.string ⟨#[]⟩]) rfl hB rfl Tryz.underlying67 Tryz.sizeOf9 Tryz.zeroValue9 (by decide) (by decide) (by kernel_rfl) rfl rfl ?_)
     refine VO.op rfl (OpE.append1 (i := 2) rfl hB rfl Tryz.underlying67 (infoOf Tryz.t9 1 (by kernel_rfl) rfl rfl) rfl (by decide) (by decide) rfl rfl rfl rfl (strsL_snoc _ _) (by omega) (fun _ _ => trivial) ?_)
     intro u62
     refine VO.ma rfl rfl rfl rfl ?_
     refine VO.nil ?_
     refine VC.region ?_
     refine VO.val rfl rfl (OpV.add rfl rfl rfl (by unfold fits; omega)) ?_
     refine VO.mv rfl rfl rfl rfl ?_
     refine VO.nil ?_
     exact Exists.intro (⟨(u62, subP mm kt, cl ++ [(o.getD i default).key], q + 1), by show q + 1 ≤ _; omega, hci.take hql hi hkt h2 hkb hkl⟩) (And.intro (Le.mk hB [0, 1, 2] ⟨rfl, rfl, rfl, rfl, rfl, rfl, rfl, trivial⟩ rfl (by dsimp only; first | rfl | (rw [List.length_append]; rfl)) (Nat.le_refl _)) (by first | omega | (show _ < _; omega) | (simp only []; omega)))
  ·have aH1 := aH1b
   try simp only [qqT, qqF, qqN, qqM, qqL, qqE] at aH1
   refine VC.exit ?_
   refine VC.seq ?_
   refine VC.le _ (Le.drop 2) ?_
   have hfin : covL p o st = srtB cl := by
    have he := hci.eq
    rw [List.take_of_length_le (by omega)] at he
    rw [covL, hD, he]
   refine VC.region ?_
   refine VO.mv rfl rfl rfl rfl ?_
   refine VO.op rfl (OpE.callH0 rfl hB rfl Tryz.call40 rfl rfl (slices_Sort_O (xs := cl) (by omega)) (List.Perm.refl _) (fun _ _ => trivial) ?_)
   rintro _ _ ⟨rfl, rfl⟩
   refine VO.nil ?_
   refine VC.sr ?_
   refine VO.mv rfl rfl rfl rfl ?_
   refine VO.ma rfl rfl rfl rfl ?_
   refine VO.ma rfl rfl rfl rfl ?_
   refine VO.nil ?_
   refine VC.ret ?_
   exact Exists.intro _ (And.intro (RetN.two Tryz.results49 (ResN.rowS (i := 0) rfl rfl rfl) (ResN.v rfl)) (by rw [covE, if_pos hz, hz, hfin]))
end Go.Proofs.YtaaokimiadfidaaGreatDoor
