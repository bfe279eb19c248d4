/- Part 2 of a proof: the walks and laws that it needs. -/
import Derived.Test.YtemnnmohdpabhaaGreatDoorProg
import Derived.Shelf.Abstract
import Derived.Deep.QuietTactic
import Derived.BigQuiet
import Derived.BigRegion
import Derived.Deep.RegionLaw
import Derived.Deep.LoopGhost
import Derived.Deep.DeepCutAuto
import Derived.Test.YtemnnmohdpabhaaGreatDoorZG1
namespace Go.Proofs.YtemnnmohdpabhaaGreatDoor
open Go.RowKit
set_option linter.unusedVariables false
set_option linter.unusedSimpArgs false
abbrev ownG (p : List (List ByteArray)) (slots most g : Nat) (uP uG : Value) (st : GrpS) : List Ent :=
 [.box g ⟨[avI (slots : Int), avI (most : Int), avM p, .v uP, .v uG], 134, 5⟩, .row uP st.parts.length 1 (listM st.parts) 40, .row uG st.groups.length 1 (listM st.groups) 22]
def frG (st : GrpS) (k : Nat) : GrpS := if k = st.parts.length then ⟨st.parts ++ [[]], st.groups ++ [[]]⟩ else st
section
variable {p : List (List ByteArray)} {slots most i k : Nat} {st : GrpS}
theorem frG_y (h : k = st.parts.length) : frG st k = ⟨st.parts ++ [[]], st.groups ++ [[]]⟩ := if_pos h
theorem frG_n (h : k ≠ st.parts.length) : frG st k = st := if_neg h
theorem frG_lens (hl : st.parts.length = st.groups.length) : (frG st k).parts.length = (frG st k).groups.length := by unfold frG; split <;> simp [hl]
theorem frG_lt (h : k ≤ st.parts.length) : k < (frG st k).parts.length := by
 unfold frG; split
 ·simp; omega
 ·omega
theorem frG_parts (h : k ≤ st.parts.length) : (frG st k).parts.getD k default = st.parts.getD k [] := by
 unfold frG; split
 ·rename_i e; subst e; simp [List.getD_eq_getElem?_getD]
 ·rfl
theorem frG_groups (hl : st.parts.length = st.groups.length) (h : k ≤ st.parts.length) : (frG st k).groups.getD k default = st.groups.getD k [] := by
 unfold frG; split
 ·rename_i e; rw [hl] at e; subst e; simp [List.getD_eq_getElem?_getD]
 ·rfl
theorem frG_put (hl : st.parts.length = st.groups.length) (h : k ≤ st.parts.length) : putG p i k st = ⟨(frG st k).parts.set k (allG p i k st), (frG st k).groups.set k (st.groups.getD k [] ++ [(i : Int)])⟩ := by
 unfold putG frG
 by_cases e : k = st.parts.length
 ·rw [if_neg (by omega), if_pos e]
  have e2 : st.groups.getD k [] = [] := by rw [List.getD_eq_getElem?_getD, List.getElem?_eq_none (by omega)]; rfl
  have e3 := e.trans hl
  rw [e2]
  simp only [List.nil_append]
  congr 1
  ·rw [e, List.set_append_right _ _ (Nat.le_refl _), Nat.sub_self]; rfl
  ·rw [e3, List.set_append_right _ _ (Nat.le_refl _), Nat.sub_self]; rfl
 ·rw [if_pos (by omega), if_neg e]
theorem set_backM {α : Type} [Inhabited α] {l : List α} {k : Nat} {x : α} (hk : k < l.length) : (l.set k x).set k (l.getD k default) = l := by
 rw [List.set_set]
 apply List.ext_getElem (by simp)
 intro j h1 h2
 rw [List.getElem_set]
 split
 ·rename_i e; subst e; simp [List.getD_eq_getElem?_getD, hk]
 ·rfl
theorem try_end {d : Nat} (h : min (st.parts.length + 1) most ≤ k) (hn : ∀ j, j < k → tryQ p slots (tryG p slots most d) i st j = none) : tryG p slots most (d + 1) i st = none := by
 rw [tryG]
 exact List.findSome?_eq_none_iff.2 fun j hj => hn j (by have := List.mem_range.1 hj; omega)
theorem try_at {d : Nat} {r : GrpS} (hk : k ≤ st.parts.length) (hm : k < most) (hn : ∀ j, j < k → tryQ p slots (tryG p slots most d) i st j = none) (hs : (allG p i k st).length ≤ slots) (h : tryG p slots most d (i + 1) (putG p i k st) = some r) : tryG p slots most (d + 1) i st = some r := by
 rw [tryG]
 have e : List.range (min (st.parts.length + 1) most) = List.range k ++ (List.range (min (st.parts.length + 1) most)).drop k := by
  conv => lhs; rw [← List.take_append_drop k (List.range (min (st.parts.length + 1) most))]
  rw [List.take_range, Nat.min_eq_left (by omega)]
 have e2 : (List.range (min (st.parts.length + 1) most)).drop k = k :: (List.range (min (st.parts.length + 1) most)).drop (k + 1) := by
  rw [List.drop_eq_getElem_cons (by simp; omega)]; simp
 rw [e, List.findSome?_append, List.findSome?_eq_none_iff.2 (fun j hj => hn j (List.mem_range.1 hj)), e2, List.findSome?_cons]
 have : tryQ p slots (tryG p slots most d) i st k = some r := by rw [tryQ, if_pos hs, h]
 rw [this]; rfl
theorem try_at2 {d : Nat} {s2 : GrpS} (hk : k ≤ st.parts.length) (hm : k < most) (hn : ∀ j, j < k → tryQ p slots (tryG p slots most d) i st j = none) (hs : (allG p i k st).length ≤ slots) (hput : putG p i k st = s2) (h : (tryG p slots most d (i + 1) s2).isSome = true) : tryG p slots most (d + 1) i st = tryG p slots most d (i + 1) s2 := by
 subst hput
 obtain ⟨r, hr⟩ := Option.isSome_iff_exists.1 h
 rw [hr]; exact try_at hk hm hn hs hr
theorem opt_getD {α : Type} {x y : Option α} {a : α} (b : α) (h : y = x) (hx : x.isSome = true) : x.getD a = y.getD b := by
 subst h
 obtain ⟨r, rfl⟩ := Option.isSome_iff_exists.1 hx
 rfl
theorem tryQ_big {f : Nat → GrpS → Option GrpS} (h : ¬ (allG p i k st).length ≤ slots) : tryQ p slots f i st k = none := if_neg h
theorem tryQ_no {f : Nat → GrpS → Option GrpS} (h : f (i + 1) (putG p i k st) = none) : tryQ p slots f i st k = none := by unfold tryQ; split; exact h; rfl
theorem rep_nil1 {w : World} {Z : Nat → Prop} {u : Value} (h : Rep w Z (.im 1 1 fun j => ([.v (.slice none 0 0)] : List AV).getD j .any) u) {y : AV} (hy : Rep w Z y (.slice none 0 0)) : Rep w Z (.im 1 1 fun _ => y) u :=
 Rep.im_mono (fun j hj u h => by
  obtain rfl : j = 0 := by omega
  have h' : Rep w Z (.v (.slice none 0 0)) u := h
  rw [h'.eq_v]; exact hy) h
theorem Wi.notD4 {ops : Array Oper} {i a1 a2 a3 a4 g : Nat} {X Y Z U : Nat → Prop} (h1 : depB ops a1 i = true ∨ ¬ X g) (h2 : depB ops a2 i = true ∨ ¬ Y g) (h3 : depB ops a3 i = true ∨ ¬ Z g) (h4 : depB ops a4 i = true ∨ ¬ U g) : ¬ Wi (fun j b => (j = a1 ∧ X b) ∨ (j = a2 ∧ Y b) ∨ (j = a3 ∧ Z b) ∨ (j = a4 ∧ U b)) ops i g := fun ⟨j, k1, k2⟩ => by
 rcases k2 with ⟨rfl, k2⟩ | ⟨rfl, k2⟩ | ⟨rfl, k2⟩ | ⟨rfl, k2⟩
 ·exact h1.elim (fun h => by rw [h] at k1; cases k1) fun h => h k2
 ·exact h2.elim (fun h => by rw [h] at k1; cases k1) fun h => h k2
 ·exact h3.elim (fun h => by rw [h] at k1; cases k1) fun h => h k2
 ·exact h4.elim (fun h => by rw [h] at k1; cases k1) fun h => h k2
structure GOk (i : Nat) (st : GrpS) : Prop where
 len : st.parts.length = st.groups.length
 le : st.parts.length ≤ i
 par : ∀ j, SmS (st.parts.getD j default) ∧ (st.parts.getD j default).length ≤ 1000
 grp : ∀ j, (st.groups.getD j default).length ≤ i
theorem getD_setD {α : Type} [Inhabited α] {l : List α} {k j : Nat} {x : α} (hk : k < l.length) : (l.set k x).getD j default = if j = k then x else l.getD j default := by
 simp only [List.getD_eq_getElem?_getD, List.getElem?_set]
 by_cases h : k = j
 ·subst h; simp [hk]
 ·rw [if_neg h, if_neg (fun e => h e.symm)]
theorem SmS.app {a b : List ByteArray} (ha : SmS a) (hb : SmS b) (h : (a ++ b).length ≤ 1000000000) : SmS (a ++ b) := ⟨h, fun j => by
 rw [List.getD_eq_getElem?_getD, List.getElem?_append]
 split
 ·have := ha.2 j; rwa [List.getD_eq_getElem?_getD] at this
 ·have := hb.2 (j - a.length); rwa [List.getD_eq_getElem?_getD] at this⟩
theorem SmS.filt {a : List ByteArray} {f : ByteArray → Bool} (h : SmS a) : SmS (a.filter f) := ⟨Nat.le_trans (List.length_filter_le _ _) h.1, fun j => by
 rw [List.getD_eq_getElem?_getD]
 cases hj : (a.filter f)[j]? with
 | none => decide
 | some x =>
  have hm := (List.mem_filter.1 (List.mem_of_getElem? hj)).1
  obtain ⟨q, hq, rfl⟩ := List.getElem_of_mem hm
  have := h.2 q
  rw [List.getD_eq_getElem?_getD, List.getElem?_eq_getElem hq] at this
  exact this⟩
theorem SmS.miss {a b : List ByteArray} (h : SmS b) : SmS (missF a b) := h.filt
theorem GOk.put (h : GOk i st) (hp : ∀ j, SmS (p.getD j default)) (hk : k ≤ st.parts.length) (hs : (allG p i k st).length ≤ slots) (hsl : slots ≤ 1000) : GOk (i + 1) (putG p i k st) := by
 have hl := h.len
 have hn := h.le
 have hfl := frG_lt hk
 have hfe := frG_lens (k := k) hl
 have hfn : (frG st k).parts.length ≤ i + 1 := by unfold frG; split; (simp; omega); omega
 have hsz : (allG p i k st).length ≤ 1000000000 := by omega
 have hall : SmS (allG p i k st) := (h.par k).1.app (hp i).miss hsz
 rw [frG_put hl hk]
 refine ⟨by simp only [List.length_set]; exact hfe, by simp only [List.length_set]; exact hfn, fun j => ?_, fun j => ?_⟩
 ·simp only
  rw [getD_setD hfl]
  split
  ·exact ⟨hall, by omega⟩
  ·unfold frG; split
   ·simp only
    rw [List.getD_eq_getElem?_getD, List.getElem?_append]
    split
    ·have := h.par j; rwa [List.getD_eq_getElem?_getD] at this
    ·cases hj : ([[]] : List (List ByteArray))[j - st.parts.length]? with
     | none => exact ⟨SmS.nil, by decide⟩
     | some x => have := List.mem_of_getElem? hj; simp at this; subst this; exact ⟨SmS.nil, by decide⟩
   ·exact h.par j
 ·simp only
  rw [getD_setD (by omega)]
  split
  ·have := h.grp k; rw [List.length_append]; show (st.groups.getD k default).length + 1 ≤ _; omega
  ·unfold frG; split
   ·simp only
    rw [List.getD_eq_getElem?_getD, List.getElem?_append]
    split
    ·have := h.grp j; rw [List.getD_eq_getElem?_getD] at this; omega
    ·cases hj : ([[]] : List (List Int))[j - st.groups.length]? with
     | none => exact Nat.zero_le _
     | some x => have := List.mem_of_getElem? hj; simp at this; subst this; exact Nat.zero_le _
   ·have := h.grp j; omega
end
set_option maxRecDepth 100000 in
set_option maxHeartbeats 16000000 in
theorem grp_try_step {p : List (List ByteArray)} {slots most g i d : Nat} {uP uG : Value} {st : GrpS} (hp : ∀ j, SmS (p.getD j default)) (hpl : p.length ≤ 10) (hpk : ∀ j, (p.getD j default).length ≤ 1000) (hsl : slots ≤ 1000) (ih : ∀ d', d = d' + 1 → ∀ (uP uG : Value) (st : GrpS), GOk (i + 1) st → SpecH Tryz.prog 98 [pt g, avI ((i : Int) + 1)] (ownG p slots most g uP uG st) (fun y hp' => ∃ uP' uG', y = avB (tryG p slots most d' (i + 1) st).isSome ∧ hp' = ownG p slots most g uP' uG' ((tryG p slots most d' (i + 1) st).getD st))) (hid : i + d = p.length) (hok : GOk i st) :
    SpecH Tryz.prog 98 [pt g, avI (i : Int)] (ownG p slots most g uP uG st) (fun y hp' => ∃ uP' uG', y = avB (tryG p slots most d i st).isSome ∧ hp' = ownG p slots most g uP' uG' ((tryG p slots most d i st).getD st)) := by
  have hl := hok.len
  have hn := hok.le
  refine SpecH.of_VC Tryz.func98 rfl Tryz.ntmps98 (Nle rfl) fun w A hB => ?_
  have hnew : True := trivial
  refine VC.sr ?_
  refine VO.ma rfl rfl rfl rfl ?_
  refine VO.nil ?_
  refine VC.seq ?_
  refine VC.sr ?_
  refine VO.mv rfl rfl rfl rfl ?_
  refine VO.mv rfl rfl rfl rfl ?_
  refine VO.val rfl rfl (OpV.nilCheck rfl rfl) ?_
  refine VO.val rfl rfl (OpV.fieldAddrO 2 rfl Tryz.underlying134 rfl rfl Tryz.sizeOf55 rfl) ?_
  refine VO.val rfl rfl (OpV.load_own (i := 0) rfl hB Tryz.isAgg55 rfl rfl rfl (fun h => h)) ?_
  refine VO.val rfl rfl (OpV.len_im rfl Tryz.underlying55 rfl) ?_
  refine VO.val rfl rfl (OpV.eql rfl rfl rfl) ?_
  refine VO.nil ?_
  refine VC.cond rfl (fun h0b => ?_) (fun h0b => ?_)
  · have h0 := h0b
    try simp only [qqT, qqF, qqN, qqM, qqL, qqE] at h0
    obtain rfl : d = 0 := by omega
    refine VC.sr ?_
    refine VO.ma rfl rfl rfl rfl ?_
    refine VO.nil ?_
    refine VC.ret ?_
    exact Exists.intro _ (And.intro (RetV.one Tryz.results98 (ResV.tmp rfl)) (⟨uP, uG, rfl, rfl⟩))
  · have h0 := h0b
    try simp only [qqT, qqF, qqN, qqM, qqL, qqE] at h0
    obtain ⟨d', rfl⟩ : ∃ d', d = d' + 1 := ⟨d - 1, by omega⟩
    have hi10 : i < p.length := by omega
    refine VC.skip ?_
    refine VC.seq ?_
    refine VC.sr ?_
    refine VO.ma rfl rfl rfl rfl ?_
    refine VO.nil ?_
    refine VC.block ?_
    refine VC.loopK [(0, _), (1, _)] ⟨rfl, rfl, trivial⟩ ({z : (Value × Value) × Nat // z.2 ≤ st.parts.length ∧ ∀ j, j < z.2 → tryQ p slots (tryG p slots most d') i st j = none}) (fun (iZ : {z : (Value × Value) × Nat // z.2 ≤ st.parts.length ∧ ∀ j, j < z.2 → tryQ p slots (tryG p slots most d') i st j = none}) => match iZ with | ⟨⟨⟨vP, vG⟩, k⟩, hk, hkn⟩ => [(5, avI (k : Int))]) (fun (iZ : {z : (Value × Value) × Nat // z.2 ≤ st.parts.length ∧ ∀ j, j < z.2 → tryQ p slots (tryG p slots most d') i st j = none}) => match iZ with | ⟨⟨⟨vP, vG⟩, k⟩, hk, hkn⟩ => ownG p slots most g vP vG st) (fun (iZ : {z : (Value × Value) × Nat // z.2 ≤ st.parts.length ∧ ∀ j, j < z.2 → tryQ p slots (tryG p slots most d') i st j = none}) => match iZ with | ⟨⟨⟨vP, vG⟩, k⟩, hk, hkn⟩ => 0) (fun (iZ : {z : (Value × Value) × Nat // z.2 ≤ st.parts.length ∧ ∀ j, j < z.2 → tryQ p slots (tryG p slots most d') i st j = none}) => match iZ with | ⟨⟨⟨vP, vG⟩, k⟩, hk, hkn⟩ => st.parts.length - k) ⟨((uP, uG), 0), Nat.zero_le _, fun j hj => absurd hj (Nat.not_lt_zero j)⟩ (Le.mkP hB ⟨rfl, rfl, rfl, trivial⟩ (List.Sublist.refl _) (List.Perm.refl _) (Nat.le_refl _)) ?_
    rintro ⟨⟨⟨vP, vG⟩, k⟩, hk, hkn⟩
    show VC _ _ _ _ ⟨[(5, avI (k : Int))] ++ [(0, _), (1, _)], ownG p slots most g vP vG st, 0⟩
    simp only at hk hkn
    refine VC.seq ?_
    refine VC.sr ?_
    refine VO.mv rfl rfl rfl rfl ?_
    refine VO.mv rfl rfl rfl rfl ?_
    refine VO.val rfl rfl (OpV.nilCheck rfl rfl) ?_
    refine VO.val rfl rfl (OpV.fieldAddrO 4 rfl Tryz.underlying134 rfl rfl Tryz.sizeOf57 rfl) ?_
    refine VO.val rfl rfl (OpV.load_own (i := 0) rfl hB Tryz.isAgg57 rfl rfl rfl (fun h => h)) ?_
    refine VO.val rfl rfl (OpV.len_row (i := 2) rfl Tryz.underlying57 rfl rfl) ?_
    refine VO.val rfl rfl (OpV.leq rfl rfl rfl) ?_
    refine VO.mv rfl rfl rfl rfl ?_
    refine VO.opG rfl rfl rfl rfl (fun aK1b => ?_) (fun aK1b => ?_)
    · replace aK1b : _ = true := aK1b
      have aK1 := aK1b
      try simp only [qqT, qqF, qqN, qqM, qqL, qqE] at aK1
      refine OpE.val (W := NoB) (OpV.move (.inl rfl) rfl) rfl ?_
      refine VO.opY rfl rfl rfl rfl aK1b ?_
      refine OpE.val (W := NoB) (OpV.move (.inl rfl) rfl) rfl ?_
      refine VO.opY rfl rfl rfl rfl aK1b ?_
      refine OpE.val (W := NoB) (OpV.nilCheck rfl rfl) rfl ?_
      refine VO.opY rfl rfl rfl rfl aK1b ?_
      refine OpE.val (W := NoB) (OpV.fieldAddrO 1 rfl Tryz.underlying134 rfl rfl Tryz.sizeOf3 rfl) rfl ?_
      refine VO.opY rfl rfl rfl rfl aK1b ?_
      refine OpE.val (W := NoB) (OpV.load_own (i := 0) rfl hB Tryz.isAgg3 rfl rfl rfl (fun h => h)) rfl ?_
      refine VO.opY rfl rfl rfl rfl aK1b ?_
      refine OpE.val (W := NoB) (OpV.lss rfl rfl rfl) rfl ?_
      refine VO.val rfl rfl (OpV.pickT rfl rfl rfl rfl aK1b) ?_
      refine VO.nil ?_
      refine VC.cond rfl (fun h1b => ?_) (fun h1b => ?_)
      · have h1 := h1b
        try simp only [qqT, qqF, qqN, qqM, qqL, qqE] at h1
        refine VC.skip ?_
        refine VC.seq ?_
        refine VC.block ?_
        refine VC.sr ?_
        refine VO.mv rfl rfl rfl rfl ?_
        refine VO.mv rfl rfl rfl rfl ?_
        refine VO.val rfl rfl (OpV.nilCheck rfl rfl) ?_
        refine VO.val rfl rfl (OpV.fieldAddrO 4 rfl Tryz.underlying134 rfl rfl Tryz.sizeOf57 rfl) ?_
        refine VO.val rfl rfl (OpV.load_own (i := 0) rfl hB Tryz.isAgg57 rfl rfl rfl (fun h => h)) ?_
        refine VO.val rfl rfl (OpV.len_row (i := 2) rfl Tryz.underlying57 rfl rfl) ?_
        refine VO.val rfl rfl (OpV.eql rfl rfl rfl) ?_
        refine VO.le _ (Le.recast (t := 40) (y := avB (decide (k = st.parts.length))) rfl (fun w Z u h => by rw [show decide (k = st.parts.length) = decide ((k : Int) = (st.groups.length : Int)) from decide_eq_decide.2 (by omega)]; exact h)) ?_
        refine VO.ma rfl rfl rfl rfl ?_
        refine VO.nil ?_
        refine VC.joinI ({z : (Value × Value) × List (List ByteArray) × List (List Int) // z.2.1 = (frG st k).parts ∧ z.2.2 = (frG st k).groups}) (fun (iZ : {z : (Value × Value) × List (List ByteArray) × List (List Int) // z.2.1 = (frG st k).parts ∧ z.2.2 = (frG st k).groups}) => match iZ with | ⟨⟨⟨wP, wG⟩, P0, G0⟩, hP0, hG0⟩ => ⟨[(0, pt g), (1, avI (i : Int)), (5, avI (k : Int)), (6, avB (decide (k = st.parts.length)))], [.box g ⟨[avI (slots : Int), avI (most : Int), avM p, .v wP, .v wG], 134, 5⟩, .row wP P0.length 1 (listM P0) 40, .row wG G0.length 1 (listM G0) 22], 0⟩) ?_ ?_
        ·
          refine VC.sr ?_
          refine VO.mv rfl rfl rfl rfl ?_
          refine VO.nil ?_
          refine VC.cond rfl (fun h2b => ?_) (fun h2b => ?_)
          · have h2 := h2b
            try simp only [qqT, qqF, qqN, qqM, qqL, qqE] at h2
            refine VC.hap (fun hap => ?_)
            have nP : vP.ownBlock ≠ some g := hap.get (i := 0) (j := 1) rfl rfl (by decide) rfl
            have nG : vG.ownBlock ≠ some g := hap.get (i := 0) (j := 2) rfl rfl (by decide) rfl
            refine VC.draw (fun j b => (j = 16 ∧ b = g) ∨ (j = 19 ∧ b = g) ∨ (j = 7 ∧ vP.ownBlock = some b) ∨ (j = 13 ∧ vG.ownBlock = some b)) hB (by kernel_rfl) ?_
            refine VA.take (i := 0) rfl (by kernel_rfl) (by kernel_rfl) (by kernel_rfl) rfl rfl (OpV.move (.inl rfl) rfl) ?_
            refine VA.take (i := 1) rfl (by kernel_rfl) (by kernel_rfl) (by kernel_rfl) rfl rfl (OpV.move (.inl rfl) rfl) ?_
            refine VA.take (i := 2) rfl (by kernel_rfl) (by kernel_rfl) (by kernel_rfl) rfl rfl (OpV.move (.inl rfl) rfl) ?_
            refine VA.take (i := 3) rfl (by kernel_rfl) (by kernel_rfl) (by kernel_rfl) rfl rfl (OpV.nilCheck rfl rfl) ?_
            refine VA.take (i := 4) rfl (by kernel_rfl) (by kernel_rfl) (by kernel_rfl) rfl rfl (OpV.fieldAddrO 3 rfl Tryz.underlying134 rfl rfl Tryz.sizeOf55 rfl) ?_
            refine VA.take (i := 5) rfl (by kernel_rfl) (by kernel_rfl) (by kernel_rfl) rfl rfl (OpV.load_own (i := 0) rfl hB Tryz.isAgg55 rfl rfl rfl (Wi.notD4 (.inl (by kernel_rfl)) (.inl (by kernel_rfl)) (.inl (by kernel_rfl)) (.inr nG))) ?_
            refine VA.take (i := 8) rfl (by kernel_rfl) (by kernel_rfl) (by kernel_rfl) rfl rfl (OpV.move (.inl rfl) rfl) ?_
            refine VA.take (i := 9) rfl (by kernel_rfl) (by kernel_rfl) (by kernel_rfl) rfl rfl (OpV.nilCheck rfl rfl) ?_
            refine VA.take (i := 10) rfl (by kernel_rfl) (by kernel_rfl) (by kernel_rfl) rfl rfl (OpV.fieldAddrO 4 rfl Tryz.underlying134 rfl rfl Tryz.sizeOf57 rfl) ?_
            refine VA.take (i := 11) rfl (by kernel_rfl) (by kernel_rfl) (by kernel_rfl) rfl rfl (OpV.load_own (i := 0) rfl hB Tryz.isAgg57 rfl rfl rfl (Wi.notD4 (.inl (by kernel_rfl)) (.inl (by kernel_rfl)) (.inr nP) (.inl (by kernel_rfl)))) ?_
            refine VA.all (rs := [6, 12]) (by kernel_rfl) (by decide) ?_
            refine ⟨⟨_, rfl, .inl rfl, ?_⟩, ⟨_, rfl, .inl rfl, ?_⟩, trivial⟩
            ·
              refine OpE.buildSlice (zc := #[.slice none 0 0]) rfl hB rfl Tryz.underlying55 Tryz.sizeOf40 Tryz.zeroValue40 (by decide) (by decide) (by kernel_rfl) rfl rfl ?_
              refine VA.le _ (Le.recast (t := 48) (y := .im 1 1 fun _ => avStrs []) rfl (fun w Z u h => rep_nil1 h (.nil _ _))) ?_
              refine VA.all (rs := [7, 12]) (by kernel_rfl) (by decide) ?_
              refine ⟨⟨_, rfl, .inl rfl, ?_⟩, ⟨_, rfl, .inl rfl, ?_⟩, trivial⟩
              ·
                refine OpE.append1S (i := 1) rfl hB rfl Tryz.underlying55 (infoOf Tryz.t40 1 (by kernel_rfl) rfl rfl) rfl (by decide) (by decide) rfl rfl rfl rfl (listM_snoc st.parts ([] : List ByteArray)) (by omega) (fun g' hg => .inr (.inr (.inl ⟨rfl, hg⟩))) ?_
                intro b49 c49
                refine VA.all (rs := [12]) (by kernel_rfl) (by decide) ?_
                refine ⟨⟨_, rfl, .inl rfl, ?_⟩, trivial⟩
                refine OpE.buildSlice (zc := #[.slice none 0 0]) rfl hB rfl Tryz.underlying57 Tryz.sizeOf22 Tryz.zeroValue22 (by decide) (by decide) (by kernel_rfl) rfl rfl ?_
                refine VA.le _ (Le.recast (t := 54) (y := .im 1 1 fun _ => avInts []) rfl (fun w Z u h => rep_nil1 h (.nil _ _))) ?_
                refine VA.all (rs := [13]) (by kernel_rfl) (by decide) ?_
                refine ⟨⟨_, rfl, .inl rfl, ?_⟩, trivial⟩
                refine OpE.append1S (i := 2) rfl hB rfl Tryz.underlying57 (infoOf Tryz.t22 1 (by kernel_rfl) rfl rfl) rfl (by decide) (by decide) rfl rfl rfl rfl (listM_snoc st.groups ([] : List Int)) (by omega) (fun g' hg => .inr (.inr (.inr ⟨rfl, hg⟩))) ?_
                intro b55 c55
                refine VA.take (i := 14) rfl (by kernel_rfl) (by kernel_rfl) (by kernel_rfl) rfl rfl (OpV.nilCheck rfl rfl) ?_
                refine VA.take (i := 15) rfl (by kernel_rfl) (by kernel_rfl) (by kernel_rfl) rfl rfl (OpV.fieldAddrO 3 rfl Tryz.underlying134 rfl rfl Tryz.sizeOf55 rfl) ?_
                refine VA.all (rs := [16]) (by kernel_rfl) (by decide) ?_
                refine ⟨⟨_, rfl, .inl rfl, ?_⟩, trivial⟩
                refine OpE.store (i := 0) rfl hB rfl Tryz.sizeOf55 rfl rfl rfl rfl rfl rfl (Nle rfl) (by first | exact .inl ⟨rfl, rfl⟩ | exact .inr (.inl ⟨rfl, rfl⟩)) ?_
                refine VA.take (i := 17) rfl (by kernel_rfl) (by kernel_rfl) (by kernel_rfl) rfl rfl (OpV.nilCheck rfl rfl) ?_
                refine VA.take (i := 18) rfl (by kernel_rfl) (by kernel_rfl) (by kernel_rfl) rfl rfl (OpV.fieldAddrO 4 rfl Tryz.underlying134 rfl rfl Tryz.sizeOf57 rfl) ?_
                refine VA.all (rs := [19]) (by kernel_rfl) (by decide) ?_
                refine ⟨⟨_, rfl, .inl rfl, ?_⟩, trivial⟩
                refine OpE.store (i := 0) rfl hB rfl Tryz.sizeOf57 rfl rfl rfl rfl rfl rfl (Nle rfl) (by first | exact .inl ⟨rfl, rfl⟩ | exact .inr (.inl ⟨rfl, rfl⟩)) ?_
                refine VA.done (by kernel_rfl) ?_
                exact Exists.intro (⟨((.slice b49 (st.parts.length + 1) c49, .slice b55 (st.groups.length + 1) c55), st.parts ++ [[]], st.groups ++ [[]]), by rw [frG_y h2], by rw [frG_y h2]⟩) (Le.mk hB [0, 1, 2] ⟨rfl, rfl, rfl, rfl, trivial⟩ rfl (by dsimp only; (try simp only [List.length_append]); rfl) (Nat.le_refl _))
              ·
                refine OpE.buildSlice (zc := #[.slice none 0 0]) rfl hB rfl Tryz.underlying57 Tryz.sizeOf22 Tryz.zeroValue22 (by decide) (by decide) (by kernel_rfl) rfl rfl ?_
                refine VA.le _ (Le.recast (t := 54) (y := .im 1 1 fun _ => avInts []) rfl (fun w Z u h => rep_nil1 h (.nil _ _))) ?_
                refine VA.all (rs := [7]) (by kernel_rfl) (by decide) ?_
                refine ⟨⟨_, rfl, .inl rfl, ?_⟩, trivial⟩
                refine OpE.append1S (i := 1) rfl hB rfl Tryz.underlying55 (infoOf Tryz.t40 1 (by kernel_rfl) rfl rfl) rfl (by decide) (by decide) rfl rfl rfl rfl (listM_snoc st.parts ([] : List ByteArray)) (by omega) (fun g' hg => .inr (.inr (.inl ⟨rfl, hg⟩))) ?_
                intro b49 c49
                refine VA.all (rs := [13]) (by kernel_rfl) (by decide) ?_
                refine ⟨⟨_, rfl, .inl rfl, ?_⟩, trivial⟩
                refine OpE.append1S (i := 2) rfl hB rfl Tryz.underlying57 (infoOf Tryz.t22 1 (by kernel_rfl) rfl rfl) rfl (by decide) (by decide) rfl rfl rfl rfl (listM_snoc st.groups ([] : List Int)) (by omega) (fun g' hg => .inr (.inr (.inr ⟨rfl, hg⟩))) ?_
                intro b55 c55
                refine VA.take (i := 14) rfl (by kernel_rfl) (by kernel_rfl) (by kernel_rfl) rfl rfl (OpV.nilCheck rfl rfl) ?_
                refine VA.take (i := 15) rfl (by kernel_rfl) (by kernel_rfl) (by kernel_rfl) rfl rfl (OpV.fieldAddrO 3 rfl Tryz.underlying134 rfl rfl Tryz.sizeOf55 rfl) ?_
                refine VA.all (rs := [16]) (by kernel_rfl) (by decide) ?_
                refine ⟨⟨_, rfl, .inl rfl, ?_⟩, trivial⟩
                refine OpE.store (i := 0) rfl hB rfl Tryz.sizeOf55 rfl rfl rfl rfl rfl rfl (Nle rfl) (by first | exact .inl ⟨rfl, rfl⟩ | exact .inr (.inl ⟨rfl, rfl⟩)) ?_
                refine VA.take (i := 17) rfl (by kernel_rfl) (by kernel_rfl) (by kernel_rfl) rfl rfl (OpV.nilCheck rfl rfl) ?_
                refine VA.take (i := 18) rfl (by kernel_rfl) (by kernel_rfl) (by kernel_rfl) rfl rfl (OpV.fieldAddrO 4 rfl Tryz.underlying134 rfl rfl Tryz.sizeOf57 rfl) ?_
                refine VA.all (rs := [19]) (by kernel_rfl) (by decide) ?_
                refine ⟨⟨_, rfl, .inl rfl, ?_⟩, trivial⟩
                refine OpE.store (i := 0) rfl hB rfl Tryz.sizeOf57 rfl rfl rfl rfl rfl rfl (Nle rfl) (by first | exact .inl ⟨rfl, rfl⟩ | exact .inr (.inl ⟨rfl, rfl⟩)) ?_
                refine VA.done (by kernel_rfl) ?_
                exact Exists.intro (⟨((.slice b49 (st.parts.length + 1) c49, .slice b55 (st.groups.length + 1) c55), st.parts ++ [[]], st.groups ++ [[]]), by rw [frG_y h2], by rw [frG_y h2]⟩) (Le.mk hB [0, 1, 2] ⟨rfl, rfl, rfl, rfl, trivial⟩ rfl (by dsimp only; (try simp only [List.length_append]); rfl) (Nat.le_refl _))
            ·
              refine OpE.buildSlice (zc := #[.slice none 0 0]) rfl hB rfl Tryz.underlying57 Tryz.sizeOf22 Tryz.zeroValue22 (by decide) (by decide) (by kernel_rfl) rfl rfl ?_
              refine VA.le _ (Le.recast (t := 54) (y := .im 1 1 fun _ => avInts []) rfl (fun w Z u h => rep_nil1 h (.nil _ _))) ?_
              refine VA.all (rs := [6]) (by kernel_rfl) (by decide) ?_
              refine ⟨⟨_, rfl, .inl rfl, ?_⟩, trivial⟩
              refine OpE.buildSlice (zc := #[.slice none 0 0]) rfl hB rfl Tryz.underlying55 Tryz.sizeOf40 Tryz.zeroValue40 (by decide) (by decide) (by kernel_rfl) rfl rfl ?_
              refine VA.le _ (Le.recast (t := 48) (y := .im 1 1 fun _ => avStrs []) rfl (fun w Z u h => rep_nil1 h (.nil _ _))) ?_
              refine VA.all (rs := [7]) (by kernel_rfl) (by decide) ?_
              refine ⟨⟨_, rfl, .inl rfl, ?_⟩, trivial⟩
              refine OpE.append1S (i := 1) rfl hB rfl Tryz.underlying55 (infoOf Tryz.t40 1 (by kernel_rfl) rfl rfl) rfl (by decide) (by decide) rfl rfl rfl rfl (listM_snoc st.parts ([] : List ByteArray)) (by omega) (fun g' hg => .inr (.inr (.inl ⟨rfl, hg⟩))) ?_
              intro b49 c49
              refine VA.all (rs := [13]) (by kernel_rfl) (by decide) ?_
              refine ⟨⟨_, rfl, .inl rfl, ?_⟩, trivial⟩
              refine OpE.append1S (i := 2) rfl hB rfl Tryz.underlying57 (infoOf Tryz.t22 1 (by kernel_rfl) rfl rfl) rfl (by decide) (by decide) rfl rfl rfl rfl (listM_snoc st.groups ([] : List Int)) (by omega) (fun g' hg => .inr (.inr (.inr ⟨rfl, hg⟩))) ?_
              intro b55 c55
              refine VA.take (i := 14) rfl (by kernel_rfl) (by kernel_rfl) (by kernel_rfl) rfl rfl (OpV.nilCheck rfl rfl) ?_
              refine VA.take (i := 15) rfl (by kernel_rfl) (by kernel_rfl) (by kernel_rfl) rfl rfl (OpV.fieldAddrO 3 rfl Tryz.underlying134 rfl rfl Tryz.sizeOf55 rfl) ?_
              refine VA.all (rs := [16]) (by kernel_rfl) (by decide) ?_
              refine ⟨⟨_, rfl, .inl rfl, ?_⟩, trivial⟩
              refine OpE.store (i := 0) rfl hB rfl Tryz.sizeOf55 rfl rfl rfl rfl rfl rfl (Nle rfl) (by first | exact .inl ⟨rfl, rfl⟩ | exact .inr (.inl ⟨rfl, rfl⟩)) ?_
              refine VA.take (i := 17) rfl (by kernel_rfl) (by kernel_rfl) (by kernel_rfl) rfl rfl (OpV.nilCheck rfl rfl) ?_
              refine VA.take (i := 18) rfl (by kernel_rfl) (by kernel_rfl) (by kernel_rfl) rfl rfl (OpV.fieldAddrO 4 rfl Tryz.underlying134 rfl rfl Tryz.sizeOf57 rfl) ?_
              refine VA.all (rs := [19]) (by kernel_rfl) (by decide) ?_
              refine ⟨⟨_, rfl, .inl rfl, ?_⟩, trivial⟩
              refine OpE.store (i := 0) rfl hB rfl Tryz.sizeOf57 rfl rfl rfl rfl rfl rfl (Nle rfl) (by first | exact .inl ⟨rfl, rfl⟩ | exact .inr (.inl ⟨rfl, rfl⟩)) ?_
              refine VA.done (by kernel_rfl) ?_
              exact Exists.intro (⟨((.slice b49 (st.parts.length + 1) c49, .slice b55 (st.groups.length + 1) c55), st.parts ++ [[]], st.groups ++ [[]]), by rw [frG_y h2], by rw [frG_y h2]⟩) (Le.mk hB [0, 1, 2] ⟨rfl, rfl, rfl, rfl, trivial⟩ rfl (by dsimp only; (try simp only [List.length_append]); rfl) (Nat.le_refl _))
          · have h2 := h2b
            try simp only [qqT, qqF, qqN, qqM, qqL, qqE] at h2
            refine VC.skip ?_
            exact Exists.intro (⟨((vP, vG), st.parts, st.groups), by rw [frG_n h2], by rw [frG_n h2]⟩) (Le.mk hB [0, 1, 2] ⟨rfl, rfl, rfl, rfl, trivial⟩ rfl (by dsimp only; (try simp only [List.length_append]); rfl) (Nat.le_refl _))
        ·
          rintro ⟨⟨⟨wP, wG⟩, P0, G0⟩, hP0, hG0⟩
          show VC _ _ _ _ ⟨[(0, pt g), (1, avI (i : Int)), (5, avI (k : Int)), (6, avB (decide (k = st.parts.length)))], [.box g ⟨[avI (slots : Int), avI (most : Int), avM p, .v wP, .v wG], 134, 5⟩, .row wP P0.length 1 (listM P0) 40, .row wG G0.length 1 (listM G0) 22], 0⟩
          simp only at hP0 hG0
          have hfl : k < P0.length := by rw [hP0]; exact frG_lt hk
          have hfe : P0.length = G0.length := by rw [hP0, hG0]; exact frG_lens hl
          have hPk : P0.getD k default = st.parts.getD k [] := by rw [hP0]; exact frG_parts hk
          have hGk : G0.getD k default = st.groups.getD k [] := by rw [hG0]; exact frG_groups hl hk
          have hput : putG p i k st = ⟨P0.set k (allG p i k st), G0.set k (st.groups.getD k [] ++ [(i : Int)])⟩ := by rw [frG_put hl hk, hP0, hG0]
          have hall : P0.getD k default ++ missF (P0.getD k default) (p.getD i default) = allG p i k st := by rw [hPk]; rfl
          have hsk : SmS (P0.getD k default) ∧ (P0.getD k default).length ≤ 1000 := by rw [hPk]; exact hok.par k
          have hgk : (G0.getD k default).length ≤ i := by rw [hGk]; exact hok.grp k
          have hP1 : (P0.set k (allG p i k st)).length = P0.length := List.length_set
          have hG1 : (G0.set k (st.groups.getD k [] ++ [(i : Int)])).length = G0.length := List.length_set
          refine VC.seq ?_
          refine VC.asBox (i := 1) rfl (by omega) (fun gP cP hu1 hc1 hm1 => ?_)
          subst hu1
          refine VC.asBox (i := 2) rfl (by omega) (fun gG cG hu2 hc2 hm2 => ?_)
          subst hu2
          refine VC.draw (fun _ => NoB) hB (by kernel_rfl) ?_
          refine VA.take (i := 0) rfl (by kernel_rfl) (by kernel_rfl) (by kernel_rfl) rfl rfl (OpV.move (.inl rfl) rfl) ?_
          refine VA.take (i := 1) rfl (by kernel_rfl) (by kernel_rfl) (by kernel_rfl) rfl rfl (OpV.nilCheck rfl rfl) ?_
          refine VA.take (i := 2) rfl (by kernel_rfl) (by kernel_rfl) (by kernel_rfl) rfl rfl (OpV.fieldAddrO 3 rfl Tryz.underlying134 rfl rfl Tryz.sizeOf55 rfl) ?_
          refine VA.take (i := 3) rfl (by kernel_rfl) (by kernel_rfl) (by kernel_rfl) rfl rfl (OpV.load_own (i := 0) rfl hB Tryz.isAgg55 rfl rfl rfl Wi.not0) ?_
          refine VA.take (i := 4) rfl (by kernel_rfl) (by kernel_rfl) (by kernel_rfl) rfl rfl (OpV.move (.inl rfl) rfl) ?_
          refine VA.take (i := 5) rfl (by kernel_rfl) (by kernel_rfl) (by kernel_rfl) rfl rfl (OpV.indexAddr_o rfl Tryz.underlying55 Tryz.sizeOf40 rfl rfl rfl (by omega)) ?_
          refine VA.take (i := 6) rfl (by kernel_rfl) (by kernel_rfl) (by kernel_rfl) rfl rfl (OpV.load_own (i := 1) rfl hB Tryz.isAgg40 rfl rfl (listM_get hfl) Wi.not0) ?_
          refine VA.le _ (Le.recast (t := 66) (y := avStrs (P0.getD k default)) rfl (fun w Z u h => h)) ?_
          refine VA.take (i := 7) rfl (by kernel_rfl) (by kernel_rfl) (by kernel_rfl) rfl rfl (OpV.move (.inl rfl) rfl) ?_
          refine VA.take (i := 8) rfl (by kernel_rfl) (by kernel_rfl) (by kernel_rfl) rfl rfl (OpV.nilCheck rfl rfl) ?_
          refine VA.take (i := 9) rfl (by kernel_rfl) (by kernel_rfl) (by kernel_rfl) rfl rfl (OpV.fieldAddrO 4 rfl Tryz.underlying134 rfl rfl Tryz.sizeOf57 rfl) ?_
          refine VA.take (i := 10) rfl (by kernel_rfl) (by kernel_rfl) (by kernel_rfl) rfl rfl (OpV.load_own (i := 0) rfl hB Tryz.isAgg57 rfl rfl rfl Wi.not0) ?_
          refine VA.take (i := 11) rfl (by kernel_rfl) (by kernel_rfl) (by kernel_rfl) rfl rfl (OpV.move (.inl rfl) rfl) ?_
          refine VA.take (i := 12) rfl (by kernel_rfl) (by kernel_rfl) (by kernel_rfl) rfl rfl (OpV.indexAddr_o rfl Tryz.underlying57 Tryz.sizeOf22 rfl rfl rfl (by omega)) ?_
          refine VA.take (i := 13) rfl (by kernel_rfl) (by kernel_rfl) (by kernel_rfl) rfl rfl (OpV.load_own (i := 2) rfl hB Tryz.isAgg22 rfl rfl (listM_get (by omega)) Wi.not0) ?_
          refine VA.le _ (Le.recast (t := 73) (y := avInts (G0.getD k default)) rfl (fun w Z u h => h)) ?_
          refine VA.take (i := 14) rfl (by kernel_rfl) (by kernel_rfl) (by kernel_rfl) rfl rfl (OpV.move (.inr rfl) rfl) ?_
          refine VA.take (i := 15) rfl (by kernel_rfl) (by kernel_rfl) (by kernel_rfl) rfl rfl (OpV.move (.inr rfl) rfl) ?_
          refine VA.done (by kernel_rfl) ?_
          refine VC.sr ?_
          refine VO.mv rfl rfl rfl rfl ?_
          refine VO.mv rfl rfl rfl rfl ?_
          refine VO.mv rfl rfl rfl rfl ?_
          refine VO.val rfl rfl (OpV.nilCheck rfl rfl) ?_
          refine VO.val rfl rfl (OpV.fieldAddrO 2 rfl Tryz.underlying134 rfl rfl Tryz.sizeOf55 rfl) ?_
          refine VO.val rfl rfl (OpV.load_own (i := 0) rfl hB Tryz.isAgg55 rfl rfl rfl (fun h => h)) ?_
          refine VO.mv rfl rfl rfl rfl ?_
          refine VO.val rfl rfl (OpV.indexAddr_1 rfl Tryz.underlying55 Tryz.sizeOf40 rfl rfl rfl (by omega)) ?_
          refine VO.val rfl rfl (OpV.load_at rfl hB OutW.no Tryz.isAgg40 rfl rfl) ?_
          refine VO.le _ (Le.recast (t := 82) (y := avStrs (p.getD i default)) rfl (fun w Z u h => h)) ?_
          refine VO.op rfl (OpE.callH (hp := []) (rest := _) rfl hB rfl Tryz.call182 rfl rfl (setup_missing hsk.1 (hp i)) (List.Perm.refl _) (fun _ h => by obtain ⟨e, he, _⟩ := h; cases he) ?_)
          rintro _ _ ⟨u83, rfl, rfl⟩
          refine VO.le _ (Le.rowS (t := 83) (i := 0) hB hnew rfl rfl (by first | rfl | simp)) ?_
          refine VO.op rfl (OpE.buildSlice (zc := #[.slice none 0 0, .slice none 0 0]) rfl hB rfl Tryz.underlying55 Tryz.sizeOf40 Tryz.zeroValue40 (by decide) (by decide) (by kernel_rfl) rfl rfl ?_)
          refine VO.le _ (Le.recast (t := 84) (y := avM [P0.getD k default, missF (P0.getD k default) (p.getD i default)]) rfl (fun w Z u h => Rep.listM (xs := [P0.getD k default, missF (P0.getD k default) (p.getD i default)]) rfl h)) ?_
          refine VO.op rfl (OpE.callH (hp := []) (rest := _) rfl hB rfl Tryz.call120 rfl rfl (slices_Concat_strX (ll := [P0.getD k default, missF (P0.getD k default) (p.getD i default)]) (by simp) (by have h1 := missF_len (P0.getD k default) (p.getD i default); have h2 := hpk i; rw [List.flatten_cons, List.flatten_cons, List.flatten_nil, List.length_append, List.length_append, List.length_nil]; omega)) (List.Perm.refl _) (fun _ h => by obtain ⟨e, he, _⟩ := h; cases he) ?_)
          rintro _ _ ⟨u85, rfl, rfl⟩
          refine VO.le _ (Le.rowS (t := 85) (i := 0) hB hnew rfl rfl (by first | rfl | simp)) ?_
          refine VO.le _ (Le.recast (t := 85) (y := avStrs (allG p i k st)) rfl (fun w Z u h => by rw [← hall]; simpa using h)) ?_
          refine VO.ma rfl rfl rfl rfl ?_
          refine VO.nil ?_
          refine VC.seq ?_
          refine VC.sr ?_
          refine VO.mv rfl rfl rfl rfl ?_
          refine VO.val rfl rfl (OpV.len_im rfl Tryz.underlying40 rfl) ?_
          refine VO.mv rfl rfl rfl rfl ?_
          refine VO.val rfl rfl (OpV.nilCheck rfl rfl) ?_
          refine VO.val rfl rfl (OpV.fieldAddrO 0 rfl Tryz.underlying134 rfl rfl Tryz.sizeOf3 rfl) ?_
          refine VO.val rfl rfl (OpV.load_own (i := 0) rfl hB Tryz.isAgg3 rfl rfl rfl (fun h => h)) ?_
          refine VO.val rfl rfl (OpV.leq rfl rfl rfl) ?_
          refine VO.nil ?_
          refine VC.cond rfl (fun h3b => ?_) (fun h3b => ?_)
          · have h3 := h3b
            try simp only [qqT, qqF, qqN, qqM, qqL, qqE] at h3
            refine VC.seq ?_
            refine VC.draw (fun j b => 15 ≤ j ∧ b ≠ g) hB (by kernel_rfl) ?_
            refine VA.take (i := 0) rfl (by kernel_rfl) (by kernel_rfl) (by kernel_rfl) rfl rfl (OpV.move (.inl rfl) rfl) ?_
            refine VA.take (i := 1) rfl (by kernel_rfl) (by kernel_rfl) (by kernel_rfl) rfl rfl (OpV.nilCheck rfl rfl) ?_
            refine VA.take (i := 2) rfl (by kernel_rfl) (by kernel_rfl) (by kernel_rfl) rfl rfl (OpV.fieldAddrO 3 rfl Tryz.underlying134 rfl rfl Tryz.sizeOf55 rfl) ?_
            refine VA.take (i := 3) rfl (by kernel_rfl) (by kernel_rfl) (by kernel_rfl) rfl rfl (OpV.load_own (i := 0) rfl hB Tryz.isAgg55 rfl rfl rfl (by first | exact (fun ⟨_, _, _, h⟩ => h rfl) | exact (fun ⟨_, _, _, h⟩ => h.1 rfl) | exact (fun ⟨_, _, _, h⟩ => h.2 rfl) | exact (fun ⟨_, _, _, h⟩ => h.2.1 rfl) | exact (fun ⟨_, _, _, h⟩ => h.2.2 rfl))) ?_
            refine VA.take (i := 4) rfl (by kernel_rfl) (by kernel_rfl) (by kernel_rfl) rfl rfl (OpV.move (.inl rfl) rfl) ?_
            refine VA.take (i := 5) rfl (by kernel_rfl) (by kernel_rfl) (by kernel_rfl) rfl rfl (OpV.move (.inl rfl) rfl) ?_
            refine VA.take (i := 6) rfl (by kernel_rfl) (by kernel_rfl) (by kernel_rfl) rfl rfl (OpV.nilCheck rfl rfl) ?_
            refine VA.take (i := 7) rfl (by kernel_rfl) (by kernel_rfl) (by kernel_rfl) rfl rfl (OpV.fieldAddrO 4 rfl Tryz.underlying134 rfl rfl Tryz.sizeOf57 rfl) ?_
            refine VA.take (i := 8) rfl (by kernel_rfl) (by kernel_rfl) (by kernel_rfl) rfl rfl (OpV.load_own (i := 0) rfl hB Tryz.isAgg57 rfl rfl rfl (by first | exact (fun ⟨_, _, _, h⟩ => h rfl) | exact (fun ⟨_, _, _, h⟩ => h.1 rfl) | exact (fun ⟨_, _, _, h⟩ => h.2 rfl) | exact (fun ⟨_, _, _, h⟩ => h.2.1 rfl) | exact (fun ⟨_, _, _, h⟩ => h.2.2 rfl))) ?_
            refine VA.take (i := 9) rfl (by kernel_rfl) (by kernel_rfl) (by kernel_rfl) rfl rfl (OpV.move (.inl rfl) rfl) ?_
            refine VA.take (i := 10) rfl (by kernel_rfl) (by kernel_rfl) (by kernel_rfl) rfl rfl (OpV.move (.inl rfl) rfl) ?_
            refine VA.take (i := 11) rfl (by kernel_rfl) (by kernel_rfl) (by kernel_rfl) rfl rfl (OpV.move (.inl rfl) rfl) ?_
            refine VA.take (i := 13) rfl (by kernel_rfl) (by kernel_rfl) (by kernel_rfl) rfl rfl (OpV.move (.inl rfl) rfl) ?_
            refine VA.all (rs := [12, 14]) (by kernel_rfl) (by decide) ?_
            refine ⟨⟨_, rfl, .inl rfl, ?_⟩, ⟨_, rfl, .inl rfl, ?_⟩, trivial⟩
            ·
              refine OpE.callR rfl hB rfl Tryz.call94 (slices_Clone_R (by omega)) (ArgsP.cons (ArgP.ev rfl) (ArgsP.nil)) ?_
              intro u105
              refine VA.all (rs := [14]) (by kernel_rfl) (by decide) ?_
              refine ⟨⟨_, rfl, .inl rfl, ?_⟩, trivial⟩
              refine OpE.buildSlice (zc := #[.int .i64 0]) rfl hB rfl Tryz.underlying22 Tryz.sizeOf3 Tryz.zeroValue3 (by decide) (by decide) (by kernel_rfl) rfl rfl ?_
              refine VA.all (rs := [15]) (by kernel_rfl) (by decide) ?_
              refine ⟨⟨_, rfl, .inl rfl, ?_⟩, trivial⟩
              refine OpE.hap (fun hap => ?_)
              refine OpE.append1 (i := 3) rfl hB rfl Tryz.underlying22 (infoOf Tryz.t3 1 (by kernel_rfl) rfl rfl) rfl (by decide) (by decide) rfl rfl rfl rfl (intsL_snoc _ _) (by omega) (fun g' hg => ⟨by decide, apart_ne hap (i := 3) (j := 0) hg rfl (by decide)⟩) ?_
              intro u108
              refine VA.le _ (Le.rowI (t := 108) (i := 3) hB hnew rfl rfl (by first | rfl | simp)) ?_
              refine VA.le _ (Le.recast (t := 108) (y := avInts (st.groups.getD k [] ++ [(i : Int)])) rfl (fun w Z u h => by rw [← hGk]; exact h)) ?_
              refine VA.take (i := 16) rfl (by kernel_rfl) (by kernel_rfl) (by kernel_rfl) rfl rfl (OpV.indexAddr_o rfl Tryz.underlying55 Tryz.sizeOf40 rfl rfl rfl (by omega)) ?_
              refine VA.all (rs := [17]) (by kernel_rfl) (by decide) ?_
              refine ⟨⟨_, rfl, .inl rfl, ?_⟩, trivial⟩
              refine OpE.hap (fun hap => ?_)
              refine OpE.store1 (i := 1) rfl hB rfl Tryz.sizeOf40 rfl rfl rfl rfl rfl rfl (by rw [listM_len]; omega) (listM_set _ _ _) (⟨by decide, by first | exact apart_ne hap (i := 1) (j := 0) rfl rfl (by decide) | exact apart_ne hap (i := 2) (j := 0) rfl rfl (by decide)⟩) ?_
              refine VA.take (i := 18) rfl (by kernel_rfl) (by kernel_rfl) (by kernel_rfl) rfl rfl (OpV.indexAddr_o rfl Tryz.underlying57 Tryz.sizeOf22 rfl rfl rfl (by omega)) ?_
              refine VA.all (rs := [19]) (by kernel_rfl) (by decide) ?_
              refine ⟨⟨_, rfl, .inl rfl, ?_⟩, trivial⟩
              refine OpE.hap (fun hap => ?_)
              refine OpE.store1 (i := 2) rfl hB rfl Tryz.sizeOf22 rfl rfl rfl rfl rfl rfl (by rw [listM_len]; omega) (listM_set _ _ _) (⟨by decide, by first | exact apart_ne hap (i := 1) (j := 0) rfl rfl (by decide) | exact apart_ne hap (i := 2) (j := 0) rfl rfl (by decide)⟩) ?_
              refine VA.done (by kernel_rfl) ?_
              refine VC.seq ?_
              refine VC.seq ?_
              refine VC.le _ (Le.boxRow (i := 1) (n := P0.length) (sz := 1) (cap := cP) rfl (by rw [listM_len, hP1, Nat.mul_one]) hc1 hm1) ?_
              refine VC.le _ (Le.boxRow (i := 2) (n := G0.length) (sz := 1) (cap := cG) rfl (by rw [listM_len, hG1, Nat.mul_one]) hc2 hm2) ?_
              refine VC.region ?_
              refine VO.mv rfl rfl rfl rfl ?_
              refine VO.mv rfl rfl rfl rfl ?_
              refine VO.val rfl rfl (OpV.add rfl rfl rfl (by unfold fits; omega)) ?_
              refine VO.op rfl (OpE.callH0 rfl hB rfl Tryz.call98 rfl rfl ((by have hi := ih d' rfl (.slice (some ⟨gP, 0, none⟩) P0.length cP) (.slice (some ⟨gG, 0, none⟩) G0.length cG) ⟨P0.set k (allG p i k st), G0.set k (st.groups.getD k [] ++ [(i : Int)])⟩ (hput ▸ hok.put hp hk (by omega) hsl); simp only [ownG, hP1, hG1] at hi; exact hi)) (List.Perm.refl _) (fun _ _ => trivial) ?_)
              rintro _ _ ⟨u3, v3, rfl, rfl⟩
              refine VO.nil ?_
              refine VC.cond rfl (fun h4b => ?_) (fun h4b => ?_)
              · have h4 := h4b
                try simp only [qqT, qqF, qqN, qqM, qqL, qqE] at h4
                have hr2 := try_at2 hk (show k < most by omega) hkn (show (allG p i k st).length ≤ slots by omega) hput h4
                have hr3 := opt_getD (a := (⟨P0.set k (allG p i k st), G0.set k (st.groups.getD k [] ++ [(i : Int)])⟩ : GrpS)) st hr2 h4
                refine VC.sr ?_
                refine VO.ma rfl rfl rfl rfl ?_
                refine VO.nil ?_
                refine VC.ret ?_
                exact Exists.intro _ (And.intro (RetV.one Tryz.results98 (ResV.tmp rfl)) (⟨u3, v3, by rw [hr2, h4], congrArg (ownG p slots most g u3 v3) hr3⟩))
              · have h4 := h4b
                try simp only [qqT, qqF, qqN, qqM, qqL, qqE] at h4
                have hno : tryG p slots most d' (i + 1) ⟨P0.set k (allG p i k st), G0.set k (st.groups.getD k [] ++ [(i : Int)])⟩ = none := by simpa using h4
                have hq := tryQ_no (slots := slots) (f := tryG p slots most d') (show tryG p slots most d' (i + 1) (putG p i k st) = none by rw [hput]; exact hno)
                refine VC.le _ (Le.perm (hp := [.box g ⟨[avI (slots : Int), avI (most : Int), avM p, .v u3, .v v3], 134, 5⟩, .row u3 P0.length 1 (listM (P0.set k (allG p i k st))) 40, .row v3 G0.length 1 (listM (G0.set k (st.groups.getD k [] ++ [(i : Int)]))) 22]) (by show List.Perm (ownG p slots most g u3 v3 ((tryG p slots most d' (i + 1) ⟨P0.set k (allG p i k st), G0.set k (st.groups.getD k [] ++ [(i : Int)])⟩).getD ⟨P0.set k (allG p i k st), G0.set k (st.groups.getD k [] ++ [(i : Int)])⟩)) _; rw [hno]; simp only [ownG, Option.getD_none, hP1, hG1]; exact List.Perm.refl _)) ?_
                refine VC.skip ?_
                refine VC.asBox (i := 1) rfl (by omega) (fun gP2 cP2 hu1 hd1 hm3 => ?_)
                subst hu1
                refine VC.asBox (i := 2) rfl (by omega) (fun gG2 cG2 hu2 hd2 hm4 => ?_)
                subst hu2
                refine VC.draw (fun j b => 13 ≤ j ∧ b ≠ g) hB (by kernel_rfl) ?_
                refine VA.take (i := 0) rfl (by kernel_rfl) (by kernel_rfl) (by kernel_rfl) rfl rfl (OpV.move (.inl rfl) rfl) ?_
                refine VA.take (i := 1) rfl (by kernel_rfl) (by kernel_rfl) (by kernel_rfl) rfl rfl (OpV.nilCheck rfl rfl) ?_
                refine VA.take (i := 2) rfl (by kernel_rfl) (by kernel_rfl) (by kernel_rfl) rfl rfl (OpV.fieldAddrO 3 rfl Tryz.underlying134 rfl rfl Tryz.sizeOf55 rfl) ?_
                refine VA.take (i := 3) rfl (by kernel_rfl) (by kernel_rfl) (by kernel_rfl) rfl rfl (OpV.load_own (i := 0) rfl hB Tryz.isAgg55 rfl rfl rfl (by first | exact (fun ⟨_, _, _, h⟩ => h rfl) | exact (fun ⟨_, _, _, h⟩ => h.1 rfl) | exact (fun ⟨_, _, _, h⟩ => h.2 rfl) | exact (fun ⟨_, _, _, h⟩ => h.2.1 rfl) | exact (fun ⟨_, _, _, h⟩ => h.2.2 rfl))) ?_
                refine VA.take (i := 4) rfl (by kernel_rfl) (by kernel_rfl) (by kernel_rfl) rfl rfl (OpV.move (.inl rfl) rfl) ?_
                refine VA.take (i := 5) rfl (by kernel_rfl) (by kernel_rfl) (by kernel_rfl) rfl rfl (OpV.move (.inl rfl) rfl) ?_
                refine VA.take (i := 6) rfl (by kernel_rfl) (by kernel_rfl) (by kernel_rfl) rfl rfl (OpV.nilCheck rfl rfl) ?_
                refine VA.take (i := 7) rfl (by kernel_rfl) (by kernel_rfl) (by kernel_rfl) rfl rfl (OpV.fieldAddrO 4 rfl Tryz.underlying134 rfl rfl Tryz.sizeOf57 rfl) ?_
                refine VA.take (i := 8) rfl (by kernel_rfl) (by kernel_rfl) (by kernel_rfl) rfl rfl (OpV.load_own (i := 0) rfl hB Tryz.isAgg57 rfl rfl rfl (by first | exact (fun ⟨_, _, _, h⟩ => h rfl) | exact (fun ⟨_, _, _, h⟩ => h.1 rfl) | exact (fun ⟨_, _, _, h⟩ => h.2 rfl) | exact (fun ⟨_, _, _, h⟩ => h.2.1 rfl) | exact (fun ⟨_, _, _, h⟩ => h.2.2 rfl))) ?_
                refine VA.take (i := 9) rfl (by kernel_rfl) (by kernel_rfl) (by kernel_rfl) rfl rfl (OpV.move (.inl rfl) rfl) ?_
                refine VA.take (i := 10) rfl (by kernel_rfl) (by kernel_rfl) (by kernel_rfl) rfl rfl (OpV.move (.inl rfl) rfl) ?_
                refine VA.take (i := 11) rfl (by kernel_rfl) (by kernel_rfl) (by kernel_rfl) rfl rfl (OpV.move (.inl rfl) rfl) ?_
                refine VA.take (i := 12) rfl (by kernel_rfl) (by kernel_rfl) (by kernel_rfl) rfl rfl (OpV.indexAddr_o rfl Tryz.underlying55 Tryz.sizeOf40 rfl rfl rfl (by omega)) ?_
                refine VA.all (rs := [13]) (by kernel_rfl) (by decide) ?_
                refine ⟨⟨_, rfl, .inl rfl, ?_⟩, trivial⟩
                refine OpE.hap (fun hap => ?_)
                refine OpE.store1 (i := 1) rfl hB rfl Tryz.sizeOf40 rfl rfl rfl rfl rfl rfl (by rw [listM_len, hP1]; omega) ((listM_set _ _ _).trans (congrArg listM (set_backM hfl))) (⟨by decide, by first | exact apart_ne hap (i := 1) (j := 0) rfl rfl (by decide) | exact apart_ne hap (i := 2) (j := 0) rfl rfl (by decide)⟩) ?_
                refine VA.take (i := 14) rfl (by kernel_rfl) (by kernel_rfl) (by kernel_rfl) rfl rfl (OpV.indexAddr_o rfl Tryz.underlying57 Tryz.sizeOf22 rfl rfl rfl (by omega)) ?_
                refine VA.all (rs := [15]) (by kernel_rfl) (by decide) ?_
                refine ⟨⟨_, rfl, .inl rfl, ?_⟩, trivial⟩
                refine OpE.hap (fun hap => ?_)
                refine OpE.store1 (i := 2) rfl hB rfl Tryz.sizeOf22 rfl rfl rfl rfl rfl rfl (by rw [listM_len, hG1]; omega) ((listM_set _ _ _).trans (congrArg listM (set_backM (by omega)))) (⟨by decide, by first | exact apart_ne hap (i := 1) (j := 0) rfl rfl (by decide) | exact apart_ne hap (i := 2) (j := 0) rfl rfl (by decide)⟩) ?_
                refine VA.done (by kernel_rfl) ?_
                refine VC.sr ?_
                refine VO.mv rfl rfl rfl rfl ?_
                refine VO.nil ?_
                refine VC.cond rfl (fun h5b => ?_) (fun h5b => ?_)
                · have h5 := h5b
                  try simp only [qqT, qqF, qqN, qqM, qqL, qqE] at h5
                  have hkn2 := lt_succ_cases hkn hq
                  obtain rfl : k = st.parts.length := h5
                  have eP : P0 = st.parts ++ [[]] := by rw [hP0, frG_y rfl]
                  have eG : G0 = st.groups ++ [[]] := by rw [hG0, frG_y rfl]
                  refine VC.seq ?_
                  refine VC.draw (fun j b => (j = 16 ∧ b = g) ∨ (j = 19 ∧ b = g)) hB (by kernel_rfl) ?_
                  refine VA.take (i := 0) rfl (by kernel_rfl) (by kernel_rfl) (by kernel_rfl) rfl rfl (OpV.move (.inl rfl) rfl) ?_
                  refine VA.take (i := 1) rfl (by kernel_rfl) (by kernel_rfl) (by kernel_rfl) rfl rfl (OpV.move (.inl rfl) rfl) ?_
                  refine VA.take (i := 2) rfl (by kernel_rfl) (by kernel_rfl) (by kernel_rfl) rfl rfl (OpV.move (.inl rfl) rfl) ?_
                  refine VA.take (i := 3) rfl (by kernel_rfl) (by kernel_rfl) (by kernel_rfl) rfl rfl (OpV.nilCheck rfl rfl) ?_
                  refine VA.take (i := 4) rfl (by kernel_rfl) (by kernel_rfl) (by kernel_rfl) rfl rfl (OpV.fieldAddrO 3 rfl Tryz.underlying134 rfl rfl Tryz.sizeOf55 rfl) ?_
                  refine VA.take (i := 5) rfl (by kernel_rfl) (by kernel_rfl) (by kernel_rfl) rfl rfl (OpV.load_own (i := 0) rfl hB Tryz.isAgg55 rfl rfl rfl (by first | exact Wi.not1 (by kernel_rfl) | exact Wi.not2 (by kernel_rfl) (by kernel_rfl) | exact Wi.notX (by kernel_rfl))) ?_
                  refine VA.take (i := 6) rfl (by kernel_rfl) (by kernel_rfl) (by kernel_rfl) rfl rfl (OpV.move (.inl rfl) rfl) ?_
                  refine VA.take (i := 7) rfl (by kernel_rfl) (by kernel_rfl) (by kernel_rfl) rfl rfl (OpV.slice_own (h := st.parts.length) rfl Tryz.underlying55 Tryz.sizeOf40 rfl rfl ⟨_, _, rfl, rfl⟩ (by omega) (by omega) (by omega)) ?_
                  refine VA.take (i := 8) rfl (by kernel_rfl) (by kernel_rfl) (by kernel_rfl) rfl rfl (OpV.move (.inl rfl) rfl) ?_
                  refine VA.take (i := 9) rfl (by kernel_rfl) (by kernel_rfl) (by kernel_rfl) rfl rfl (OpV.nilCheck rfl rfl) ?_
                  refine VA.take (i := 10) rfl (by kernel_rfl) (by kernel_rfl) (by kernel_rfl) rfl rfl (OpV.fieldAddrO 4 rfl Tryz.underlying134 rfl rfl Tryz.sizeOf57 rfl) ?_
                  refine VA.take (i := 11) rfl (by kernel_rfl) (by kernel_rfl) (by kernel_rfl) rfl rfl (OpV.load_own (i := 0) rfl hB Tryz.isAgg57 rfl rfl rfl (by first | exact Wi.not1 (by kernel_rfl) | exact Wi.not2 (by kernel_rfl) (by kernel_rfl) | exact Wi.notX (by kernel_rfl))) ?_
                  refine VA.take (i := 12) rfl (by kernel_rfl) (by kernel_rfl) (by kernel_rfl) rfl rfl (OpV.move (.inl rfl) rfl) ?_
                  refine VA.take (i := 13) rfl (by kernel_rfl) (by kernel_rfl) (by kernel_rfl) rfl rfl (OpV.slice_own (h := st.groups.length) rfl Tryz.underlying57 Tryz.sizeOf22 rfl rfl ⟨_, _, rfl, by omega⟩ (by omega) (by omega) (by omega)) ?_
                  refine VA.take (i := 14) rfl (by kernel_rfl) (by kernel_rfl) (by kernel_rfl) rfl rfl (OpV.nilCheck rfl rfl) ?_
                  refine VA.take (i := 15) rfl (by kernel_rfl) (by kernel_rfl) (by kernel_rfl) rfl rfl (OpV.fieldAddrO 3 rfl Tryz.underlying134 rfl rfl Tryz.sizeOf55 rfl) ?_
                  refine VA.all (rs := [16]) (by kernel_rfl) (by decide) ?_
                  refine ⟨⟨_, rfl, .inl rfl, ?_⟩, trivial⟩
                  refine OpE.store (i := 0) rfl hB rfl Tryz.sizeOf55 rfl rfl rfl rfl rfl rfl (Nle rfl) (by first | exact ⟨rfl, rfl⟩ | exact .inl ⟨rfl, rfl⟩ | exact .inr ⟨rfl, rfl⟩ | exact ⟨rfl, trivial⟩ | exact .inl ⟨rfl, trivial⟩ | exact .inr ⟨rfl, trivial⟩ | exact ⟨by decide, rfl⟩) ?_
                  refine VA.take (i := 17) rfl (by kernel_rfl) (by kernel_rfl) (by kernel_rfl) rfl rfl (OpV.nilCheck rfl rfl) ?_
                  refine VA.take (i := 18) rfl (by kernel_rfl) (by kernel_rfl) (by kernel_rfl) rfl rfl (OpV.fieldAddrO 4 rfl Tryz.underlying134 rfl rfl Tryz.sizeOf57 rfl) ?_
                  refine VA.all (rs := [19]) (by kernel_rfl) (by decide) ?_
                  refine ⟨⟨_, rfl, .inl rfl, ?_⟩, trivial⟩
                  refine OpE.store (i := 0) rfl hB rfl Tryz.sizeOf57 rfl rfl rfl rfl rfl rfl (Nle rfl) (by first | exact ⟨rfl, rfl⟩ | exact .inl ⟨rfl, rfl⟩ | exact .inr ⟨rfl, rfl⟩ | exact ⟨rfl, trivial⟩ | exact .inl ⟨rfl, trivial⟩ | exact .inr ⟨rfl, trivial⟩ | exact ⟨by decide, rfl⟩) ?_
                  refine VA.done (by kernel_rfl) ?_
                  refine VC.exit ?_
                  refine VC.seq ?_
                  (refine VC.le _ ((Le.cutBoxE (i := 1) (cs' := listM st.parts) st.parts.length rfl (by rw [eP]; simp [listM])).trans ((Le.boxRow (i := 1) (n := st.parts.length) (sz := 1) (cap := cP2) rfl (by rw [listM_len, Nat.mul_one]) (by omega) hm3).trans ((Le.cutBoxE (i := 2) (cs' := listM st.groups) st.groups.length rfl (by rw [eG]; simp [listM])).trans (Le.boxRow (i := 2) (n := st.groups.length) (sz := 1) (cap := cG2) rfl (by rw [listM_len, Nat.mul_one]) (by omega) hm4)))) ?_; refine VC.le _ (Le.perm (hp := ownG p slots most g (.slice (some ⟨gP2, 0, none⟩) st.parts.length cP2) (.slice (some ⟨gG2, 0, none⟩) st.groups.length cG2) st) (List.Perm.refl _)) ?_)
                  have hte : tryG p slots most (d' + 1) i st = none := by first | exact try_end (by omega) hkn2 | exact try_end (by omega) hkn
                  refine VC.region ?_
                  refine VO.ma rfl rfl rfl rfl ?_
                  refine VO.nil ?_
                  refine VC.ret ?_
                  exact Exists.intro _ (And.intro (RetV.one Tryz.results98 (ResV.tmp rfl)) (⟨_, _, congrArg (fun z => avB (Option.isSome z)) hte.symm, congrArg (fun z => ownG p slots most g _ _ (Option.getD z st)) hte.symm⟩))
                · have h5 := h5b
                  try simp only [qqT, qqF, qqN, qqM, qqL, qqE] at h5
                  have eP : P0 = st.parts := by rw [hP0, frG_n h5]
                  have eG : G0 = st.groups := by rw [hG0, frG_n h5]
                  refine VC.skip ?_
                  subst eP
                  subst eG
                  refine VC.le _ ((Le.boxRow (i := 1) (n := st.parts.length) (sz := 1) (cap := cP2) rfl (by rw [listM_len, Nat.mul_one]) hd1 hm3).trans (Le.boxRow (i := 2) (n := st.groups.length) (sz := 1) (cap := cG2) rfl (by rw [listM_len, Nat.mul_one]) hd2 hm4)) ?_
                  refine VC.region ?_
                  refine VO.mv rfl rfl rfl rfl ?_
                  refine VO.val rfl rfl (OpV.add rfl rfl rfl (by unfold fits; omega)) ?_
                  refine VO.ma rfl rfl rfl rfl ?_
                  refine VO.nil ?_
                  exact Exists.intro (⟨((.slice (some ⟨gP2, 0, none⟩) st.parts.length cP2, .slice (some ⟨gG2, 0, none⟩) st.groups.length cG2), k + 1), by show k + 1 ≤ _; omega, lt_succ_cases hkn hq⟩) (And.intro (Le.mkP hB ⟨rfl, rfl, rfl, trivial⟩ (List.Sublist.refl _) (List.Perm.refl _) (Nat.le_refl _)) (by first | omega | (show _ < _; omega) | (simp only []; omega)))
            ·
              refine OpE.buildSlice (zc := #[.int .i64 0]) rfl hB rfl Tryz.underlying22 Tryz.sizeOf3 Tryz.zeroValue3 (by decide) (by decide) (by kernel_rfl) rfl rfl ?_
              refine VA.all (rs := [12]) (by kernel_rfl) (by decide) ?_
              refine ⟨⟨_, rfl, .inl rfl, ?_⟩, trivial⟩
              refine OpE.callR rfl hB rfl Tryz.call94 (slices_Clone_R (by omega)) (ArgsP.cons (ArgP.ev rfl) (ArgsP.nil)) ?_
              intro u105
              refine VA.all (rs := [15]) (by kernel_rfl) (by decide) ?_
              refine ⟨⟨_, rfl, .inl rfl, ?_⟩, trivial⟩
              refine OpE.hap (fun hap => ?_)
              refine OpE.append1 (i := 3) rfl hB rfl Tryz.underlying22 (infoOf Tryz.t3 1 (by kernel_rfl) rfl rfl) rfl (by decide) (by decide) rfl rfl rfl rfl (intsL_snoc _ _) (by omega) (fun g' hg => ⟨by decide, apart_ne hap (i := 3) (j := 0) hg rfl (by decide)⟩) ?_
              intro u108
              refine VA.le _ (Le.rowI (t := 108) (i := 3) hB hnew rfl rfl (by first | rfl | simp)) ?_
              refine VA.le _ (Le.recast (t := 108) (y := avInts (st.groups.getD k [] ++ [(i : Int)])) rfl (fun w Z u h => by rw [← hGk]; exact h)) ?_
              refine VA.take (i := 16) rfl (by kernel_rfl) (by kernel_rfl) (by kernel_rfl) rfl rfl (OpV.indexAddr_o rfl Tryz.underlying55 Tryz.sizeOf40 rfl rfl rfl (by omega)) ?_
              refine VA.all (rs := [17]) (by kernel_rfl) (by decide) ?_
              refine ⟨⟨_, rfl, .inl rfl, ?_⟩, trivial⟩
              refine OpE.hap (fun hap => ?_)
              refine OpE.store1 (i := 1) rfl hB rfl Tryz.sizeOf40 rfl rfl rfl rfl rfl rfl (by rw [listM_len]; omega) (listM_set _ _ _) (⟨by decide, by first | exact apart_ne hap (i := 1) (j := 0) rfl rfl (by decide) | exact apart_ne hap (i := 2) (j := 0) rfl rfl (by decide)⟩) ?_
              refine VA.take (i := 18) rfl (by kernel_rfl) (by kernel_rfl) (by kernel_rfl) rfl rfl (OpV.indexAddr_o rfl Tryz.underlying57 Tryz.sizeOf22 rfl rfl rfl (by omega)) ?_
              refine VA.all (rs := [19]) (by kernel_rfl) (by decide) ?_
              refine ⟨⟨_, rfl, .inl rfl, ?_⟩, trivial⟩
              refine OpE.hap (fun hap => ?_)
              refine OpE.store1 (i := 2) rfl hB rfl Tryz.sizeOf22 rfl rfl rfl rfl rfl rfl (by rw [listM_len]; omega) (listM_set _ _ _) (⟨by decide, by first | exact apart_ne hap (i := 1) (j := 0) rfl rfl (by decide) | exact apart_ne hap (i := 2) (j := 0) rfl rfl (by decide)⟩) ?_
              refine VA.done (by kernel_rfl) ?_
              refine VC.seq ?_
              refine VC.seq ?_
              refine VC.le _ (Le.boxRow (i := 1) (n := P0.length) (sz := 1) (cap := cP) rfl (by rw [listM_len, hP1, Nat.mul_one]) hc1 hm1) ?_
              refine VC.le _ (Le.boxRow (i := 2) (n := G0.length) (sz := 1) (cap := cG) rfl (by rw [listM_len, hG1, Nat.mul_one]) hc2 hm2) ?_
              refine VC.region ?_
              refine VO.mv rfl rfl rfl rfl ?_
              refine VO.mv rfl rfl rfl rfl ?_
              refine VO.val rfl rfl (OpV.add rfl rfl rfl (by unfold fits; omega)) ?_
              refine VO.op rfl (OpE.callH0 rfl hB rfl Tryz.call98 rfl rfl ((by have hi := ih d' rfl (.slice (some ⟨gP, 0, none⟩) P0.length cP) (.slice (some ⟨gG, 0, none⟩) G0.length cG) ⟨P0.set k (allG p i k st), G0.set k (st.groups.getD k [] ++ [(i : Int)])⟩ (hput ▸ hok.put hp hk (by omega) hsl); simp only [ownG, hP1, hG1] at hi; exact hi)) (List.Perm.refl _) (fun _ _ => trivial) ?_)
              rintro _ _ ⟨u3, v3, rfl, rfl⟩
              refine VO.nil ?_
              refine VC.cond rfl (fun h4b => ?_) (fun h4b => ?_)
              · have h4 := h4b
                try simp only [qqT, qqF, qqN, qqM, qqL, qqE] at h4
                have hr2 := try_at2 hk (show k < most by omega) hkn (show (allG p i k st).length ≤ slots by omega) hput h4
                have hr3 := opt_getD (a := (⟨P0.set k (allG p i k st), G0.set k (st.groups.getD k [] ++ [(i : Int)])⟩ : GrpS)) st hr2 h4
                refine VC.sr ?_
                refine VO.ma rfl rfl rfl rfl ?_
                refine VO.nil ?_
                refine VC.ret ?_
                exact Exists.intro _ (And.intro (RetV.one Tryz.results98 (ResV.tmp rfl)) (⟨u3, v3, by rw [hr2, h4], congrArg (ownG p slots most g u3 v3) hr3⟩))
              · have h4 := h4b
                try simp only [qqT, qqF, qqN, qqM, qqL, qqE] at h4
                have hno : tryG p slots most d' (i + 1) ⟨P0.set k (allG p i k st), G0.set k (st.groups.getD k [] ++ [(i : Int)])⟩ = none := by simpa using h4
                have hq := tryQ_no (slots := slots) (f := tryG p slots most d') (show tryG p slots most d' (i + 1) (putG p i k st) = none by rw [hput]; exact hno)
                refine VC.le _ (Le.perm (hp := [.box g ⟨[avI (slots : Int), avI (most : Int), avM p, .v u3, .v v3], 134, 5⟩, .row u3 P0.length 1 (listM (P0.set k (allG p i k st))) 40, .row v3 G0.length 1 (listM (G0.set k (st.groups.getD k [] ++ [(i : Int)]))) 22]) (by show List.Perm (ownG p slots most g u3 v3 ((tryG p slots most d' (i + 1) ⟨P0.set k (allG p i k st), G0.set k (st.groups.getD k [] ++ [(i : Int)])⟩).getD ⟨P0.set k (allG p i k st), G0.set k (st.groups.getD k [] ++ [(i : Int)])⟩)) _; rw [hno]; simp only [ownG, Option.getD_none, hP1, hG1]; exact List.Perm.refl _)) ?_
                refine VC.skip ?_
                refine VC.asBox (i := 1) rfl (by omega) (fun gP2 cP2 hu1 hd1 hm3 => ?_)
                subst hu1
                refine VC.asBox (i := 2) rfl (by omega) (fun gG2 cG2 hu2 hd2 hm4 => ?_)
                subst hu2
                refine VC.draw (fun j b => 13 ≤ j ∧ b ≠ g) hB (by kernel_rfl) ?_
                refine VA.take (i := 0) rfl (by kernel_rfl) (by kernel_rfl) (by kernel_rfl) rfl rfl (OpV.move (.inl rfl) rfl) ?_
                refine VA.take (i := 1) rfl (by kernel_rfl) (by kernel_rfl) (by kernel_rfl) rfl rfl (OpV.nilCheck rfl rfl) ?_
                refine VA.take (i := 2) rfl (by kernel_rfl) (by kernel_rfl) (by kernel_rfl) rfl rfl (OpV.fieldAddrO 3 rfl Tryz.underlying134 rfl rfl Tryz.sizeOf55 rfl) ?_
                refine VA.take (i := 3) rfl (by kernel_rfl) (by kernel_rfl) (by kernel_rfl) rfl rfl (OpV.load_own (i := 0) rfl hB Tryz.isAgg55 rfl rfl rfl (by first | exact (fun ⟨_, _, _, h⟩ => h rfl) | exact (fun ⟨_, _, _, h⟩ => h.1 rfl) | exact (fun ⟨_, _, _, h⟩ => h.2 rfl) | exact (fun ⟨_, _, _, h⟩ => h.2.1 rfl) | exact (fun ⟨_, _, _, h⟩ => h.2.2 rfl))) ?_
                refine VA.take (i := 4) rfl (by kernel_rfl) (by kernel_rfl) (by kernel_rfl) rfl rfl (OpV.move (.inl rfl) rfl) ?_
                refine VA.take (i := 5) rfl (by kernel_rfl) (by kernel_rfl) (by kernel_rfl) rfl rfl (OpV.move (.inl rfl) rfl) ?_
                refine VA.take (i := 6) rfl (by kernel_rfl) (by kernel_rfl) (by kernel_rfl) rfl rfl (OpV.nilCheck rfl rfl) ?_
                refine VA.take (i := 7) rfl (by kernel_rfl) (by kernel_rfl) (by kernel_rfl) rfl rfl (OpV.fieldAddrO 4 rfl Tryz.underlying134 rfl rfl Tryz.sizeOf57 rfl) ?_
                refine VA.take (i := 8) rfl (by kernel_rfl) (by kernel_rfl) (by kernel_rfl) rfl rfl (OpV.load_own (i := 0) rfl hB Tryz.isAgg57 rfl rfl rfl (by first | exact (fun ⟨_, _, _, h⟩ => h rfl) | exact (fun ⟨_, _, _, h⟩ => h.1 rfl) | exact (fun ⟨_, _, _, h⟩ => h.2 rfl) | exact (fun ⟨_, _, _, h⟩ => h.2.1 rfl) | exact (fun ⟨_, _, _, h⟩ => h.2.2 rfl))) ?_
                refine VA.take (i := 9) rfl (by kernel_rfl) (by kernel_rfl) (by kernel_rfl) rfl rfl (OpV.move (.inl rfl) rfl) ?_
                refine VA.take (i := 10) rfl (by kernel_rfl) (by kernel_rfl) (by kernel_rfl) rfl rfl (OpV.move (.inl rfl) rfl) ?_
                refine VA.take (i := 11) rfl (by kernel_rfl) (by kernel_rfl) (by kernel_rfl) rfl rfl (OpV.move (.inl rfl) rfl) ?_
                refine VA.take (i := 12) rfl (by kernel_rfl) (by kernel_rfl) (by kernel_rfl) rfl rfl (OpV.indexAddr_o rfl Tryz.underlying55 Tryz.sizeOf40 rfl rfl rfl (by omega)) ?_
                refine VA.all (rs := [13]) (by kernel_rfl) (by decide) ?_
                refine ⟨⟨_, rfl, .inl rfl, ?_⟩, trivial⟩
                refine OpE.hap (fun hap => ?_)
                refine OpE.store1 (i := 1) rfl hB rfl Tryz.sizeOf40 rfl rfl rfl rfl rfl rfl (by rw [listM_len, hP1]; omega) ((listM_set _ _ _).trans (congrArg listM (set_backM hfl))) (⟨by decide, by first | exact apart_ne hap (i := 1) (j := 0) rfl rfl (by decide) | exact apart_ne hap (i := 2) (j := 0) rfl rfl (by decide)⟩) ?_
                refine VA.take (i := 14) rfl (by kernel_rfl) (by kernel_rfl) (by kernel_rfl) rfl rfl (OpV.indexAddr_o rfl Tryz.underlying57 Tryz.sizeOf22 rfl rfl rfl (by omega)) ?_
                refine VA.all (rs := [15]) (by kernel_rfl) (by decide) ?_
                refine ⟨⟨_, rfl, .inl rfl, ?_⟩, trivial⟩
                refine OpE.hap (fun hap => ?_)
                refine OpE.store1 (i := 2) rfl hB rfl Tryz.sizeOf22 rfl rfl rfl rfl rfl rfl (by rw [listM_len, hG1]; omega) ((listM_set _ _ _).trans (congrArg listM (set_backM (by omega)))) (⟨by decide, by first | exact apart_ne hap (i := 1) (j := 0) rfl rfl (by decide) | exact apart_ne hap (i := 2) (j := 0) rfl rfl (by decide)⟩) ?_
                refine VA.done (by kernel_rfl) ?_
                refine VC.sr ?_
                refine VO.mv rfl rfl rfl rfl ?_
                refine VO.nil ?_
                refine VC.cond rfl (fun h5b => ?_) (fun h5b => ?_)
                · have h5 := h5b
                  try simp only [qqT, qqF, qqN, qqM, qqL, qqE] at h5
                  have hkn2 := lt_succ_cases hkn hq
                  obtain rfl : k = st.parts.length := h5
                  have eP : P0 = st.parts ++ [[]] := by rw [hP0, frG_y rfl]
                  have eG : G0 = st.groups ++ [[]] := by rw [hG0, frG_y rfl]
                  refine VC.seq ?_
                  refine VC.draw (fun j b => (j = 16 ∧ b = g) ∨ (j = 19 ∧ b = g)) hB (by kernel_rfl) ?_
                  refine VA.take (i := 0) rfl (by kernel_rfl) (by kernel_rfl) (by kernel_rfl) rfl rfl (OpV.move (.inl rfl) rfl) ?_
                  refine VA.take (i := 1) rfl (by kernel_rfl) (by kernel_rfl) (by kernel_rfl) rfl rfl (OpV.move (.inl rfl) rfl) ?_
                  refine VA.take (i := 2) rfl (by kernel_rfl) (by kernel_rfl) (by kernel_rfl) rfl rfl (OpV.move (.inl rfl) rfl) ?_
                  refine VA.take (i := 3) rfl (by kernel_rfl) (by kernel_rfl) (by kernel_rfl) rfl rfl (OpV.nilCheck rfl rfl) ?_
                  refine VA.take (i := 4) rfl (by kernel_rfl) (by kernel_rfl) (by kernel_rfl) rfl rfl (OpV.fieldAddrO 3 rfl Tryz.underlying134 rfl rfl Tryz.sizeOf55 rfl) ?_
                  refine VA.take (i := 5) rfl (by kernel_rfl) (by kernel_rfl) (by kernel_rfl) rfl rfl (OpV.load_own (i := 0) rfl hB Tryz.isAgg55 rfl rfl rfl (by first | exact Wi.not1 (by kernel_rfl) | exact Wi.not2 (by kernel_rfl) (by kernel_rfl) | exact Wi.notX (by kernel_rfl))) ?_
                  refine VA.take (i := 6) rfl (by kernel_rfl) (by kernel_rfl) (by kernel_rfl) rfl rfl (OpV.move (.inl rfl) rfl) ?_
                  refine VA.take (i := 7) rfl (by kernel_rfl) (by kernel_rfl) (by kernel_rfl) rfl rfl (OpV.slice_own (h := st.parts.length) rfl Tryz.underlying55 Tryz.sizeOf40 rfl rfl ⟨_, _, rfl, rfl⟩ (by omega) (by omega) (by omega)) ?_
                  refine VA.take (i := 8) rfl (by kernel_rfl) (by kernel_rfl) (by kernel_rfl) rfl rfl (OpV.move (.inl rfl) rfl) ?_
                  refine VA.take (i := 9) rfl (by kernel_rfl) (by kernel_rfl) (by kernel_rfl) rfl rfl (OpV.nilCheck rfl rfl) ?_
                  refine VA.take (i := 10) rfl (by kernel_rfl) (by kernel_rfl) (by kernel_rfl) rfl rfl (OpV.fieldAddrO 4 rfl Tryz.underlying134 rfl rfl Tryz.sizeOf57 rfl) ?_
                  refine VA.take (i := 11) rfl (by kernel_rfl) (by kernel_rfl) (by kernel_rfl) rfl rfl (OpV.load_own (i := 0) rfl hB Tryz.isAgg57 rfl rfl rfl (by first | exact Wi.not1 (by kernel_rfl) | exact Wi.not2 (by kernel_rfl) (by kernel_rfl) | exact Wi.notX (by kernel_rfl))) ?_
                  refine VA.take (i := 12) rfl (by kernel_rfl) (by kernel_rfl) (by kernel_rfl) rfl rfl (OpV.move (.inl rfl) rfl) ?_
                  refine VA.take (i := 13) rfl (by kernel_rfl) (by kernel_rfl) (by kernel_rfl) rfl rfl (OpV.slice_own (h := st.groups.length) rfl Tryz.underlying57 Tryz.sizeOf22 rfl rfl ⟨_, _, rfl, by omega⟩ (by omega) (by omega) (by omega)) ?_
                  refine VA.take (i := 14) rfl (by kernel_rfl) (by kernel_rfl) (by kernel_rfl) rfl rfl (OpV.nilCheck rfl rfl) ?_
                  refine VA.take (i := 15) rfl (by kernel_rfl) (by kernel_rfl) (by kernel_rfl) rfl rfl (OpV.fieldAddrO 3 rfl Tryz.underlying134 rfl rfl Tryz.sizeOf55 rfl) ?_
                  refine VA.all (rs := [16]) (by kernel_rfl) (by decide) ?_
                  refine ⟨⟨_, rfl, .inl rfl, ?_⟩, trivial⟩
                  refine OpE.store (i := 0) rfl hB rfl Tryz.sizeOf55 rfl rfl rfl rfl rfl rfl (Nle rfl) (by first | exact ⟨rfl, rfl⟩ | exact .inl ⟨rfl, rfl⟩ | exact .inr ⟨rfl, rfl⟩ | exact ⟨rfl, trivial⟩ | exact .inl ⟨rfl, trivial⟩ | exact .inr ⟨rfl, trivial⟩ | exact ⟨by decide, rfl⟩) ?_
                  refine VA.take (i := 17) rfl (by kernel_rfl) (by kernel_rfl) (by kernel_rfl) rfl rfl (OpV.nilCheck rfl rfl) ?_
                  refine VA.take (i := 18) rfl (by kernel_rfl) (by kernel_rfl) (by kernel_rfl) rfl rfl (OpV.fieldAddrO 4 rfl Tryz.underlying134 rfl rfl Tryz.sizeOf57 rfl) ?_
                  refine VA.all (rs := [19]) (by kernel_rfl) (by decide) ?_
                  refine ⟨⟨_, rfl, .inl rfl, ?_⟩, trivial⟩
                  refine OpE.store (i := 0) rfl hB rfl Tryz.sizeOf57 rfl rfl rfl rfl rfl rfl (Nle rfl) (by first | exact ⟨rfl, rfl⟩ | exact .inl ⟨rfl, rfl⟩ | exact .inr ⟨rfl, rfl⟩ | exact ⟨rfl, trivial⟩ | exact .inl ⟨rfl, trivial⟩ | exact .inr ⟨rfl, trivial⟩ | exact ⟨by decide, rfl⟩) ?_
                  refine VA.done (by kernel_rfl) ?_
                  refine VC.exit ?_
                  refine VC.seq ?_
                  (refine VC.le _ ((Le.cutBoxE (i := 1) (cs' := listM st.parts) st.parts.length rfl (by rw [eP]; simp [listM])).trans ((Le.boxRow (i := 1) (n := st.parts.length) (sz := 1) (cap := cP2) rfl (by rw [listM_len, Nat.mul_one]) (by omega) hm3).trans ((Le.cutBoxE (i := 2) (cs' := listM st.groups) st.groups.length rfl (by rw [eG]; simp [listM])).trans (Le.boxRow (i := 2) (n := st.groups.length) (sz := 1) (cap := cG2) rfl (by rw [listM_len, Nat.mul_one]) (by omega) hm4)))) ?_; refine VC.le _ (Le.perm (hp := ownG p slots most g (.slice (some ⟨gP2, 0, none⟩) st.parts.length cP2) (.slice (some ⟨gG2, 0, none⟩) st.groups.length cG2) st) (List.Perm.refl _)) ?_)
                  have hte : tryG p slots most (d' + 1) i st = none := by first | exact try_end (by omega) hkn2 | exact try_end (by omega) hkn
                  refine VC.region ?_
                  refine VO.ma rfl rfl rfl rfl ?_
                  refine VO.nil ?_
                  refine VC.ret ?_
                  exact Exists.intro _ (And.intro (RetV.one Tryz.results98 (ResV.tmp rfl)) (⟨_, _, congrArg (fun z => avB (Option.isSome z)) hte.symm, congrArg (fun z => ownG p slots most g _ _ (Option.getD z st)) hte.symm⟩))
                · have h5 := h5b
                  try simp only [qqT, qqF, qqN, qqM, qqL, qqE] at h5
                  have eP : P0 = st.parts := by rw [hP0, frG_n h5]
                  have eG : G0 = st.groups := by rw [hG0, frG_n h5]
                  refine VC.skip ?_
                  subst eP
                  subst eG
                  refine VC.le _ ((Le.boxRow (i := 1) (n := st.parts.length) (sz := 1) (cap := cP2) rfl (by rw [listM_len, Nat.mul_one]) hd1 hm3).trans (Le.boxRow (i := 2) (n := st.groups.length) (sz := 1) (cap := cG2) rfl (by rw [listM_len, Nat.mul_one]) hd2 hm4)) ?_
                  refine VC.region ?_
                  refine VO.mv rfl rfl rfl rfl ?_
                  refine VO.val rfl rfl (OpV.add rfl rfl rfl (by unfold fits; omega)) ?_
                  refine VO.ma rfl rfl rfl rfl ?_
                  refine VO.nil ?_
                  exact Exists.intro (⟨((.slice (some ⟨gP2, 0, none⟩) st.parts.length cP2, .slice (some ⟨gG2, 0, none⟩) st.groups.length cG2), k + 1), by show k + 1 ≤ _; omega, lt_succ_cases hkn hq⟩) (And.intro (Le.mkP hB ⟨rfl, rfl, rfl, trivial⟩ (List.Sublist.refl _) (List.Perm.refl _) (Nat.le_refl _)) (by first | omega | (show _ < _; omega) | (simp only []; omega)))
          · have h3 := h3b
            try simp only [qqT, qqF, qqN, qqM, qqL, qqE] at h3
            have hq := tryQ_big (f := tryG p slots most d') (show ¬ (allG p i k st).length ≤ slots by omega)
            refine VC.skip ?_
            refine VC.sr ?_
            refine VO.mv rfl rfl rfl rfl ?_
            refine VO.nil ?_
            refine VC.cond rfl (fun h5b => ?_) (fun h5b => ?_)
            · have h5 := h5b
              try simp only [qqT, qqF, qqN, qqM, qqL, qqE] at h5
              have hkn2 := lt_succ_cases hkn hq
              obtain rfl : k = st.parts.length := h5
              have eP : P0 = st.parts ++ [[]] := by rw [hP0, frG_y rfl]
              have eG : G0 = st.groups ++ [[]] := by rw [hG0, frG_y rfl]
              refine VC.seq ?_
              refine VC.draw (fun j b => (j = 16 ∧ b = g) ∨ (j = 19 ∧ b = g)) hB (by kernel_rfl) ?_
              refine VA.take (i := 0) rfl (by kernel_rfl) (by kernel_rfl) (by kernel_rfl) rfl rfl (OpV.move (.inl rfl) rfl) ?_
              refine VA.take (i := 1) rfl (by kernel_rfl) (by kernel_rfl) (by kernel_rfl) rfl rfl (OpV.move (.inl rfl) rfl) ?_
              refine VA.take (i := 2) rfl (by kernel_rfl) (by kernel_rfl) (by kernel_rfl) rfl rfl (OpV.move (.inl rfl) rfl) ?_
              refine VA.take (i := 3) rfl (by kernel_rfl) (by kernel_rfl) (by kernel_rfl) rfl rfl (OpV.nilCheck rfl rfl) ?_
              refine VA.take (i := 4) rfl (by kernel_rfl) (by kernel_rfl) (by kernel_rfl) rfl rfl (OpV.fieldAddrO 3 rfl Tryz.underlying134 rfl rfl Tryz.sizeOf55 rfl) ?_
              refine VA.take (i := 5) rfl (by kernel_rfl) (by kernel_rfl) (by kernel_rfl) rfl rfl (OpV.load_own (i := 0) rfl hB Tryz.isAgg55 rfl rfl rfl (by first | exact Wi.not1 (by kernel_rfl) | exact Wi.not2 (by kernel_rfl) (by kernel_rfl) | exact Wi.notX (by kernel_rfl))) ?_
              refine VA.take (i := 6) rfl (by kernel_rfl) (by kernel_rfl) (by kernel_rfl) rfl rfl (OpV.move (.inl rfl) rfl) ?_
              refine VA.take (i := 7) rfl (by kernel_rfl) (by kernel_rfl) (by kernel_rfl) rfl rfl (OpV.slice_own (h := st.parts.length) rfl Tryz.underlying55 Tryz.sizeOf40 rfl rfl ⟨_, _, rfl, rfl⟩ (by omega) (by omega) (by omega)) ?_
              refine VA.take (i := 8) rfl (by kernel_rfl) (by kernel_rfl) (by kernel_rfl) rfl rfl (OpV.move (.inl rfl) rfl) ?_
              refine VA.take (i := 9) rfl (by kernel_rfl) (by kernel_rfl) (by kernel_rfl) rfl rfl (OpV.nilCheck rfl rfl) ?_
              refine VA.take (i := 10) rfl (by kernel_rfl) (by kernel_rfl) (by kernel_rfl) rfl rfl (OpV.fieldAddrO 4 rfl Tryz.underlying134 rfl rfl Tryz.sizeOf57 rfl) ?_
              refine VA.take (i := 11) rfl (by kernel_rfl) (by kernel_rfl) (by kernel_rfl) rfl rfl (OpV.load_own (i := 0) rfl hB Tryz.isAgg57 rfl rfl rfl (by first | exact Wi.not1 (by kernel_rfl) | exact Wi.not2 (by kernel_rfl) (by kernel_rfl) | exact Wi.notX (by kernel_rfl))) ?_
              refine VA.take (i := 12) rfl (by kernel_rfl) (by kernel_rfl) (by kernel_rfl) rfl rfl (OpV.move (.inl rfl) rfl) ?_
              refine VA.take (i := 13) rfl (by kernel_rfl) (by kernel_rfl) (by kernel_rfl) rfl rfl (OpV.slice_own (h := st.groups.length) rfl Tryz.underlying57 Tryz.sizeOf22 rfl rfl ⟨_, _, rfl, by omega⟩ (by omega) (by omega) (by omega)) ?_
              refine VA.take (i := 14) rfl (by kernel_rfl) (by kernel_rfl) (by kernel_rfl) rfl rfl (OpV.nilCheck rfl rfl) ?_
              refine VA.take (i := 15) rfl (by kernel_rfl) (by kernel_rfl) (by kernel_rfl) rfl rfl (OpV.fieldAddrO 3 rfl Tryz.underlying134 rfl rfl Tryz.sizeOf55 rfl) ?_
              refine VA.all (rs := [16]) (by kernel_rfl) (by decide) ?_
              refine ⟨⟨_, rfl, .inl rfl, ?_⟩, trivial⟩
              refine OpE.store (i := 0) rfl hB rfl Tryz.sizeOf55 rfl rfl rfl rfl rfl rfl (Nle rfl) (by first | exact ⟨rfl, rfl⟩ | exact .inl ⟨rfl, rfl⟩ | exact .inr ⟨rfl, rfl⟩ | exact ⟨rfl, trivial⟩ | exact .inl ⟨rfl, trivial⟩ | exact .inr ⟨rfl, trivial⟩ | exact ⟨by decide, rfl⟩) ?_
              refine VA.take (i := 17) rfl (by kernel_rfl) (by kernel_rfl) (by kernel_rfl) rfl rfl (OpV.nilCheck rfl rfl) ?_
              refine VA.take (i := 18) rfl (by kernel_rfl) (by kernel_rfl) (by kernel_rfl) rfl rfl (OpV.fieldAddrO 4 rfl Tryz.underlying134 rfl rfl Tryz.sizeOf57 rfl) ?_
              refine VA.all (rs := [19]) (by kernel_rfl) (by decide) ?_
              refine ⟨⟨_, rfl, .inl rfl, ?_⟩, trivial⟩
              refine OpE.store (i := 0) rfl hB rfl Tryz.sizeOf57 rfl rfl rfl rfl rfl rfl (Nle rfl) (by first | exact ⟨rfl, rfl⟩ | exact .inl ⟨rfl, rfl⟩ | exact .inr ⟨rfl, rfl⟩ | exact ⟨rfl, trivial⟩ | exact .inl ⟨rfl, trivial⟩ | exact .inr ⟨rfl, trivial⟩ | exact ⟨by decide, rfl⟩) ?_
              refine VA.done (by kernel_rfl) ?_
              refine VC.exit ?_
              refine VC.seq ?_
              (refine VC.le _ ((Le.cutBoxE (i := 1) (cs' := listM st.parts) st.parts.length rfl (by rw [eP]; simp [listM])).trans ((Le.boxRow (i := 1) (n := st.parts.length) (sz := 1) (cap := cP) rfl (by rw [listM_len, Nat.mul_one]) (by omega) hm1).trans ((Le.cutBoxE (i := 2) (cs' := listM st.groups) st.groups.length rfl (by rw [eG]; simp [listM])).trans (Le.boxRow (i := 2) (n := st.groups.length) (sz := 1) (cap := cG) rfl (by rw [listM_len, Nat.mul_one]) (by omega) hm2)))) ?_; refine VC.le _ (Le.perm (hp := ownG p slots most g (.slice (some ⟨gP, 0, none⟩) st.parts.length cP) (.slice (some ⟨gG, 0, none⟩) st.groups.length cG) st) (List.Perm.refl _)) ?_)
              have hte : tryG p slots most (d' + 1) i st = none := by first | exact try_end (by omega) hkn2 | exact try_end (by omega) hkn
              refine VC.region ?_
              refine VO.ma rfl rfl rfl rfl ?_
              refine VO.nil ?_
              refine VC.ret ?_
              exact Exists.intro _ (And.intro (RetV.one Tryz.results98 (ResV.tmp rfl)) (⟨_, _, congrArg (fun z => avB (Option.isSome z)) hte.symm, congrArg (fun z => ownG p slots most g _ _ (Option.getD z st)) hte.symm⟩))
            · have h5 := h5b
              try simp only [qqT, qqF, qqN, qqM, qqL, qqE] at h5
              have eP : P0 = st.parts := by rw [hP0, frG_n h5]
              have eG : G0 = st.groups := by rw [hG0, frG_n h5]
              refine VC.skip ?_
              subst eP
              subst eG
              refine VC.le _ ((Le.boxRow (i := 1) (n := st.parts.length) (sz := 1) (cap := cP) rfl (by rw [listM_len, Nat.mul_one]) hc1 hm1).trans (Le.boxRow (i := 2) (n := st.groups.length) (sz := 1) (cap := cG) rfl (by rw [listM_len, Nat.mul_one]) hc2 hm2)) ?_
              refine VC.region ?_
              refine VO.mv rfl rfl rfl rfl ?_
              refine VO.val rfl rfl (OpV.add rfl rfl rfl (by unfold fits; omega)) ?_
              refine VO.ma rfl rfl rfl rfl ?_
              refine VO.nil ?_
              exact Exists.intro (⟨((.slice (some ⟨gP, 0, none⟩) st.parts.length cP, .slice (some ⟨gG, 0, none⟩) st.groups.length cG), k + 1), by show k + 1 ≤ _; omega, lt_succ_cases hkn hq⟩) (And.intro (Le.mkP hB ⟨rfl, rfl, rfl, trivial⟩ (List.Sublist.refl _) (List.Perm.refl _) (Nat.le_refl _)) (by first | omega | (show _ < _; omega) | (simp only []; omega)))
      · have h1 := h1b
        try simp only [qqT, qqF, qqN, qqM, qqL, qqE] at h1
        refine VC.exit ?_
        refine VC.seq ?_
        skip
        have hte : tryG p slots most (d' + 1) i st = none := by first | exact try_end (by omega) hkn2 | exact try_end (by omega) hkn
        refine VC.region ?_
        refine VO.ma rfl rfl rfl rfl ?_
        refine VO.nil ?_
        refine VC.ret ?_
        exact Exists.intro _ (And.intro (RetV.one Tryz.results98 (ResV.tmp rfl)) (⟨_, _, congrArg (fun z => avB (Option.isSome z)) hte.symm, congrArg (fun z => ownG p slots most g _ _ (Option.getD z st)) hte.symm⟩))
    · replace aK1b : _ = false := aK1b
      have aK1 := aK1b
      try simp only [qqT, qqF, qqN, qqM, qqL, qqE] at aK1
      refine VO.opX rfl rfl rfl rfl aK1b ?_
      refine VO.opX rfl rfl rfl rfl aK1b ?_
      refine VO.opX rfl rfl rfl rfl aK1b ?_
      refine VO.opX rfl rfl rfl rfl aK1b ?_
      refine VO.opX rfl rfl rfl rfl aK1b ?_
      refine VO.val rfl rfl (OpV.pickF rfl rfl rfl rfl aK1b) ?_
      refine VO.nil ?_
      refine VC.condF rfl rfl ?_
      refine VC.exit ?_
      refine VC.seq ?_
      skip
      have hte : tryG p slots most (d' + 1) i st = none := by first | exact try_end (by omega) hkn2 | exact try_end (by omega) hkn
      refine VC.region ?_
      refine VO.ma rfl rfl rfl rfl ?_
      refine VO.nil ?_
      refine VC.ret ?_
      exact Exists.intro _ (And.intro (RetV.one Tryz.results98 (ResV.tmp rfl)) (⟨_, _, congrArg (fun z => avB (Option.isSome z)) hte.symm, congrArg (fun z => ownG p slots most g _ _ (Option.getD z st)) hte.symm⟩))
end Go.Proofs.YtemnnmohdpabhaaGreatDoor
namespace Go.Proofs.YtemnnmohdpabhaaGreatDoor
open Go.RowKit
set_option linter.unusedVariables false
set_option linter.unusedSimpArgs false
theorem grp_try {p : List (List ByteArray)} {slots most g : Nat} (hp : ∀ j, SmS (p.getD j default)) (hpl : p.length ≤ 10) (hpk : ∀ j, (p.getD j default).length ≤ 1000) (hsl : slots ≤ 1000) : ∀ (d i : Nat) (uP uG : Value) (st : GrpS), i + d = p.length → GOk i st →
  SpecH Tryz.prog 98 [pt g, avI (i : Int)] (ownG p slots most g uP uG st) (fun y hp' => ∃ uP' uG', y = avB (tryG p slots most d i st).isSome ∧ hp' = ownG p slots most g uP' uG' ((tryG p slots most d i st).getD st))
 | 0, i, uP, uG, st, h1, h2 => grp_try_step hp hpl hpk hsl (fun d' e => by omega) h1 h2
 | d + 1, i, uP, uG, st, h1, h2 => grp_try_step hp hpl hpk hsl (fun d' e uP uG st h => by obtain rfl : d = d' := (by omega); exact grp_try hp hpl hpk hsl d (i + 1) uP uG st (by omega) h) h1 h2
theorem GOk.nil : GOk 0 ⟨[], []⟩ := ⟨rfl, Nat.le_refl _, fun j => ⟨SmS.nil, by simp; exact Nat.zero_le _⟩, fun j => by simp; rfl⟩
def grpO (slots : Nat) (p : List (List ByteArray)) : Option GrpS := (List.range (p.length + 1)).findSome? fun m => tryG p slots m p.length 0 ⟨[], []⟩
def grpLst (slots : Nat) (p : List (List ByteArray)) : List (List Int) := ((grpO slots p).getD ⟨[], []⟩).groups
def grpE (slots : Int) (p : List (List ByteArray)) : Int := if partsF slots p ≠ 0 then partsF slots p else if 10 < p.length then 2 else 0
def grpR (slots : Int) (p : List (List ByteArray)) : List (List Int) := if grpE slots p = 0 then grpLst slots.toNat p else []
section
variable {p : List (List ByteArray)} {slots : Nat}
theorem grpO_at {q : Nat} {r : GrpS} (hq : q ≤ p.length) (hn : ∀ m, m < q → tryG p slots m p.length 0 ⟨[], []⟩ = none) (h : tryG p slots q p.length 0 ⟨[], []⟩ = some r) : grpO slots p = some r := by
 unfold grpO
 have e : List.range (p.length + 1) = List.range q ++ (List.range (p.length + 1)).drop q := by
  conv => lhs; rw [← List.take_append_drop q (List.range (p.length + 1))]
  rw [List.take_range, Nat.min_eq_left (by omega)]
 have e2 : (List.range (p.length + 1)).drop q = q :: (List.range (p.length + 1)).drop (q + 1) := by
  rw [List.drop_eq_getElem_cons (by simp; omega)]; simp
 rw [e, List.findSome?_append, List.findSome?_eq_none_iff.2 (fun j hj => hn j (List.mem_range.1 hj)), e2, List.findSome?_cons, h]
 rfl
theorem grp_alone (hp : ∀ i, i < p.length → (p.getD i default).length ≤ slots) (h : tryG p slots p.length p.length 0 ⟨[], []⟩ = none) : False := by
 have h1 := (alone hp p.length (Nat.le_refl _)).1
 have h2 := tryG_some p.length 0 (fun j => j) (show OkG p slots _ _ (0 + p.length) by rw [Nat.zero_add]; exact h1)
 have h3 : stG p (fun j => j) 0 = ⟨[], []⟩ := rfl
 rw [h3, h] at h2
 cases h2
structure GrpF (slots : Nat) (p : List (List ByteArray)) (G : List (List Int)) : Prop where
 perm : G.flatten.Perm (idO p.length)
 ne : ∀ k, k < G.length → 0 < (G.getD k []).length
 uni : ∀ k, k < G.length → (uK (unS p (G.getD k []))).length ≤ slots
 hd : ∀ k, k + 1 < G.length → (G.getD k []).getD 0 0 ≤ (G.getD (k + 1) []).getD 0 0
 pr : ∀ a b, a < b → b < G.length → slots < (uK (unS p (G.getD a [] ++ G.getD b []))).length
theorem unS_mem {xs : List Int} {x : ByteArray} : x ∈ unS p xs ↔ ∃ i ∈ xs, x ∈ unX p i := by
 unfold unS; rw [List.mem_flatMap]
theorem unX_nat {j : Nat} (hj : j < p.length) : unX p (j : Int) = p.getD j default := by
 unfold unX; rw [if_pos ⟨by omega, by omega⟩, Int.toNat_natCast]
theorem mem0 {l : List Int} (h : 0 < l.length) : l.getD 0 0 ∈ l := by
 rw [List.getD_eq_getElem?_getD, List.getElem?_eq_getElem h]; exact List.getElem_mem _
theorem grp_facts (hnd : ∀ i, i < p.length → (p.getD i default).Nodup) {most : Nat} {r : GrpS} (hn : ∀ m, m < most → tryG p slots m p.length 0 ⟨[], []⟩ = none) (h : tryG p slots most p.length 0 ⟨[], []⟩ = some r) : GrpF slots p r.groups := by
 have h0 : OkG p slots most (fun _ => 0) 0 := fun j hj => absurd hj (Nat.not_lt_zero j)
 have h5 : stG p (fun _ => 0) 0 = ⟨[], []⟩ := rfl
 obtain ⟨f, hok, _, h3⟩ := tryG_found p.length 0 (fun _ => 0) r h0 (by rw [h5]; exact h)
 rw [Nat.zero_add] at hok h3
 obtain ⟨W, _⟩ := wayG hnd p.length (Nat.le_refl _) hok
 have hl := stG_lens (p := p) f p.length
 subst h3
 have hmem : ∀ k, k < (stG p f p.length).parts.length → ∀ x : Int, x ∈ (stG p f p.length).groups.getD k [] ↔ ∃ j : Nat, j < p.length ∧ f j = k ∧ x = (j : Int) := fun k hk x => by
  rw [W.grp k hk, List.mem_map]
  constructor
  ·rintro ⟨j, hj, rfl⟩
   obtain ⟨h1, h2⟩ := List.mem_filter.1 hj
   exact ⟨j, List.mem_range.1 h1, by simpa using h2, rfl⟩
  ·rintro ⟨j, h1, h2, rfl⟩
   exact ⟨j, List.mem_filter.2 ⟨List.mem_range.2 h1, by simpa using h2⟩, rfl⟩
 have huni : ∀ k, k < (stG p f p.length).parts.length → ∀ x, x ∈ unS p ((stG p f p.length).groups.getD k []) ↔ x ∈ (stG p f p.length).parts.getD k [] := fun k hk x => by
  rw [unS_mem, W.mem k hk]
  constructor
  ·rintro ⟨i, hi, hx⟩
   obtain ⟨j, h1, h2, rfl⟩ := (hmem k hk i).1 hi
   rw [unX_nat h1] at hx
   exact ⟨j, h1, h2, hx⟩
  ·rintro ⟨j, h1, h2, hx⟩
   exact ⟨(j : Int), (hmem k hk _).2 ⟨j, h1, h2, rfl⟩, by rw [unX_nat h1]; exact hx⟩
 have hndg : ∀ k, k < (stG p f p.length).parts.length → ((stG p f p.length).groups.getD k []).Nodup := fun k hk => by
  rw [W.grp k hk, List.Nodup, List.pairwise_map]
  exact ((List.nodup_range (n := p.length)).sublist List.filter_sublist).imp fun h e => h (by omega)
 have hgd : ∀ k (hk : k < (stG p f p.length).groups.length), (stG p f p.length).groups[k] = (stG p f p.length).groups.getD k [] := fun k hk => by simp [hk]
 refine ⟨?_, fun k hk => ?_, fun k hk => ?_, fun k hk => ?_, fun a b hab hb => ?_⟩
 ·refine (List.perm_ext_iff_of_nodup ?_ (idO_ord p.length).nd).2 fun x => ?_
  ·rw [List.Nodup, List.pairwise_flatten]
   refine ⟨fun l hl' => ?_, ?_⟩
   ·obtain ⟨k, hk, rfl⟩ := List.getElem_of_mem hl'
    rw [hgd k hk]; exact hndg k (by omega)
   ·rw [List.pairwise_iff_getElem]
    intro i j hi hj hij
    rw [hgd i hi, hgd j hj]
    intro x hx y hy e
    obtain ⟨a, _, h1, h2⟩ := (hmem i (by omega) x).1 hx
    obtain ⟨b, _, h3, h4⟩ := (hmem j (by omega) y).1 hy
    have hab : a = b := by omega
    subst hab
    omega
  ·rw [List.mem_flatten]
   constructor
   ·rintro ⟨l, hl', hx⟩
    obtain ⟨k, hk, rfl⟩ := List.getElem_of_mem hl'
    rw [hgd k hk] at hx
    obtain ⟨j, h1, _, rfl⟩ := (hmem k (by omega) x).1 hx
    exact List.mem_map.2 ⟨j, List.mem_range.2 h1, rfl⟩
   ·intro hx
    obtain ⟨j, hj, rfl⟩ := List.mem_map.1 hx
    have hj := List.mem_range.1 hj
    have hlab := W.lab j hj
    exact ⟨_, List.getElem_mem (by omega : f j < (stG p f p.length).groups.length), by rw [hgd _ (by omega)]; exact (hmem _ hlab _).2 ⟨j, hj, rfl, rfl⟩⟩
 ·obtain ⟨j, h1, h2⟩ := W.used k (by omega)
  exact List.length_pos_of_mem ((hmem k (by omega) _).2 ⟨j, h1, h2, rfl⟩)
 ·have e : uK (unS p ((stG p f p.length).groups.getD k [])) = uK ((stG p f p.length).parts.getD k []) := uK_uniq (uK_srt _) fun x => by rw [uK_mem, huni k (by omega)]
  rw [e]
  exact Nat.le_trans (uK_len _) (W.size k (by omega))
 ·obtain ⟨j, h1, h2, h3⟩ := W.head k (by omega)
  obtain ⟨j2, g1, g2⟩ := W.used (k + 1) (by omega)
  have hpos : 0 < ((stG p f p.length).groups.getD (k + 1) []).length := List.length_pos_of_mem ((hmem (k + 1) (by omega) _).2 ⟨j2, g1, g2, rfl⟩)
  have hm2 : ((stG p f p.length).groups.getD (k + 1) []).getD 0 0 ∈ (stG p f p.length).groups.getD (k + 1) [] := mem0 hpos
  obtain ⟨m, m1, m2, m3⟩ := (hmem (k + 1) (by omega) _).1 hm2
  have hlt := h3 m m1 m2
  rw [m3]
  have hjm : (j : Int) ∈ (stG p f p.length).groups.getD k [] := (hmem k (by omega) _).2 ⟨j, h1, h2, rfl⟩
  have hsrt : ((stG p f p.length).groups.getD k []).Pairwise (· ≤ ·) := by
   rw [W.grp k (by omega), List.pairwise_map]
   exact (List.Pairwise.sublist List.filter_sublist (List.pairwise_lt_range (n := p.length))).imp fun h => by omega
  have hle : ((stG p f p.length).groups.getD k []).getD 0 0 ≤ (j : Int) := by
   generalize (stG p f p.length).groups.getD k [] = l at hsrt hjm
   cases l with
   | nil => cases hjm
   | cons y l =>
    rcases List.mem_cons.1 hjm with e | hjm
    ·rw [e]; exact Int.le_refl _
    ·exact (List.pairwise_cons.1 hsrt).1 _ hjm
  omega
 ·have hm := no_merge hnd hok hn hab (by omega)
  refine Nat.lt_of_lt_of_le hm ?_
  refine nodup_sub ?_ fun x hx => ?_
  ·rw [List.nodup_append]
   exact ⟨W.nd a (by omega), missF_nodup (W.nd b (by omega)), fun c hc d hd e => (missF_mem.1 hd).2 (e ▸ hc)⟩
  ·rw [uK_mem, unS_mem]
   rw [List.mem_append, missF_mem] at hx
   have hin : ∀ k, k < (stG p f p.length).parts.length → x ∈ (stG p f p.length).parts.getD k [] → ∃ i ∈ (stG p f p.length).groups.getD k [], x ∈ unX p i := fun k hk hx => unS_mem.1 ((huni k hk x).2 hx)
   rcases hx with hx | hx
   ·obtain ⟨i, h1, h2⟩ := hin a (by omega) hx
    exact ⟨i, List.mem_append_left _ h1, h2⟩
   ·obtain ⟨i, h1, h2⟩ := hin b (by omega) hx.1
    exact ⟨i, List.mem_append_right _ h1, h2⟩
end
theorem grpE_1 {slots : Int} {p : List (List ByteArray)} (h : partsF slots p ≠ 0) : grpE slots p = partsF slots p ∧ grpR slots p = [] := by
 have e : grpE slots p = partsF slots p := if_pos h
 exact ⟨e, by rw [grpR, e, if_neg h]⟩
theorem grpE_2 {slots : Int} {p : List (List ByteArray)} (h : partsF slots p = 0) (h2 : 10 < p.length) : grpE slots p = 2 ∧ grpR slots p = [] := by
 have e : grpE slots p = 2 := by rw [grpE, if_neg (by omega), if_pos h2]
 exact ⟨e, by rw [grpR, e, if_neg (by omega)]⟩
theorem grpE_3 {slots : Int} {sN : Nat} {p : List (List ByteArray)} (h : partsF slots p = 0) (h2 : p.length ≤ 10) (hs : slots = sN) : grpE slots p = 0 ∧ grpR slots p = grpLst sN p := by
 have e : grpE slots p = 0 := by rw [grpE, if_neg (by omega), if_neg (by omega)]
 exact ⟨e, by rw [grpR, e, if_pos rfl, hs, Int.toNat_natCast]⟩
set_option maxRecDepth 100000 in
set_option maxHeartbeats 4000000 in
theorem setup_Groups {slots : Int} {p : List (List ByteArray)} (hs : SmSS p) :
  Spec Tryz.prog 28 [avI slots, avM p] (fun y => y = .tup [avM (grpR slots p), avI (grpE slots p)]) := by
 refine Spec.of_VC Tryz.func28 rfl Tryz.ntmps28 (Nle rfl) fun w A hB => ?_
 have hnew : True := trivial
 refine VC.sr ?_
 refine VO.ma rfl rfl rfl rfl ?_
 refine VO.ma rfl rfl rfl rfl ?_
 refine VO.nil ?_
 refine VC.seq ?_
 refine VC.sr ?_
 refine VO.mv rfl rfl rfl rfl ?_
 refine VO.mv rfl rfl rfl rfl ?_
 refine VO.op rfl (OpE.call rfl hB rfl Tryz.call97 rfl (SpecN.spec (setup_CheckParts hs)) ?_)
 rintro _ rfl
 refine VO.ma rfl rfl rfl rfl ?_
 refine VO.nil ?_
 refine VC.sr ?_
 refine VO.mv rfl rfl rfl rfl ?_
 refine VO.val rfl rfl (OpV.neq rfl rfl rfl) ?_
 refine VO.nil ?_
 refine VC.cond rfl (fun h0b => ?_) (fun h0b => ?_)
 ·have h0 := h0b
  try simp only [qqT, qqF, qqN, qqM, qqL, qqE] at h0
  refine VC.sr ?_
  refine VO.mv rfl rfl rfl rfl ?_
  refine VO.ma rfl rfl rfl rfl ?_
  refine VO.ma rfl rfl rfl rfl ?_
  refine VO.nil ?_
  refine VC.le _ (Le.recast (t := 4) (y := avM ([] : List (List Int))) rfl (fun w Z u h => by rw [h.eq_v]; exact .nil _ _)) ?_
  refine VC.ret ?_
  exact Exists.intro _ (And.intro (RetV.two Tryz.results28 (ResV.tmp rfl) (ResV.tmp rfl)) (by rw [(grpE_1 h0).1, (grpE_1 h0).2]))
 ·have h0 := h0b
  try simp only [qqT, qqF, qqN, qqM, qqL, qqE] at h0
  have hf : partsF slots p = 0 := by omega
  obtain ⟨k1, k2, k3⟩ := partsF_zero hf
  obtain ⟨sN, hsN⟩ : ∃ sN : Nat, slots = sN := ⟨slots.toNat, by unfold outR at k1; simp at k1; omega⟩
  have hs100 : sN ≤ 100 := by unfold outR at k1; simp at k1; omega
  have hpr : ∀ i, i < p.length → RightP sN (p.getD i default) := fun i hi => RightP.of hsN hf hi
  have hpk : ∀ j, (p.getD j default).length ≤ 1000 := fun j => by
   by_cases hj : j < p.length
   ·have := (hpr j hj).len; omega
   ·rw [List.getD_eq_getElem?_getD, List.getElem?_eq_none (by omega)]; exact Nat.zero_le _
  refine VC.skip ?_
  refine VC.seq ?_
  refine VC.sr ?_
  refine VO.mv rfl rfl rfl rfl ?_
  refine VO.val rfl rfl (OpV.len_im rfl Tryz.underlying55 rfl) ?_
  refine VO.val rfl rfl (OpV.gtr rfl rfl rfl) ?_
  refine VO.nil ?_
  refine VC.cond rfl (fun h1b => ?_) (fun h1b => ?_)
  ·have h1 := h1b
   try simp only [qqT, qqF, qqN, qqM, qqL, qqE] at h1
   refine VC.sr ?_
   refine VO.ma rfl rfl rfl rfl ?_
   refine VO.ma rfl rfl rfl rfl ?_
   refine VO.nil ?_
   refine VC.le _ (Le.recast (t := 4) (y := avM ([] : List (List Int))) rfl (fun w Z u h => by rw [h.eq_v]; exact .nil _ _)) ?_
   refine VC.ret ?_
   exact Exists.intro _ (And.intro (RetV.two Tryz.results28 (ResV.tmp rfl) (ResV.tmp rfl)) (by rw [(grpE_2 hf (by omega)).1, (grpE_2 hf (by omega)).2]))
  ·have h1 := h1b
   try simp only [qqT, qqF, qqN, qqM, qqL, qqE] at h1
   have hl10 : p.length ≤ 10 := by omega
   refine VC.skip ?_
   refine VC.sr ?_
   refine VO.ma rfl rfl rfl rfl ?_
   refine VO.nil ?_
   refine VC.block ?_
   refine VC.loopK [(0, _), (1, _)] ⟨rfl, rfl, trivial⟩ ({q : Nat // q ≤ p.length ∧ ∀ m, m < q → tryG p sN m p.length 0 ⟨[], []⟩ = none}) (fun (iZ : {q : Nat // q ≤ p.length ∧ ∀ m, m < q → tryG p sN m p.length 0 ⟨[], []⟩ = none}) => match iZ with | ⟨q, hq, hqn⟩ => [(7, avI (q : Int))]) (fun (iZ : {q : Nat // q ≤ p.length ∧ ∀ m, m < q → tryG p sN m p.length 0 ⟨[], []⟩ = none}) => match iZ with | ⟨q, hq, hqn⟩ => []) (fun (iZ : {q : Nat // q ≤ p.length ∧ ∀ m, m < q → tryG p sN m p.length 0 ⟨[], []⟩ = none}) => match iZ with | ⟨q, hq, hqn⟩ => 0) (fun (iZ : {q : Nat // q ≤ p.length ∧ ∀ m, m < q → tryG p sN m p.length 0 ⟨[], []⟩ = none}) => match iZ with | ⟨q, hq, hqn⟩ => p.length - q) ⟨0, Nat.zero_le _, fun m hm => absurd hm (Nat.not_lt_zero m)⟩ (Le.mk hB [] ⟨rfl, rfl, rfl, trivial⟩ rfl rfl (Nat.le_refl _)) ?_
   rintro ⟨q, hq, hqn⟩
   show VC _ _ _ _ ⟨[(7, avI (q : Int))] ++ [(0, _), (1, _)], [], 0⟩
   refine VC.seq ?_
   refine VC.block ?_
   refine VC.sr ?_
   refine VO.mv rfl rfl rfl rfl ?_
   refine VO.mv rfl rfl rfl rfl ?_
   refine VO.mv rfl rfl rfl rfl ?_
   refine VO.val rfl rfl (OpV.build (pls := #[(0, 1), (1, 1), (2, 1), (3, 1), (4, 1)]) rfl Tryz.zeroValue134 Tryz.underlying134 (fun w => by kernel_rfl) rfl rfl) ?_
   refine VO.op rfl (OpE.box rfl hB rfl rfl rfl ?_)
   intro g24
   refine VO.le _ (Le.nilRow 1 40) ?_
   refine VO.le _ (Le.nilRow 1 22) ?_
   refine VO.le _ (Le.perm (hp := ownG p sN q g24 (.slice none 0 0) (.slice none 0 0) ⟨[], []⟩) (by subst hsN; exact List.Perm.refl _)) ?_
   refine VO.ma rfl rfl rfl rfl ?_
   refine VO.nil ?_
   refine VC.sr ?_
   refine VO.mv rfl rfl rfl rfl ?_
   refine VO.op rfl (OpE.callH0 rfl hB rfl Tryz.call98 rfl rfl (grp_try hs.2 hl10 hpk (by omega) p.length 0 (.slice none 0 0) (.slice none 0 0) ⟨[], []⟩ (Nat.zero_add _) GOk.nil) (List.Perm.refl _) (fun _ _ => trivial) ?_)
   rintro _ _ ⟨u3, v3, rfl, rfl⟩
   refine VO.nil ?_
   refine VC.cond rfl (fun h2b => ?_) (fun h2b => ?_)
   ·have h2 := h2b
    try simp only [qqT, qqF, qqN, qqM, qqL, qqE] at h2
    have hgl : ((tryG p sN q p.length 0 ⟨[], []⟩).getD ⟨[], []⟩).groups = grpLst sN p := by
     obtain ⟨r, hr⟩ := Option.isSome_iff_exists.1 h2
     unfold grpLst
     rw [grpO_at hq hqn hr, hr]
    refine VC.sr ?_
    refine VO.mv rfl rfl rfl rfl ?_
    refine VO.val rfl rfl (OpV.nilCheck rfl rfl) ?_
    refine VO.val rfl rfl (OpV.fieldAddrO 4 rfl Tryz.underlying134 rfl rfl Tryz.sizeOf57 rfl) ?_
    refine VO.val rfl rfl (OpV.load_own (i := 0) rfl hB Tryz.isAgg57 rfl rfl rfl (fun h => h)) ?_
    refine VO.ma rfl rfl rfl rfl ?_
    refine VO.ma rfl rfl rfl rfl ?_
    refine VO.nil ?_
    refine VC.le _ (Le.rowsM (t := 4) (i := 2) (xs := ((tryG p sN q p.length 0 ⟨[], []⟩).getD ⟨[], []⟩).groups) hB hnew rfl rfl rfl) ?_
    refine VC.le _ (Le.recast (t := 4) (y := avM (grpLst sN p)) rfl (fun w Z u h => by rw [← hgl]; exact h)) ?_
    refine VC.ret ?_
    exact Exists.intro _ (And.intro (RetV.two Tryz.results28 (ResV.tmp rfl) (ResV.tmp rfl)) (by rw [(grpE_3 hf hl10 hsN).1, (grpE_3 hf hl10 hsN).2]))
   ·have h2 := h2b
    try simp only [qqT, qqF, qqN, qqM, qqL, qqE] at h2
    have hno : tryG p sN q p.length 0 ⟨[], []⟩ = none := by simpa using h2
    have hq1 : q + 1 ≤ p.length := by
     rcases Nat.lt_or_ge q p.length with h | h
     ·exact h
     ·obtain rfl : q = p.length := by omega
      exact (grp_alone (fun i hi => (hpr i hi).len) hno).elim
    refine VC.skip ?_
    refine VC.region ?_
    refine VO.mv rfl rfl rfl rfl ?_
    refine VO.val rfl rfl (OpV.add rfl rfl rfl (by unfold fits; omega)) ?_
    refine VO.ma rfl rfl rfl rfl ?_
    refine VO.nil ?_
    exact Exists.intro (⟨q + 1, hq1, lt_succ_cases hqn hno⟩) (And.intro (Le.mk hB [] ⟨rfl, rfl, rfl, trivial⟩ rfl rfl (Nat.le_refl _)) (by first | omega | (show _ < _; omega) | (simp only []; omega)))
end Go.Proofs.YtemnnmohdpabhaaGreatDoor
namespace Go.Proofs.YtemnnmohdpabhaaGreatDoor
open Go.RowKit
set_option linter.unusedVariables false
set_option linter.unusedSimpArgs false

def ShP (m : Nat) (l : List ByteArray) : Prop := l.length ≤ m ∧ ∀ x ∈ l, x.size ≤ 1000
theorem ShP.sms {m : Nat} {l : List ByteArray} (h : ShP m l) (hm : m ≤ 1000) : SmS l := ⟨by have := h.1; omega, fun i => by
 by_cases hi : i < l.length
 ·have := h.2 _ (List.getElem_mem hi)
  simp only [List.getD_eq_getElem?_getD, List.getElem?_eq_getElem hi, Option.getD_some]; omega
 ·simp [List.getD_eq_getElem?_getD, List.getElem?_eq_none (by omega : l.length ≤ i)]⟩
theorem ShP.snoc {m : Nat} {l : List ByteArray} (h : ShP m l) {x : ByteArray} (hx : x.size ≤ 1000) : ShP (m + 1) (l ++ [x]) := ⟨by have := h.1; simp; omega, fun y hy => by
 rcases List.mem_append.1 hy with hy | hy
 ·exact h.2 y hy
 ·simp at hy; subst hy; exact hx⟩
theorem ShP.mono {m n : Nat} {l : List ByteArray} (h : ShP m l) (hn : m ≤ n) : ShP n l := ⟨Nat.le_trans h.1 hn, h.2⟩
def ShSS (p : List (List ByteArray)) : Prop := p.length ≤ 20 ∧ ∀ l ∈ p, ShP 20 l
theorem ShSS.smss {p : List (List ByteArray)} (h : ShSS p) : SmSS p := ⟨by have := h.1; omega, fun i => by
 by_cases hi : i < p.length
 ·have := (h.2 _ (List.getElem_mem hi)).sms (by omega)
  simpa only [List.getD_eq_getElem?_getD, List.getElem?_eq_getElem hi, Option.getD_some] using this
 ·simp only [List.getD_eq_getElem?_getD, List.getElem?_eq_none (by omega : p.length ≤ i), Option.getD_none]
  exact ⟨by decide, fun i => by show (([] : List ByteArray).getD i ByteArray.empty).size ≤ _; simp⟩⟩
theorem size_sixF (q : Nat) : (([⟨#[97]⟩, ⟨#[98]⟩, ⟨#[99]⟩, ⟨#[100]⟩, ⟨#[101]⟩, ⟨#[102]⟩] : List ByteArray).getD q ByteArray.empty).size ≤ 1000 := by
 match q with
 | 0 => decide
 | 1 => decide
 | 2 => decide
 | 3 => decide
 | 4 => decide
 | 5 => decide
 | q + 6 => simp
theorem getD_shs {m : Nat} {p : List (List ByteArray)} (h : ∀ l ∈ p, ShP m l) (i : Nat) : ShP m (p.getD i default) := by
 by_cases hi : i < p.length
 ·have := h _ (List.getElem_mem hi)
  simpa only [List.getD_eq_getElem?_getD, List.getElem?_eq_getElem hi, Option.getD_some] using this
 ·simp only [List.getD_eq_getElem?_getD, List.getElem?_eq_none (by omega : p.length ≤ i), Option.getD_none]
  exact ⟨Nat.zero_le _, fun x h => by cases h⟩
def sixF : List ByteArray := [⟨#[97]⟩, ⟨#[98]⟩, ⟨#[99]⟩, ⟨#[100]⟩, ⟨#[101]⟩, ⟨#[102]⟩]
theorem sixF_size (q : Nat) : (sixF.getD q ByteArray.empty).size ≤ 1000 := size_sixF q
set_option maxRecDepth 100000 in
theorem partLists_M {p : Nat} {L : List Int} {n m : Int} (hn : 0 ≤ n ∧ n ≤ 1000) (hm : 0 ≤ m ∧ m ≤ 10) :
  SpecT Tryz.prog (TT p L) (fun b => b = p) 27 [sp p, avI n, avI m] 100 (fun y => ∃ l : List (List ByteArray), (ShSS l ∧ (l.length : Int) ≤ m) ∧ y = avM l) := by
 have h6 : sixF.length = 6 := rfl
 refine SpecT.of_VC Tryz.func27 rfl Tryz.ntmps27 (Nle rfl) (low := (fun b => b ≤ p)) (fun w A k h => h.ok) fun w A k hk hB => ?_
 have hnew : True := trivial
 refine VC.sr ?_
 refine VO.ma rfl rfl rfl rfl ?_
 refine VO.nil ?_
 refine VC.sr ?_
 refine VO.ma rfl rfl rfl rfl ?_
 refine VO.nil ?_
 refine VC.seq ?_
 refine VC.sr ?_
 refine VO.mv rfl rfl rfl rfl ?_
 refine VO.mv rfl rfl rfl rfl ?_
 refine VO.op rfl (OpE.callT' (k) rfl rfl hB rfl Tryz.call26 rfl ((range_T (by omega) (by omega) (by omega))) (by omega) ?_)
 rintro _ ⟨r14, hr14, rfl⟩
 obtain ⟨N, rfl⟩ : ∃ N : Nat, r14 = N := ⟨r14.toNat, by omega⟩
 refine VO.mv rfl rfl rfl rfl ?_
 refine VO.nil ?_
 refine VC.block ?_
 refine VC.le _ (Le.nilRow 1 40) ?_
 refine VC.loopK [(0, _), (1, _), (14, _)] ⟨rfl, rfl, rfl, trivial⟩ ({t : Value × List (List ByteArray) × Nat // t.2.2 ≤ N ∧ t.2.1.length = t.2.2 ∧ ∀ l ∈ t.2.1, ShP 10 l}) (fun (iZ : {t : Value × List (List ByteArray) × Nat // t.2.2 ≤ N ∧ t.2.1.length = t.2.2 ∧ ∀ l ∈ t.2.1, ShP 10 l}) => match iZ with | ⟨⟨uo, out, q⟩, hq, hol, hos⟩ => [(7, .v uo), (15, avI (q : Int))]) (fun (iZ : {t : Value × List (List ByteArray) × Nat // t.2.2 ≤ N ∧ t.2.1.length = t.2.2 ∧ ∀ l ∈ t.2.1, ShP 10 l}) => match iZ with | ⟨⟨uo, out, q⟩, hq, hol, hos⟩ => [.row uo out.length 1 (listM out) 40]) (fun (iZ : {t : Value × List (List ByteArray) × Nat // t.2.2 ≤ N ∧ t.2.1.length = t.2.2 ∧ ∀ l ∈ t.2.1, ShP 10 l}) => match iZ with | ⟨⟨uo, out, q⟩, hq, hol, hos⟩ => k + 1 + 6 * q) (fun (iZ : {t : Value × List (List ByteArray) × Nat // t.2.2 ≤ N ∧ t.2.1.length = t.2.2 ∧ ∀ l ∈ t.2.1, ShP 10 l}) => match iZ with | ⟨⟨uo, out, q⟩, hq, hol, hos⟩ => N - q) ⟨(.slice none 0 0, [], 0), Nat.zero_le _, rfl, fun x h => by simp at h⟩ (Le.mk hB [0] ⟨rfl, rfl, rfl, rfl, rfl, trivial⟩ rfl rfl (show k + 1 ≤ k + 1 + 6 * 0 by omega)) ?_
 rintro ⟨⟨uo, out, q⟩, hq, hol, hos⟩
 show VC _ _ _ _ ⟨[(7, .v uo), (15, avI (q : Int))] ++ [(0, _), (1, _), (14, _)], [.row uo out.length 1 (listM out) 40], k + 1 + 6 * q⟩
 simp only at hq hol hos
 refine VC.sr ?_
 refine VO.val rfl rfl (OpV.lss rfl rfl rfl) ?_
 refine VO.nil ?_
 refine VC.seq ?_
 refine VC.cond rfl (fun aH1b => ?_) (fun aH1b => ?_)
 ·have aH1 := aH1b
  try simp only [qqT, qqF, qqN, qqM, qqL, qqE] at aH1
  refine VC.skip ?_
  refine VC.seq ?_
  refine VC.block ?_
  refine VC.sr ?_
  refine VO.ma rfl rfl rfl rfl ?_
  refine VO.nil ?_
  refine VC.seq ?_
  refine VC.sr ?_
  refine VO.op rfl (OpE.buildSlice (zc := #[.string ⟨#[]⟩, .string ⟨#[]⟩, .string ⟨#[]⟩, .string ⟨#[]⟩, .string ⟨#[]⟩, .string ⟨#[]⟩]) rfl hB rfl Tryz.underlying40 Tryz.sizeOf9 Tryz.zeroValue9 (by decide) (by decide) (by kernel_rfl) rfl rfl ?_)
  refine VO.le _ (Le.recast (t := 17) (y := avStrs sixF) rfl (fun w Z u h => Rep.strs (xs := sixF) rfl h)) ?_
  refine VO.val rfl rfl (OpV.len_im rfl Tryz.underlying40 rfl) ?_
  refine VO.mv rfl rfl rfl rfl ?_
  refine VO.nil ?_
  refine VC.block ?_
  refine VC.le _ (Le.nilRow 1 9) ?_
  refine VC.loopK [(0, _), (1, _), (7, _), (14, _), (15, _), (17, _), (18, _)] ⟨rfl, rfl, rfl, rfl, rfl, rfl, rfl, trivial⟩ ({t : Value × List ByteArray × Nat // t.2.2 ≤ 6 ∧ ShP t.2.2 t.2.1}) (fun (iZ : {t : Value × List ByteArray × Nat // t.2.2 ≤ 6 ∧ ShP t.2.2 t.2.1}) => match iZ with | ⟨⟨u, l, r⟩, hr, hl⟩ => [(8, .v u), (19, avI (r : Int))]) (fun (iZ : {t : Value × List ByteArray × Nat // t.2.2 ≤ 6 ∧ ShP t.2.2 t.2.1}) => match iZ with | ⟨⟨u, l, r⟩, hr, hl⟩ => [.row uo out.length 1 (listM out) 40, .row u l.length 1 (strsL l) 9]) (fun (iZ : {t : Value × List ByteArray × Nat // t.2.2 ≤ 6 ∧ ShP t.2.2 t.2.1}) => match iZ with | ⟨⟨u, l, r⟩, hr, hl⟩ => k + 1 + 6 * q + r) (fun (iZ : {t : Value × List ByteArray × Nat // t.2.2 ≤ 6 ∧ ShP t.2.2 t.2.1}) => match iZ with | ⟨⟨u, l, r⟩, hr, hl⟩ => 6 - r) ⟨(.slice none 0 0, [], 0), Nat.zero_le _, by decide, fun x h => by simp at h⟩ (Le.mk hB [0, 1] ⟨rfl, rfl, rfl, rfl, rfl, rfl, rfl, rfl, rfl, trivial⟩ rfl rfl (show k + 1 + 6 * q ≤ k + 1 + 6 * q + 0 by omega)) ?_
  rintro ⟨⟨u, l, r⟩, hr, hl⟩
  show VC _ _ _ _ ⟨[(8, .v u), (19, avI (r : Int))] ++ [(0, _), (1, _), (7, _), (14, _), (15, _), (17, _), (18, _)], [.row uo out.length 1 (listM out) 40, .row u l.length 1 (strsL l) 9], k + 1 + 6 * q + r⟩
  simp only at hr hl
  have hll := hl.1
  refine VC.sr ?_
  refine VO.val rfl rfl (OpV.lss rfl rfl rfl) ?_
  refine VO.nil ?_
  refine VC.seq ?_
  refine VC.cond rfl (fun aH2b => ?_) (fun aH2b => ?_)
  ·have aH2 := aH2b
   try simp only [qqT, qqF, qqN, qqM, qqL, qqE] at aH2
   refine VC.skip ?_
   refine VC.seq ?_
   refine VC.block ?_
   refine VC.sr ?_
   refine VO.val rfl rfl (OpV.indexAddr_1 rfl Tryz.underlying40 Tryz.sizeOf9 rfl rfl rfl (by show _ < sixF.length; omega)) ?_
   refine VO.val rfl rfl (OpV.load_at rfl hB OutW.no Tryz.isAgg9 rfl rfl) ?_
   refine VO.ma rfl rfl rfl rfl ?_
   refine VO.nil ?_
   refine VC.sr ?_
   refine VO.mv rfl rfl rfl rfl ?_
   refine VO.op rfl (OpE.callT' (k + 1 + 6 * q + r) rfl rfl hB rfl Tryz.call10 rfl ((flip_T (by omega))) (by omega) ?_)
   rintro _ ⟨r24, rfl⟩
   refine VO.mv rfl rfl rfl rfl ?_
   refine VO.opG rfl rfl rfl rfl (fun aK3b => ?_) (fun aK3b => ?_)
   ·replace aK3b : _ = true := aK3b
    have aK3 := aK3b
    try simp only [qqT, qqF, qqN, qqM, qqL, qqE] at aK3
    refine OpE.val (W := NoB) (OpV.move (.inl rfl) rfl) rfl ?_
    refine VO.opY rfl rfl rfl rfl aK3b ?_
    refine OpE.val (W := NoB) (OpV.len_row (i := 1) rfl Tryz.underlying40 rfl rfl) rfl ?_
    refine VO.opY rfl rfl rfl rfl aK3b ?_
    refine OpE.val (W := NoB) (OpV.move (.inl rfl) rfl) rfl ?_
    refine VO.opY rfl rfl rfl rfl aK3b ?_
    refine OpE.val (W := NoB) (OpV.lss rfl rfl rfl) rfl ?_
    refine VO.val rfl rfl (OpV.pickT rfl rfl rfl rfl aK3b) ?_
    refine VO.nil ?_
    refine VC.cond rfl (fun aH4b => ?_) (fun aH4b => ?_)
    ·have aH4 := aH4b
     try simp only [qqT, qqF, qqN, qqM, qqL, qqE] at aH4
     refine VC.region ?_
     refine VO.mv rfl rfl rfl rfl ?_
     refine VO.mv rfl rfl rfl rfl ?_
     refine VO.op rfl (OpE.buildSlice (zc := #[.string ⟨#[]⟩]) rfl hB rfl Tryz.underlying40 Tryz.sizeOf9 Tryz.zeroValue9 (by decide) (by decide) (by kernel_rfl) rfl rfl ?_)
     refine VO.op rfl (OpE.append1 (i := 1) rfl hB rfl Tryz.underlying40 (infoOf Tryz.t9 1 (by kernel_rfl) rfl rfl) rfl (by decide) (by decide) rfl rfl rfl rfl (strsL_snoc _ _) (by omega) (fun _ _ => trivial) ?_)
     intro u2
     refine VO.ma rfl rfl rfl rfl ?_
     refine VO.nil ?_
     refine VC.region ?_
     refine VO.val rfl rfl (OpV.add rfl rfl rfl (by unfold fits; omega)) ?_
     refine VO.mv rfl rfl rfl rfl ?_
     refine VO.nil ?_
     exact Exists.intro (⟨(u2, l ++ [sixF.getD r ByteArray.empty], r + 1), by show r + 1 ≤ 6; omega, hl.snoc (sixF_size r)⟩) (And.intro (Le.mk hB [0, 1] ⟨rfl, rfl, rfl, rfl, rfl, rfl, rfl, rfl, rfl, trivial⟩ rfl (by dsimp only; first | rfl | (rw [List.length_append]; rfl)) (show k + 1 + 6 * q + r + 1 ≤ k + 1 + 6 * q + (r + 1) by omega)) (by first | omega | (show _ < _; omega) | (simp only []; omega)))
    ·have aH4 := aH4b
     try simp only [qqT, qqF, qqN, qqM, qqL, qqE] at aH4
     refine VC.skip ?_
     refine VC.region ?_
     refine VO.val rfl rfl (OpV.add rfl rfl rfl (by unfold fits; omega)) ?_
     refine VO.mv rfl rfl rfl rfl ?_
     refine VO.nil ?_
     exact Exists.intro (⟨(u, l, r + 1), by show r + 1 ≤ 6; omega, hl.mono (by show r ≤ r + 1; omega)⟩) (And.intro (Le.mk hB [0, 1] ⟨rfl, rfl, rfl, rfl, rfl, rfl, rfl, rfl, rfl, trivial⟩ rfl (by dsimp only; first | rfl | (rw [List.length_append]; rfl)) (show k + 1 + 6 * q + r + 1 ≤ k + 1 + 6 * q + (r + 1) by omega)) (by first | omega | (show _ < _; omega) | (simp only []; omega)))
   ·replace aK3b : _ = false := aK3b
    have aK3 := aK3b
    try simp only [qqT, qqF, qqN, qqM, qqL, qqE] at aK3
    refine VO.opX rfl rfl rfl rfl aK3b ?_
    refine VO.opX rfl rfl rfl rfl aK3b ?_
    refine VO.opX rfl rfl rfl rfl aK3b ?_
    refine VO.val rfl rfl (OpV.pickF rfl rfl rfl rfl aK3b) ?_
    refine VO.nil ?_
    refine VC.condF rfl rfl ?_
    refine VC.skip ?_
    refine VC.region ?_
    refine VO.val rfl rfl (OpV.add rfl rfl rfl (by unfold fits; omega)) ?_
    refine VO.mv rfl rfl rfl rfl ?_
    refine VO.nil ?_
    exact Exists.intro (⟨(u, l, r + 1), by show r + 1 ≤ 6; omega, hl.mono (by show r ≤ r + 1; omega)⟩) (And.intro (Le.mk hB [0, 1] ⟨rfl, rfl, rfl, rfl, rfl, rfl, rfl, rfl, rfl, trivial⟩ rfl (by dsimp only; first | rfl | (rw [List.length_append]; rfl)) (show k + 1 + 6 * q + r + 1 ≤ k + 1 + 6 * q + (r + 1) by omega)) (by first | omega | (show _ < _; omega) | (simp only []; omega)))
  ·have aH2 := aH2b
   try simp only [qqT, qqF, qqN, qqM, qqL, qqE] at aH2
   refine VC.exit ?_
   refine VC.region ?_
   refine VO.mv rfl rfl rfl rfl ?_
   refine VO.le _ (Le.recast (t := 36) (y := .v uo) rfl (fun w Z u h => h)) ?_
   refine VO.mv rfl rfl rfl rfl ?_
   refine VO.le _ (Le.rowS (t := 37) (i := 1) hB hnew rfl rfl (by first | rfl | simp)) ?_
   refine VO.op rfl (OpE.buildSlice (zc := #[.slice none 0 0]) rfl hB rfl Tryz.underlying55 Tryz.sizeOf40 Tryz.zeroValue40 (by decide) (by decide) (by kernel_rfl) rfl rfl ?_)
   refine VO.op rfl (OpE.append1 (i := 0) rfl hB rfl Tryz.underlying55 (infoOf Tryz.t40 1 (by kernel_rfl) rfl rfl) rfl (by decide) (by decide) rfl rfl rfl rfl (listM_snoc out _) (by omega) (fun _ _ => trivial) ?_)
   intro uo2
   refine VO.ma rfl rfl rfl rfl ?_
   refine VO.nil ?_
   refine VC.region ?_
   refine VO.val rfl rfl (OpV.add rfl rfl rfl (by unfold fits; omega)) ?_
   refine VO.mv rfl rfl rfl rfl ?_
   refine VO.nil ?_
   exact Exists.intro (⟨(uo2, out ++ [l], q + 1), by show q + 1 ≤ N; omega, by show (out ++ [l]).length = q + 1; simp; omega, fun x hx => by rcases List.mem_append.1 hx with hx | hx; exact hos x hx; (simp at hx; subst hx; exact hl.mono (by omega))⟩) (And.intro (Le.mk hB [0] ⟨rfl, rfl, rfl, rfl, rfl, trivial⟩ rfl (by dsimp only; rw [List.length_append]; rfl) (show k + 1 + 6 * q + r ≤ k + 1 + 6 * (q + 1) by omega)) (by first | omega | (show _ < _; omega) | (simp only []; omega)))
 ·have aH1 := aH1b
  try simp only [qqT, qqF, qqN, qqM, qqL, qqE] at aH1
  refine VC.exit ?_
  refine VC.seq ?_
  refine VC.sr ?_
  refine VO.mv rfl rfl rfl rfl ?_
  refine VO.val rfl rfl (OpV.len_row (i := 0) rfl Tryz.underlying55 rfl rfl) ?_
  refine VO.val rfl rfl (OpV.gtr rfl rfl rfl) ?_
  refine VO.mv rfl rfl rfl rfl ?_
  refine VO.opG rfl rfl rfl rfl (fun aK5b => ?_) (fun aK5b => ?_)
  ·replace aK5b : _ = true := aK5b
   have aK5 := aK5b
   try simp only [qqT, qqF, qqN, qqM, qqL, qqE] at aK5
   refine OpE.val (W := NoB) (OpV.move (.inl rfl) rfl) rfl ?_
   refine VO.opY rfl rfl rfl rfl aK5b ?_
   refine OpE.callT' (k + 1 + 6 * q) rfl rfl hB rfl Tryz.call10 rfl ((flip_T (by omega))) (by omega) ?_
   rintro _ ⟨r46, rfl⟩
   refine VO.val rfl rfl (OpV.pickT rfl rfl rfl rfl aK5b) ?_
   refine VO.nil ?_
   refine VC.cond rfl (fun aH6b => ?_) (fun aH6b => ?_)
   ·have aH6 := aH6b
    try simp only [qqT, qqF, qqN, qqM, qqL, qqE] at aH6
    refine VC.seq ?_
    refine VC.asBox (i := 0) rfl (by omega) (fun g cap hu hcap hmx => ?_)
    subst hu
    refine VC.region ?_
    refine VO.mv rfl rfl rfl rfl ?_
    refine VO.mv rfl rfl rfl rfl ?_
    refine VO.mv rfl rfl rfl rfl ?_
    refine VO.val rfl rfl (OpV.len_v rfl Tryz.underlying55 rfl) ?_
    refine VO.op rfl (OpE.callT' (k + 1 + 6 * q + 1) rfl rfl hB rfl Tryz.call69 rfl ((next_T (by omega))) (by omega) ?_)
    rintro _ ⟨r52, hr52, rfl⟩
    obtain ⟨mm, rfl⟩ : ∃ mm : Nat, r52 = mm := ⟨r52.toNat, by omega⟩
    refine VO.val rfl rfl (OpV.indexAddr_o rfl Tryz.underlying55 Tryz.sizeOf40 rfl rfl rfl (by omega)) ?_
    refine VO.ma rfl rfl rfl rfl ?_
    refine VO.nil ?_
    refine VC.region ?_
    refine VO.mv rfl rfl rfl rfl ?_
    refine VO.mv rfl rfl rfl rfl ?_
    refine VO.val rfl rfl (OpV.nilCheck rfl rfl) ?_
    refine VO.val rfl rfl (OpV.load_own (i := 0) rfl hB Tryz.isAgg40 rfl rfl (listM_get (by omega)) (fun h => h)) ?_
    refine VO.op rfl (OpE.callR rfl hB rfl Tryz.call96 (slices_CloneS_R (by have := (getD_shs hos mm).1; omega)) (ArgsP.cons (ArgP.ev rfl) (ArgsP.nil)) ?_)
    intro u58
    refine VO.mv rfl rfl rfl rfl ?_
    refine VO.op rfl (OpE.buildSlice (zc := #[.string ⟨#[]⟩, .string ⟨#[]⟩, .string ⟨#[]⟩, .string ⟨#[]⟩]) rfl hB rfl Tryz.underlying40 Tryz.sizeOf9 Tryz.zeroValue9 (by decide) (by decide) (by kernel_rfl) rfl rfl ?_)
    refine VO.op rfl (OpE.callT' (k + 1 + 6 * q + 1 + 1) rfl rfl hB rfl Tryz.call70 rfl ((some_T 1000 (by rfl) (by decide) (by decide) (by repeat (first | exact AllS.nil | refine AllS.cons (by first | decide | omega) ?_)))) (by omega) ?_)
    rintro _ ⟨r61, hr61, rfl⟩
    refine VO.op rfl (OpE.buildSlice (zc := #[.string ⟨#[]⟩]) rfl hB rfl Tryz.underlying40 Tryz.sizeOf9 Tryz.zeroValue9 (by decide) (by decide) (by kernel_rfl) rfl rfl ?_)
    refine VO.op rfl (OpE.append1 (i := 1) rfl hB rfl Tryz.underlying40 (infoOf Tryz.t9 1 (by kernel_rfl) rfl rfl) rfl (by decide) (by decide) rfl rfl rfl rfl (strsL_snoc _ _) (by have := (getD_shs hos mm).1; omega) (fun _ _ => trivial) ?_)
    intro u63
    refine VO.le _ (Le.rowS (t := 63) (i := 1) hB hnew rfl rfl (by first | rfl | simp)) ?_
    refine VO.val rfl rfl (OpV.nilCheck rfl rfl) ?_
    refine VO.op rfl (OpE.store1 (i := 0) rfl hB rfl Tryz.sizeOf40 rfl rfl rfl rfl rfl rfl (by rw [listM_len]; omega) (listM_set _ _ _) trivial ?_)
    refine VO.nil ?_
    refine VC.sr ?_
    refine VO.mv rfl rfl rfl rfl ?_
    refine VO.ma rfl rfl rfl rfl ?_
    refine VO.nil ?_
    refine VC.le _ (Le.boxM (t := 6) (i := 0) (n := out.length) hB hnew rfl rfl (by simp) hcap hmx) ?_
    refine VC.ret ?_
    exact Exists.intro _ (And.intro (RetV.one Tryz.results27 (ResV.tmp rfl)) (And.intro (by first | exact ⟨out, ⟨⟨by omega, fun l hl => (hos l hl).mono (by omega)⟩, by omega⟩, rfl⟩ | exact ⟨out.set mm (out.getD mm default ++ [r61]), ⟨⟨by simp; omega, fun l hl => by rcases List.mem_or_eq_of_mem_set hl with h' | rfl; exact (hos l h').mono (by omega); exact ((getD_shs hos mm).snoc hr61).mono (by omega)⟩, by rw [List.length_set]; omega⟩, rfl⟩) ((show k + 1 + 6 * q + 1 + 1 + 1 ≤ k + 100 by omega))))
   ·have aH6 := aH6b
    try simp only [qqT, qqF, qqN, qqM, qqL, qqE] at aH6
    refine VC.skip ?_
    refine VC.sr ?_
    refine VO.mv rfl rfl rfl rfl ?_
    refine VO.ma rfl rfl rfl rfl ?_
    refine VO.nil ?_
    refine VC.le _ (Le.rowsM (t := 6) (i := 0) hB hnew rfl rfl rfl) ?_
    refine VC.ret ?_
    exact Exists.intro _ (And.intro (RetV.one Tryz.results27 (ResV.tmp rfl)) (And.intro (by first | exact ⟨out, ⟨⟨by omega, fun l hl => (hos l hl).mono (by omega)⟩, by omega⟩, rfl⟩ | exact ⟨out.set mm (out.getD mm default ++ [r61]), ⟨⟨by simp; omega, fun l hl => by rcases List.mem_or_eq_of_mem_set hl with h' | rfl; exact (hos l h').mono (by omega); exact ((getD_shs hos mm).snoc hr61).mono (by omega)⟩, by rw [List.length_set]; omega⟩, rfl⟩) ((show k + 1 + 6 * q + 1 ≤ k + 100 by omega))))
  ·replace aK5b : _ = false := aK5b
   have aK5 := aK5b
   try simp only [qqT, qqF, qqN, qqM, qqL, qqE] at aK5
   refine VO.opX rfl rfl rfl rfl aK5b ?_
   refine VO.val rfl rfl (OpV.pickF rfl rfl rfl rfl aK5b) ?_
   refine VO.nil ?_
   refine VC.condF rfl rfl ?_
   refine VC.skip ?_
   refine VC.sr ?_
   refine VO.mv rfl rfl rfl rfl ?_
   refine VO.ma rfl rfl rfl rfl ?_
   refine VO.nil ?_
   refine VC.le _ (Le.rowsM (t := 6) (i := 0) hB hnew rfl rfl rfl) ?_
   refine VC.ret ?_
   exact Exists.intro _ (And.intro (RetV.one Tryz.results27 (ResV.tmp rfl)) (And.intro (by first | exact ⟨out, ⟨⟨by omega, fun l hl => (hos l hl).mono (by omega)⟩, by omega⟩, rfl⟩ | exact ⟨out.set mm (out.getD mm default ++ [r61]), ⟨⟨by simp; omega, fun l hl => by rcases List.mem_or_eq_of_mem_set hl with h' | rfl; exact (hos l h').mono (by omega); exact ((getD_shs hos mm).snoc hr61).mono (by omega)⟩, by rw [List.length_set]; omega⟩, rfl⟩) ((show k + 1 + 6 * q ≤ k + 100 by omega))))
end Go.Proofs.YtemnnmohdpabhaaGreatDoor
namespace Go.Proofs.YtemnnmohdpabhaaGreatDoor
open Go.RowKit
set_option linter.unusedVariables false
set_option linter.unusedSimpArgs false
set_option maxRecDepth 100000 in
theorem cmp_Less_int {a b : Int}  :
  SpecN Tryz.prog 209 [avI a, avI b] (fun y => y = avB (decide (a < b))) := by
 refine SpecN.of_VCN Tryz.func209 rfl Tryz.ntmps209 (Nle rfl) fun w A hB => ?_
 have hnew : True := trivial
 refine VC.sr ?_
 refine VO.ma rfl rfl rfl rfl ?_
 refine VO.nil ?_
 refine VC.sr ?_
 refine VO.mv rfl rfl rfl rfl ?_
 refine VO.op rfl (OpE.call rfl hB rfl Tryz.call172 rfl (SpecN.spec (cmp_isNaN_int)) ?_)
 rintro _ rfl
 refine VO.mv rfl rfl rfl rfl ?_
 refine VO.opX rfl rfl rfl rfl rfl ?_
 refine VO.opX rfl rfl rfl rfl rfl ?_
 refine VO.opX rfl rfl rfl rfl rfl ?_
 refine VO.val rfl rfl (OpV.pickF rfl rfl rfl rfl rfl) ?_
 refine VO.mv rfl rfl rfl rfl ?_
 refine VO.opY rfl rfl rfl rfl rfl ?_
 refine OpE.val (W := NoB) (OpV.move (.inl rfl) rfl) rfl ?_
 refine VO.opY rfl rfl rfl rfl rfl ?_
 refine OpE.val (W := NoB) (OpV.move (.inl rfl) rfl) rfl ?_
 refine VO.opY rfl rfl rfl rfl rfl ?_
 refine OpE.val (W := NoB) (OpV.lss rfl rfl rfl) rfl ?_
 refine VO.val rfl rfl (OpV.pickF rfl rfl rfl rfl rfl) ?_
 refine VO.ma rfl rfl rfl rfl ?_
 refine VO.nil ?_
 refine VC.ret ?_
 exact Exists.intro _ (And.intro (RetN.one Tryz.results209 (ResN.v rfl)) (by first | rfl | (rw [decide_eq_true (by omega)]) | (rw [decide_eq_false (by omega)])))
def ltI (x y : Int) : Bool := decide (x < y)
set_option maxRecDepth 100000 in
set_option maxHeartbeats 4000000 in
theorem insSortO_int {l0 : List Int} {u : Value} {ty : TypeId} (hl : l0.length ≤ 1000000) :
  SpecH Tryz.prog 203 [.v u, avI 0, avI l0.length] [.row u l0.length 1 (intsL l0) ty] (fun y hp' => ∃ l, (l.Perm l0 ∧ OrdL ltI l) ∧ y = .tup [] ∧ hp' = [.row u l0.length 1 (intsL l) ty]) := by
 have hT : ∀ {a b c : Int}, ltI a b = true → ltI b c = true → ltI a c = true := fun {a b c} h1 h2 => by simp only [ltI, decide_eq_true_eq] at *; omega
 have hA : ∀ {a b : Int}, ltI a b = true → ltI b a = false := fun {a b} h1 => by simp only [ltI, decide_eq_true_eq, decide_eq_false_iff_not] at *; omega
 have hN : ∀ {a b c : Int}, ltI b a = false → ltI c b = false → ltI c a = false := fun {a b c} h1 h2 => by simp only [ltI, decide_eq_false_iff_not] at *; omega
 refine SpecH.of_VC Tryz.func203 rfl Tryz.ntmps203 (Nle rfl) fun w A hB => ?_
 have hnew : True := trivial
 refine VC.sr ?_
 refine VO.mv rfl rfl rfl rfl ?_
 refine VO.val rfl rfl (OpV.add rfl rfl rfl (by unfold fits; omega)) ?_
 refine VO.ma rfl rfl rfl rfl ?_
 refine VO.nil ?_
 refine VC.block ?_
 refine VC.loopK [(0, _), (1, _), (2, _)] ⟨rfl, rfl, rfl, trivial⟩ ({z : Nat × List Int // InvO ltI l0 z.1 z.2 ∧ 0 < z.1 ∧ z.1 ≤ max 1 l0.length}) (fun (iZ : {z : Nat × List Int // InvO ltI l0 z.1 z.2 ∧ 0 < z.1 ∧ z.1 ≤ max 1 l0.length}) => match iZ with | ⟨⟨i, l⟩, hi, hi0, hin⟩ => [(6, avI (i : Int))]) (fun (iZ : {z : Nat × List Int // InvO ltI l0 z.1 z.2 ∧ 0 < z.1 ∧ z.1 ≤ max 1 l0.length}) => match iZ with | ⟨⟨i, l⟩, hi, hi0, hin⟩ => [.row u l0.length 1 (intsL l) ty]) (fun (iZ : {z : Nat × List Int // InvO ltI l0 z.1 z.2 ∧ 0 < z.1 ∧ z.1 ≤ max 1 l0.length}) => match iZ with | ⟨⟨i, l⟩, hi, hi0, hin⟩ => 0) (fun (iZ : {z : Nat × List Int // InvO ltI l0 z.1 z.2 ∧ 0 < z.1 ∧ z.1 ≤ max 1 l0.length}) => match iZ with | ⟨⟨i, l⟩, hi, hi0, hin⟩ => l0.length - i) ⟨(1, l0), InvO.one l0, Nat.one_pos, by show 1 ≤ _; omega⟩ (Le.mk hB [0] ⟨rfl, rfl, rfl, rfl, trivial⟩ rfl rfl (Nat.le_refl _)) ?_
 rintro ⟨⟨i, l⟩, hi, hi0, hin⟩
 show VC _ _ _ _ ⟨[(6, avI (i : Int))] ++ [(0, _), (1, _), (2, _)], [.row u l0.length 1 (intsL l) ty], 0⟩
 simp only at hi hi0 hin
 have hll := hi.len
 refine VC.seq ?_
 refine VC.sr ?_
 refine VO.mv rfl rfl rfl rfl ?_
 refine VO.mv rfl rfl rfl rfl ?_
 refine VO.val rfl rfl (OpV.lss rfl rfl rfl) ?_
 refine VO.nil ?_
 refine VC.cond rfl (fun aH1b => ?_) (fun aH1b => ?_)
 ·have aH1 := aH1b
  try simp only [qqT, qqF, qqN, qqM, qqL, qqE] at aH1
  refine VC.skip ?_
  refine VC.seq ?_
  refine VC.block ?_
  refine VC.sr ?_
  refine VO.mv rfl rfl rfl rfl ?_
  refine VO.ma rfl rfl rfl rfl ?_
  refine VO.nil ?_
  refine VC.block ?_
  refine VC.asBox (i := 0) rfl (by omega) (fun g cap hu hcap hmx => ?_)
  subst hu
  refine VC.loopK [(0, _), (1, _), (2, _), (6, _)] ⟨rfl, rfl, rfl, rfl, trivial⟩ ({z : Nat × List Int // InvI ltI l0 i z.1 z.2}) (fun (iZ : {z : Nat × List Int // InvI ltI l0 i z.1 z.2}) => match iZ with | ⟨⟨j, l2⟩, hI⟩ => [(7, avI (j : Int))]) (fun (iZ : {z : Nat × List Int // InvI ltI l0 i z.1 z.2}) => match iZ with | ⟨⟨j, l2⟩, hI⟩ => [.box g ⟨intsL l2, ty, cap * 1⟩]) (fun (iZ : {z : Nat × List Int // InvI ltI l0 i z.1 z.2}) => match iZ with | ⟨⟨j, l2⟩, hI⟩ => 0) (fun (iZ : {z : Nat × List Int // InvI ltI l0 i z.1 z.2}) => match iZ with | ⟨⟨j, l2⟩, hI⟩ => j) ⟨(i, l), hi.start (by omega)⟩ (Le.mk hB [0] ⟨rfl, rfl, rfl, rfl, rfl, trivial⟩ rfl rfl (Nat.le_refl _)) ?_
  rintro ⟨⟨j, l2⟩, hI⟩
  show VC _ _ _ _ ⟨[(7, avI (j : Int))] ++ [(0, _), (1, _), (2, _), (6, _)], [.box g ⟨intsL l2, ty, cap * 1⟩], 0⟩
  simp only at hI
  obtain ⟨hlen2, hil, hji⟩ := hI.len
  refine VC.seq ?_
  refine VC.seq ?_
  refine VC.draw (fun _ => NoB) hB (by kernel_rfl) ?_
  refine VA.take (i := 0) rfl (by kernel_rfl) (by kernel_rfl) (by kernel_rfl) rfl rfl (OpV.move (.inl rfl) rfl) ?_
  refine VA.take (i := 1) rfl (by kernel_rfl) (by kernel_rfl) (by kernel_rfl) rfl rfl (OpV.move (.inl rfl) rfl) ?_
  refine VA.take (i := 2) rfl (by kernel_rfl) (by kernel_rfl) (by kernel_rfl) rfl rfl (OpV.gtr rfl rfl rfl) ?_
  refine VA.take (i := 3) rfl (by kernel_rfl) (by kernel_rfl) (by kernel_rfl) rfl rfl (OpV.move (.inl rfl) rfl) ?_
  refine VA.split (t := 19) rfl (fun aK2b => ?_) (fun aK2b => ?_)
  ·have aK2 := aK2b
   try simp only [qqT, qqF, qqN, qqM, qqL, qqE] at aK2
   refine VA.takeY (i := 4) rfl (by kernel_rfl) (by kernel_rfl) (by kernel_rfl) rfl rfl rfl rfl aK2b (OpV.move (.inl rfl) rfl) ?_
   refine VA.takeY (i := 5) rfl (by kernel_rfl) (by kernel_rfl) (by kernel_rfl) rfl rfl rfl rfl aK2b (OpV.move (.inl rfl) rfl) ?_
   refine VA.takeY (i := 6) rfl (by kernel_rfl) (by kernel_rfl) (by kernel_rfl) rfl rfl rfl rfl aK2b (OpV.indexAddr_o rfl Tryz.underlying22 Tryz.sizeOf3 rfl rfl rfl (by omega)) ?_
   refine VA.takeY (i := 7) rfl (by kernel_rfl) (by kernel_rfl) (by kernel_rfl) rfl rfl rfl rfl aK2b (OpV.load_own (i := 0) rfl hB Tryz.isAgg3 rfl rfl (intsL_get (j := j) (by omega)) Wi.not0) ?_
   refine VA.takeY (i := 8) rfl (by kernel_rfl) (by kernel_rfl) (by kernel_rfl) rfl rfl rfl rfl aK2b (OpV.move (.inl rfl) rfl) ?_
   refine VA.takeY (i := 9) rfl (by kernel_rfl) (by kernel_rfl) (by kernel_rfl) rfl rfl rfl rfl aK2b (OpV.move (.inl rfl) rfl) ?_
   refine VA.takeY (i := 10) rfl (by kernel_rfl) (by kernel_rfl) (by kernel_rfl) rfl rfl rfl rfl aK2b (OpV.sub rfl rfl rfl (by unfold fits; omega)) ?_
   refine VA.takeY (i := 11) rfl (by kernel_rfl) (by kernel_rfl) (by kernel_rfl) rfl rfl rfl rfl aK2b (OpV.indexAddr_o rfl Tryz.underlying22 Tryz.sizeOf3 rfl rfl (show (j : Int) - 1 = ((j - 1 : Nat) : Int) by omega) (by omega)) ?_
   refine VA.takeY (i := 12) rfl (by kernel_rfl) (by kernel_rfl) (by kernel_rfl) rfl rfl rfl rfl aK2b (OpV.load_own (i := 0) rfl hB Tryz.isAgg3 rfl rfl (intsL_get (j := j - 1) (by omega)) Wi.not0) ?_
   refine VA.all (rs := [13]) (by kernel_rfl) (by decide) ?_
   refine ⟨⟨_, rfl, .inr ⟨_, _, _, rfl, rfl, (look_k rfl aK2b)⟩, ?_⟩, trivial⟩
   refine OpE.call rfl hB rfl Tryz.call209 rfl (SpecN.spec (cmp_Less_int)) ?_
   rintro _ rfl
   refine VA.take (i := 14) rfl (by kernel_rfl) (by kernel_rfl) (by kernel_rfl) rfl rfl (OpV.pickT rfl rfl rfl rfl aK2b) ?_
   refine VA.done (by kernel_rfl) ?_
   refine VC.cond rfl (fun hcb => ?_) (fun hcb => ?_)
   ·have hc := hcb
    try simp only [qqT, qqF, qqN, qqM, qqL, qqE] at hc
    refine VC.skip ?_
    refine VC.seq ?_
    refine VC.block ?_
    refine VC.draw (fun j b => j ∈ [15, 17] ∧ b = g) hB (by kernel_rfl) ?_
    refine VA.take (i := 0) rfl (by kernel_rfl) (by kernel_rfl) (by kernel_rfl) rfl rfl (OpV.move (.inl rfl) rfl) ?_
    refine VA.take (i := 1) rfl (by kernel_rfl) (by kernel_rfl) (by kernel_rfl) rfl rfl (OpV.move (.inl rfl) rfl) ?_
    refine VA.take (i := 2) rfl (by kernel_rfl) (by kernel_rfl) (by kernel_rfl) rfl rfl (OpV.move (.inl rfl) rfl) ?_
    refine VA.take (i := 3) rfl (by kernel_rfl) (by kernel_rfl) (by kernel_rfl) rfl rfl (OpV.move (.inl rfl) rfl) ?_
    refine VA.take (i := 4) rfl (by kernel_rfl) (by kernel_rfl) (by kernel_rfl) rfl rfl (OpV.sub rfl rfl rfl (by unfold fits; omega)) ?_
    refine VA.take (i := 5) rfl (by kernel_rfl) (by kernel_rfl) (by kernel_rfl) rfl rfl (OpV.move (.inl rfl) rfl) ?_
    refine VA.take (i := 6) rfl (by kernel_rfl) (by kernel_rfl) (by kernel_rfl) rfl rfl (OpV.move (.inl rfl) rfl) ?_
    refine VA.take (i := 7) rfl (by kernel_rfl) (by kernel_rfl) (by kernel_rfl) rfl rfl (OpV.sub rfl rfl rfl (by unfold fits; omega)) ?_
    refine VA.take (i := 8) rfl (by kernel_rfl) (by kernel_rfl) (by kernel_rfl) rfl rfl (OpV.indexAddr_o rfl Tryz.underlying22 Tryz.sizeOf3 rfl rfl (show (j : Int) - 1 = ((j - 1 : Nat) : Int) by omega) (by omega)) ?_
    refine VA.take (i := 9) rfl (by kernel_rfl) (by kernel_rfl) (by kernel_rfl) rfl rfl (OpV.load_own (i := 0) rfl hB Tryz.isAgg3 rfl rfl (intsL_get (j := j - 1) (by omega)) (Wi.notD (by kernel_rfl))) ?_
    refine VA.take (i := 10) rfl (by kernel_rfl) (by kernel_rfl) (by kernel_rfl) rfl rfl (OpV.move (.inl rfl) rfl) ?_
    refine VA.take (i := 11) rfl (by kernel_rfl) (by kernel_rfl) (by kernel_rfl) rfl rfl (OpV.move (.inl rfl) rfl) ?_
    refine VA.take (i := 12) rfl (by kernel_rfl) (by kernel_rfl) (by kernel_rfl) rfl rfl (OpV.indexAddr_o rfl Tryz.underlying22 Tryz.sizeOf3 rfl rfl rfl (by omega)) ?_
    refine VA.take (i := 13) rfl (by kernel_rfl) (by kernel_rfl) (by kernel_rfl) rfl rfl (OpV.load_own (i := 0) rfl hB Tryz.isAgg3 rfl rfl (intsL_get (j := j) (by omega)) (Wi.notD (by kernel_rfl))) ?_
    refine VA.take (i := 14) rfl (by kernel_rfl) (by kernel_rfl) (by kernel_rfl) rfl rfl (OpV.indexAddr_o rfl Tryz.underlying22 Tryz.sizeOf3 rfl rfl rfl (by omega)) ?_
    refine VA.all (rs := [15]) (by kernel_rfl) (by decide) ?_
    refine ⟨⟨_, rfl, .inl rfl, ?_⟩, trivial⟩
    refine OpE.store1 (i := 0) rfl hB rfl Tryz.sizeOf3 rfl rfl rfl rfl rfl rfl (by rw [intsL_len]; omega) (intsL_set _ _ _) (by first | exact ⟨rfl, rfl⟩ | exact .inl ⟨rfl, rfl⟩ | exact .inr ⟨rfl, rfl⟩ | exact ⟨rfl, trivial⟩ | exact .inl ⟨rfl, trivial⟩ | exact .inr ⟨rfl, trivial⟩ | exact ⟨by decide, rfl⟩) ?_
    refine VA.take (i := 16) rfl (by kernel_rfl) (by kernel_rfl) (by kernel_rfl) rfl rfl (OpV.indexAddr_o rfl Tryz.underlying22 Tryz.sizeOf3 rfl rfl (show (j : Int) - 1 = ((j - 1 : Nat) : Int) by omega) (by omega)) ?_
    refine VA.all (rs := [17]) (by kernel_rfl) (by decide) ?_
    refine ⟨⟨_, rfl, .inl rfl, ?_⟩, trivial⟩
    refine OpE.store1 (i := 0) rfl hB rfl Tryz.sizeOf3 rfl rfl rfl rfl rfl rfl (by rw [intsL_len, List.length_set]; omega) (intsL_set _ _ _) (by first | exact ⟨rfl, rfl⟩ | exact .inl ⟨rfl, rfl⟩ | exact .inr ⟨rfl, rfl⟩ | exact ⟨rfl, trivial⟩ | exact .inl ⟨rfl, trivial⟩ | exact .inr ⟨rfl, trivial⟩ | exact ⟨by decide, rfl⟩) ?_
    refine VA.done (by kernel_rfl) ?_
    refine VC.region ?_
    refine VO.mv rfl rfl rfl rfl ?_
    refine VO.val rfl rfl (OpV.sub rfl rfl rfl (by unfold fits; omega)) ?_
    refine VO.ma rfl rfl rfl rfl ?_
    refine VO.nil ?_
    exact Exists.intro (⟨(j - 1, (l2.set j (l2.getD (j - 1) 0)).set (j - 1) (l2.getD j 0)), hI.next hT (by omega) (decide_eq_true hc)⟩) (And.intro (Le.mk hB [0] ⟨(by rw [show ((j - 1 : Nat) : Int) = (j : Int) - 1 by omega]; rfl), rfl, rfl, rfl, rfl, trivial⟩ rfl rfl (Nat.le_refl _)) (by first | omega | (show _ < _; omega) | (simp only []; omega)))
   ·have hc := hcb
    try simp only [qqT, qqF, qqN, qqM, qqL, qqE] at hc
    have hex : j = 0 ∨ ltI (l2.getD j 0) (l2.getD (j - 1) 0) = false := by first | exact .inl (by omega) | exact .inr (decide_eq_false (by omega))
    refine VC.le _ (Le.boxRow (i := 0) (n := l0.length) rfl (by rw [intsL_len, hlen2]; omega) hcap hmx) ?_
    refine VC.exit ?_
    refine VC.region ?_
    refine VO.mv rfl rfl rfl rfl ?_
    refine VO.val rfl rfl (OpV.add rfl rfl rfl (by unfold fits; omega)) ?_
    refine VO.ma rfl rfl rfl rfl ?_
    refine VO.nil ?_
    exact Exists.intro (⟨(i + 1, l2), hI.done hA hN hex, Nat.succ_pos _, by show i + 1 ≤ _; omega⟩) (And.intro (Le.mk hB [0] ⟨rfl, rfl, rfl, rfl, trivial⟩ rfl rfl (Nat.le_refl _)) (by first | omega | (show _ < _; omega) | (simp only []; omega)))
  ·have aK2 := aK2b
   try simp only [qqT, qqF, qqN, qqM, qqL, qqE] at aK2
   refine VA.takeX (i := 4) rfl (by kernel_rfl) (by kernel_rfl) (by kernel_rfl) rfl rfl rfl rfl aK2b ?_
   refine VA.takeX (i := 5) rfl (by kernel_rfl) (by kernel_rfl) (by kernel_rfl) rfl rfl rfl rfl aK2b ?_
   refine VA.takeX (i := 6) rfl (by kernel_rfl) (by kernel_rfl) (by kernel_rfl) rfl rfl rfl rfl aK2b ?_
   refine VA.takeX (i := 7) rfl (by kernel_rfl) (by kernel_rfl) (by kernel_rfl) rfl rfl rfl rfl aK2b ?_
   refine VA.takeX (i := 8) rfl (by kernel_rfl) (by kernel_rfl) (by kernel_rfl) rfl rfl rfl rfl aK2b ?_
   refine VA.takeX (i := 9) rfl (by kernel_rfl) (by kernel_rfl) (by kernel_rfl) rfl rfl rfl rfl aK2b ?_
   refine VA.takeX (i := 10) rfl (by kernel_rfl) (by kernel_rfl) (by kernel_rfl) rfl rfl rfl rfl aK2b ?_
   refine VA.takeX (i := 11) rfl (by kernel_rfl) (by kernel_rfl) (by kernel_rfl) rfl rfl rfl rfl aK2b ?_
   refine VA.takeX (i := 12) rfl (by kernel_rfl) (by kernel_rfl) (by kernel_rfl) rfl rfl rfl rfl aK2b ?_
   refine VA.takeX (i := 13) rfl (by kernel_rfl) (by kernel_rfl) (by kernel_rfl) rfl rfl rfl rfl aK2b ?_
   refine VA.take (i := 14) rfl (by kernel_rfl) (by kernel_rfl) (by kernel_rfl) rfl rfl (OpV.pickF rfl rfl rfl rfl aK2b) ?_
   refine VA.done (by kernel_rfl) ?_
   refine VC.condF rfl rfl ?_
   have hex : j = 0 ∨ ltI (l2.getD j 0) (l2.getD (j - 1) 0) = false := by first | exact .inl (by omega) | exact .inr (decide_eq_false (by omega))
   refine VC.le _ (Le.boxRow (i := 0) (n := l0.length) rfl (by rw [intsL_len, hlen2]; omega) hcap hmx) ?_
   refine VC.exit ?_
   refine VC.region ?_
   refine VO.mv rfl rfl rfl rfl ?_
   refine VO.val rfl rfl (OpV.add rfl rfl rfl (by unfold fits; omega)) ?_
   refine VO.ma rfl rfl rfl rfl ?_
   refine VO.nil ?_
   exact Exists.intro (⟨(i + 1, l2), hI.done hA hN hex, Nat.succ_pos _, by show i + 1 ≤ _; omega⟩) (And.intro (Le.mk hB [0] ⟨rfl, rfl, rfl, rfl, trivial⟩ rfl rfl (Nat.le_refl _)) (by first | omega | (show _ < _; omega) | (simp only []; omega)))
 ·have aH1 := aH1b
  try simp only [qqT, qqF, qqN, qqM, qqL, qqE] at aH1
  refine VC.exit ?_
  exact Exists.intro _ (And.intro (RetV.none Tryz.results203) (⟨l, hi.all (by omega), rfl, rfl⟩))
set_option maxRecDepth 100000 in
theorem pdqO_int {l0 : List Int} {u : Value} {ty : TypeId} {k : Int} (hl : l0.length ≤ 12) :
  SpecH Tryz.prog 106 [.v u, avI 0, avI l0.length, avI k] [.row u l0.length 1 (intsL l0) ty] (fun y hp' => ∃ l, (l.Perm l0 ∧ OrdL ltI l) ∧ y = .tup [] ∧ hp' = [.row u l0.length 1 (intsL l) ty]) := by
 refine SpecH.of_VC Tryz.func106 rfl Tryz.ntmps106 (Nle rfl) fun w A hB => ?_
 have hnew : True := trivial
 refine VC.sr ?_
 refine VO.ma rfl rfl rfl rfl ?_
 refine VO.nil ?_
 refine VC.sr ?_
 refine VO.ma rfl rfl rfl rfl ?_
 refine VO.nil ?_
 refine VC.block ?_
 refine VC.loopK [(0, _)] ⟨rfl, trivial⟩ ({z : Nat // z = 0}) (fun (iZ : {z : Nat // z = 0}) => match iZ with | ⟨z, hz⟩ => [(1, avI 0), (2, avI l0.length), (3, avI k), (8, avB true), (9, avB true)]) (fun (iZ : {z : Nat // z = 0}) => match iZ with | ⟨z, hz⟩ => [.row u l0.length 1 (intsL l0) ty]) (fun (iZ : {z : Nat // z = 0}) => match iZ with | ⟨z, hz⟩ => 0) (fun (iZ : {z : Nat // z = 0}) => match iZ with | ⟨z, hz⟩ => z) ⟨0, rfl⟩ (Le.mk hB [0] ⟨rfl, rfl, rfl, rfl, rfl, rfl, trivial⟩ rfl rfl (Nat.le_refl _)) ?_
 rintro ⟨z, hz⟩
 show VC _ _ _ _ ⟨[(1, avI 0), (2, avI l0.length), (3, avI k), (8, avB true), (9, avB true)] ++ [(0, _)], [.row u l0.length 1 (intsL l0) ty], 0⟩
 refine VC.block ?_
 refine VC.sr ?_
 refine VO.mv rfl rfl rfl rfl ?_
 refine VO.mv rfl rfl rfl rfl ?_
 refine VO.val rfl rfl (OpV.sub rfl rfl rfl (by unfold fits; omega)) ?_
 refine VO.ma rfl rfl rfl rfl ?_
 refine VO.nil ?_
 refine VC.seq ?_
 refine VC.sr ?_
 refine VO.mv rfl rfl rfl rfl ?_
 refine VO.val rfl rfl (OpV.leq rfl rfl rfl) ?_
 refine VO.nil ?_
 refine VC.cond rfl (fun aH1b => ?_) (fun aH1b => ?_)
 ·have aH1 := aH1b
  try simp only [qqT, qqF, qqN, qqM, qqL, qqE] at aH1
  refine VC.sr ?_
  refine VO.mv rfl rfl rfl rfl ?_
  refine VO.mv rfl rfl rfl rfl ?_
  refine VO.mv rfl rfl rfl rfl ?_
  refine VO.op rfl (OpE.callH0 rfl hB rfl Tryz.call203 rfl rfl (insSortO_int (by omega)) (List.Perm.refl _) (fun _ _ => trivial) ?_)
  rintro _ _ ⟨l, hpl, rfl, rfl⟩
  refine VO.nil ?_
  refine VC.ret ?_
  exact Exists.intro _ (And.intro (RetV.none Tryz.results106) (⟨l, hpl, rfl, rfl⟩))
 ·have aH1 := aH1b
  try simp only [qqT, qqF, qqN, qqM, qqL, qqE] at aH1
  exact VC.absurd (by omega)
set_option maxRecDepth 100000 in
theorem sort_int {l0 : List Int} {u : Value} {ty : TypeId} (hl : l0.length ≤ 12) :
  SpecH Tryz.prog 35 [.v u] [.row u l0.length 1 (intsL l0) ty] (fun y hp' => ∃ l, (l.Perm l0 ∧ OrdL ltI l) ∧ y = .tup [] ∧ hp' = [.row u l0.length 1 (intsL l) ty]) := by
 refine SpecH.of_VC Tryz.func35 rfl Tryz.ntmps35 (Nle rfl) fun w A hB => ?_
 have hnew : True := trivial
 refine VC.sr ?_
 refine VO.mv rfl rfl rfl rfl ?_
 refine VO.val rfl rfl (OpV.len_row (i := 0) rfl Tryz.underlying22 rfl rfl) ?_
 refine VO.ma rfl rfl rfl rfl ?_
 refine VO.nil ?_
 refine VC.region ?_
 refine VO.mv rfl rfl rfl rfl ?_
 refine VO.mv rfl rfl rfl rfl ?_
 refine VO.mv rfl rfl rfl rfl ?_
 refine VO.val rfl rfl (OpV.conv rfl Tryz.underlying3 Tryz.underlying160 rfl (IntWalk.u64_in _ (by omega))) ?_
 refine VO.op rfl (OpE.call rfl hB rfl Tryz.call104 rfl (SpecN.spec (bits_Len_S (x := (l0.length : Int)) (by omega) (by omega))) ?_)
 rintro _ ⟨k, rfl⟩
 refine VO.op rfl (OpE.callH0 rfl hB rfl Tryz.call106 rfl rfl (pdqO_int hl) (List.Perm.refl _) (fun _ _ => trivial) ?_)
 rintro _ _ ⟨l, hpl, rfl, rfl⟩
 refine VO.nil ?_
 exact Exists.intro _ (And.intro (RetV.none Tryz.results35) (⟨l, hpl, rfl, rfl⟩))
end Go.Proofs.YtemnnmohdpabhaaGreatDoor
namespace Go.Proofs.YtemnnmohdpabhaaGreatDoor
open Go.RowKit
set_option linter.unusedVariables false
set_option linter.unusedSimpArgs false

def Inp (w : World) (a : Option Addr) (L : List Int) : Prop :=
 L.length ≤ 9223372036854775807 ∧ ∀ i, i < L.length → ∃ b o, a = some ⟨b, o, none⟩ ∧ w.cell? ⟨b, o + i, none⟩ = some (.int .i64 (L.getD i 0))

theorem Inp.ofRow {w : World} {a : Option Addr} {len cap : Nat} {zs : List Int}
  (h : (a = none ∧ len = 0 ∧ cap = 0 ∧ zs = []) ∨
   ∃ x, a = some x ∧ len ≤ cap ∧ cap ≤ maxLen ∧ zs.length = cap ∧ (∀ i, i < zs.length → w.cell? (x.add i) = some (.int .i64 (zs.getD i 0))) ∧ ∀ n ∈ zs, (Lit.int .i64 n).wf = true) :
  ∃ L : List Int, L.length = len ∧ Inp w a L := by
 rcases h with ⟨rfl, rfl, rfl, rfl⟩ | ⟨x, rfl, h1, h2, h3, h4, h5⟩
 ·exact ⟨[], rfl, by simp, by simp⟩
 ·unfold maxLen at h2
  refine ⟨zs.take len, by simp; omega, by simp; omega, fun i hi => ?_⟩
  have hi' : i < len ∧ i < zs.length := by simp at hi; omega
  obtain ⟨b, o, s⟩ := x
  have h0 := h4 0 (by omega)
  have hs : s = none := by
   cases s with
   | none => rfl
   | some s =>
    simp only [Addr.add, if_true, World.cell?] at h0
    split at h0 <;> simp at h0
  subst hs
  have hadd : (⟨b, o, none⟩ : Addr).add i = ⟨b, o + i, none⟩ := by unfold Addr.add; split <;> simp_all
  have := h4 i hi'.2
  rw [hadd] at this
  exact ⟨b, o, rfl, by rw [this]; simp [hi'.1, hi'.2]⟩

def lawQ (t : Nat) (x : Value) (e : Exit) (s : St') : Prop := e = .ret ∧ look s.sl t = some (.v x)
section
variable {P : Program} {w : World} {A : Nat → Prop} {nt t : Nat} {x : Value} {c : Code} {s : St'}
theorem VC.rebase (h : ∀ a w1, R (B0 w A nt) s a w1 → ∃ (B1 : Bs) (s1 : St'), B1.nt = nt ∧ B1.w0 = w1 ∧ (∀ b, B1.S b → w.heap.size ≤ b) ∧ R B1 s1 a w1 ∧ VC P B1 c (lawQ t x) s1) : VC P (B0 w A nt) c (lawQ t x) s := fun a w1 hr => by
 obtain ⟨B1, s1, h1, h2, h3, h4, h5⟩ := h a w1 hr
 refine Code.wp_mono (fun e a' w' ⟨s2, ⟨k1, k2⟩, k3⟩ => ?_) (h5 a w1 h4)
 refine ⟨⟨[(t, .v x)], [], 0⟩, ⟨k1, by simp [look_put]⟩, fun t' y hy => ?_, k3.size.trans h1, k3.defs, fun p hp => by simp at hp, List.Pairwise.nil, ?_, fun p hp => by simp at hp, trivial⟩
 ·rw [look_put] at hy
  split at hy
  ·rename_i e; subst e; cases hy; exact (k3.slots _ _ k2).flat ⟨_, rfl⟩
  ·cases hy
 ·have c1 := hr.chg
  have c2 := k3.chg
  rw [h2] at c2
  exact (c1.any.trans c2).mono fun b hb hs => (Nat.not_lt.2 (h3 b hs) hb).elim
theorem VC.stream {a0 : Option Addr} {cap0 g tot i : Nat} {L : List Int} {sl : List (Nat × AV)} (hi : s.hp[i]? = some (.box g ⟨[.v (.slice a0 L.length cap0), .v (.int .i64 0)], 25, tot⟩)) (htot : tot = 2) (hin : Inp w a0 L) (hsl : LeL s.sl sl) (hf : ∀ p ∈ sl, ∃ v, p.2 = .v v)
  (h : ∀ w1, w.heap.size ≤ g → (B1 w1 (fun b => b ≠ g) nt (fun b => b = g) (fun b => b ≤ g) (TT g L)).Ok → VC P (B1 w1 (fun b => b ≠ g) nt (fun b => b = g) (fun b => b ≤ g) (TT g L)) c (lawQ t x) ⟨sl, [], 0⟩) : VC P (B0 w A nt) c (lawQ t x) s :=
 VC.rebase fun a w1 hr => by
  have hm := List.mem_of_getElem? hi
  obtain ⟨cc, k1, k2, k3, k4⟩ := hr.blocks _ hm
  have hnew : ¬ g < w.heap.size := hr.isNew (fun b h => h) hm rfl
  have hge : w.heap.size ≤ g := by omega
  have hcc : cc = #[.slice a0 L.length cap0, .int .i64 0] := by
   obtain ⟨u0, p0, q0⟩ := k4 0 (by simp)
   obtain ⟨u1, p1, q1⟩ := k4 1 (by simp)
   have e0 := q0.eq_v
   have e1 := q1.eq_v
   have hsz : cc.size = 2 := k2.trans htot
   apply Array.ext (by simpa using hsz)
   intro i hi hi'
   simp at hi'
   match i, hi' with
   | 0, _ => have := Array.getElem?_eq_some_iff.1 p0; simp; rw [this.2, e0]
   | 1, _ => have := Array.getElem?_eq_some_iff.1 p1; simp; rw [this.2, e1]
  subst hcc
  have hT : TT g L w1 0 := ⟨0, Nat.le_refl _, a0, cap0, k1, hin.1, fun i hi => by
   obtain ⟨b, o, e1, e2⟩ := hin.2 i hi
   have hb := World.block_lt_of_cell? w _ e2
   exact ⟨b, o, e1, Nat.lt_of_lt_of_le hb hge, hr.chg.cell e2 fun h => h⟩⟩
  refine ⟨_, _, rfl, rfl, fun b hb => by rw [hb]; exact hge, ?_, h w1 hge (TT.ok hT)⟩
  refine ⟨fun t' y hy => ?_, hr.size, hr.defs, fun p hp => by simp at hp, List.Pairwise.nil, Chg.refl _ _, fun p hp => by simp at hp, hT⟩
  have hs := hr.slots t' y (LeL.look hsl t' y hy)
  have : ∃ v, y = .v v := by
   have key : ∀ (l : List (Nat × AV)), (∀ p ∈ l, ∃ v, p.2 = .v v) → look l t' = some y → ∃ v, y = .v v := by
    intro l
    induction l with
    | nil => intro _ h; cases h
    | cons p r ih =>
     intro hp hl
     obtain ⟨k, z⟩ := p
     rw [look_put] at hl
     split at hl
     ·cases hl; exact hp (k, y) (by simp)
     ·exact ih (fun q hq => hp q (by simp [hq])) hl
   exact key sl hf hy
  exact hs.flat this
theorem law_calls {F : FuncId} {fn : Func} {a0 : Option Addr} {cap0 : Nat} {L : List Int} {body : Code} (hf : P.funcs[F]? = some fn) (hb : fn.body = some body) (hn : fn.ntmps = nt) (h1 : 1 ≤ nt) (hres : fn.results = #[.tmp t])
  (h : VC P (B0 w (fun _ => True) nt) body (lawQ t (.bool true)) ⟨slots0 0 [.v (.slice a0 L.length cap0)], [], 0⟩) : Calls P F #[.slice a0 L.length cap0] w fun e w' => e = .returned (.bool true) ∧ Chg NoB w w' := by
 subst hn
 refine calls_of_wp hf hb (Code.wp_mono (fun e a w' hq => ?_) (h _ w (R.start (us := #[.slice a0 L.length cap0]) (k := 0) rfl ⟨rfl, fun j hj => by simp at hj; subst hj; exact .v _⟩ (fun _ h => h.elim) trivial (by show fn.ntmps = 1 + (fn.ntmps - 1); omega))))
 obtain ⟨s, ⟨rfl, hq⟩, hr⟩ := hq
 refine ⟨hr.defs, .bool true, ?_, rfl, hr.chg⟩
 have hv := (hr.slots t _ hq).eq_v
 simp [results_eq, hres, resRun, hv]
end
theorem Le.boolT {B : Bs} {s : St'} {t : Nat} {b : Bool} (ht : look s.sl t = some (avB b)) (hb : b = true) : Le B s ⟨(t, avB true) :: s.sl, s.hp, s.k⟩ := Le.recast ht fun w Z u h => by subst hb; exact h
end Go.Proofs.YtemnnmohdpabhaaGreatDoor
namespace Go.Proofs.YtemnnmohdpabhaaGreatDoor
open Go.RowKit
set_option linter.unusedVariables false
set_option linter.unusedSimpArgs false
def panL : List PlaceS := [⟨⟨#[99]⟩, ⟨#[99, 97, 112]⟩, 0, 0, 0⟩]
def panP : ProdS := ⟨⟨#[112]⟩, 5, 5, panL⟩
theorem panP_sm : SmP panP := ⟨by decide, by decide, fun i => by
 match i with
 | 0 => decide
 | i + 1 => simp [panP, panL]; decide, fun i => by
 match i with
 | 0 => decide
 | i + 1 => simp [panP, panL]; decide⟩
theorem panP_ok : prodF panP = 0 := by decide +kernel
theorem panP_cnt : cntP panL = [(⟨#[99, 97, 112]⟩, 1)] := by decide +kernel
theorem panP_keys : sKeys [((⟨#[99, 97, 112]⟩ : ByteArray), (1 : Int))] = [⟨#[99, 97, 112]⟩] := by simp [sKeys, bytesOf]
theorem panP_needs : needsR panP = [⟨⟨#[99, 97, 112]⟩, 1⟩] := by
 rw [needsR, if_pos panP_ok, needsL]
 show List.map _ (sKeys (cntP panL)) = _
 rw [panP_cnt, panP_keys]
 simp [panP, panP_cnt, mgetD, mget]

end Go.Proofs.YtemnnmohdpabhaaGreatDoor
namespace Go.Proofs.YtemnnmohdpabhaaGreatDoor
open Go.RowKit
set_option linter.unusedVariables false
set_option linter.unusedSimpArgs false
set_option maxRecDepth 100000 in
theorem slices_IndexFunc_LL {xs : List (List ByteArray)} {F : FuncId} {cs : List AV} {p : List ByteArray → Bool} (hl : xs.length ≤ 1000000000) (hcall : ∀ us w, (callFunc F us).run Tryz.prog w = .ok (.enter F us) w) (hF : ∀ i, i < xs.length → Spec Tryz.prog F ([avStrs (xs.getD i default)] ++ cs) (fun y => y = avB (p (xs.getD i default)))) :
  SpecN Tryz.prog 214 [avM xs, .fn F cs] (fun y => y = avI (fidx p xs)) := by
 refine SpecN.of_VCN Tryz.func214 rfl Tryz.ntmps214 (Nle rfl) fun w A hB => ?_
 have hnew : True := trivial
 refine VC.sr ?_
 refine VO.ma rfl rfl rfl rfl ?_
 refine VO.nil ?_
 refine VC.seq ?_
 refine VC.sr ?_
 refine VO.mv rfl rfl rfl rfl ?_
 refine VO.val rfl rfl (OpV.len_im rfl Tryz.underlying55 rfl) ?_
 refine VO.mv rfl rfl rfl rfl ?_
 refine VO.nil ?_
 refine VC.block ?_
 refine VC.loopK [(0, _), (1, _), (7, _)] ⟨rfl, rfl, rfl, trivial⟩ ({q : Nat // q ≤ xs.length ∧ ∀ j, j < q → p (xs.getD j default) = false}) (fun (iZ : {q : Nat // q ≤ xs.length ∧ ∀ j, j < q → p (xs.getD j default) = false}) => match iZ with | ⟨q, hq, hn⟩ => [(8, avI (q : Int))]) (fun (iZ : {q : Nat // q ≤ xs.length ∧ ∀ j, j < q → p (xs.getD j default) = false}) => match iZ with | ⟨q, hq, hn⟩ => []) (fun (iZ : {q : Nat // q ≤ xs.length ∧ ∀ j, j < q → p (xs.getD j default) = false}) => match iZ with | ⟨q, hq, hn⟩ => 0) (fun (iZ : {q : Nat // q ≤ xs.length ∧ ∀ j, j < q → p (xs.getD j default) = false}) => match iZ with | ⟨q, hq, hn⟩ => xs.length - q) ⟨0, Nat.zero_le _, fun j hj => absurd hj (Nat.not_lt_zero j)⟩ (Le.mk hB [] ⟨rfl, rfl, rfl, rfl, trivial⟩ rfl rfl (Nat.le_refl _)) ?_
 rintro ⟨q, hq, hn⟩
 show VC _ _ _ _ ⟨[(8, avI (q : Int))] ++ [(0, _), (1, _), (7, _)], [], 0⟩
 refine VC.sr ?_
 refine VO.val rfl rfl (OpV.lss rfl rfl rfl) ?_
 refine VO.nil ?_
 refine VC.seq ?_
 refine VC.cond rfl (fun aH1b => ?_) (fun aH1b => ?_)
 ·have aH1 := aH1b
  try simp only [qqT, qqF, qqN, qqM, qqL, qqE] at aH1
  refine VC.skip ?_
  refine VC.seq ?_
  refine VC.block ?_
  refine VC.sr ?_
  refine VO.mv rfl rfl rfl rfl ?_
  refine VO.ma rfl rfl rfl rfl ?_
  refine VO.nil ?_
  refine VC.sr ?_
  refine VO.mv rfl rfl rfl rfl ?_
  refine VO.mv rfl rfl rfl rfl ?_
  refine VO.mv rfl rfl rfl rfl ?_
  refine VO.val rfl rfl (OpV.indexAddr_1 rfl Tryz.underlying55 Tryz.sizeOf40 rfl rfl rfl (by omega)) ?_
  refine VO.val rfl rfl (OpV.load_at rfl hB OutW.no Tryz.isAgg40 rfl rfl) ?_
  refine VO.op rfl (OpE.callF rfl hB rfl hcall rfl rfl (hF q (by omega)) ?_)
  rintro _ rfl
  refine VO.nil ?_
  refine VC.cond rfl (fun aH2b => ?_) (fun aH2b => ?_)
  ·have aH2 := aH2b
   try simp only [qqT, qqF, qqN, qqM, qqL, qqE] at aH2
   refine VC.sr ?_
   refine VO.mv rfl rfl rfl rfl ?_
   refine VO.ma rfl rfl rfl rfl ?_
   refine VO.nil ?_
   refine VC.ret ?_
   exact Exists.intro _ (And.intro (RetN.one Tryz.results214 (ResN.v rfl)) (by first | (rw [fidx_found (d := default) (q := q) (by omega) hn (by assumption)]) | (rw [fidx_none (d := default) (fun j hj => hn j (by omega))])))
  ·have aH2 := aH2b
   try simp only [qqT, qqF, qqN, qqM, qqL, qqE] at aH2
   refine VC.skip ?_
   refine VC.region ?_
   refine VO.val rfl rfl (OpV.add rfl rfl rfl (by unfold fits; omega)) ?_
   refine VO.mv rfl rfl rfl rfl ?_
   refine VO.nil ?_
   exact Exists.intro (⟨q + 1, by omega, lt_succ_cases hn (by assumption)⟩) (And.intro (Le.mk hB [] ⟨rfl, rfl, rfl, rfl, trivial⟩ rfl rfl (Nat.le_refl _)) (by first | omega | (show _ < _; omega) | (simp only []; omega)))
 ·have aH1 := aH1b
  try simp only [qqT, qqF, qqN, qqM, qqL, qqE] at aH1
  refine VC.exit ?_
  refine VC.sr ?_
  refine VO.ma rfl rfl rfl rfl ?_
  refine VO.nil ?_
  refine VC.ret ?_
  exact Exists.intro _ (And.intro (RetN.one Tryz.results214 (ResN.v rfl)) (by first | (rw [fidx_found (d := default) (q := q) (by omega) hn (by assumption)]) | (rw [fidx_none (d := default) (fun j hj => hn j (by omega))])))
set_option maxRecDepth 100000 in
theorem setup_needed1 {l : List ByteArray} {x : ByteArray} (hl : l.length ≤ 1000000000) :
  SpecN Tryz.prog 371 [avStrs l, .at_ 1 (fun _ => avS x)] (fun y => y = avB (has l x)) := by
 refine SpecN.of_VCN Tryz.func371 rfl Tryz.ntmps371 (Nle rfl) fun w A hB => ?_
 have hnew : True := trivial
 refine VC.sr ?_
 refine VO.ma rfl rfl rfl rfl ?_
 refine VO.nil ?_
 refine VC.sr ?_
 refine VO.mv rfl rfl rfl rfl ?_
 refine VO.val rfl rfl (OpV.load_at rfl hB OutW.no Tryz.isAgg9 rfl rfl) ?_
 refine VO.op rfl (OpE.call rfl hB rfl Tryz.call67 rfl (SpecN.spec (slices_Contains_str hl)) ?_)
 rintro _ rfl
 refine VO.ma rfl rfl rfl rfl ?_
 refine VO.nil ?_
 refine VC.ret ?_
 exact Exists.intro _ (And.intro (RetN.one Tryz.results371 (ResN.v rfl)) (rfl))
set_option maxRecDepth 100000 in
theorem setup_needed {x : ByteArray} {later : List (List ByteArray)} (hp : SmSS later) :
  SpecN Tryz.prog 352 [avS x, avM later] (fun y => y = avI (needF x later)) := by
 have hl := hp.1
 refine SpecN.of_VCN Tryz.func352 rfl Tryz.ntmps352 (Nle rfl) fun w A hB => ?_
 have hnew : True := trivial
 refine VC.sr ?_
 refine VO.op rfl (OpE.box rfl hB rfl rfl rfl ?_)
 intro g2
 refine VO.ma rfl rfl rfl rfl ?_
 refine VO.nil ?_
 refine VC.seq ?_
 refine VC.sr ?_
 refine VO.mv rfl rfl rfl rfl ?_
 refine VO.val rfl rfl (OpV.makeFunc1 rfl rfl) ?_
 refine VO.op rfl (OpE.callL rfl hB rfl Tryz.call214 (slices_IndexFunc_LL (p := fun l => has l x) hl Tryz.call371 (fun i hi => (setup_needed1 (hp.2 i).1).spec)) (ArgsP.cons (ArgP.ev rfl) (ArgsP.cons (ArgP.fn1 (i := 0) (m := 1) (f := fun _ => avS x) rfl rfl (Nle rfl) (lt1 rfl)) (ArgsP.nil))) ?_)
 rintro _ rfl
 refine VO.ma rfl rfl rfl rfl ?_
 refine VO.nil ?_
 refine VC.sr ?_
 refine VO.mv rfl rfl rfl rfl ?_
 refine VO.val rfl rfl (OpV.geq rfl rfl rfl) ?_
 refine VO.nil ?_
 refine VC.cond rfl (fun h0b => ?_) (fun h0b => ?_)
 ·have h0 := h0b
  try simp only [qqT, qqF, qqN, qqM, qqL, qqE] at h0
  refine VC.sr ?_
  refine VO.mv rfl rfl rfl rfl ?_
  refine VO.ma rfl rfl rfl rfl ?_
  refine VO.nil ?_
  refine VC.ret ?_
  exact Exists.intro _ (And.intro (RetN.one Tryz.results352 (ResN.v rfl)) (by first | rw [needF, if_pos h0] | rw [needF, if_neg (by omega)]))
 ·have h0 := h0b
  try simp only [qqT, qqF, qqN, qqM, qqL, qqE] at h0
  refine VC.skip ?_
  refine VC.sr ?_
  refine VO.mv rfl rfl rfl rfl ?_
  refine VO.val rfl rfl (OpV.len_im rfl Tryz.underlying55 rfl) ?_
  refine VO.ma rfl rfl rfl rfl ?_
  refine VO.nil ?_
  refine VC.ret ?_
  exact Exists.intro _ (And.intro (RetN.one Tryz.results352 (ResN.v rfl)) (by first | rw [needF, if_pos h0] | rw [needF, if_neg (by omega)]))
set_option maxRecDepth 100000 in
theorem setup_victim {s parts : List ByteArray} {later : List (List ByteArray)} (hs : s.length ≤ 1000000000) (hp : parts.length ≤ 1000000000) (hl : SmSS later) :
  SpecN Tryz.prog 319 [avStrs s, avStrs parts, avM later] (fun y => y = avI (vic s parts later s.length).1) := by
 have hll := hl.1
 refine SpecN.of_VCN Tryz.func319 rfl Tryz.ntmps319 (Nle rfl) fun w A hB => ?_
 have hnew : True := trivial
 refine VC.sr ?_
 refine VO.ma rfl rfl rfl rfl ?_
 refine VO.nil ?_
 refine VC.sr ?_
 refine VO.ma rfl rfl rfl rfl ?_
 refine VO.ma rfl rfl rfl rfl ?_
 refine VO.nil ?_
 refine VC.seq ?_
 refine VC.sr ?_
 refine VO.mv rfl rfl rfl rfl ?_
 refine VO.val rfl rfl (OpV.len_im rfl Tryz.underlying40 rfl) ?_
 refine VO.mv rfl rfl rfl rfl ?_
 refine VO.nil ?_
 refine VC.block ?_
 refine VC.loopK [(0, _), (1, _), (2, _), (12, _), (13, _)] ⟨rfl, rfl, rfl, rfl, rfl, trivial⟩ ({q : Nat // q ≤ s.length}) (fun (iZ : {q : Nat // q ≤ s.length}) => match iZ with | ⟨q, hq⟩ => [(7, avI (vic s parts later q).1), (8, avI (vic s parts later q).2), (14, avI (q : Int))]) (fun (iZ : {q : Nat // q ≤ s.length}) => match iZ with | ⟨q, hq⟩ => []) (fun (iZ : {q : Nat // q ≤ s.length}) => match iZ with | ⟨q, hq⟩ => 0) (fun (iZ : {q : Nat // q ≤ s.length}) => match iZ with | ⟨q, hq⟩ => s.length - q) ⟨0, Nat.zero_le _⟩ (Le.mk hB [] ⟨rfl, rfl, rfl, rfl, rfl, rfl, rfl, rfl, trivial⟩ rfl rfl (Nat.le_refl _)) ?_
 rintro ⟨q, hq⟩
 show VC _ _ _ _ ⟨[(7, avI (vic s parts later q).1), (8, avI (vic s parts later q).2), (14, avI (q : Int))] ++ [(0, _), (1, _), (2, _), (12, _), (13, _)], [], 0⟩
 refine VC.sr ?_
 refine VO.val rfl rfl (OpV.lss rfl rfl rfl) ?_
 refine VO.nil ?_
 refine VC.seq ?_
 refine VC.cond rfl (fun aH1b => ?_) (fun aH1b => ?_)
 ·have aH1 := aH1b
  try simp only [qqT, qqF, qqN, qqM, qqL, qqE] at aH1
  refine VC.skip ?_
  refine VC.seq ?_
  refine VC.block ?_
  refine VC.sr ?_
  refine VO.mv rfl rfl rfl rfl ?_
  refine VO.val rfl rfl (OpV.indexAddr_1 rfl Tryz.underlying40 Tryz.sizeOf9 rfl rfl rfl (by omega)) ?_
  refine VO.val rfl rfl (OpV.load_at rfl hB OutW.no Tryz.isAgg9 rfl rfl) ?_
  refine VO.ma rfl rfl rfl rfl ?_
  refine VO.ma rfl rfl rfl rfl ?_
  refine VO.nil ?_
  refine VC.seq ?_
  refine VC.sr ?_
  refine VO.mv rfl rfl rfl rfl ?_
  refine VO.mv rfl rfl rfl rfl ?_
  refine VO.op rfl (OpE.call rfl hB rfl Tryz.call67 rfl (SpecN.spec (slices_Contains_str hp)) ?_)
  rintro _ rfl
  refine VO.nil ?_
  refine VC.cond rfl (fun h1b => ?_) (fun h1b => ?_)
  ·have h1 := h1b
   try simp only [qqT, qqF, qqN, qqM, qqL, qqE] at h1
   refine VC.exit ?_
   refine VC.region ?_
   refine VO.val rfl rfl (OpV.add rfl rfl rfl (by unfold fits; omega)) ?_
   refine VO.mv rfl rfl rfl rfl ?_
   refine VO.nil ?_
   exact Exists.intro (⟨q + 1, by omega⟩) (And.intro (Le.mk hB [] ⟨(by dsimp only; first | (rw [vic_has h1]; rfl) | (rw [vic_new h1 (.inl (by assumption))]; rfl) | (rw [vic_new h1 (.inr ⟨by assumption, not_true_false h2b⟩)]; rfl) | (rw [vic_old (s := s) (parts := parts) (later := later) (q := q) h1 (by rintro (h8 | ⟨h8, h9⟩); exact absurd h8 (by omega); exact absurd (h9.symm.trans (not_false_true h2b)) Bool.false_ne_true)]; rfl) | (rw [vic_old (s := s) (parts := parts) (later := later) (q := q) h1 (by rintro (h8 | ⟨h8, h9⟩); omega; omega)]; rfl)), (by dsimp only; first | (rw [vic_has h1]; rfl) | (rw [vic_new h1 (.inl (by assumption))]; rfl) | (rw [vic_new h1 (.inr ⟨by assumption, not_true_false h2b⟩)]; rfl) | (rw [vic_old (s := s) (parts := parts) (later := later) (q := q) h1 (by rintro (h8 | ⟨h8, h9⟩); exact absurd h8 (by omega); exact absurd (h9.symm.trans (not_false_true h2b)) Bool.false_ne_true)]; rfl) | (rw [vic_old (s := s) (parts := parts) (later := later) (q := q) h1 (by rintro (h8 | ⟨h8, h9⟩); omega; omega)]; rfl)), rfl, rfl, rfl, rfl, rfl, rfl, trivial⟩ rfl rfl (Nat.le_refl _)) (by first | omega | (show _ < _; omega) | (simp only []; omega)))
  ·have h1 := h1b
   try simp only [qqT, qqF, qqN, qqM, qqL, qqE] at h1
   refine VC.skip ?_
   refine VC.sr ?_
   refine VO.mv rfl rfl rfl rfl ?_
   refine VO.mv rfl rfl rfl rfl ?_
   refine VO.op rfl (OpE.call rfl hB rfl Tryz.call352 rfl (SpecN.spec (setup_needed hl)) ?_)
   rintro _ rfl
   refine VO.ma rfl rfl rfl rfl ?_
   refine VO.nil ?_
   refine VC.sr ?_
   refine VO.mv rfl rfl rfl rfl ?_
   refine VO.mv rfl rfl rfl rfl ?_
   refine VO.val rfl rfl (OpV.gtr rfl rfl rfl) ?_
   refine VO.mv rfl rfl rfl rfl ?_
   refine VO.opG rfl rfl rfl rfl (fun aK2b => ?_) (fun aK2b => ?_)
   ·replace aK2b : _ = false := aK2b
    have aK2 := aK2b
    try simp only [qqT, qqF, qqN, qqM, qqL, qqE] at aK2
    refine OpE.val (W := NoB) (OpV.move (.inl rfl) rfl) rfl ?_
    refine VO.opY rfl rfl rfl rfl aK2b ?_
    refine OpE.val (W := NoB) (OpV.move (.inl rfl) rfl) rfl ?_
    refine VO.opY rfl rfl rfl rfl aK2b ?_
    refine OpE.val (W := NoB) (OpV.eql rfl rfl rfl) rfl ?_
    refine VO.opY rfl rfl rfl rfl aK2b ?_
    refine OpE.val (W := NoB) (OpV.move (.inl rfl) rfl) rfl ?_
    refine VO.opG rfl rfl rfl rfl (fun aK3b => ?_) (fun aK3b => ?_)
    ·replace aK3b : _ = true := aK3b
     have aK3 := aK3b
     try simp only [qqT, qqF, qqN, qqM, qqL, qqE] at aK3
     refine OpE.val (W := NoB) (OpV.move (.inl rfl) rfl) rfl ?_
     refine VO.opY rfl rfl rfl rfl aK3b ?_
     refine OpE.val (W := NoB) (OpV.move (.inl rfl) rfl) rfl ?_
     refine VO.opY rfl rfl rfl rfl aK3b ?_
     refine OpE.val (W := NoB) (OpV.move (.inl rfl) rfl) rfl ?_
     refine VO.opY rfl rfl rfl rfl aK3b ?_
     refine OpE.val (W := NoB) (OpV.indexAddr_1 rfl Tryz.underlying40 Tryz.sizeOf9 rfl rfl (Int.toNat_of_nonneg (vic_tie (by assumption)).1).symm (by have h7 := vic_tie (s := s) (parts := parts) (by assumption); omega)) rfl ?_
     refine VO.opY rfl rfl rfl rfl aK3b ?_
     refine OpE.val (W := NoB) (OpV.load_at rfl hB OutW.no Tryz.isAgg9 rfl rfl) rfl ?_
     refine VO.opY rfl rfl rfl rfl aK3b ?_
     refine OpE.val (W := NoB) (OpV.sgtr rfl rfl rfl) rfl ?_
     refine VO.opY rfl rfl rfl rfl aK2b ?_
     refine OpE.val (W := NoB) (OpV.pickT rfl rfl rfl rfl aK3b) rfl ?_
     refine VO.val rfl rfl (OpV.pickF rfl rfl rfl rfl aK2b) ?_
     refine VO.nil ?_
     refine VC.cond rfl (fun h2b => ?_) (fun h2b => ?_)
     ·have h2 := h2b
      try simp only [qqT, qqF, qqN, qqM, qqL, qqE] at h2
      refine VC.region ?_
      refine VO.mv rfl rfl rfl rfl ?_
      refine VO.mv rfl rfl rfl rfl ?_
      refine VO.ma rfl rfl rfl rfl ?_
      refine VO.ma rfl rfl rfl rfl ?_
      refine VO.nil ?_
      refine VC.region ?_
      refine VO.val rfl rfl (OpV.add rfl rfl rfl (by unfold fits; omega)) ?_
      refine VO.mv rfl rfl rfl rfl ?_
      refine VO.nil ?_
      exact Exists.intro (⟨q + 1, by omega⟩) (And.intro (Le.mk hB [] ⟨(by dsimp only; first | (rw [vic_has h1]; rfl) | (rw [vic_new h1 (.inl (by assumption))]; rfl) | (rw [vic_new h1 (.inr ⟨by assumption, not_true_false h2b⟩)]; rfl) | (rw [vic_old (s := s) (parts := parts) (later := later) (q := q) h1 (by rintro (h8 | ⟨h8, h9⟩); exact absurd h8 (by omega); exact absurd (h9.symm.trans (not_false_true h2b)) Bool.false_ne_true)]; rfl) | (rw [vic_old (s := s) (parts := parts) (later := later) (q := q) h1 (by rintro (h8 | ⟨h8, h9⟩); omega; omega)]; rfl)), (by dsimp only; first | (rw [vic_has h1]; rfl) | (rw [vic_new h1 (.inl (by assumption))]; rfl) | (rw [vic_new h1 (.inr ⟨by assumption, not_true_false h2b⟩)]; rfl) | (rw [vic_old (s := s) (parts := parts) (later := later) (q := q) h1 (by rintro (h8 | ⟨h8, h9⟩); exact absurd h8 (by omega); exact absurd (h9.symm.trans (not_false_true h2b)) Bool.false_ne_true)]; rfl) | (rw [vic_old (s := s) (parts := parts) (later := later) (q := q) h1 (by rintro (h8 | ⟨h8, h9⟩); omega; omega)]; rfl)), rfl, rfl, rfl, rfl, rfl, rfl, trivial⟩ rfl rfl (Nat.le_refl _)) (by first | omega | (show _ < _; omega) | (simp only []; omega)))
     ·have h2 := h2b
      try simp only [qqT, qqF, qqN, qqM, qqL, qqE] at h2
      refine VC.skip ?_
      refine VC.region ?_
      refine VO.val rfl rfl (OpV.add rfl rfl rfl (by unfold fits; omega)) ?_
      refine VO.mv rfl rfl rfl rfl ?_
      refine VO.nil ?_
      exact Exists.intro (⟨q + 1, by omega⟩) (And.intro (Le.mk hB [] ⟨(by dsimp only; first | (rw [vic_has h1]; rfl) | (rw [vic_new h1 (.inl (by assumption))]; rfl) | (rw [vic_new h1 (.inr ⟨by assumption, not_true_false h2b⟩)]; rfl) | (rw [vic_old (s := s) (parts := parts) (later := later) (q := q) h1 (by rintro (h8 | ⟨h8, h9⟩); exact absurd h8 (by omega); exact absurd (h9.symm.trans (not_false_true h2b)) Bool.false_ne_true)]; rfl) | (rw [vic_old (s := s) (parts := parts) (later := later) (q := q) h1 (by rintro (h8 | ⟨h8, h9⟩); omega; omega)]; rfl)), (by dsimp only; first | (rw [vic_has h1]; rfl) | (rw [vic_new h1 (.inl (by assumption))]; rfl) | (rw [vic_new h1 (.inr ⟨by assumption, not_true_false h2b⟩)]; rfl) | (rw [vic_old (s := s) (parts := parts) (later := later) (q := q) h1 (by rintro (h8 | ⟨h8, h9⟩); exact absurd h8 (by omega); exact absurd (h9.symm.trans (not_false_true h2b)) Bool.false_ne_true)]; rfl) | (rw [vic_old (s := s) (parts := parts) (later := later) (q := q) h1 (by rintro (h8 | ⟨h8, h9⟩); omega; omega)]; rfl)), rfl, rfl, rfl, rfl, rfl, rfl, trivial⟩ rfl rfl (Nat.le_refl _)) (by first | omega | (show _ < _; omega) | (simp only []; omega)))
    ·replace aK3b : _ = false := aK3b
     have aK3 := aK3b
     try simp only [qqT, qqF, qqN, qqM, qqL, qqE] at aK3
     refine VO.opX rfl rfl rfl rfl aK3b ?_
     refine VO.opX rfl rfl rfl rfl aK3b ?_
     refine VO.opX rfl rfl rfl rfl aK3b ?_
     refine VO.opX rfl rfl rfl rfl aK3b ?_
     refine VO.opX rfl rfl rfl rfl aK3b ?_
     refine VO.opY rfl rfl rfl rfl aK2b ?_
     refine OpE.val (W := NoB) (OpV.pickF rfl rfl rfl rfl aK3b) rfl ?_
     refine VO.val rfl rfl (OpV.pickF rfl rfl rfl rfl aK2b) ?_
     refine VO.nil ?_
     refine VC.condF rfl rfl ?_
     refine VC.skip ?_
     refine VC.region ?_
     refine VO.val rfl rfl (OpV.add rfl rfl rfl (by unfold fits; omega)) ?_
     refine VO.mv rfl rfl rfl rfl ?_
     refine VO.nil ?_
     exact Exists.intro (⟨q + 1, by omega⟩) (And.intro (Le.mk hB [] ⟨(by dsimp only; first | (rw [vic_has h1]; rfl) | (rw [vic_new h1 (.inl (by assumption))]; rfl) | (rw [vic_new h1 (.inr ⟨by assumption, not_true_false h2b⟩)]; rfl) | (rw [vic_old (s := s) (parts := parts) (later := later) (q := q) h1 (by rintro (h8 | ⟨h8, h9⟩); exact absurd h8 (by omega); exact absurd (h9.symm.trans (not_false_true h2b)) Bool.false_ne_true)]; rfl) | (rw [vic_old (s := s) (parts := parts) (later := later) (q := q) h1 (by rintro (h8 | ⟨h8, h9⟩); omega; omega)]; rfl)), (by dsimp only; first | (rw [vic_has h1]; rfl) | (rw [vic_new h1 (.inl (by assumption))]; rfl) | (rw [vic_new h1 (.inr ⟨by assumption, not_true_false h2b⟩)]; rfl) | (rw [vic_old (s := s) (parts := parts) (later := later) (q := q) h1 (by rintro (h8 | ⟨h8, h9⟩); exact absurd h8 (by omega); exact absurd (h9.symm.trans (not_false_true h2b)) Bool.false_ne_true)]; rfl) | (rw [vic_old (s := s) (parts := parts) (later := later) (q := q) h1 (by rintro (h8 | ⟨h8, h9⟩); omega; omega)]; rfl)), rfl, rfl, rfl, rfl, rfl, rfl, trivial⟩ rfl rfl (Nat.le_refl _)) (by first | omega | (show _ < _; omega) | (simp only []; omega)))
   ·replace aK2b : _ = true := aK2b
    have aK2 := aK2b
    try simp only [qqT, qqF, qqN, qqM, qqL, qqE] at aK2
    refine VO.opX rfl rfl rfl rfl aK2b ?_
    refine VO.opX rfl rfl rfl rfl aK2b ?_
    refine VO.opX rfl rfl rfl rfl aK2b ?_
    refine VO.opU rfl rfl rfl rfl ?_
    refine VO.opU rfl rfl rfl rfl ?_
    refine VO.opU rfl rfl rfl rfl ?_
    refine VO.opU rfl rfl rfl rfl ?_
    refine VO.opU rfl rfl rfl rfl ?_
    refine VO.opU rfl rfl rfl rfl ?_
    refine VO.opX rfl rfl rfl rfl aK2b ?_
    refine VO.val rfl rfl (OpV.pickT rfl rfl rfl rfl aK2b) ?_
    refine VO.nil ?_
    refine VC.condT rfl rfl ?_
    refine VC.region ?_
    refine VO.mv rfl rfl rfl rfl ?_
    refine VO.mv rfl rfl rfl rfl ?_
    refine VO.ma rfl rfl rfl rfl ?_
    refine VO.ma rfl rfl rfl rfl ?_
    refine VO.nil ?_
    refine VC.region ?_
    refine VO.val rfl rfl (OpV.add rfl rfl rfl (by unfold fits; omega)) ?_
    refine VO.mv rfl rfl rfl rfl ?_
    refine VO.nil ?_
    exact Exists.intro (⟨q + 1, by omega⟩) (And.intro (Le.mk hB [] ⟨(by dsimp only; first | (rw [vic_has h1]; rfl) | (rw [vic_new h1 (.inl (by assumption))]; rfl) | (rw [vic_new h1 (.inr ⟨by assumption, not_true_false h2b⟩)]; rfl) | (rw [vic_old (s := s) (parts := parts) (later := later) (q := q) h1 (by rintro (h8 | ⟨h8, h9⟩); exact absurd h8 (by omega); exact absurd (h9.symm.trans (not_false_true h2b)) Bool.false_ne_true)]; rfl) | (rw [vic_old (s := s) (parts := parts) (later := later) (q := q) h1 (by rintro (h8 | ⟨h8, h9⟩); omega; omega)]; rfl)), (by dsimp only; first | (rw [vic_has h1]; rfl) | (rw [vic_new h1 (.inl (by assumption))]; rfl) | (rw [vic_new h1 (.inr ⟨by assumption, not_true_false h2b⟩)]; rfl) | (rw [vic_old (s := s) (parts := parts) (later := later) (q := q) h1 (by rintro (h8 | ⟨h8, h9⟩); exact absurd h8 (by omega); exact absurd (h9.symm.trans (not_false_true h2b)) Bool.false_ne_true)]; rfl) | (rw [vic_old (s := s) (parts := parts) (later := later) (q := q) h1 (by rintro (h8 | ⟨h8, h9⟩); omega; omega)]; rfl)), rfl, rfl, rfl, rfl, rfl, rfl, trivial⟩ rfl rfl (Nat.le_refl _)) (by first | omega | (show _ < _; omega) | (simp only []; omega)))
 ·have aH1 := aH1b
  try simp only [qqT, qqF, qqN, qqM, qqL, qqE] at aH1
  refine VC.exit ?_
  refine VC.sr ?_
  refine VO.mv rfl rfl rfl rfl ?_
  refine VO.ma rfl rfl rfl rfl ?_
  refine VO.nil ?_
  refine VC.ret ?_
  exact Exists.intro _ (And.intro (RetN.one Tryz.results319 (ResN.v rfl)) (by rw [show q = s.length by omega]))
end Go.Proofs.YtemnnmohdpabhaaGreatDoor
namespace Go.Proofs.YtemnnmohdpabhaaGreatDoor
open Go.RowKit
set_option linter.unusedVariables false
set_option linter.unusedSimpArgs false
set_option maxRecDepth 100000 in
theorem setup_next {s parts : List ByteArray} {later : List (List ByteArray)} {u : Value} (hg : Good' s) (hp : RightP s.length parts) (hl : SmSS later) :
  SpecH Tryz.prog 262 [.v u, avStrs parts, avM later] [.row u s.length 1 (strsL s) 9] (fun y hp' => y = avI (missF s parts).length ∧ hp' = [.row u s.length 1 (strsL (nextF s parts later)) 9]) := by
 have hls := hg.len
 have hlp := hp.len
 have hps := hp.sms (by omega)
 have hml := missF_len s parts
 have hf := hp.fits hg.once
 have hnd := missF_nodup (s := s) hf.pnd
 have hns : ∀ x ∈ missF s parts, x ∉ s := fun x hx => (missF_mem.1 hx).2
 refine SpecH.of_VC Tryz.func262 rfl Tryz.ntmps262 (Nle rfl) fun w A hB => ?_
 have hnew : True := trivial
 refine VC.sr ?_
 refine VO.ma rfl rfl rfl rfl ?_
 refine VO.nil ?_
 refine VC.sr ?_
 refine VO.mv rfl rfl rfl rfl ?_
 refine VO.mv rfl rfl rfl rfl ?_
 refine VO.op rfl (OpE.callL rfl hB rfl Tryz.call182 (setup_missing_N hg.sms hps) (ArgsP.cons (ArgP.rowS (i := 0) rfl rfl rfl) (ArgsP.cons (ArgP.ev rfl) (ArgsP.nil))) ?_)
 rintro _ rfl
 refine VO.ma rfl rfl rfl rfl ?_
 refine VO.nil ?_
 refine VC.seq ?_
 refine VC.sr ?_
 refine VO.mv rfl rfl rfl rfl ?_
 refine VO.val rfl rfl (OpV.len_im rfl Tryz.underlying40 rfl) ?_
 refine VO.mv rfl rfl rfl rfl ?_
 refine VO.nil ?_
 refine VC.block ?_
 refine VC.loopK [(0, _), (1, _), (2, _), (7, _), (14, _), (15, _)] ⟨rfl, rfl, rfl, rfl, rfl, rfl, trivial⟩ ({q : Nat // q ≤ (missF s parts).length}) (fun (iZ : {q : Nat // q ≤ (missF s parts).length}) => match iZ with | ⟨q, hq⟩ => [(16, avI (q : Int))]) (fun (iZ : {q : Nat // q ≤ (missF s parts).length}) => match iZ with | ⟨q, hq⟩ => [.row u s.length 1 (strsL (nextL parts later s ((missF s parts).take q))) 9]) (fun (iZ : {q : Nat // q ≤ (missF s parts).length}) => match iZ with | ⟨q, hq⟩ => 0) (fun (iZ : {q : Nat // q ≤ (missF s parts).length}) => match iZ with | ⟨q, hq⟩ => (missF s parts).length - q) ⟨0, Nat.zero_le _⟩ (Le.mk hB [0] ⟨rfl, rfl, rfl, rfl, rfl, rfl, rfl, trivial⟩ rfl rfl (Nat.le_refl _)) ?_
 rintro ⟨q, hq⟩
 show VC _ _ _ _ ⟨[(16, avI (q : Int))] ++ [(0, _), (1, _), (2, _), (7, _), (14, _), (15, _)], [.row u s.length 1 (strsL (nextL parts later s ((missF s parts).take q))) 9], 0⟩
 refine VC.sr ?_
 refine VO.val rfl rfl (OpV.lss rfl rfl rfl) ?_
 refine VO.nil ?_
 refine VC.seq ?_
 refine VC.cond rfl (fun aH1b => ?_) (fun aH1b => ?_)
 ·have aH1 := aH1b
  try simp only [qqT, qqF, qqN, qqM, qqL, qqE] at aH1
  have hq' : q < (missF s parts).length := by omega
  have hcur := hg.next hp later q (by omega)
  have hcl : (nextL parts later s ((missF s parts).take q)).length = s.length := nextL_len _ _ _ _
  have hx := nextL_not (parts := parts) (later := later) hnd hns hq'
  have hxp : (missF s parts).getD q ByteArray.empty ∈ parts := (missF_mem.1 (by simp [hq'] : (missF s parts).getD q ByteArray.empty ∈ missF s parts)).1
  obtain ⟨k1, k2, k3⟩ := slotF_in (later := later) (nextL_fits (later := later) hf hnd hns q (by omega)) hxp hx
  rw [hcl] at k2
  refine VC.asBox (i := 0) rfl (by omega) (fun g cap hu hcap hmx => ?_)
  subst hu
  refine VC.skip ?_
  refine VC.seq ?_
  refine VC.block ?_
  refine VC.sr ?_
  refine VO.val rfl rfl (OpV.indexAddr_1 rfl Tryz.underlying40 Tryz.sizeOf9 rfl rfl rfl (by omega)) ?_
  refine VO.val rfl rfl (OpV.load_at rfl hB OutW.no Tryz.isAgg9 rfl rfl) ?_
  refine VO.ma rfl rfl rfl rfl ?_
  refine VO.nil ?_
  refine VC.sr ?_
  refine VO.mv rfl rfl rfl rfl ?_
  refine VO.op rfl (OpE.callL rfl hB rfl Tryz.call164 (slices_Index_str (by rw [hcl]; omega)) (ArgsP.cons (ArgP.boxS (i := 0) rfl rfl hcl.symm hcap hmx) (ArgsP.cons (ArgP.ev rfl) (ArgsP.nil))) ?_)
  rintro _ rfl
  refine VO.ma rfl rfl rfl rfl ?_
  refine VO.nil ?_
  refine VC.seq ?_
  refine VC.sr ?_
  refine VO.mv rfl rfl rfl rfl ?_
  refine VO.val rfl rfl (OpV.lss rfl rfl rfl) ?_
  refine VO.nil ?_
  refine VC.cond rfl (fun h1b => ?_) (fun h1b => ?_)
  ·have h1 := h1b
   try simp only [qqT, qqF, qqN, qqM, qqL, qqE] at h1
   have hsl := slotF_of_neg (parts := parts) (later := later) h1
   rw [hsl] at k1 k2 k3
   refine VC.region ?_
   refine VO.mv rfl rfl rfl rfl ?_
   refine VO.mv rfl rfl rfl rfl ?_
   refine VO.mv rfl rfl rfl rfl ?_
   refine VO.op rfl (OpE.callL rfl hB rfl Tryz.call319 (setup_victim (by rw [hcl]; omega) hps.1 hl) (ArgsP.cons (ArgP.boxS (i := 0) rfl rfl hcl.symm hcap hmx) (ArgsP.cons (ArgP.ev rfl) (ArgsP.cons (ArgP.ev rfl) (ArgsP.nil)))) ?_)
   rintro _ rfl
   refine VO.ma rfl rfl rfl rfl ?_
   refine VO.nil ?_
   refine VC.region ?_
   refine VO.mv rfl rfl rfl rfl ?_
   refine VO.mv rfl rfl rfl rfl ?_
   refine VO.mv rfl rfl rfl rfl ?_
   refine VO.val rfl rfl (OpV.indexAddr_o rfl Tryz.underlying40 Tryz.sizeOf9 rfl rfl (Int.toNat_of_nonneg k1).symm (by omega)) ?_
   refine VO.op rfl (OpE.store1 (i := 0) rfl hB rfl Tryz.sizeOf9 rfl rfl rfl rfl rfl rfl (by rw [strsL_len]; omega) (strsL_set _ _ _) trivial ?_)
   refine VO.nil ?_
   refine VC.le _ (Le.boxRow (i := 0) (n := s.length) (sz := 1) (cap := cap) rfl (by rw [strsL_len, List.length_set]; omega) hcap hmx) ?_
   have e1 := nextL_take_succ (parts := parts) (later := later) (s := s) hq'
   rw [hsl] at e1
   refine VC.region ?_
   refine VO.val rfl rfl (OpV.add rfl rfl rfl (by unfold fits; omega)) ?_
   refine VO.mv rfl rfl rfl rfl ?_
   refine VO.nil ?_
   exact Exists.intro (⟨q + 1, by omega⟩) (And.intro (Le.mk hB [0] ⟨rfl, rfl, rfl, rfl, rfl, rfl, rfl, trivial⟩ rfl (by dsimp only; rw [e1]; first | rfl | (rw [hcl]; rfl)) (Nat.le_refl _)) (by first | omega | (show _ < _; omega) | (simp only []; omega)))
  ·have h1 := h1b
   try simp only [qqT, qqF, qqN, qqM, qqL, qqE] at h1
   have hsl := slotF_of_pos (parts := parts) (later := later) h1
   rw [hsl] at k1 k2 k3
   refine VC.skip ?_
   refine VC.region ?_
   refine VO.mv rfl rfl rfl rfl ?_
   refine VO.mv rfl rfl rfl rfl ?_
   refine VO.mv rfl rfl rfl rfl ?_
   refine VO.val rfl rfl (OpV.indexAddr_o rfl Tryz.underlying40 Tryz.sizeOf9 rfl rfl (Int.toNat_of_nonneg k1).symm (by omega)) ?_
   refine VO.op rfl (OpE.store1 (i := 0) rfl hB rfl Tryz.sizeOf9 rfl rfl rfl rfl rfl rfl (by rw [strsL_len]; omega) (strsL_set _ _ _) trivial ?_)
   refine VO.nil ?_
   refine VC.le _ (Le.boxRow (i := 0) (n := s.length) (sz := 1) (cap := cap) rfl (by rw [strsL_len, List.length_set]; omega) hcap hmx) ?_
   have e1 := nextL_take_succ (parts := parts) (later := later) (s := s) hq'
   rw [hsl] at e1
   refine VC.region ?_
   refine VO.val rfl rfl (OpV.add rfl rfl rfl (by unfold fits; omega)) ?_
   refine VO.mv rfl rfl rfl rfl ?_
   refine VO.nil ?_
   exact Exists.intro (⟨q + 1, by omega⟩) (And.intro (Le.mk hB [0] ⟨rfl, rfl, rfl, rfl, rfl, rfl, rfl, trivial⟩ rfl (by dsimp only; rw [e1]; first | rfl | (rw [hcl]; rfl)) (Nat.le_refl _)) (by first | omega | (show _ < _; omega) | (simp only []; omega)))
 ·have aH1 := aH1b
  try simp only [qqT, qqF, qqN, qqM, qqL, qqE] at aH1
  obtain rfl : q = (missF s parts).length := by omega
  refine VC.exit ?_
  refine VC.sr ?_
  refine VO.mv rfl rfl rfl rfl ?_
  refine VO.val rfl rfl (OpV.len_im rfl Tryz.underlying40 rfl) ?_
  refine VO.ma rfl rfl rfl rfl ?_
  refine VO.nil ?_
  refine VC.ret ?_
  exact Exists.intro _ (And.intro (RetV.one Tryz.results262 (ResV.tmp rfl)) (⟨rfl, by rw [nextF, List.take_length]; rfl⟩))
theorem SmSS.drop {p : List (List ByteArray)} (h : SmSS p) (k : Nat) : SmSS (p.drop k) := ⟨by have := h.1; simp; omega, fun i => by
 have : (p.drop k).getD i default = p.getD (k + i) default := by simp [List.getD_eq_getElem?_getD]
 rw [this]; exact h.2 _⟩
theorem SmSS.take {p : List (List ByteArray)} (h : SmSS p) (k : Nat) : SmSS (p.take k) := ⟨by have := h.1; simp; omega, fun i => by
 by_cases hi : i < k
 ·have : (p.take k).getD i default = p.getD i default := by simp [List.getD_eq_getElem?_getD, List.getElem?_take, hi]
  rw [this]; exact h.2 _
 ·have : (p.take k).getD i default = default := by simp [List.getD_eq_getElem?_getD, List.getElem?_take, hi]
  rw [this]; exact SmS.nil⟩
set_option maxRecDepth 100000 in
theorem setup_total {s : List ByteArray} {p : List (List ByteArray)} {most : Int} (hg : Good' s) (hp : ∀ q, q < p.length → RightP s.length (p.getD q default)) (hl : SmSS p) (hl2 : p.length ≤ 200) (hmost : -1000000 ≤ most ∧ most ≤ 1000000) :
  SpecN Tryz.prog 186 [avStrs s, avM p, avI most] (fun y => y = avI (totalF s p most)) := by
 have hls := hg.len
 refine SpecN.of_VCN Tryz.func186 rfl Tryz.ntmps186 (Nle rfl) fun w A hB => ?_
 have hnew : True := trivial
 refine VC.sr ?_
 refine VO.ma rfl rfl rfl rfl ?_
 refine VO.nil ?_
 refine VC.sr ?_
 refine VO.mv rfl rfl rfl rfl ?_
 refine VO.op rfl (OpE.callR rfl hB rfl Tryz.call96 (slices_CloneS_R (by omega)) (ArgsP.cons (ArgP.ev rfl) (ArgsP.nil)) ?_)
 intro u
 refine VO.ma rfl rfl rfl rfl ?_
 refine VO.nil ?_
 refine VC.sr ?_
 refine VO.ma rfl rfl rfl rfl ?_
 refine VO.nil ?_
 refine VC.seq ?_
 refine VC.sr ?_
 refine VO.mv rfl rfl rfl rfl ?_
 refine VO.val rfl rfl (OpV.len_im rfl Tryz.underlying55 rfl) ?_
 refine VO.mv rfl rfl rfl rfl ?_
 refine VO.nil ?_
 refine VC.block ?_
 refine VC.loopK [(0, _), (1, _), (2, _), (12, _), (13, _)] ⟨rfl, rfl, rfl, rfl, rfl, trivial⟩ ({q : Nat // q ≤ p.length ∧ (q = 0 ∨ totF s p q < most)}) (fun (iZ : {q : Nat // q ≤ p.length ∧ (q = 0 ∨ totF s p q < most)}) => match iZ with | ⟨q, hq, hlt⟩ => [(7, avI (totF s p q)), (14, avI (q : Int))]) (fun (iZ : {q : Nat // q ≤ p.length ∧ (q = 0 ∨ totF s p q < most)}) => match iZ with | ⟨q, hq, hlt⟩ => [.row u (stF s p q).length 1 (strsL (stF s p q)) 9]) (fun (iZ : {q : Nat // q ≤ p.length ∧ (q = 0 ∨ totF s p q < most)}) => match iZ with | ⟨q, hq, hlt⟩ => 0) (fun (iZ : {q : Nat // q ≤ p.length ∧ (q = 0 ∨ totF s p q < most)}) => match iZ with | ⟨q, hq, hlt⟩ => p.length - q) ⟨0, Nat.zero_le _, .inl rfl⟩ (Le.mk hB [0] ⟨rfl, rfl, rfl, rfl, rfl, rfl, rfl, trivial⟩ rfl rfl (Nat.le_refl _)) ?_
 rintro ⟨q, hq, hlt⟩
 show VC _ _ _ _ ⟨[(7, avI (totF s p q)), (14, avI (q : Int))] ++ [(0, _), (1, _), (2, _), (12, _), (13, _)], [.row u (stF s p q).length 1 (strsL (stF s p q)) 9], 0⟩
 refine VC.sr ?_
 refine VO.val rfl rfl (OpV.lss rfl rfl rfl) ?_
 refine VO.nil ?_
 refine VC.seq ?_
 refine VC.cond rfl (fun aH1b => ?_) (fun aH1b => ?_)
 ·have aH1 := aH1b
  try simp only [qqT, qqF, qqN, qqM, qqL, qqE] at aH1
  have hst := stF_good hg hp q (by omega)
  have hsl := stF_len s p q
  have hti := totF_in hls hp q (by omega)
  have hms := missF_len (stF s p q) (p.getD q default)
  have hpl := (hp q (by omega)).len
  refine VC.skip ?_
  refine VC.seq ?_
  refine VC.block ?_
  refine VC.sr ?_
  refine VO.mv rfl rfl rfl rfl ?_
  refine VO.val rfl rfl (OpV.indexAddr_1 rfl Tryz.underlying55 Tryz.sizeOf40 rfl rfl rfl (by omega)) ?_
  refine VO.val rfl rfl (OpV.load_at rfl hB OutW.no Tryz.isAgg40 rfl rfl) ?_
  refine VO.ma rfl rfl rfl rfl ?_
  refine VO.ma rfl rfl rfl rfl ?_
  refine VO.nil ?_
  refine VC.sr ?_
  refine VO.mv rfl rfl rfl rfl ?_
  refine VO.mv rfl rfl rfl rfl ?_
  refine VO.mv rfl rfl rfl rfl ?_
  refine VO.mv rfl rfl rfl rfl ?_
  refine VO.mv rfl rfl rfl rfl ?_
  refine VO.val rfl rfl (OpV.add rfl rfl rfl (by unfold fits; omega)) ?_
  refine VO.val rfl rfl (OpV.slice_M (l := q + 1) rfl Tryz.underlying55 Tryz.sizeOf40 rfl ⟨_, _, rfl, (by omega)⟩ rfl (by omega) (by omega)) ?_
  refine VO.op rfl (OpE.callH0 rfl hB rfl Tryz.call262 rfl rfl (setup_next hst (by rw [hsl]; exact hp q (by omega)) ((hl.take _).drop _)) (List.Perm.refl _) (fun _ _ => trivial) ?_)
  rintro _ _ ⟨rfl, rfl⟩
  refine VO.val rfl rfl (OpV.add rfl rfl rfl (by unfold fits; omega)) ?_
  refine VO.ma rfl rfl rfl rfl ?_
  refine VO.nil ?_
  refine VC.sr ?_
  refine VO.mv rfl rfl rfl rfl ?_
  refine VO.mv rfl rfl rfl rfl ?_
  refine VO.val rfl rfl (OpV.geq rfl rfl rfl) ?_
  refine VO.nil ?_
  refine VC.cond rfl (fun h1b => ?_) (fun h1b => ?_)
  ·have h1 := h1b
   try simp only [qqT, qqF, qqN, qqM, qqL, qqE] at h1
   have hmono := totF_mono (s := s) (p := p) (a := q + 1) (b := p.length) (by omega)
   have h1' : most ≤ totF s p (q + 1) := h1
   refine VC.sr ?_
   refine VO.mv rfl rfl rfl rfl ?_
   refine VO.ma rfl rfl rfl rfl ?_
   refine VO.nil ?_
   refine VC.ret ?_
   exact Exists.intro _ (And.intro (RetN.one Tryz.results186 (ResN.v rfl)) (by rw [totalF, if_neg (by omega), if_pos (by omega)]))
  ·have h1 := h1b
   try simp only [qqT, qqF, qqN, qqM, qqL, qqE] at h1
   refine VC.skip ?_
   refine VC.region ?_
   refine VO.val rfl rfl (OpV.add rfl rfl rfl (by unfold fits; omega)) ?_
   refine VO.mv rfl rfl rfl rfl ?_
   refine VO.nil ?_
   exact Exists.intro (⟨q + 1, by omega, .inr h1⟩) (And.intro (Le.mk hB [0] ⟨rfl, rfl, rfl, rfl, rfl, rfl, rfl, trivial⟩ rfl (by dsimp only; rw [List.take_length, show (stF s p (q + 1)).length = (stF s p q).length by rw [stF_len, stF_len]]; rfl) (Nat.le_refl _)) (by first | omega | (show _ < _; omega) | (simp only []; omega)))
 ·have aH1 := aH1b
  try simp only [qqT, qqF, qqN, qqM, qqL, qqE] at aH1
  obtain rfl : q = p.length := by omega
  refine VC.exit ?_
  refine VC.sr ?_
  refine VO.mv rfl rfl rfl rfl ?_
  refine VO.ma rfl rfl rfl rfl ?_
  refine VO.nil ?_
  refine VC.ret ?_
  exact Exists.intro _ (And.intro (RetN.one Tryz.results186 (ResN.v rfl)) (by rw [totalF]; split; (rw [show p.length = 0 by assumption]; rfl); rw [if_neg (by omega)]))
def totE (s : List ByteArray) (p : List (List ByteArray)) : Int := if setsF s p = 0 then totF s p p.length else 0
theorem setsF_zero {s : List ByteArray} {p : List (List ByteArray)} (h : setsF s p = 0) : setupF s = 0 ∧ Good' s ∧ p.length ≤ 200 ∧ (∀ q, q < p.length → RightP s.length (p.getD q default)) ∧ partsF s.length p = 0 := by
 rw [setsF] at h
 split at h
 ·rename_i h1; exact absurd h h1
 ·rename_i h1
  have h0 : setupF s = 0 := by omega
  exact ⟨h0, Good'.of h0, (partsF_zero h).2.1, fun q hq => RightP.of rfl h hq, h⟩
theorem totalF_big {s : List ByteArray} {p : List (List ByteArray)} (hs : s.length ≤ 100) (hl : p.length ≤ 200) (hp : ∀ q, q < p.length → RightP s.length (p.getD q default)) : totalF s p 20001 = totF s p p.length := by
 have := totF_in hs hp p.length (Nat.le_refl _)
 rw [totalF]
 split
 ·rename_i h; rw [h]; rfl
 ·rw [if_neg (by omega)]
set_option maxRecDepth 100000 in
theorem setup_Total {s : List ByteArray} {p : List (List ByteArray)} (hs : SmS s) (hl : SmSS p) :
  SpecN Tryz.prog 100 [avStrs s, avM p] (fun y => y = .tup [avI (totE s p), avI (setsF s p)]) := by
 refine SpecN.of_VCN Tryz.func100 rfl Tryz.ntmps100 (Nle rfl) fun w A hB => ?_
 have hnew : True := trivial
 refine VC.sr ?_
 refine VO.ma rfl rfl rfl rfl ?_
 refine VO.ma rfl rfl rfl rfl ?_
 refine VO.nil ?_
 refine VC.seq ?_
 refine VC.sr ?_
 refine VO.mv rfl rfl rfl rfl ?_
 refine VO.mv rfl rfl rfl rfl ?_
 refine VO.op rfl (OpE.call rfl hB rfl Tryz.call185 rfl (SpecN.spec (setup_fault hs hl)) ?_)
 rintro _ rfl
 refine VO.ma rfl rfl rfl rfl ?_
 refine VO.nil ?_
 refine VC.sr ?_
 refine VO.mv rfl rfl rfl rfl ?_
 refine VO.val rfl rfl (OpV.neq rfl rfl rfl) ?_
 refine VO.nil ?_
 refine VC.cond rfl (fun h0b => ?_) (fun h0b => ?_)
 ·have h0 := h0b
  try simp only [qqT, qqF, qqN, qqM, qqL, qqE] at h0
  refine VC.sr ?_
  refine VO.mv rfl rfl rfl rfl ?_
  refine VO.ma rfl rfl rfl rfl ?_
  refine VO.ma rfl rfl rfl rfl ?_
  refine VO.nil ?_
  refine VC.ret ?_
  exact Exists.intro _ (And.intro (RetN.two Tryz.results100 (ResN.v rfl) (ResN.v rfl)) (by rw [totE, if_neg h0]))
 ·have h0 := h0b
  try simp only [qqT, qqF, qqN, qqM, qqL, qqE] at h0
  obtain ⟨z1, z2, z3, z4, z5⟩ := setsF_zero (s := s) (p := p) (by omega)
  refine VC.skip ?_
  refine VC.sr ?_
  refine VO.mv rfl rfl rfl rfl ?_
  refine VO.mv rfl rfl rfl rfl ?_
  refine VO.op rfl (OpE.call rfl hB rfl Tryz.call186 rfl (SpecN.spec (setup_total z2 z4 hl z3 (by decide))) ?_)
  rintro _ rfl
  refine VO.ma rfl rfl rfl rfl ?_
  refine VO.ma rfl rfl rfl rfl ?_
  refine VO.nil ?_
  refine VC.ret ?_
  exact Exists.intro _ (And.intro (RetN.two Tryz.results100 (ResN.v rfl) (ResN.v rfl)) (by rw [totE, if_pos (by omega), totalF_big z2.len z3 z4, show setsF s p = 0 by omega]))
end Go.Proofs.YtemnnmohdpabhaaGreatDoor
namespace Go.Proofs.YtemnnmohdpabhaaGreatDoor
open Go.RowKit
set_option linter.unusedVariables false
set_option linter.unusedSimpArgs false
def loadS : List ByteArray := [ε]
def loadP : List (List ByteArray) := [[⟨#[97]⟩], [⟨#[98]⟩]]
theorem load_sms : SmS loadS := ⟨by decide, fun i => by cases i with | zero => decide | succ i => simp [loadS]⟩
theorem load_smss : SmSS loadP := ⟨by decide, fun i => by
 match i with
 | 0 => exact ⟨by decide, fun i => by cases i with | zero => decide | succ i => simp [loadP]⟩
 | 1 => exact ⟨by decide, fun i => by cases i with | zero => decide | succ i => simp [loadP]⟩
 | i + 2 => exact SmS.nil⟩
theorem load_ok : setsF loadS loadP = 0 := by decide +kernel
theorem load_two : totE loadS loadP = 2 := by decide +kernel
end Go.Proofs.YtemnnmohdpabhaaGreatDoor
namespace Go.Proofs.YtemnnmohdpabhaaGreatDoor
open Go.RowKit
set_option linter.unusedVariables false
set_option linter.unusedSimpArgs false

section
variable {P : Program} {α : Type} [Enc α]

theorem append1_run (w : World) (c1 : Array Value) (T ty e : TypeId) (i : TypeInfo) (z : Value) (bytes : Nat) (h1 : P.underlying T = some (.slice e)) (h2 : P.info? e = some i)
    (h3 : i.zero = some z) (h4 : i.size = Enc.sz α) (h5 : i.bytes = bytes) (hz : z.cells.size = Enc.sz α) (hby : bytes ≤ 4096)
    (lo : Nat) (v : Value) (xs : List α) (y : α) (hown : Own w lo e v xs) (hlo : lo ≤ w.heap.size) (hlen : xs.length ≤ 1000000000)
    (hy : Enc.Is w (fun k => lo ≤ k ∧ v.ownBlock ≠ some k) y (fun j => c1[j]?)) (hc1 : c1.size = Enc.sz α) :
    ∃ g cap w', (Builtin.append_ #[T, T] ty #[v, .slice (some ⟨w.heap.size, 0, none⟩) 1 1]).run P (w.alloc (.cells c1 e)) = .ok (.slice (some ⟨g, 0, none⟩) (xs.length + 1) cap) w' ∧
      Own w' lo e (.slice (some ⟨g, 0, none⟩) (xs.length + 1) cap) (xs ++ [y]) ∧ Chg (blk v) w w' ∧ (v.ownBlock = some g ∨ w.heap.size ≤ g) ∧ lo ≤ g := by
  obtain ⟨cs, hrow, hel⟩ := hown
  have hsz : 0 < Enc.sz α := Enc.pos
  have hnews : ∀ j u, c1.toList[j]? = some u → (w.alloc (.cells c1 e)).cell? ((⟨w.heap.size, 0, none⟩ : Addr).add j) = some u := by
    intro j u hu
    have hadd : (⟨w.heap.size, 0, none⟩ : Addr).add j = ⟨w.heap.size, j, none⟩ := by unfold Addr.add; split <;> simp_all
    rw [hadd, cell_of_row _ w.heap.size j c1 e (0, 0) (heap_alloc_new w _)]
    simpa using hu
  have hone : ∀ u ∈ c1.toList, u.oneCell' = true := by
    intro u hu
    obtain ⟨j, hj, rfl⟩ := List.mem_iff_getElem.1 hu
    obtain ⟨u', h', h''⟩ := Enc.one hy j (by simpa [hc1] using hj)
    simp at hj
    simp [hj] at h'
    simpa [h'] using h''
  have hl1 : c1.toList.length = 1 * i.size := by simp [hc1, h4]
  have hlen' : (cs ++ c1.toList).length = (xs.length + 1) * Enc.sz α := by rw [List.length_append, hrow.1, Nat.add_mul]; simp [hc1]
  have hl2 : (xs ++ [y]).length = xs.length + 1 := by simp
  have hmx : xs.length + 1 ≤ maxLen := by simp only [maxLen]; omega
  have hb47 : (xs.length + 1) * i.bytes ≤ 140737488355328 := by
    rw [h5]
    exact Nat.le_trans (Nat.mul_le_mul_left _ hby) (by omega)
  -- the elements behind the step, whatever block they end in
  have helem : ∀ (w' : World) (g cap : Nat), Chg (blk v) w w' → (v.ownBlock = some g ∨ w.heap.size ≤ g) →
      ∀ j, (h : j < (xs ++ [y]).length) → Enc.Is w' (fun k => lo ≤ k ∧ (Value.slice (some ⟨g, 0, none⟩) (xs.length + 1) cap).ownBlock ≠ some k) (xs ++ [y])[j] (fun q => (cs ++ c1.toList)[j * Enc.sz α + q]?) := by
    intro w' g cap hch hg j hj
    have hA : ∀ k, ((lo ≤ k ∧ v.ownBlock ≠ some k) ∧ k < w.heap.size) → (lo ≤ k ∧ (Value.slice (some ⟨g, 0, none⟩) (xs.length + 1) cap).ownBlock ≠ some k) := by
      intro k hk
      refine ⟨hk.1.1, ?_⟩
      simp only [Value.ownBlock, ne_eq, Option.some.injEq]
      rintro rfl
      rcases hg with hg | hg
      · exact hk.1.2 hg
      · omega
    have hgo : ∀ (x : α) (f : Nat → Option Value), Enc.Is w (fun k => lo ≤ k ∧ v.ownBlock ≠ some k) x f →
        Enc.Is w' (fun k => lo ≤ k ∧ (Value.slice (some ⟨g, 0, none⟩) (xs.length + 1) cap).ownBlock ≠ some k) x f := by
      intro x f hx
      exact Enc.low (Enc.keep (Enc.low (A' := fun k => (lo ≤ k ∧ v.ownBlock ≠ some k) ∧ k < w.heap.size) hx fun k hk hl => ⟨hk, hl⟩) hch fun k hk hl => hk.1.2) fun k hk _ => hA k hk
    by_cases hjx : j < xs.length
    · rw [List.getElem_append_left hjx]
      refine hgo _ _ (Enc.ext (hel j hjx) fun q hq => ?_)
      have : j * Enc.sz α + q < cs.length := by
        rw [hrow.1]
        have := Nat.mul_le_mul_right (Enc.sz α) (show j + 1 ≤ xs.length from hjx)
        rw [Nat.add_mul] at this; omega
      rw [List.getElem?_append_left this]
    · obtain rfl : j = xs.length := by simp at hj; omega
      rw [List.getElem_append_right (by omega)]
      simp only [Nat.sub_self, List.getElem_cons_zero]
      refine hgo _ _ (Enc.ext hy fun q hq => ?_)
      rw [List.getElem?_append_right (by rw [hrow.1]; omega), hrow.1, Nat.add_sub_cancel_left]
      simp
  rcases hrow.2 with ⟨rfl, h0⟩ | ⟨g, cap, cur, rfl, hbg, hg, hnc, hcm, hcs, htake⟩
  · have hx : xs = [] := List.eq_nil_of_length_eq_zero h0
    subst hx
    have hcs0 : cs = [] := List.eq_nil_of_length_eq_zero (by simpa using hrow.1)
    subst hcs0
    have hr := run_append_nil (P := P) (w.alloc (.cells c1 e)) T ty e i z h1 h2 h3 ⟨w.heap.size, 0, none⟩ 1 1 c1.toList hl1 hnews (by omega) (by omega) (by have := hb47; simp at this; omega)
    have hge := grownCap_ge (w.alloc (.cells c1 e)) 1 0 e
    have hcm := grownCap_le_maxLen (w.alloc (.cells c1 e)) 1 0 e (by simp [maxLen])
    have hch : Chg (blk (.slice none 0 0)) w ((w.alloc (.cells c1 e)).drew.alloc (.cells (c1.toList.toArray ++ Builtin.zeroCells z.cells (grownCap (w.alloc (.cells c1 e)) 1 0 e - 1)) e)) :=
      (((Chg.refl _ w).alloc _).drew).alloc _
    refine ⟨_, _, _, hr, ⟨[] ++ c1.toList, ⟨by rw [hl2]; exact hlen', .inr ⟨_, _, _, by rw [hl2]; rfl, ?_, heap_alloc_new _ _, ?_, hcm, ?_, ?_⟩⟩, helem _ _ _ hch (.inr (by simp))⟩, hch, .inr (by simp), by simp; omega⟩
    · simp; omega
    · simpa using hge
    · simp only [Array.size_append, List.size_toArray, size_zeroCells, hz, Array.length_toList, hc1, List.nil_append]
      rw [Nat.sub_mul, Nat.one_mul]
      have : Enc.sz α ≤ grownCap (w.alloc (.cells c1 e)) 1 0 e * Enc.sz α := Nat.le_mul_of_pos_left _ (by omega)
      omega
    · simp [hc1]
  · by_cases hroom : xs.length + 1 ≤ cap
    · have hgs := (Array.getElem?_eq_some_iff.1 hg).1
      have hg' : (w.alloc (.cells c1 e)).heap[g]? = some (.cells cur e (0, 0)) := (Below.heap_alloc w _ g hgs).trans hg
      have hfit : xs.length * i.size + c1.toList.length ≤ cur.size := by
        rw [hl1, hcs, ← Nat.add_mul, h4]; exact Nat.mul_le_mul_right _ hroom
      have hr := run_append_room (P := P) (w.alloc (.cells c1 e)) T ty e i h1 h2 g xs.length cap cur hg' ⟨w.heap.size, 0, none⟩ 1 1 c1.toList hl1 hnews hone hroom hfit
      have hch : Chg (blk (.slice (some ⟨g, 0, none⟩) xs.length cap)) w ((w.alloc (.cells c1 e)).setRow g (cur.toList.take (xs.length * i.size) ++ c1.toList ++ cur.toList.drop (xs.length * i.size + c1.toList.length)).toArray) :=
        ((Chg.refl _ w).alloc _).grown (row := some g) ⟨rfl, rfl, rfl, by simp, fun k _ hk => setRow_other _ g k _ (fun e => hk (by simp [e]))⟩ (fun k hk _ => by cases hk; rfl)
      refine ⟨_, _, _, hr, ⟨cs ++ c1.toList, ⟨by rw [hl2]; exact hlen', .inr ⟨g, cap, _, by rw [hl2], hbg, setRow_heap _ g cur _ e _ hg', by simpa using hroom, hcm, ?_, ?_⟩⟩, helem _ _ _ hch (.inl rfl)⟩, hch, .inl rfl, hbg⟩
      · simp only [List.size_toArray, List.length_append, List.length_take, List.length_drop, Array.length_toList] at hfit ⊢
        omega
      · rw [h4, htake]
        have : (xs ++ [y]).length * Enc.sz α = (cs ++ c1.toList).length := by rw [hlen']; simp
        rw [this]
        exact List.take_left
    · have holds : ∀ j u, cs[j]? = some u → (w.alloc (.cells c1 e)).cell? ((⟨g, 0, none⟩ : Addr).add j) = some u := by
        intro j u hu
        have hgs := (Array.getElem?_eq_some_iff.1 hg).1
        have h := hrow.cells (g := g) rfl j u hu
        have hadd : ((⟨g, 0, none⟩ : Addr).add j).block = g := by unfold Addr.add; split <;> rfl
        exact (World.cell?_of_block (by rw [hadd]; exact Below.heap_alloc w _ g hgs)).trans h
      have hr := run_append_grow (P := P) (w.alloc (.cells c1 e)) T ty e i z h1 h2 h3 ⟨g, 0, none⟩ xs.length cap cs (by rw [hrow.1, h4]) holds ⟨w.heap.size, 0, none⟩ 1 1 c1.toList hl1 hnews (by omega) (by omega) (growslice_fits (by omega) hb47)
      have hge := grownCap_ge (w.alloc (.cells c1 e)) (xs.length + 1) cap e
      have hcm' := grownCap_le_maxLen (w.alloc (.cells c1 e)) (xs.length + 1) cap e hmx
      have hch : Chg (blk (.slice (some ⟨g, 0, none⟩) xs.length cap)) w ((w.alloc (.cells c1 e)).drew.alloc (.cells (cs.toArray ++ c1.toList.toArray ++ Builtin.zeroCells z.cells (grownCap (w.alloc (.cells c1 e)) (xs.length + 1) cap e - (xs.length + 1))) e)) :=
        (((Chg.refl _ w).alloc _).drew).alloc _
      refine ⟨_, _, _, hr, ⟨cs ++ c1.toList, ⟨by rw [hl2]; exact hlen', .inr ⟨_, _, _, by rw [hl2]; rfl, ?_, heap_alloc_new _ _, ?_, hcm', ?_, ?_⟩⟩, helem _ _ _ hch (.inr (by simp))⟩, hch, .inr (by simp), by simp; omega⟩
      · simp; omega
      · simpa using hge
      · simp only [Array.size_append, List.size_toArray, size_zeroCells, hz, Array.length_toList, hc1, hrow.1]
        rw [Nat.sub_mul, Nat.add_mul, Nat.one_mul]
        have := Nat.mul_le_mul_right (Enc.sz α) hge
        rw [Nat.add_mul, Nat.one_mul] at this
        omega
      · have : (xs ++ [y]).length * Enc.sz α = (cs ++ c1.toList).length := by rw [hlen']; simp
        rw [this]
        simp only [Array.toList_append, List.toList_toArray, ← List.append_assoc]
        exact List.take_left

theorem wpl_append1 {ops : Array Oper} {rest : List Oper} {o : Oper} {a : Act} {Q : Exit → Act → World → Prop} (w : World) (c1 : Array Value)
  (hg : o.guard = none) (s x : Operand) (T e : TypeId) (hop : o.op = Op.call { callee := Callee.builtin Builtin.append, args := #[s, x], argTypes := #[T, T] })
  (i : TypeInfo) (z : Value) (bytes : Nat) (h1 : P.underlying T = some (.slice e)) (h2 : P.info? e = some i)
  (h3 : i.zero = some z) (h4 : i.size = Enc.sz α) (h5 : i.bytes = bytes) (hz : z.cells.size = Enc.sz α) (hby : bytes ≤ 4096)
  (lo : Nat) (v : Value) (xs : List α) (y : α) (hown : Own w lo e v xs) (hlo : lo ≤ w.heap.size) (hlen : xs.length ≤ 1000000000)
  (hy : Enc.Is w (fun k => lo ≤ k ∧ v.ownBlock ≠ some k) y (fun j => c1[j]?)) (hc1 : c1.size = Enc.sz α)
  (hs : a.eval s = v) (hx : a.eval x = .slice (some ⟨w.heap.size, 0, none⟩) 1 1)
  (hK : ∀ g cap w', Own w' lo e (.slice (some ⟨g, 0, none⟩) (xs.length + 1) cap) (xs ++ [y]) → Chg (blk v) w w' → (v.ownBlock = some g ∨ w.heap.size ≤ g) → lo ≤ g →
   wpList P ops Q rest (a.put o.dst (.slice (some ⟨g, 0, none⟩) (xs.length + 1) cap)) w') : wpList P ops Q (o :: rest) a (w.alloc (.cells c1 e)) := by
 refine wpList_plain hg fun K hK' => ?_
 obtain ⟨g, cap, w', hr, r1, r2, r3, r4⟩ := append1_run (P := P) w c1 T o.type e i z bytes h1 h2 h3 h4 h5 hz hby lo v xs y hown hlo hlen hy hc1
 unfold Oper.wp execOp
 simp only [hop, resolve, invoke, builtin, Sem.run_bind, Sem.run_pure, Result.andThen_ok, List.map_toArray, List.map_cons, List.map_nil, hs, hx, hr]
 exact hK' _ _ (hK g cap w' r1 r2 r3 r4)

theorem wpl_append_int {ops : Array Oper} {rest : List Oper} {o : Oper} {a : Act} {Q : Exit → Act → World → Prop} (w : World)
  (hg : o.guard = none) (s x : Operand) (T e : TypeId) (hop : o.op = Op.call { callee := Callee.builtin Builtin.append, args := #[s, x], argTypes := #[T, T] })
  (h1 : P.underlying T = some (.slice e)) (hinfo : (P.info? e).map (fun i => (i.zero, i.size, i.bytes)) = some (some (.int .i64 0), 1, 8))
  (lo : Nat) (v : Value) (xs : List Int) (y : Int) (hown : Own w lo e v xs) (hlo : lo ≤ w.heap.size) (hlen : xs.length ≤ 1000000000)
  (hs : a.eval s = v) (hx : a.eval x = .slice (some ⟨w.heap.size, 0, none⟩) 1 1)
  (hK : ∀ g cap w', Own w' lo e (.slice (some ⟨g, 0, none⟩) (xs.length + 1) cap) (xs ++ [y]) → Chg (blk v) w w' → (v.ownBlock = some g ∨ w.heap.size ≤ g) → lo ≤ g →
   wpList P ops Q rest (a.put o.dst (.slice (some ⟨g, 0, none⟩) (xs.length + 1) cap)) w') : wpList P ops Q (o :: rest) a (w.alloc (.cells #[.int .i64 y] e)) := by
 obtain ⟨i, hi, hz0, hz1, hz2⟩ := info_parts hinfo
 exact wpl_append1 (α := Int) w _ hg s x T e hop i (.int .i64 0) 8 h1 hi hz0 hz1 hz2 rfl (by decide) lo v xs y hown hlo hlen rfl rfl hs hx hK

theorem wpl_append_intB {ops : Array Oper} {rest : List Oper} {o : Oper} {a : Act} {Q : Exit → Act → World → Prop} (w : World)
  (hg : o.guard = none) (s x : Operand) (T e : TypeId) (hop : o.op = Op.call { callee := Callee.builtin Builtin.append, args := #[s, x], argTypes := #[T, T] })
  (h1 : P.underlying T = some (.slice e)) (hinfo : (P.info? e).map (fun i => (i.zero, i.size, i.bytes)) = some (some (.int .i64 0), 1, 8))
  (lo : Nat) (v : Value) (xs : List Int) (y : Int) (hown : Own w lo e v xs) (hlo : lo ≤ w.heap.size) (hlen : xs.length ≤ 1000000000)
  (B : Nat) (hB : B = w.heap.size) (n : Nat) (hn : xs.length = n) (hs : a.eval s = v) (hx : a.eval x = .slice (some ⟨B, 0, none⟩) 1 1)
  (hK : ∀ g cap w', Own w' lo e (.slice (some ⟨g, 0, none⟩) (n + 1) cap) (xs ++ [y]) → Chg (blk v) w w' → (v.ownBlock = some g ∨ w.heap.size ≤ g) → lo ≤ g →
   wpList P ops Q rest (a.put o.dst (.slice (some ⟨g, 0, none⟩) (n + 1) cap)) w') : wpList P ops Q (o :: rest) a (w.alloc (.cells #[.int .i64 y] e)) := by
 subst hB; subst hn
 exact wpl_append_int w hg s x T e hop h1 hinfo lo v xs y hown hlo hlen hs hx hK

end

theorem wpl_make_raw {P : Program} {ops : Array Oper} {rest : List Oper} {o : Oper} {a : Act} {Q : Exit → Act → World → Prop} (w : World)
  (hg : o.guard = none) (l c : Operand) (T e : TypeId) (hop : o.op = Op.makeSlice T l c)
  (z : Value) (bytes : Nat) (h1 : P.underlying T = some (.slice e)) (hinfo : (P.info? e).map (fun i => (i.zero, i.size, i.bytes)) = some (some z, 1, bytes)) (hz : z.cells = #[z]) (hby : bytes ≤ 4096)
  (kl kc : IntKind) (C D : Int) (hl : a.eval l = .int kl C) (hc : a.eval c = .int kc D) (n : Nat) (hC : C = n) (hD : D = n) (hn : n ≤ 1000000000)
  (hK : wpList P ops Q rest (a.put o.dst (.slice (some ⟨w.heap.size, 0, none⟩) n n)) (w.alloc (.cells (Array.replicate n z) e))) :
  wpList P ops Q (o :: rest) a w := by
 subst hC; subst hD
 obtain ⟨i, hi, hz0, hz1, hz2⟩ := info_parts hinfo
 refine wpList_plain hg fun K hK' => ?_
 have hb : (i.bytes : Int) * (n : Int) ≤ 281474976710656 := by
  have h : ((i.bytes * n : Nat) : Int) ≤ 281474976710656 := by
   have : i.bytes * n ≤ 4096 * 1000000000 := by rw [hz2]; exact Nat.mul_le_mul hby hn
   omega
  rwa [Int.natCast_mul] at h
 have hr := run_make (P := P) w T e i z h1 hi hz0 kl kc n n (by omega) (Int.le_refl _) hb (by omega)
 simp only [Int.toNat_natCast] at hr
 have he : madeCells z.cells (n * i.size) = Array.replicate n z := by
  rw [hz, hz1, Nat.mul_one]
  exact Array.ext' (by rw [toList_madeCells_one]; simp)
 rw [he] at hr
 unfold Oper.wp
 simp [execOp, hop, hl, hc, hr, Result.andThen]
 exact hK' _ _ hK

theorem step_append1 {P : Program} {α : Type} [Enc α] {ops : Array Oper} {o : Oper} {a : Act} {K : Act → World → Prop} {Q : Exit → Act → World → Prop} {E : Prop} (w : World) (c1 : Array Value)
  (hg : o.guard = none) (s x : Operand) (T e : TypeId) (hop : o.op = Op.call { callee := Callee.builtin Builtin.append, args := #[s, x], argTypes := #[T, T] })
  (i : TypeInfo) (z : Value) (bytes : Nat) (h1 : P.underlying T = some (.slice e)) (h2 : P.info? e = some i)
  (h3 : i.zero = some z) (h4 : i.size = Enc.sz α) (h5 : i.bytes = bytes) (hz : z.cells.size = Enc.sz α) (hby : bytes ≤ 4096)
  (lo : Nat) (v : Value) (xs : List α) (y : α) (hown : Own w lo e v xs) (hlo : lo ≤ w.heap.size) (hlen : xs.length ≤ 1000000000)
  (hy : Enc.Is w (fun k => lo ≤ k ∧ v.ownBlock ≠ some k) y (fun j => c1[j]?)) (hc1 : c1.size = Enc.sz α)
  (hs : a.eval s = v) (hx : a.eval x = .slice (some ⟨w.heap.size, 0, none⟩) 1 1)
  (hK : ∀ g cap w', Own w' lo e (.slice (some ⟨g, 0, none⟩) (xs.length + 1) cap) (xs ++ [y]) → Chg (blk v) w w' → (v.ownBlock = some g ∨ w.heap.size ≤ g) → lo ≤ g →
   K (a.put o.dst (.slice (some ⟨g, 0, none⟩) (xs.length + 1) cap)) w') :
  if Region.wanted o (yielded ops a.tmps) = true then Oper.wp P o a (w.alloc (.cells c1 e)) K Q else E := by
 have hw : Region.wanted o (yielded ops a.tmps) = true := by simp [Region.wanted, hg]
 rw [if_pos hw]
 obtain ⟨g, cap, w', hr, r1, r2, r3, r4⟩ := append1_run (P := P) w c1 T o.type e i z bytes h1 h2 h3 h4 h5 hz hby lo v xs y hown hlo hlen hy hc1
 unfold Oper.wp execOp
 simp only [hop, resolve, invoke, builtin, Sem.run_bind, Sem.run_pure, Result.andThen_ok, List.map_toArray, List.map_cons, List.map_nil, hs, hx, hr]
 exact hK g cap w' r1 r2 r3 r4

end Go.Proofs.YtemnnmohdpabhaaGreatDoor
namespace Go.Proofs.YtemnnmohdpabhaaGreatDoor
open Go.RowKit
set_option linter.unusedVariables false
set_option linter.unusedSimpArgs false

theorem infoInt : (Tryz.prog.info? 3).map (fun i => (i.zero, i.size, i.bytes)) = some (some (.int .i64 0), 1, 8) := by kernel_rfl

end Go.Proofs.YtemnnmohdpabhaaGreatDoor
namespace Go.Proofs.YtemnnmohdpabhaaGreatDoor
set_option linter.unusedVariables false
set_option linter.unusedSimpArgs false

structure Pass where
 taken : Int
 left : Int

instance : Enc Pass where
 sz := 2
 Is _ _ p f := f 0 = some (.int .i64 p.taken) ∧ f 1 = some (.int .i64 p.left)
 keep h _ _ := h
 low h _ := h
 ext h e := ⟨(e 0 (by omega)) ▸ h.1, (e 1 (by omega)) ▸ h.2⟩
 one h j hj := by
  rcases (show j = 0 ∨ j = 1 by omega) with rfl | rfl
  ·exact ⟨_, h.1, rfl⟩
  ·exact ⟨_, h.2, rfl⟩
 pos := by omega
instance : Flat Pass := ⟨fun h => h⟩

def at' (l : List Int) (k : Nat) : Int := l.getD k 0

def pas (c bf : List Int) (b k : Nat) : Pass :=
  let here : Int := if hk : k = 0 then 0 else (pas c bf b (k - 1)).left
  let taken : Int := if hb : b = 0 then here else max here (pas c bf (b - 1) k).left
  let left : Int := taken + at' c k
  ⟨taken, if k + 1 < c.length then
      (if at' bf k = 0 then (if hb : b = 0 then left else max left (pas c bf (b - 1) (k + 1)).left)
       else if hr : 0 < at' bf k ∧ at' bf k ≤ b then max left (pas c bf (b - (at' bf k).toNat) (k + 1)).taken else left)
    else left⟩
termination_by (b, k)
decreasing_by
  all_goals simp_wf
  all_goals first
    | (apply Prod.Lex.right; omega)
    | (apply Prod.Lex.left; omega)

def here (c bf : List Int) (b k : Nat) : Int := if k = 0 then 0 else (pas c bf b (k - 1)).left

theorem pas_taken (c bf : List Int) (b k : Nat) : (pas c bf b k).taken = if b = 0 then here c bf b k else max (here c bf b k) (pas c bf (b - 1) k).left := by
 rw [pas]; simp only [here]; split <;> simp_all
theorem pas_left (c bf : List Int) (b k : Nat) : (pas c bf b k).left =
    if k + 1 < c.length then
      (if at' bf k = 0 then (if b = 0 then (pas c bf b k).taken + at' c k else max ((pas c bf b k).taken + at' c k) (pas c bf (b - 1) (k + 1)).left)
       else if 0 < at' bf k ∧ at' bf k ≤ b then max ((pas c bf b k).taken + at' c k) (pas c bf (b - (at' bf k).toNat) (k + 1)).taken else (pas c bf b k).taken + at' c k)
    else (pas c bf b k).taken + at' c k := by
  conv => lhs; rw [pas]
  conv => rhs; rw [pas_taken]
  simp only [here]
  repeat' split
  all_goals simp_all

structure RightLine (c bf : List Int) : Prop where
 len : c.length ≤ 6
 pos : 0 < c.length
 c1 : ∀ k, k < c.length → 1 ≤ at' c k ∧ at' c k ≤ 10000000
 b0 : ∀ k, 0 ≤ at' bf k
 bl : bf.length + 1 = c.length

theorem pas_bd {c bf : List Int} (h : RightLine c bf) (b : Nat) : ∀ k, k < c.length →
  0 ≤ (pas c bf b k).taken ∧ (pas c bf b k).taken + at' c k ≤ (pas c bf b k).left ∧ (pas c bf b k).left ≤ 10000000 * (b + k + 1) := by
 induction b using Nat.strongRecOn with
 | _ b ihb =>
  intro k
  induction k with
  | zero =>
   intro hk
   have hc := h.c1 0 hk
   have ht := pas_taken c bf b 0
   have hl := pas_left c bf b 0
   have hh : here c bf b 0 = 0 := by simp [here]
   rw [hh] at ht
   have h1 : 0 < b → _ := fun hb => ihb (b - 1) (by omega) 0 hk
   have h2 : 0 < b → 1 < c.length → _ := fun hb hk1 => ihb (b - 1) (by omega) 1 hk1
   have h3 : 0 < at' bf 0 ∧ at' bf 0 ≤ b → 1 < c.length → _ := fun hb hk1 => ihb (b - (at' bf 0).toNat) (by omega) 1 hk1
   have hc1 := h.c1 1
   split at ht <;> (split at hl <;> (try split at hl) <;> (try split at hl)) <;> grind
  | succ k ihk =>
   intro hk
   have hc := h.c1 (k + 1) hk
   have hcp := h.c1 k (by omega)
   have hp := ihk (by omega)
   have ht := pas_taken c bf b (k + 1)
   have hl := pas_left c bf b (k + 1)
   have hh : here c bf b (k + 1) = (pas c bf b k).left := by simp [here]
   rw [hh] at ht
   have h1 : 0 < b → _ := fun hb => ihb (b - 1) (by omega) (k + 1) hk
   have h2 : 0 < b → k + 2 < c.length → _ := fun hb hk1 => ihb (b - 1) (by omega) (k + 2) hk1
   have h3 : 0 < at' bf (k + 1) ∧ at' bf (k + 1) ≤ b → k + 2 < c.length → _ := fun hb hk1 => ihb (b - (at' bf (k + 1)).toNat) (by omega) (k + 2) hk1
   have hc1 := h.c1 (k + 2)
   split at ht <;> (split at hl <;> (try split at hl) <;> (try split at hl)) <;> grind

end Go.Proofs.YtemnnmohdpabhaaGreatDoor
namespace Go.Proofs.YtemnnmohdpabhaaGreatDoor
open Go.RowKit
set_option linter.unusedVariables false
set_option linter.unusedSimpArgs false

def PredI (F : FuncId) (caps : Array Value) (pr : Int → Bool) (w : World) (xs : List Int) : Prop :=
 (∀ args w, (callFunc F args).run Tryz.prog w = .ok (.enter F args) w) ∧
 ∀ x ∈ xs, ∀ w1, Chg NoB w w1 → Calls Tryz.prog F (#[.int .i64 x] ++ caps) w1 fun e w2 => e = .returned (.bool (pr x)) ∧ Chg NoB w1 w2

def idx {α : Type} (pr : α → Bool) (xs : List α) : Int := match xs.findIdx? pr with
 | some i => i
 | none => -1

theorem idx_none {α : Type} {pr : α → Bool} {xs : List α} (h : ∀ j, (hj : j < xs.length) → pr xs[j] = false) : idx pr xs = -1 := by
 have : xs.findIdx? pr = none := by
  rw [List.findIdx?_eq_none_iff]
  intro x hx
  obtain ⟨j, hj, rfl⟩ := List.mem_iff_getElem.1 hx
  exact h j hj
 rw [idx, this]
theorem idx_some {α : Type} {pr : α → Bool} {xs : List α} {i : Nat} (hi : i < xs.length) (hp : pr xs[i] = true) (h : ∀ j, (hj : j < i) → pr (xs[j]'(by omega)) = false) : idx pr xs = i := by
 have : xs.findIdx? pr = some i := by
  rw [List.findIdx?_eq_some_iff_getElem]
  exact ⟨hi, hp, fun j hj => by simp [h j hj]⟩
 rw [idx, this]
theorem idx_any {α : Type} (pr : α → Bool) (xs : List α) : decide (0 ≤ idx pr xs) = xs.any pr := by
 unfold idx
 cases h : xs.findIdx? pr with
 | none =>
  rw [List.findIdx?_eq_none_iff] at h
  symm
  simp [List.any_eq_false]
  intro x hx
  simp [h x hx]
 | some i =>
  rw [List.findIdx?_eq_some_iff_getElem] at h
  obtain ⟨hi, hp, _⟩ := h
  symm
  simp only [Int.natCast_nonneg, decide_true, List.any_eq_true]
  exact ⟨xs[i], List.getElem_mem _, hp⟩

set_option maxHeartbeats 400000 in
theorem indexFuncI (v : Value) (xs : List Int) (F : FuncId) (caps : Array Value) (pr : Int → Bool) (A : Nat → Prop) (w : World) (hv : IsSl w A v xs) (hF : PredI F caps pr w xs) :
  Calls Tryz.prog 311 #[v, .func (.func F) #[] caps] w fun e w' => e = .returned (.int .i64 (idx pr xs)) ∧ Chg NoB w w' := by
 obtain ⟨hcf, hF⟩ := hF
 obtain ⟨a, cap, rfl, hc1, hc2⟩ := hv.shape
 unfold maxLen at hc2
 go_enter Tryz.func311, Tryz.ntmps311
 go_wp2_with fail
 go_loopw [5, 8] (fun _ i wr => ∃ j : Nat, j ≤ xs.length ∧ i = .int .i64 j ∧ Hid (∀ q, (hq : q < j) → (hq' : q < xs.length) → pr xs[q] = false) ∧ Chg NoB w wr)
  (fun _ i _ => xs.length - (intOf i).toNat)
 case atStart => exact ⟨0, by omega, rfl, hid fun q hq => by omega, Chg.refl _ _⟩
 case round =>
  obtain ⟨j, hj, rfl, hno, hch⟩ := hrel
  by_cases hjn : j < xs.length
  ·obtain ⟨b, off, rfl, hb, hcells⟩ := hv.ints (by omega)
   have hcell := hch.cell (hcells j hjn) (fun x => x)
   clear hcells
   have HF := hid (hF xs[j] (List.getElem_mem _) wr hch)
   clear hF
   go_wp2_with fail
   refine HF.out.mono ?_
   rintro e w2 ⟨rfl, hc3⟩
   go_wp2_with fail
   ·have hp : pr xs[j] = true := by assumption
    go_ret
    exact ⟨ret_int (idx_some hjn hp fun q hq => hno.out q hq (by omega)).symm, hch.trans hc3⟩
   ·have hp : pr xs[j] = false := by assumption
    go_roundw
    case rel => exact ⟨j + 1, by omega, by go_num, hid fun q hq hq' => by
     by_cases h : q < j
     ·exact hno.out q h hq'
     ·obtain rfl : q = j := by omega
      exact hp, hch.trans hc3⟩
    case measure => simp [intOf]; omega
  ·go_wp2_with fail
   go_ret
   exact ⟨ret_int (idx_none fun q hq => hno.out q (by omega) hq).symm, hch⟩

set_option maxHeartbeats 400000 in
theorem containsFuncI (v : Value) (xs : List Int) (F : FuncId) (caps : Array Value) (pr : Int → Bool) (A : Nat → Prop) (w : World) (hv : IsSl w A v xs) (hF : PredI F caps pr w xs) :
  Calls Tryz.prog 256 #[v, .func (.func F) #[] caps] w fun e w' => e = .returned (.bool (xs.any pr)) ∧ Chg NoB w w' := by
 have hc := indexFuncI v xs F caps pr A w hv hF
 have HC := hid hc; clear hc hF
 go_enter Tryz.func256, Tryz.ntmps256
 go_wp2_with (go_at_call 311; refine HC.out.mono ?_; rintro e w1 ⟨rfl, hc1⟩)
 go_ret
 exact ⟨ret_bool (idx_any pr xs), hc1⟩

set_option maxHeartbeats 400000 in
theorem outside_any (n lo hi : Int) (w : World) :
  Calls Tryz.prog 180 #[.int .i64 n, .int .i64 lo, .int .i64 hi] w fun e w' => e = .returned (.bool (decide (n < lo) || decide (hi < n))) ∧ w = w' := by
 by_cases h : n < lo
 ·go_enter Tryz.func180, Tryz.ntmps180
  go_wp2_with fail
  go_ret
  exact ⟨ret_bool (by simp [h]), rfl⟩
 ·go_enter Tryz.func180, Tryz.ntmps180
  go_wp2_with fail
  go_ret
  exact ⟨ret_bool (by simp; omega), rfl⟩

end Go.Proofs.YtemnnmohdpabhaaGreatDoor
namespace Go.Proofs.YtemnnmohdpabhaaGreatDoor
open Go.RowKit
set_option linter.unusedVariables false
set_option linter.unusedSimpArgs false

def outB (lo hi x : Int) : Bool := decide (x < lo) || decide (hi < x)
def cycF (c : List Int) : Int := if c.length = 0 then 8 else if 6 < c.length then 2 else if c.any (outB 1 10000000) then 1 else 0
def flowF (c b : List Int) (n : Int) : Int :=
 if cycF c ≠ 0 then cycF c else if (b.length : Int) ≠ c.length - 1 then 3 else if b.any (outB 0 2000) || outB 1 2000 n then 1 else 0

theorem outside_b (n lo hi : Int) (w : World) :
  Calls Tryz.prog 180 #[.int .i64 n, .int .i64 lo, .int .i64 hi] w fun e w' => e = .returned (.bool (outB lo hi n)) ∧ w = w' := outside_any n lo hi w
set_option maxHeartbeats 400000 in
theorem cycPred1 (w : World) (xs : List Int) : PredI 310 #[] (outB 1 10000000) w xs := by
 refine ⟨enters_of Tryz.func310 (by kernel_rfl) rfl, fun x hx w1 hc => ?_⟩
 go_enter Tryz.func310, Tryz.ntmps310
 go_wp2_with (go_at_call 180; refine (outside_b _ _ _ _).mono ?_; rintro e w' ⟨rfl, rfl⟩)
 go_ret
 exact ⟨rfl, Chg.refl _ _⟩
set_option maxHeartbeats 400000 in
theorem flowPred (w : World) (xs : List Int) : PredI 257 #[] (outB 0 2000) w xs := by
 refine ⟨enters_of Tryz.func257 (by kernel_rfl) rfl, fun x hx w1 hc => ?_⟩
 go_enter Tryz.func257, Tryz.ntmps257
 go_wp2_with (go_at_call 180; refine (outside_b _ _ _ _).mono ?_; rintro e w' ⟨rfl, rfl⟩)
 go_ret
 exact ⟨ret_bool (rfl), Chg.refl _ _⟩

set_option maxHeartbeats 400000 in
theorem cyclesFault_any (v : Value) (c : List Int) (A : Nat → Prop) (w : World) (hv : IsSl w A v c) :
  Calls Tryz.prog 255 #[v] w fun e w' => e = .returned (.int .i64 (cycF c)) ∧ Chg NoB w w' := by
 have hcf := containsFuncI v c _ _ _ A w hv (cycPred1 w c)
 have HC := hid hcf; clear hcf
 obtain ⟨a, cap, rfl, h1, h2⟩ := hv.shape
 unfold maxLen at h2
 by_cases h0 : c.length = 0
 ·have hb : ((c.length : Int) == 0) = true := by simp [h0]
  have H0 := hid h0; clear h0
  go_enter Tryz.func255, Tryz.ntmps255
  go_wp2_with fail
  go_ret
  exact ⟨ret_int (by rw [cycF, if_pos H0.out]), Chg.refl _ _⟩
 ·have hb : ((c.length : Int) == 0) = false := beq_eq_false_iff_ne.2 (by omega)
  by_cases h6 : 6 < c.length
  ·go_enter Tryz.func255, Tryz.ntmps255
   go_wp2_with fail
   go_ret
   exact ⟨ret_int (by rw [cycF, if_neg h0, if_pos h6]), Chg.refl _ _⟩
  ·obtain ⟨q, hq⟩ : ∃ q, q = c.any (outB 1 10000000) := ⟨_, rfl⟩
   have HF : Hid (cycF c = if q then 1 else 0) := by rw [hq, cycF, if_neg h0, if_neg h6]; rfl
   rw [← hq] at HC
   clear hq
   cases q <;>
   ·go_enter Tryz.func255, Tryz.ntmps255
    go_wp2_with (go_at_call 256; refine HC.out.mono ?_; rintro e w1 ⟨rfl, hc1⟩)
    go_ret
    exact ⟨ret_int HF.out.symm, hc1⟩

set_option maxHeartbeats 400000 in
theorem flowFault_any (v1 v2 : Value) (c b : List Int) (n : Int) (A1 A2 : Nat → Prop) (w : World) (h1 : IsSl w A1 v1 c) (h2 : IsSl w A2 v2 b) :
  Calls Tryz.prog 178 #[v1, v2, .int .i64 n] w fun e w' => e = .returned (.int .i64 (flowF c b n)) ∧ Chg NoB w w' := by
 have HY := hid (cyclesFault_any v1 c A1 w h1)
 have HC : Hid (∀ w1, Chg NoB w w1 → _) := hid fun w1 (hc : Chg NoB w w1) => containsFuncI v2 b _ _ _ A2 w1 (h2.keepN hc) (flowPred w1 b)
 obtain ⟨a1, cap1, rfl, g1, g2⟩ := h1.shape
 obtain ⟨a2, cap2, rfl, g3, g4⟩ := h2.shape
 unfold maxLen at g2 g4
 obtain ⟨f, hf⟩ : ∃ f, f = cycF c := ⟨_, rfl⟩
 rw [← hf] at HY
 by_cases hf0 : f = 0
 ·subst hf0
  by_cases hl : (b.length : Int) = c.length - 1
  ·have hb : ((b.length : Int) != (c.length : Int) - 1) = false := by simp [hl]
   obtain ⟨q, hq⟩ : ∃ q, q = b.any (outB 0 2000) := ⟨_, rfl⟩
   obtain ⟨r, hr⟩ : ∃ r, r = outB 1 2000 n := ⟨_, rfl⟩
   have HR := hid hr
   have HF : Hid (flowF c b n = if q || r then 1 else 0) := by rw [hq, hr, flowF, if_neg (by simpa using hf.symm), if_neg (by simpa using hl)]; rfl
   rw [← hq] at HC
   clear hq hr hf hl
   cases q <;> cases r <;>
   ·go_enter Tryz.func178, Tryz.ntmps178
    go_wp2_with (first | (go_at_call 255; refine HY.out.mono ?_; rintro e w1 ⟨rfl, hc1⟩) | (go_at_call 256; refine (HC.out _ (by assumption)).mono ?_; rintro e w2 ⟨rfl, hc2⟩) | (go_at_call 180; refine (outside_b _ _ _ _).mono ?_; rw [← HR.out]; rintro e w3 ⟨rfl, rfl⟩))
    go_ret
    exact ⟨ret_int HF.out.symm, by first | exact (by assumption : Chg NoB w _) | exact Chg.trans (by assumption) (by assumption)⟩
  ·have hb : ((b.length : Int) != (c.length : Int) - 1) = true := by simp [hl]
   have HF : Hid (flowF c b n = 3) := by unfold Hid; rw [flowF, if_neg (by simpa using hf.symm), if_pos hl]
   clear hf hl
   go_enter Tryz.func178, Tryz.ntmps178
   go_wp2_with (go_at_call 255; refine HY.out.mono ?_; rintro e w1 ⟨rfl, hc1⟩)
   go_ret
   exact ⟨ret_int HF.out.symm, hc1⟩
 ·have hb : (f != 0) = true := by simp [hf0]
  have HF : Hid (flowF c b n = f) := by unfold Hid; rw [flowF, if_pos (by rw [← hf]; exact hf0), hf]
  clear hf hf0
  go_enter Tryz.func178, Tryz.ntmps178
  go_wp2_with (go_at_call 255; refine HY.out.mono ?_; rintro e w1 ⟨rfl, hc1⟩)
  go_ret
  exact ⟨ret_int HF.out.symm, hc1⟩

end Go.Proofs.YtemnnmohdpabhaaGreatDoor
namespace Go.Proofs.YtemnnmohdpabhaaGreatDoor
open Go.RowKit
set_option linter.unusedVariables false
set_option linter.unusedSimpArgs false

structure Mat {α : Type} [Enc α] (w : World) (lo g n : Nat) (eo ei : TypeId) (V : Nat → Value) (R : Nat → List α) : Prop where
 low : lo ≤ g
 ex : ∃ cur, w.heap[g]? = some (.cells cur eo (0, 0)) ∧ cur.size = n ∧ ∀ k, k < n → cur[k]? = some (V k)
 own : ∀ k, k < n → Own w lo ei (V k) (R k)
 out : ∀ k, k < n → (V k).ownBlock ≠ some g
 sep : ∀ j k, j < n → k < n → j ≠ k → ∀ q, (V j).ownBlock = some q → (V k).ownBlock ≠ some q

namespace Mat
variable {α : Type} [Enc α] {w w' : World} {lo g n : Nat} {eo ei : TypeId} {V : Nat → Value} {R R' : Nat → List α}
theorem lt (h : Mat w lo g n eo ei V R) : g < w.heap.size := by obtain ⟨cur, h1, _⟩ := h.ex; exact (Array.getElem?_eq_some_iff.1 h1).1
theorem start (w : World) (lo n : Nat) (eo ei : TypeId) (hlo : lo ≤ w.heap.size) : Mat (α := α) (w.alloc (.cells (Array.replicate n (.slice none 0 0)) eo)) lo w.heap.size n eo ei (fun _ => .slice none 0 0) (fun _ => []) :=
 ⟨hlo, ⟨_, heap_alloc_new w _, by simp, fun k hk => by simp [hk]⟩, fun k hk => Own.nil _ _ _, fun k hk => by simp [Value.ownBlock], fun j k _ _ _ q h => by simp [Value.ownBlock] at h⟩
theorem congr (h : Mat w lo g n eo ei V R) (e : ∀ k, k < n → R k = R' k) : Mat w lo g n eo ei V R' :=
 ⟨h.low, h.ex, fun k hk => e k hk ▸ h.own k hk, h.out, h.sep⟩
theorem keep {S : Nat → Prop} (h : Mat w lo g n eo ei V R) (c : Chg S w w') (hs : ∀ k, lo ≤ k → k < w.heap.size → ¬ S k) : Mat w' lo g n eo ei V R := by
 obtain ⟨cur, h1, h2, h3⟩ := h.ex
 exact ⟨h.low, ⟨cur, (c.block g h.lt (hs g h.low h.lt)).trans h1, h2, h3⟩, fun k hk => (h.own k hk).keep c hs, h.out, h.sep⟩
theorem cell (h : Mat w lo g n eo ei V R) (k : Nat) (hk : k < n) : w.cell? ⟨g, k, none⟩ = some (V k) := by
 obtain ⟨cur, h1, h2, h3⟩ := h.ex
 simp [World.cell?, h1, h3 k hk]
theorem froz (h : Mat w lo g n eo ei V R) (k : Nat) : w.frozen? ⟨g, k, none⟩ = false := by
 obtain ⟨cur, h1, h2, h3⟩ := h.ex
 simp [World.frozen?, h1]
theorem step [Flat α] (h : Mat w lo g n eo ei V R) (k : Nat) (hk : k < n) (v' : Value) (xs : List α) (ho : Own w' lo ei v' xs) (c : Chg (blk (V k)) w w')
  (hb : ∀ q, v'.ownBlock = some q → (V k).ownBlock = some q ∨ w.heap.size ≤ q) :
  Mat (w'.setCell ⟨g, k, none⟩ v') lo g n eo ei (fun j => if j = k then v' else V j) (fun j => if j = k then xs else R j) := by
 obtain ⟨cur, h1, h2, h3⟩ := h.ex
 have hg : w'.heap[g]? = some (.cells cur eo (0, 0)) := (c.block g h.lt (h.out k hk)).trans h1
 have hs : Chg (AtB g) w' (w'.setCell ⟨g, k, none⟩ v') := Chg.setAt _ _ _ _
 have hvg : v'.ownBlock ≠ some g := by
  intro e
  rcases hb g e with e | e
  ·exact h.out k hk e
  ·have := h.lt; omega
 refine ⟨h.low, ⟨cur.setIfInBounds k v', ?_, by simpa using h2, ?_⟩, ?_, ?_, ?_⟩
 ·simp [World.setCell, Array.getElem?_modify, hg]
 ·intro j hj
  rw [Array.getElem?_setIfInBounds]
  by_cases hjk : k = j
  ·subst hjk; simp [h2, hk]
  ·rw [if_neg hjk, if_neg (fun e => hjk e.symm)]; exact h3 j hj
 ·intro j hj
  by_cases hjk : j = k
  ·subst hjk
   simp only [if_true]
   exact ho.keepF hs fun q hq x => by unfold AtB at x; subst x; exact hvg hq
  ·simp only [if_neg hjk]
   refine ((h.own j hj).keepF c fun q hq x => h.sep j k hj hk hjk q hq x).keepF hs fun q hq x => ?_
   unfold AtB at x; subst x; exact h.out j hj hq
 ·intro j hj
  by_cases hjk : j = k
  ·subst hjk; simpa using hvg
  ·simp only [if_neg hjk]; exact h.out j hj
 ·intro j i hj hi hne q hq
  by_cases hjk : j = k
  ·subst hjk
   simp only [if_true, if_neg (fun e : i = j => hne e.symm)] at hq ⊢
   rcases hb q hq with e | e
   ·exact h.sep j i hk hi hne q e
   ·intro e2
    have := ((h.own i hi).lt q e2).2
    omega
  ·simp only [if_neg hjk] at hq
   by_cases hik : i = k
   ·subst hik
    simp only [if_true]
    intro e
    rcases hb q e with e | e
    ·exact h.sep j i hj hi hjk q hq e
    ·have := ((h.own j hj).lt q hq).2
     omega
   ·simp only [if_neg hik]; exact h.sep j i hj hi hne q hq
theorem isSl (h : Mat w lo g n eo ei V R) (hm : n ≤ maxLen) : IsSl w (fun k => lo ≤ k) (.slice (some ⟨g, 0, none⟩) n n) ((List.range n).map R) := by
 obtain ⟨cur, h1, h2, h3⟩ := h.ex
 refine .inr ⟨g, 0, n, cur, eo, by simp, h.low, by simp, hm, h1, fun i hi => ?_⟩
 simp at hi
 refine ⟨V i, ?_, ?_⟩
 ·simpa [Enc.sz] using h3 i hi
 ·simpa using (h.own i hi).isSl
end Mat

theorem Own.pcell {w : World} {lo e g n cap : Nat} {xs : List Pass} (h : Own w lo e (.slice (some ⟨g, 0, none⟩) n cap) xs) (i : Nat) (hi : i < xs.length) :
  w.cell? ⟨g, i * 2, none⟩ = some (.int .i64 xs[i].taken) ∧ w.cell? ⟨g, i * 2 + 1, none⟩ = some (.int .i64 xs[i].left) := by
 obtain ⟨b, off, ha, hb, hc⟩ := h.isSl.cells.2 (by omega)
 cases ha
 have := hc i hi
 simp only [Enc.Is, Enc.sz, Nat.zero_add, Nat.add_zero] at this
 exact this

theorem infoPass : (Tryz.prog.info? 224).map (fun i => (i.zero, i.size, i.bytes)) = some (some (.agg #[.int .i64 0, .int .i64 0]), 2, 16) := by kernel_rfl
theorem infoSlPass : (Tryz.prog.info? 222).map (fun i => (i.zero, i.size, i.bytes)) = some (some (.slice none 0 0), 1, 24) := by kernel_rfl

def PBlk (w : World) (P : Nat) (x y : Int) : Prop := w.heap[P]? = some (.cells #[.int .i64 x, .int .i64 y] 224 (0, 0))
theorem PBlk.new (w : World) (x y : Int) : PBlk (w.alloc (.cells #[.int .i64 x, .int .i64 y] 224)) w.heap.size x y := heap_alloc_new w _
theorem PBlk.facts {w : World} {P : Nat} {x y : Int} (h : PBlk w P x y) : w.cell? ⟨P, 0, none⟩ = some (.int .i64 x) ∧ w.cell? ⟨P, 1, none⟩ = some (.int .i64 y) ∧ w.frozen? ⟨P, 0, none⟩ = false ∧ w.frozen? ⟨P, 1, none⟩ = false := by
 unfold PBlk at h
 simp [World.cell?, World.frozen?, h]
theorem PBlk.set1 {w : World} {P : Nat} {x y : Int} (h : PBlk w P x y) (z : Int) : PBlk (w.setCell ⟨P, 1, none⟩ (.int .i64 z)) P x z := by
 unfold PBlk at h ⊢; simp [World.setCell, Array.getElem?_modify, h]

def rowP (c bf : List Int) (b k j : Nat) : List Pass := (List.range (if j < k then b + 1 else b)).map fun q => pas c bf q j


theorem flow_step {c bf : List Int} {w wr w5 w6 : World} {V : Nat → Value} {b k g6 cap6 : Nat} {ak : Option Addr} {capk : Nat} {T Z : Int} (hkl : k < c.length)
  (hmx : Mat w5 w.heap.size w.heap.size c.length 222 224 V (rowP c bf b k)) (hT : T = (pas c bf b k).taken) (hZ : Z = (pas c bf b k).left)
  (hv : V k = .slice ak b capk) (hown : Own w6 w.heap.size 224 (.slice (some ⟨g6, 0, none⟩) ((rowP c bf b k k).length + 1) cap6) (rowP c bf b k k ++ [⟨T, Z⟩]))
  (hc6 : Chg (blk (.slice ak b capk)) w5.drew w6) (hg6 : (Value.slice ak b capk).ownBlock = some g6 ∨ w5.drew.heap.size ≤ g6)
  (hch : Chg (NewB w.heap.size) w wr) (hcx : Chg (NewB wr.heap.size) wr w5) :
  Mat (w6.setCell ⟨w.heap.size, k, none⟩ (.slice (some ⟨g6, 0, none⟩) ((rowP c bf b k k).length + 1) cap6)) w.heap.size w.heap.size c.length 222 224
    (fun j => if j = k then .slice (some ⟨g6, 0, none⟩) ((rowP c bf b k k).length + 1) cap6 else V j) (rowP c bf b (k + 1)) ∧
   Chg (NewB w.heap.size) w (w6.setCell ⟨w.heap.size, k, none⟩ (.slice (some ⟨g6, 0, none⟩) ((rowP c bf b k k).length + 1) cap6)) ∧ here c bf b (k + 1) = Z := by
 rw [← hv] at hc6 hg6
 refine ⟨(hmx.step k hkl _ _ hown hc6.ofDrew fun q hq => ?_).congr fun j hj => ?_, ?_, ?_⟩
 ·simp only [Value.ownBlock, Option.some.injEq] at hq
  subst hq; exact hg6
 ·by_cases hjk : j = k
  ·subst hjk
   simp only [if_true, rowP, Nat.lt_irrefl, if_false, Nat.lt_succ_self, List.range_succ, List.map_append, List.map_cons, List.map_nil]
   rw [hT, hZ]
  ·simp only [if_neg hjk, rowP]
   have : j < k + 1 ↔ j < k := by omega
   simp only [this]
 ·have h1 : Chg (NewB w.heap.size) w w5 := hch.trans (hcx.mono fun q hq x => by have := hch.size; unfold NewB at x ⊢; omega)
  exact (h1.trans (hc6.ofDrew.mono fun q hq x => ((hmx.own k hkl).lt q x).1)).setCell (a := ⟨w.heap.size, k, none⟩) (fun _ => Nat.le_refl _) _
 ·simp [here, hZ]

set_option maxHeartbeats 2000000 in
set_option maxRecDepth 100000 in
theorem flow_any (v1 v2 : Value) (c bf : List Int) (n : Nat) (A1 A2 : Nat → Prop) (w : World) (h1 : IsSl w A1 v1 c) (h2 : IsSl w A2 v2 bf) (hr : RightLine c bf) (hn : n ≤ 2000) :
    Calls Tryz.prog 179 #[v1, v2, .int .i64 n] w fun e w' => ∃ v, e = .returned v ∧ IsSl w' (fun k => w.heap.size ≤ k) v ((List.range c.length).map fun k => (List.range n).map fun q => pas c bf q k) ∧ Chg NoB w w' := by
  obtain ⟨a1, cap1, rfl, g1, g2⟩ := h1.shape
  obtain ⟨a2, cap2, rfl, g3, g4⟩ := h2.shape
  unfold maxLen at g2 g4
  have hlen := hr.len
  have hpos := hr.pos
  have hbl := hr.bl
  have HR := hid hr; clear hr
  go_enter Tryz.func179, Tryz.ntmps179
  go_wp2_with (at_make; refine wpl_make_raw w rfl _ _ 220 222 rfl (.slice none 0 0) 24 Tryz.underlying220 infoSlPass rfl (by decide) .i64 .i64 _ _ rfl rfl c.length rfl rfl (by omega) ?_)
  have hst := Mat.start (α := Pass) w w.heap.size c.length 222 224 (Nat.le_refl _)
  obtain ⟨w0, hw0⟩ : ∃ w0, w0 = w.alloc (.cells (Array.replicate c.length (.slice none 0 0)) 222) := ⟨_, rfl⟩
  have hc0 : Chg NoB w w0 := by rw [hw0]; exact (Chg.refl _ _).alloc _
  rw [← hw0] at hst ⊢
  clear hw0
  go_loopw [8, 18] (fun _ i wr => ∃ (b : Nat) (V : Nat → Value), b ≤ n ∧ i = .int .i64 b ∧ Mat wr w.heap.size w.heap.size c.length 222 224 V (rowP c bf b 0) ∧ Chg (NewB w.heap.size) w wr)
    (fun _ i _ => n - (intOf i).toNat)
  case atStart => exact ⟨0, _, by omega, rfl, hst.congr fun k hk => by simp [rowP], hc0.any⟩
  case round =>
    obtain ⟨b, V, hb, rfl, hmat, hch⟩ := hrel
    by_cases hbn : b < n
    · obtain ⟨wo, rfl⟩ : ∃ wo : World, wo = wr := ⟨_, rfl⟩
      go_wp2_with fail
      go_loopw [9, 10, 11, 13, 23] (fun h _ _ _ i wr => ∃ (k : Nat) (V : Nat → Value), k ≤ c.length ∧ i = .int .i64 k ∧ h = .int .i64 (here c bf b k) ∧ Mat wr w.heap.size w.heap.size c.length 222 224 V (rowP c bf b k) ∧ Chg (NewB w.heap.size) w wr)
        (fun _ _ _ _ i _ => c.length - (intOf i).toNat)
      case atStart => exact ⟨0, _, by omega, rfl, rfl, hmat, hch⟩
      case round =>
        clear hmat hch
        obtain ⟨k, V, hk, rfl, rfl, hmat, hch⟩ := hrel
        by_cases hkl : k < c.length
        · have hszr := hch.size
          have hgl := hmat.lt
          obtain ⟨bc, oc, rfl, _, hcc⟩ := h1.ints (by omega)
          have hcell := hch.cellNew (Nat.le_refl _) (hcc k hkl)
          have hbd := pas_bd HR.out b k hkl
          have hck := HR.out.c1 k hkl
          have hac : at' c k = c[k] := by simp [at', hkl]
          rw [hac] at hbd hck
          obtain ⟨T, hT⟩ : ∃ T, T = (pas c bf b k).taken := ⟨_, rfl⟩
          obtain ⟨Z, hZ⟩ : ∃ Z, Z = (pas c bf b k).left := ⟨_, rfl⟩
          rw [← hT, ← hZ] at hbd
          have HT := hid hT; clear hT
          have HZ := hid hZ; clear hZ
          have HAC := hid hac; clear hac
          have HCC := hid hcc; clear hcc
          go_upto_if 31 with (fail)
          go_cut [] (fun wx => PBlk wx wr.heap.size T 0 ∧ Chg (NewB wr.heap.size) wr wx)
          case first =>
            have htk := pas_taken c bf b k
            rw [← HT.out] at htk
            by_cases hb0 : 0 < b
            · rw [if_neg (by omega)] at htk
              obtain ⟨q, rfl⟩ : ∃ q, b = q + 1 := ⟨b - 1, by omega⟩
              simp only [Nat.add_sub_cancel] at htk
              have HTK := hid htk; clear htk
              have hVk : (rowP c bf (q + 1) k k).length = q + 1 := by simp [rowP]
              have hok := hmat.own k hkl
              obtain ⟨ak, capk, hav, _, _⟩ := hok.shape
              rw [hav] at hok
              obtain ⟨gk, rfl, hgk1, hgk2⟩ := hok.head (by omega)
              have hov := hmat.cell k hkl
              rw [hav] at hov
              have hpk := (hok.pcell q (by omega)).2
              have e1 : (rowP c bf (q + 1) k k)[q]'(by omega) = pas c bf q k := by simp [rowP]
              rw [e1] at hpk
              rw [hVk] at hov
              clear e1 hVk hav
              go_wp2_with fail
              go_meet
              case rel =>
                rw [HTK.out]
                exact ⟨PBlk.new _ _ _, (Chg.refl _ _).alloc _⟩
            · rw [if_pos (by omega)] at htk
              have HTK := hid htk; clear htk
              go_wp2_with fail
              go_meet
              case rel =>
                rw [HTK.out]
                exact ⟨PBlk.new _ _ _, (Chg.refl _ _).alloc _⟩
          case rest =>
            obtain ⟨hpb, hcx⟩ := hcut
            obtain ⟨f0, f1, f2, f3⟩ := hpb.facts
            have hszx := hcx.size
            have hcell1 := hcx.cellNew (Nat.le_refl _) hcell
            go_upto_if 53 with (fail)
            have hpb1 := hpb.set1 (T + c[k])
            have hcx1 : Chg (NewB wr.heap.size) wr (wc.setCell ⟨wr.heap.size, 1, none⟩ (.int .i64 (T + c[k]))) := hcx.setCell (a := ⟨wr.heap.size, 1, none⟩) (fun _ => Nat.le_refl _) _
            go_cut [] (fun wx => PBlk wx wr.heap.size T Z ∧ Chg (NewB wr.heap.size) wr wx)
            case first =>
              have hlf := pas_left c bf b k
              rw [← HT.out, ← HZ.out, HAC.out] at hlf
              obtain ⟨f0', f1', f2', f3'⟩ := hpb1.facts
              by_cases hk1 : k + 1 < c.length
              · rw [if_pos hk1] at hlf
                obtain ⟨bb, ob, rfl, _, hbc⟩ := h2.ints (by omega)
                have hbcell := hcx1.cell (hch.cellNew (Nat.le_refl _) (hbc k (by omega))) (Nat.not_le_of_lt (World.block_lt_of_cell? _ _ (hch.cellNew (Nat.le_refl _) (hbc k (by omega)))))
                have hb0k := HR.out.b0 k
                have hbk : at' bf k = bf[k]'(by omega) := by simp [at', show k < bf.length by omega]
                obtain ⟨r, hr⟩ : ∃ r : Nat, bf[k]'(by omega) = (r : Int) := ⟨(bf[k]'(by omega)).toNat, by omega⟩
                rw [hr] at hbcell hbk
                rw [hbk] at hlf
                clear hbc hb0k hbk hr f0 f1 f2 f3
                by_cases hr0 : r = 0
                · subst hr0
                  rw [if_pos (by simp)] at hlf
                  by_cases hb0 : 0 < b
                  · obtain ⟨q, rfl⟩ : ∃ q, b = q + 1 := ⟨b - 1, by omega⟩
                    rw [if_neg (by omega)] at hlf
                    simp only [Nat.add_sub_cancel] at hlf
                    have HLF := hid hlf; clear hlf
                    have hVn : (rowP c bf (q + 1) k (k + 1)).length = q + 1 := by simp [rowP]
                    have hon := hmat.own (k + 1) hk1
                    obtain ⟨an, capn, han, _, _⟩ := hon.shape
                    rw [han] at hon
                    obtain ⟨gn, rfl, hgn1, hgn2⟩ := hon.head (by omega)
                    have hovn := hcx1.cell (hmat.cell (k + 1) hk1) (Nat.not_le_of_lt hgl)
                    rw [han, hVn] at hovn
                    have hpn := hcx1.cell (hon.pcell q (by omega)).2 (Nat.not_le_of_lt hgn2)
                    have e1 : (rowP c bf (q + 1) k (k + 1))[q]'(by omega) = pas c bf q (k + 1) := by simp [rowP]
                    rw [e1] at hpn
                    clear e1 hVn han
                    go_wp2_with fail
                    go_region
                    all_goals go_wp2_with fail
                    all_goals go_meet
                    case rel => rw [HLF.out]; exact ⟨hpb1.set1 _, (hcx1.setCell (a := ⟨wr.heap.size, 1, none⟩) (fun _ => Nat.le_refl _) _).drew⟩
                  · rw [if_pos (by omega)] at hlf
                    have HLF := hid hlf; clear hlf
                    have hb1 : b = 0 := by omega
                    subst hb1
                    go_wp2_with fail
                    go_meet
                    case rel => rw [HLF.out]; exact ⟨hpb1, hcx1⟩
                · rw [if_neg (by omega)] at hlf
                  by_cases hrb : r ≤ b
                  · rw [if_pos (by omega)] at hlf
                    have hr1 : ((r : Int) == 0) = false := by simp; omega
                    obtain ⟨t, rfl⟩ : ∃ t, b = t + r := ⟨b - r, by omega⟩
                    have ht1 : ((t + r : Nat) : Int) - ((r : Int)) = (t : Int) := by omega
                    have ht2 : t + r - (r : Int).toNat = t := by omega
                    rw [ht2] at hlf
                    have HLF := hid hlf; clear hlf ht2
                    have hVn : (rowP c bf (t + r) k (k + 1)).length = t + r := by simp [rowP]
                    have hon := hmat.own (k + 1) hk1
                    obtain ⟨an, capn, han, _, _⟩ := hon.shape
                    rw [han] at hon
                    obtain ⟨gn, rfl, hgn1, hgn2⟩ := hon.head (by omega)
                    have hovn := hcx1.cell (hmat.cell (k + 1) hk1) (Nat.not_le_of_lt hgl)
                    rw [han, hVn] at hovn
                    have hpn := hcx1.cell (hon.pcell t (by omega)).1 (Nat.not_le_of_lt hgn2)
                    have e1 : (rowP c bf (t + r) k (k + 1))[t]'(by omega) = pas c bf t (k + 1) := by simp [rowP]
                    rw [e1] at hpn
                    clear e1 hVn han
                    go_wp2_with fail
                    go_region
                    all_goals go_wp2_with fail
                    all_goals go_meet
                    case rel => rw [HLF.out]; exact ⟨hpb1.set1 _, (hcx1.setCell (a := ⟨wr.heap.size, 1, none⟩) (fun _ => Nat.le_refl _) _).drew⟩
                  · rw [if_neg (by omega)] at hlf
                    have HLF := hid hlf; clear hlf
                    have hr1 : ((r : Int) == 0) = false := by simp; omega
                    go_wp2_with fail
                    go_meet
                    case rel => rw [HLF.out]; exact ⟨hpb1, hcx1⟩
              · rw [if_neg hk1] at hlf
                have HLF := hid hlf; clear hlf
                go_wp2_with fail
                go_meet
                case rel => rw [HLF.out]; exact ⟨hpb1, hcx1⟩
            case rest =>
              clear hpb hcx f0 f1 f2 f3 hcell1 hpb1 hcx1 hszx
              obtain ⟨hpb, hcx⟩ := hcut
              obtain ⟨w5, rfl⟩ : ∃ w5 : World, w5 = wc := ⟨_, rfl⟩
              obtain ⟨f0, f1, f2, f3⟩ := hpb.facts
              have hszx := hcx.size
              have hVk : (rowP c bf b k k).length = b := by simp [rowP]
              have hmx : Mat w5 w.heap.size w.heap.size c.length 222 224 V (rowP c bf b k) := hmat.keep hcx fun q _ h2 h3 => Nat.not_le_of_lt h2 h3
              have hok := hmx.own k hkl
              obtain ⟨ak, capk, hav, _, _⟩ := hok.shape
              have hov := hmx.cell k hkl
              have hfz := hmx.froz k
              rw [hav] at hok
              rw [hav, hVk] at hov
              rw [hVk] at hok
              obtain ⟨i0, hi, hz0, hz1, hz2⟩ := info_parts infoPass
              have HI := hid hi; clear hi
              have HZ0 := hid hz0; clear hz0
              have HZ1 := hid hz1; clear hz1
              have HZ2 := hid hz2; clear hz2
              have HOUT := hid (hmx.out k hkl)
              rw [hav, hVk] at HOUT
              have HAV : Hid (V k = .slice ak b capk) := by unfold Hid; rw [hav, hVk]
              clear hav
              have hpout : ¬ blk (.slice ak b capk) wr.heap.size := fun x => by
                have := ((hmat.own k hkl).lt wr.heap.size (by rw [HAV.out]; exact x)).2
                omega
              have HPO := hid hpout; clear hpout
              have hlo5 : w.heap.size ≤ w5.heap.size := by omega
              have hlt5 : w.heap.size < w5.heap.size := hmx.lt
              have hVk' : (rowP c bf b k k).length ≤ 1000000000 := by omega
              have hHV := hid hVk; clear hVk
              go_wp2_with fail
              go_region_law ((refine step_append1 (α := Pass) w5.drew #[.int .i64 T, .int .i64 Z] rfl (.tmp 107) (.tmp 109) 222 224 rfl i0 (.agg #[.int .i64 0, .int .i64 0]) 16 Tryz.underlying222 HI.out HZ0.out HZ1.out HZ2.out rfl (by decide) w.heap.size (.slice ak b capk) (rowP c bf b k k) ⟨T, Z⟩ hok hlo5 hVk' ⟨rfl, rfl⟩ rfl rfl rfl ?_; intro g6 cap6 w6 hown6 hc6 hg6 hl6; have hov6 := hc6.cell hov (fun x => HOUT.out x); have hfz6 := (hc6.froz (a := ⟨w.heap.size, k, none⟩) hlt5 (fun x => HOUT.out x)).trans hfz; have hp6 := hc6.cell f1 (fun x => HPO.out x)))
              all_goals go_wp2_with fail
              all_goals
                have hfs := flow_step hkl hmx HT.out HZ.out HAV.out hown6 hc6 hg6 hch hcx
                go_roundw
                case rel => exact ⟨k + 1, _, by omega, by go_num, by rw [hfs.2.2], hfs.1, hfs.2.1⟩
                case measure => simp [intOf]; omega
        · go_wp2_with fail
          go_roundw
          case rel => exact ⟨b + 1, V, by omega, by go_num, hmat.congr fun j hj => by simp [rowP, show j < k by omega], hch⟩
          case measure => simp [intOf]; omega
    · obtain rfl : b = n := by omega
      go_wp2_with fail
      go_ret
      refine ⟨_, rfl, ?_, hch.mono fun q h1 h2 => by unfold NewB at h2; omega⟩
      have := hmat.isSl (by simp only [maxLen]; omega)
      have e : rowP c bf b 0 = fun k => (List.range b).map fun q => pas c bf q k := by funext k; simp [rowP]
      rwa [e] at this
end Go.Proofs.YtemnnmohdpabhaaGreatDoor
namespace Go.Proofs.YtemnnmohdpabhaaGreatDoor
open Go.RowKit
set_option linter.unusedVariables false
set_option linter.unusedSimpArgs false

theorem any_false {lo hi : Int} {xs : List Int} (h : xs.any (outB lo hi) = false) : ∀ k, k < xs.length → lo ≤ at' xs k ∧ at' xs k ≤ hi := by
 intro k hk
 rw [List.any_eq_false] at h
 have := h xs[k] (List.getElem_mem _)
 simp only [outB, Bool.or_eq_true, decide_eq_true_eq, not_or] at this
 simp only [at', List.getD, List.getElem?_eq_getElem hk, Option.getD_some]
 omega

theorem flowF_right {c b : List Int} {n : Int} (h : flowF c b n = 0) : RightLine c b ∧ 1 ≤ n ∧ n ≤ 2000 := by
 unfold flowF at h
 by_cases hc : cycF c ≠ 0
 ·rw [if_pos hc] at h; exact absurd h hc
 ·rw [if_neg hc] at h
  have hc' : cycF c = 0 := by simpa using hc
  unfold cycF at hc'
  by_cases h0 : c.length = 0
  ·rw [if_pos h0] at hc'; omega
  ·rw [if_neg h0] at hc'
   by_cases h6 : 6 < c.length
   ·rw [if_pos h6] at hc'; omega
   ·rw [if_neg h6] at hc'
    cases ha : c.any (outB 1 10000000) with
    | true => rw [ha] at hc'; simp at hc'
    | false =>
     by_cases hl : (b.length : Int) ≠ c.length - 1
     ·rw [if_pos hl] at h; omega
     ·rw [if_neg hl] at h
      cases hb : b.any (outB 0 2000) with
      | true => rw [hb] at h; simp at h
      | false =>
       cases hn : outB 1 2000 n with
       | true => rw [hn] at h; simp at h
       | false =>
        simp only [outB, Bool.or_eq_false_iff, decide_eq_false_iff_not] at hn
        refine ⟨⟨by omega, by omega, any_false ha, fun k => ?_, by omega⟩, by omega, by omega⟩
        by_cases hk : k < b.length
        ·exact (any_false hb k hk).1
        ·simp [at', List.getD, List.getElem?_eq_none (show b.length ≤ k by omega)]

theorem IsSl.rows {α : Type} [Enc α] {w : World} {A : Nat → Prop} {a : Option Addr} {n cap : Nat} {xs : List (List α)} (h : IsSl w A (.slice a n cap) xs) (hp : 0 < xs.length) :
  ∃ b off, a = some ⟨b, off, none⟩ ∧ A b ∧ ∀ i, (hi : i < xs.length) → ∃ v, w.cell? ⟨b, off + i, none⟩ = some v ∧ IsSl w A v xs[i] := by
 obtain ⟨b, off, ha, hb, hc⟩ := h.cells.2 hp
 refine ⟨b, off, ha, hb, fun i hi => ?_⟩
 have := hc i hi
 simpa [Enc.Is, Enc.sz] using this
theorem IsSl.passes {w : World} {A : Nat → Prop} {a : Option Addr} {n cap : Nat} {xs : List Pass} (h : IsSl w A (.slice a n cap) xs) (hp : 0 < xs.length) :
  ∃ b off, a = some ⟨b, off, none⟩ ∧ A b ∧ ∀ i, (hi : i < xs.length) → w.cell? ⟨b, off + i * 2, none⟩ = some (.int .i64 xs[i].taken) ∧ w.cell? ⟨b, off + i * 2 + 1, none⟩ = some (.int .i64 xs[i].left) := by
 obtain ⟨b, off, ha, hb, hc⟩ := h.cells.2 hp
 refine ⟨b, off, ha, hb, fun i hi => ?_⟩
 have := hc i hi
 simpa [Enc.Is, Enc.sz] using this

def leaves (c bf : List Int) (n : Nat) : List Int := (List.range n).map fun q => (pas c bf q (c.length - 1)).left
def leavesF (c bf : List Int) (n : Int) : List Int := if flowF c bf n = 0 then leaves c bf n.toNat else []

set_option maxHeartbeats 1000000 in
theorem leave_any (v1 v2 : Value) (c bf : List Int) (n : Int) (A1 A2 : Nat → Prop) (w : World) (h1 : IsSl w A1 v1 c) (h2 : IsSl w A2 v2 bf) :
  Calls Tryz.prog 95 #[v1, v2, .int .i64 n] w fun e w' => ∃ v, e = .returned (.tuple #[v, .int .i64 (flowF c bf n)]) ∧ IsSl w' (fun k => w.heap.size ≤ k) v (leavesF c bf n) ∧ Chg NoB w w' := by
 have HF := hid (flowFault_any v1 v2 c bf n A1 A2 w h1 h2)
 by_cases hf : flowF c bf n = 0
 ·obtain ⟨hr, hn1, hn2⟩ := flowF_right hf
  obtain ⟨m, rfl⟩ : ∃ m : Nat, n = m := ⟨n.toNat, by omega⟩
  have HL : Hid (leavesF c bf m = leaves c bf m) := by unfold Hid; rw [leavesF, if_pos hf]; simp
  have HFL : Hid (∀ w1, Chg NoB w w1 → _) := hid fun w1 (hc : Chg NoB w w1) => flow_any v1 v2 c bf m A1 A2 w1 (h1.keepN hc) (h2.keepN hc) hr (by omega)
  have hpos := hr.pos
  have hlen := hr.len
  rw [hf] at HF ⊢
  have HR := hid hr; clear hr hf
  go_enter Tryz.func95, Tryz.ntmps95
  go_wp2_with fail
  refine HF.out.mono ?_
  rintro e w1 ⟨rfl, hc1⟩
  go_wp2_with fail
  refine (HFL.out w1 hc1).mono ?_
  rintro e w2 ⟨v, rfl, hv, hc2⟩
  obtain ⟨a, cap, rfl, g1, g2⟩ := hv.shape
  obtain ⟨b, off, rfl, hb, hrows⟩ := hv.rows (by simp; omega)
  obtain ⟨vr, hcell, hrow⟩ := hrows (c.length - 1) (by simp; omega)
  obtain ⟨ar, capr, rfl, g3, g4⟩ := hrow.shape
  simp only [List.getElem_map, List.getElem_range, List.length_map, List.length_range] at hcell hrow g1 g3 ⊢
  have hc12 := hc1.trans hc2
  have hsz2 := hc12.size
  go_wp2_with fail
  go_loopw [10, 12, 31] (fun v _ i wr => ∃ (j : Nat), j ≤ m ∧ i = .int .i64 j ∧ Own wr w2.heap.size 3 v ((List.range j).map fun q => (pas c bf q (c.length - 1)).left) ∧ Chg (NewB w2.heap.size) w2 wr)
   (fun _ _ i _ => m - (intOf i).toNat)
  case atStart => exact ⟨0, by omega, rfl, Own.nil _ _ _, Chg.refl _ _⟩
  case round =>
   obtain ⟨j, hj, rfl, hown, hch⟩ := hrel
   have hszr := hch.size
   by_cases hjm : j < m
   ·obtain ⟨br, offr, rfl, _, hps⟩ := hrow.passes (by simp; omega)
    obtain ⟨p0, p1⟩ := hps j (by simp; omega)
    simp only [List.getElem_map, List.getElem_range] at p0 p1
    have p0' := hch.cellNew (Nat.le_refl _) p0
    have p1' := hch.cellNew (Nat.le_refl _) p1
    clear hps p0 p1
    obtain ⟨X, hX⟩ : ∃ X, X = (pas c bf j (c.length - 1)).left := ⟨_, rfl⟩
    obtain ⟨Y, hY⟩ : ∃ Y, Y = (pas c bf j (c.length - 1)).taken := ⟨_, rfl⟩
    rw [← hX] at p1'
    rw [← hY] at p0'
    have HX := hid hX; clear hX hY
    obtain ⟨av, capv, hv', _, _⟩ := hown.shape
    simp only [List.length_map, List.length_range] at hv'
    subst hv'
    have hal := hown.keep (S := NoB) ((Chg.refl NoB wr).alloc (.cells #[.int .i64 Y, .int .i64 X] 224)) (fun _ _ _ x => x)
    go_wp2_with (at_builtin; refine wpl_append_intB (wr.alloc (.cells #[.int .i64 Y, .int .i64 X] 224)) rfl _ _ 22 3 rfl Tryz.underlying22 infoInt w2.heap.size _ _ _ hal (by simp; omega) (by simp; omega) _ (by simp) j (by simp) rfl rfl ?_; intro g cap' w3 hown3 hc3 hg3 hlg)
    have hc23 : Chg (NewB w2.heap.size) w2 w3 := (hch.trans ((Chg.refl _ wr).alloc _)).trans (hc3.mono fun q hq x => (hal.lt q x).1)
    go_roundw
    case rel => exact ⟨j + 1, by omega, by go_num, by rw [List.range_succ, List.map_append]; simpa [HX.out] using hown3, hc23⟩
    case measure => simp [intOf]; omega
   ·obtain rfl : j = m := by omega
    go_wp2_with fail
    go_ret2
    exact ⟨_, rfl, by rw [HL.out]; exact hown.isSl.low fun q hq _ => by omega, hc12.trans (hch.mono fun q h1 h2 => by unfold NewB at h2; omega)⟩
 ·have hb : (flowF c bf n != 0) = true := by simp [hf]
  have HL : Hid (leavesF c bf n = []) := by unfold Hid; rw [leavesF, if_neg hf]
  clear hf
  go_enter Tryz.func95, Tryz.ntmps95
  go_wp2_with fail
  refine HF.out.mono ?_
  rintro e w1 ⟨rfl, hc1⟩
  go_wp2_with fail
  go_ret2
  exact ⟨_, rfl, by rw [HL.out]; exact IsSl.nil _ _, hc1⟩
end Go.Proofs.YtemnnmohdpabhaaGreatDoor
namespace Go.Proofs.YtemnnmohdpabhaaGreatDoor
open Go.RowKit
set_option linter.unusedVariables false
set_option linter.unusedSimpArgs false

theorem lined_flow : flowF [10, 30] [0] 2 = 0 := by decide +kernel
theorem lined_leaves : leavesF [10, 30] [0] 2 = [40, 70] := by
 rw [leavesF, if_pos lined_flow]
 have a00 : (pas [10, 30] [0] 0 0).taken = 0 := by rw [pas_taken]; simp [here]
 have b00 : (pas [10, 30] [0] 0 0).left = 10 := by rw [pas_left, a00]; simp [at']
 have a01 : (pas [10, 30] [0] 0 1).taken = 10 := by rw [pas_taken]; simp [here, b00]
 have b01 : (pas [10, 30] [0] 0 1).left = 40 := by rw [pas_left, a01]; simp [at']
 have a10 : (pas [10, 30] [0] 1 0).taken = 10 := by rw [pas_taken]; simp [here, b00]; decide
 have b10 : (pas [10, 30] [0] 1 0).left = 40 := by rw [pas_left, a10]; simp [at', b01]; decide
 have a11 : (pas [10, 30] [0] 1 1).taken = 40 := by rw [pas_taken]; simp [here, b10, b01]
 have b11 : (pas [10, 30] [0] 1 1).left = 70 := by rw [pas_left, a11]; simp [at']
 simp [leaves, List.range_succ, b01, b11]

end Go.Proofs.YtemnnmohdpabhaaGreatDoor
namespace Go.Proofs.YtemnnmohdpabhaaGreatDoor
open Go.RowKit
set_option linter.unusedVariables false
set_option linter.unusedSimpArgs false

theorem isSl_of_rep {w : World} {Z : Nat → Prop} {xs : List Int} {v : Value} (h : Rep w Z (avInts xs) v) : IsSl w Z v xs := by
 change Rep w Z (.im xs.length 1 fun j => avI (xs.getD j 0)) v at h
 generalize hn : xs.length = n at h
 cases h with
 | nil => exact .inl ⟨rfl, List.eq_nil_of_length_eq_zero hn⟩
 | im n sz f b off cap c e u hZ h1 h2 hb hc hr =>
  refine .inr ⟨b, off, cap, c, e, by rw [hn], hZ, by omega, h2, hb, fun i hi => ?_⟩
  show c[off + i * 1 + 0]? = some (.int .i64 xs[i])
  have k1 := hc i (by omega)
  have k2 := (hr i (by omega)).eq_v
  rw [k2] at k1
  simpa [hi] using k1
theorem rep_of_isSl {w : World} {A : Nat → Prop} {v : Value} {xs : List Int} (h : IsSl w A v xs) : Rep w A (avInts xs) v := by
 rcases h with ⟨rfl, rfl⟩ | ⟨b, off, cap, c, e, rfl, hb, hl, hm, hh, hi⟩
 ·exact .nil _ _
 ·refine .im _ 1 _ b off cap c e (fun j => .int .i64 (xs.getD j 0)) hb hl hm hh (fun j hj => ?_) fun j hj => .v _
  have : c[off + j * 1 + 0]? = some (.int .i64 (xs[j]'(by omega))) := hi j (by omega)
  have hj' : j < xs.length := by omega
  simpa [hj'] using this
theorem argsLLv {x y : AV} {u : Value} {w : World} {A : Nat → Prop} {us : Array Value} (h : Args w A [x, y, .v u] us) : ∃ v1 v2, us = #[v1, v2, u] ∧ Rep w (fun b => b < w.heap.size ∧ A b) x v1 ∧ Rep w (fun b => b < w.heap.size ∧ A b) y v2 := by
 obtain ⟨h1, h2⟩ := h
 have e2 := (h2 2 (by simp)).eq_v
 refine ⟨us.getD 0 undef, us.getD 1 undef, ?_, h2 0 (by simp), h2 1 (by simp)⟩
 apply Array.ext (by simpa using h1)
 intro i hi hi'
 simp at hi'
 rw [h1] at hi
 match i, hi' with
 | 0, _ => simp [Array.getD_eq_getD_getElem?, h1]
 | 1, _ => simp [Array.getD_eq_getD_getElem?, h1]
 | 2, _ => simpa [Array.getD_eq_getD_getElem?, h1] using e2
theorem line_Leave_S {c b : List Int} {n : Int} : SpecN Tryz.prog 95 [avInts c, avInts b, avI n] (fun y => y = .tup [avInts (leavesF c b n), avI (flowF c b n)]) := by
 intro w us ha
 obtain ⟨v1, v2, rfl, q1, q2⟩ := argsLLv ha
 refine (leave_any v1 v2 c b n _ _ w (isSl_of_rep q1) (isSl_of_rep q2)).mono ?_
 rintro e w' ⟨v, rfl, hv, hc⟩
 refine ⟨_, _, rfl, rfl, .tup _ _ rfl fun j hj => ?_, hc, trivial⟩
 match j, hj with
 | 0, _ => exact (rep_of_isSl hv).keep fun b hb hl => ⟨rfl, hl, fun h => absurd h (Nat.not_lt.2 hb)⟩
 | 1, _ => exact .v _
end Go.Proofs.YtemnnmohdpabhaaGreatDoor
namespace Go.Proofs.YtemnnmohdpabhaaGreatDoor
open Go.RowKit
set_option linter.unusedVariables false
set_option linter.unusedSimpArgs false
set_option maxRecDepth 100000 in
theorem rk_errs {xs : List Int} (hl : xs.length ≤ 1000000000) :
  SpecN Tryz.prog 64 [avInts xs] (fun y => y = avI (errsF xs)) := by
 refine SpecN.of_VCN Tryz.func64 rfl Tryz.ntmps64 (Nle rfl) fun w A hB => ?_
 have hnew : True := trivial
 refine VC.sr ?_
 refine VO.ma rfl rfl rfl rfl ?_
 refine VO.nil ?_
 refine VC.seq ?_
 refine VC.sr ?_
 refine VO.mv rfl rfl rfl rfl ?_
 refine VO.val rfl rfl (OpV.len_im rfl Tryz.underlying123 rfl) ?_
 refine VO.mv rfl rfl rfl rfl ?_
 refine VO.nil ?_
 refine VC.block ?_
 refine VC.loopK [(5, _), (6, _)] ⟨rfl, rfl, trivial⟩ ({q : Nat // q ≤ xs.length ∧ ∀ j, j < q → xs.getD j 0 = 0}) (fun (iZ : {q : Nat // q ≤ xs.length ∧ ∀ j, j < q → xs.getD j 0 = 0}) => match iZ with | ⟨q, hq, hn⟩ => [(7, avI (q : Int))]) (fun (iZ : {q : Nat // q ≤ xs.length ∧ ∀ j, j < q → xs.getD j 0 = 0}) => match iZ with | ⟨q, hq, hn⟩ => []) (fun (iZ : {q : Nat // q ≤ xs.length ∧ ∀ j, j < q → xs.getD j 0 = 0}) => match iZ with | ⟨q, hq, hn⟩ => 0) (fun (iZ : {q : Nat // q ≤ xs.length ∧ ∀ j, j < q → xs.getD j 0 = 0}) => match iZ with | ⟨q, hq, hn⟩ => xs.length - q) ⟨0, Nat.zero_le _, fun j hj => absurd hj (Nat.not_lt_zero j)⟩ (Le.mk hB [] ⟨rfl, rfl, rfl, trivial⟩ rfl rfl (Nat.le_refl _)) ?_
 rintro ⟨q, hq, hn⟩
 show VC _ _ _ _ ⟨[(7, avI (q : Int))] ++ [(5, _), (6, _)], [], 0⟩
 refine VC.sr ?_
 refine VO.val rfl rfl (OpV.lss rfl rfl rfl) ?_
 refine VO.nil ?_
 refine VC.seq ?_
 refine VC.cond rfl (fun aH1b => ?_) (fun aH1b => ?_)
 ·have aH1 := aH1b
  try simp only [qqT, qqF, qqN, qqM, qqL, qqE] at aH1
  refine VC.skip ?_
  refine VC.seq ?_
  refine VC.block ?_
  refine VC.sr ?_
  refine VO.val rfl rfl (OpV.indexAddr_1 rfl Tryz.underlying123 Tryz.sizeOf33 rfl rfl rfl (by omega)) ?_
  refine VO.val rfl rfl (OpV.load_at rfl hB OutW.no Tryz.isAgg33 rfl rfl) ?_
  refine VO.ma rfl rfl rfl rfl ?_
  refine VO.nil ?_
  refine VC.sr ?_
  refine VO.mv rfl rfl rfl rfl ?_
  refine VO.val rfl rfl (OpV.neq rfl rfl rfl) ?_
  refine VO.nil ?_
  refine VC.cond rfl (fun h1b => ?_) (fun h1b => ?_)
  ·have h1 := h1b
   try simp only [qqT, qqF, qqN, qqM, qqL, qqE] at h1
   refine VC.sr ?_
   refine VO.mv rfl rfl rfl rfl ?_
   refine VO.ma rfl rfl rfl rfl ?_
   refine VO.nil ?_
   refine VC.ret ?_
   exact Exists.intro _ (And.intro (RetN.one Tryz.results64 (ResN.v rfl)) (by rw [errsF_at (q := q) (by omega) hn h1]))
  ·have h1 := h1b
   try simp only [qqT, qqF, qqN, qqM, qqL, qqE] at h1
   refine VC.skip ?_
   refine VC.region ?_
   refine VO.val rfl rfl (OpV.add rfl rfl rfl (by unfold fits; omega)) ?_
   refine VO.mv rfl rfl rfl rfl ?_
   refine VO.nil ?_
   exact Exists.intro (⟨q + 1, by omega, lt_succ_cases hn ((by omega))⟩) (And.intro (Le.mk hB [] ⟨rfl, rfl, rfl, trivial⟩ rfl rfl (Nat.le_refl _)) (by first | omega | (show _ < _; omega) | (simp only []; omega)))
 ·have aH1 := aH1b
  try simp only [qqT, qqF, qqN, qqM, qqL, qqE] at aH1
  refine VC.exit ?_
  refine VC.sr ?_
  refine VO.ma rfl rfl rfl rfl ?_
  refine VO.nil ?_
  refine VC.ret ?_
  exact Exists.intro _ (And.intro (RetN.one Tryz.results64 (ResN.v rfl)) (by rw [errsF_none (fun j hj => hn j (by omega))]))
def rdL : List LookS := [⟨⟨#[98]⟩, ⟨#[99]⟩, 0, 1, true, ⟨#[109]⟩, ⟨#[110]⟩, ⟨#[114]⟩⟩]
theorem one_sz {α : Type} [Inhabited α] {f : α → ByteArray} {x : α} (h : (f x).size ≤ 1000000) (h0 : (f default).size ≤ 1000000) (i : Nat) : (f ([x].getD i default)).size ≤ 1000000 := by
 match i with
 | 0 => exact h
 | i + 1 => exact h0
theorem rdL_sm : SmLk rdL := ⟨by decide, one_sz (f := LookS.board) (by decide) (by decide), one_sz (f := LookS.name) (by decide) (by decide), one_sz (f := LookS.machine) (by decide) (by decide), one_sz (f := LookS.nozzle) (by decide) (by decide), one_sz (f := LookS.reel) (by decide) (by decide)⟩
theorem rdL_ok : millE rdL = 0 := by decide +kernel
theorem rdL_n : (millN rdL).1 = 1000000 := by decide +kernel
def rdP : List PaceS := [⟨⟨#[112]⟩, 10, []⟩]
def rdO : List OrdrS := [⟨⟨#[111]⟩, ⟨#[112]⟩, 3, 0, 5⟩]
theorem rdP_sm : SmPc rdP := ⟨by decide, one_sz (f := PaceS.product) (by decide) (by decide), fun i => by
 match i with
 | 0 => decide
 | i + 1 => show ([] : List NeedS).length ≤ _; decide, fun i j => by
 match i with
 | 0 => show (([] : List NeedS).getD j default).key.size ≤ _; simp; decide
 | i + 1 => show (([] : List NeedS).getD j default).key.size ≤ _; simp; decide⟩
theorem rdO_sm : SmOr rdO := ⟨by decide, one_sz (f := OrdrS.key) (by decide) (by decide), one_sz (f := OrdrS.product) (by decide) (by decide)⟩
theorem rd_sch : scheF rdP rdO [0] 1 0 = 0 := by decide +kernel
theorem rd_from : fromP rdP rdO [0] 1 0 0 = 1 := by decide +kernel
theorem rd_end : endP rdP rdO [0] 1 0 0 = 31 := by decide +kernel
theorem rd_times : timesR rdP rdO [0] 1 0 = [⟨1, 31⟩] := by
 rw [timesR, if_pos rd_sch]
 show [winP rdP rdO [0] 1 0 0] = _
 rw [winP, rd_from, rd_end]
theorem pace_nil {w : World} {Z : Nat → Prop} {u : Value} {a : ByteArray} {b : Int} (h : Rep w Z (.agg [avS a, avI b, .v (.slice none 0 0)]) u) : Rep w Z (avPc ⟨a, b, []⟩) u := by
 cases h with
 | agg cs us hl hr =>
  refine .agg _ us hl fun j hj => ?_
  match j, hj with
  | 0, _ => exact hr 0 (by simp)
  | 1, _ => exact hr 1 (by simp)
  | 2, _ =>
   have := hr 2 (by simp)
   show Rep w Z (.im 0 2 _) _
   rw [this.eq_v]; exact .nil _ _
set_option maxRecDepth 100000 in
set_option maxHeartbeats 4000000 in
theorem rk_ready   :
  SpecN Tryz.prog 30 [] (fun y => y = avB true) := by
 refine SpecN.of_VCN Tryz.func30 rfl Tryz.ntmps30 (Nle rfl) fun w A hB => ?_
 have hnew : True := trivial
 refine VC.sr ?_
 refine VO.ma rfl rfl rfl rfl ?_
 refine VO.nil ?_
 refine VC.sr ?_
 refine VO.val rfl rfl (OpV.build (pls := #[(0, 1), (1, 1), (2, 1), (3, 1), (4, 1)]) rfl Tryz.zeroValue138 Tryz.underlying138 (fun w => by kernel_rfl) rfl rfl) ?_
 refine VO.op rfl (OpE.buildSlice (zc := #[.string ⟨#[]⟩, .string ⟨#[]⟩, .int .i64 0, .int .i64 0, .int .i64 0]) rfl hB rfl Tryz.underlying139 Tryz.sizeOf138 Tryz.zeroValue138 (by decide) (by decide) (by kernel_rfl) rfl rfl ?_)
 refine VO.le _ (Le.recast (t := 13) (y := avL panL) rfl (fun w Z u h => Rep.rowL (xs := panL) rfl h)) ?_
 refine VO.val rfl rfl (OpV.build (pls := #[(0, 1), (1, 1), (2, 1), (3, 1)]) rfl Tryz.zeroValue141 Tryz.underlying141 (fun w => by kernel_rfl) rfl rfl) ?_
 refine VO.op rfl (OpE.call rfl hB rfl Tryz.call99 rfl (SpecN.spec (panel_Needs (p := panP) panP_sm)) ?_)
 rintro _ rfl
 refine VO.le _ (Le.recast (t := 15) (y := .tup [avL ([⟨⟨#[99, 97, 112]⟩, 1⟩] : List NeedS), avI 0]) rfl (fun w Z u h => by rw [← panP_needs, ← panP_ok]; exact h)) ?_
 refine VO.mv rfl rfl rfl rfl ?_
 refine VO.val rfl rfl (OpV.extract rfl rfl rfl) ?_
 refine VO.val rfl rfl (OpV.extract rfl rfl rfl) ?_
 refine VO.ma rfl rfl rfl rfl ?_
 refine VO.ma rfl rfl rfl rfl ?_
 refine VO.nil ?_
 refine VC.sr ?_
 refine VO.op rfl (OpE.buildSlice (zc := #[.string ⟨#[]⟩]) rfl hB rfl Tryz.underlying40 Tryz.sizeOf9 Tryz.zeroValue9 (by decide) (by decide) (by kernel_rfl) rfl rfl ?_)
 refine VO.le _ (Le.recast (t := 19) (y := avStrs loadS) rfl (fun w Z u h => Rep.strs (xs := loadS) rfl h)) ?_
 refine VO.op rfl (OpE.buildSlice (zc := #[.string ⟨#[]⟩]) rfl hB rfl Tryz.underlying40 Tryz.sizeOf9 Tryz.zeroValue9 (by decide) (by decide) (by kernel_rfl) rfl rfl ?_)
 refine VO.le _ (Le.recast (t := 20) (y := avStrs [⟨#[97]⟩]) rfl (fun w Z u h => Rep.strs (xs := [⟨#[97]⟩]) rfl h)) ?_
 refine VO.op rfl (OpE.buildSlice (zc := #[.string ⟨#[]⟩]) rfl hB rfl Tryz.underlying40 Tryz.sizeOf9 Tryz.zeroValue9 (by decide) (by decide) (by kernel_rfl) rfl rfl ?_)
 refine VO.le _ (Le.recast (t := 21) (y := avStrs [⟨#[98]⟩]) rfl (fun w Z u h => Rep.strs (xs := [⟨#[98]⟩]) rfl h)) ?_
 refine VO.op rfl (OpE.buildSlice (zc := #[.slice none 0 0, .slice none 0 0]) rfl hB rfl Tryz.underlying55 Tryz.sizeOf40 Tryz.zeroValue40 (by decide) (by decide) (by kernel_rfl) rfl rfl ?_)
 refine VO.le _ (Le.recast (t := 22) (y := avM loadP) rfl (fun w Z u h => Rep.listM (xs := loadP) rfl h)) ?_
 refine VO.op rfl (OpE.call rfl hB rfl Tryz.call100 rfl (SpecN.spec (setup_Total load_sms load_smss)) ?_)
 rintro _ rfl
 refine VO.le _ (Le.recast (t := 23) (y := .tup [avI 2, avI 0]) rfl (fun w Z u h => by rw [load_two, load_ok] at h; exact h)) ?_
 refine VO.mv rfl rfl rfl rfl ?_
 refine VO.val rfl rfl (OpV.extract rfl rfl rfl) ?_
 refine VO.val rfl rfl (OpV.extract rfl rfl rfl) ?_
 refine VO.ma rfl rfl rfl rfl ?_
 refine VO.ma rfl rfl rfl rfl ?_
 refine VO.nil ?_
 refine VC.sr ?_
 refine VO.op rfl (OpE.buildSlice (zc := #[.int .i64 0, .int .i64 0]) rfl hB rfl Tryz.underlying22 Tryz.sizeOf3 Tryz.zeroValue3 (by decide) (by decide) (by kernel_rfl) rfl rfl ?_)
 refine VO.le _ (Le.lits (t := 27) (xs := [10, 30]) rfl rfl) ?_
 refine VO.op rfl (OpE.buildSlice (zc := #[.int .i64 0]) rfl hB rfl Tryz.underlying22 Tryz.sizeOf3 Tryz.zeroValue3 (by decide) (by decide) (by kernel_rfl) rfl rfl ?_)
 refine VO.le _ (Le.lits (t := 28) (xs := [0]) rfl rfl) ?_
 refine VO.op rfl (OpE.call rfl hB rfl Tryz.call95 rfl (SpecN.spec (line_Leave_S)) ?_)
 rintro _ rfl
 refine VO.le _ (Le.recast (t := 29) (y := .tup [avInts [40, 70], avI 0]) rfl (fun w Z u h => by rw [lined_leaves, lined_flow] at h; exact h)) ?_
 refine VO.mv rfl rfl rfl rfl ?_
 refine VO.val rfl rfl (OpV.extract rfl rfl rfl) ?_
 refine VO.val rfl rfl (OpV.extract rfl rfl rfl) ?_
 refine VO.ma rfl rfl rfl rfl ?_
 refine VO.ma rfl rfl rfl rfl ?_
 refine VO.nil ?_
 refine VC.sr ?_
 refine VO.val rfl rfl (OpV.build (pls := #[(0, 1), (1, 1), (2, 1), (3, 1), (4, 1), (5, 1), (6, 1), (7, 1)]) rfl Tryz.zeroValue104 Tryz.underlying104 (fun w => by kernel_rfl) rfl rfl) ?_
 refine VO.op rfl (OpE.buildSlice (zc := #[.string ⟨#[]⟩, .string ⟨#[]⟩, .int .i64 0, .int .i64 0, .bool false, .string ⟨#[]⟩, .string ⟨#[]⟩, .string ⟨#[]⟩]) rfl hB rfl Tryz.underlying79 Tryz.sizeOf104 Tryz.zeroValue104 (by decide) (by decide) (by kernel_rfl) rfl rfl ?_)
 refine VO.le _ (Le.recast (t := 34) (y := avL rdL) rfl (fun w Z u h => Rep.rowL (xs := rdL) rfl h)) ?_
 refine VO.op rfl (OpE.call rfl hB rfl Tryz.call101 rfl (SpecN.spec (inspect_Million rdL_sm)) ?_)
 rintro _ rfl
 refine VO.le _ (Le.recast (t := 35) (y := .tup [.agg [avI 1000000, avI ((millN rdL).2 : Int)], avI 0]) rfl (fun w Z u h => by rw [rdL_n, rdL_ok] at h; exact h)) ?_
 refine VO.mv rfl rfl rfl rfl ?_
 refine VO.val rfl rfl (OpV.extract rfl rfl rfl) ?_
 refine VO.val rfl rfl (OpV.extract rfl rfl rfl) ?_
 refine VO.op rfl (OpE.alloc rfl hB rfl Tryz.zeroValue144 rfl ?_)
 intro g7
 refine VO.op rfl (OpE.store (i := 0) rfl hB rfl Tryz.sizeOf144 rfl rfl rfl rfl rfl rfl (Nle rfl) trivial ?_)
 refine VO.ma rfl rfl rfl rfl ?_
 refine VO.nil ?_
 refine VC.sr ?_
 refine VO.val rfl rfl (OpV.build (pls := #[(0, 1), (1, 1), (2, 1)]) rfl Tryz.zeroValue151 Tryz.underlying151 (fun w => by kernel_rfl) rfl rfl) ?_
 refine VO.le _ (Le.recast (t := 39) (y := avPc ⟨⟨#[112]⟩, 10, []⟩) rfl (fun w Z u h => pace_nil h)) ?_
 refine VO.op rfl (OpE.buildSlice (zc := #[.string ⟨#[]⟩, .int .i64 0, .slice none 0 0]) rfl hB rfl Tryz.underlying152 Tryz.sizeOf151 Tryz.zeroValue151 (by decide) (by decide) (by kernel_rfl) rfl rfl ?_)
 refine VO.le _ (Le.recast (t := 40) (y := avL rdP) rfl (fun w Z u h => Rep.rowL (xs := rdP) rfl h)) ?_
 refine VO.val rfl rfl (OpV.build (pls := #[(0, 1), (1, 1), (2, 1), (3, 1), (4, 1)]) rfl Tryz.zeroValue154 Tryz.underlying154 (fun w => by kernel_rfl) rfl rfl) ?_
 refine VO.op rfl (OpE.buildSlice (zc := #[.string ⟨#[]⟩, .string ⟨#[]⟩, .int .i64 0, .int .i64 0, .int .i64 0]) rfl hB rfl Tryz.underlying155 Tryz.sizeOf154 Tryz.zeroValue154 (by decide) (by decide) (by kernel_rfl) rfl rfl ?_)
 refine VO.le _ (Le.recast (t := 42) (y := avL rdO) rfl (fun w Z u h => Rep.rowL (xs := rdO) rfl h)) ?_
 refine VO.op rfl (OpE.buildSlice (zc := #[.int .i64 0]) rfl hB rfl Tryz.underlying22 Tryz.sizeOf3 Tryz.zeroValue3 (by decide) (by decide) (by kernel_rfl) rfl rfl ?_)
 refine VO.le _ (Le.lits (t := 43) (xs := [0]) rfl rfl) ?_
 refine VO.op rfl (OpE.call rfl hB rfl Tryz.call102 rfl (SpecN.spec (plan_Times rdP_sm rdO_sm (by decide))) ?_)
 rintro _ rfl
 refine VO.le _ (Le.recast (t := 44) (y := .tup [avL ([⟨1, 31⟩] : List WinS), avI 0]) rfl (fun w Z u h => by rw [rd_times, rd_sch] at h; exact h)) ?_
 refine VO.mv rfl rfl rfl rfl ?_
 refine VO.val rfl rfl (OpV.extract rfl rfl rfl) ?_
 refine VO.val rfl rfl (OpV.extract rfl rfl rfl) ?_
 refine VO.ma rfl rfl rfl rfl ?_
 refine VO.ma rfl rfl rfl rfl ?_
 refine VO.nil ?_
 refine VC.sr ?_
 refine VO.mv rfl rfl rfl rfl ?_
 refine VO.mv rfl rfl rfl rfl ?_
 refine VO.mv rfl rfl rfl rfl ?_
 refine VO.mv rfl rfl rfl rfl ?_
 refine VO.mv rfl rfl rfl rfl ?_
 refine VO.op rfl (OpE.buildSlice (zc := #[.int .i64 0, .int .i64 0, .int .i64 0, .int .i64 0, .int .i64 0]) rfl hB rfl Tryz.underlying123 Tryz.sizeOf33 Tryz.zeroValue33 (by decide) (by decide) (by kernel_rfl) rfl rfl ?_)
 refine VO.le _ (Le.lits (t := 52) (xs := [0, 0, 0, 0, 0]) rfl rfl) ?_
 refine VO.op rfl (OpE.call rfl hB rfl Tryz.call64 rfl (SpecN.spec (rk_errs (by decide))) ?_)
 rintro _ rfl
 refine VO.val rfl rfl (OpV.eql rfl rfl rfl) ?_
 refine VO.le _ (Le.boolT (t := 54) rfl (decide_eq_true rfl)) ?_
 refine VO.mv rfl rfl rfl rfl ?_
 refine VO.opY rfl rfl rfl rfl rfl ?_
 refine OpE.val (W := NoB) (OpV.move (.inl rfl) rfl) rfl ?_
 refine VO.opY rfl rfl rfl rfl rfl ?_
 refine OpE.val (W := NoB) (OpV.len_im rfl Tryz.underlying28 rfl) rfl ?_
 refine VO.opY rfl rfl rfl rfl rfl ?_
 refine OpE.val (W := NoB) (OpV.eql rfl rfl rfl) rfl ?_
 refine VO.le _ (Le.boolT (t := 58) rfl (decide_eq_true rfl)) ?_
 refine VO.val rfl rfl (OpV.pickT rfl rfl rfl rfl rfl) ?_
 refine VO.mv rfl rfl rfl rfl ?_
 refine VO.opY rfl rfl rfl rfl rfl ?_
 refine OpE.val (W := NoB) (OpV.move (.inl rfl) rfl) rfl ?_
 refine VO.opY rfl rfl rfl rfl rfl ?_
 refine OpE.val (W := NoB) (OpV.eql rfl rfl rfl) rfl ?_
 refine VO.le _ (Le.boolT (t := 62) rfl (decide_eq_true rfl)) ?_
 refine VO.val rfl rfl (OpV.pickT rfl rfl rfl rfl rfl) ?_
 refine VO.mv rfl rfl rfl rfl ?_
 refine VO.opY rfl rfl rfl rfl rfl ?_
 refine OpE.val (W := NoB) (OpV.move (.inl rfl) rfl) rfl ?_
 refine VO.opY rfl rfl rfl rfl rfl ?_
 refine OpE.val (W := NoB) (OpV.len_im rfl Tryz.underlying22 rfl) rfl ?_
 refine VO.opY rfl rfl rfl rfl rfl ?_
 refine OpE.val (W := NoB) (OpV.eql rfl rfl rfl) rfl ?_
 refine VO.le _ (Le.boolT (t := 67) rfl (decide_eq_true rfl)) ?_
 refine VO.val rfl rfl (OpV.pickT rfl rfl rfl rfl rfl) ?_
 refine VO.mv rfl rfl rfl rfl ?_
 refine VO.opY rfl rfl rfl rfl rfl ?_
 refine OpE.val (W := NoB) (OpV.fieldAddrO 0 rfl Tryz.underlying144 rfl rfl Tryz.sizeOf3 rfl) rfl ?_
 refine VO.opY rfl rfl rfl rfl rfl ?_
 refine OpE.val (W := NoB) (OpV.load_own (i := 0) rfl hB Tryz.isAgg3 rfl rfl rfl (fun h => h)) rfl ?_
 refine VO.opY rfl rfl rfl rfl rfl ?_
 refine OpE.val (W := NoB) (OpV.eql rfl rfl rfl) rfl ?_
 refine VO.le _ (Le.boolT (t := 72) rfl (decide_eq_true rfl)) ?_
 refine VO.val rfl rfl (OpV.pickT rfl rfl rfl rfl rfl) ?_
 refine VO.mv rfl rfl rfl rfl ?_
 refine VO.opY rfl rfl rfl rfl rfl ?_
 refine OpE.val (W := NoB) (OpV.move (.inl rfl) rfl) rfl ?_
 refine VO.opY rfl rfl rfl rfl rfl ?_
 refine OpE.val (W := NoB) (OpV.len_im rfl Tryz.underlying147 rfl) rfl ?_
 refine VO.opY rfl rfl rfl rfl rfl ?_
 refine OpE.val (W := NoB) (OpV.eql rfl rfl rfl) rfl ?_
 refine VO.le _ (Le.boolT (t := 77) rfl (decide_eq_true rfl)) ?_
 refine VO.val rfl rfl (OpV.pickT rfl rfl rfl rfl rfl) ?_
 refine VO.mv rfl rfl rfl rfl ?_
 refine VO.opY rfl rfl rfl rfl rfl ?_
 refine OpE.val (W := NoB) (OpV.move (.inl rfl) rfl) rfl ?_
 refine VO.opY rfl rfl rfl rfl rfl ?_
 refine OpE.val (W := NoB) (OpV.indexAddr_E rfl Tryz.underlying147 Tryz.sizeOf157 rfl rfl rfl (by show 0 < 1; decide)) rfl ?_
 refine VO.opY rfl rfl rfl rfl rfl ?_
 refine OpE.val (W := NoB) (OpV.fieldAddr_atO 1 rfl Tryz.underlying157 rfl rfl Tryz.sizeOf3 rfl rfl) rfl ?_
 refine VO.opY rfl rfl rfl rfl rfl ?_
 refine OpE.val (W := NoB) (OpV.load_at rfl hB OutW.no Tryz.isAgg3 rfl rfl) rfl ?_
 refine VO.opY rfl rfl rfl rfl rfl ?_
 refine OpE.val (W := NoB) (OpV.eql rfl rfl rfl) rfl ?_
 refine VO.le _ (Le.boolT (t := 84) rfl (decide_eq_true rfl)) ?_
 refine VO.val rfl rfl (OpV.pickT rfl rfl rfl rfl rfl) ?_
 refine VO.ma rfl rfl rfl rfl ?_
 refine VO.nil ?_
 refine VC.ret ?_
 exact Exists.intro _ (And.intro (RetN.one Tryz.results30 (ResN.v rfl)) (rfl))
end Go.Proofs.YtemnnmohdpabhaaGreatDoor
namespace Go.Proofs.YtemnnmohdpabhaaGreatDoor
open Go.RowKit
set_option linter.unusedVariables false
set_option linter.unusedSimpArgs false
theorem Le.boolF {B : Bs} {s : St'} {t : Nat} {b : Bool} (ht : look s.sl t = some (avB b)) (hb : b = false) : Le B s ⟨(t, avB false) :: s.sl, s.hp, s.k⟩ := Le.recast ht fun w Z u h => by subst hb; exact h
end Go.Proofs.YtemnnmohdpabhaaGreatDoor
