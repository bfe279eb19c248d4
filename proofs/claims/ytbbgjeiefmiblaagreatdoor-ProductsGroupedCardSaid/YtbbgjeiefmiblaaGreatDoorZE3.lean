/- Part 3 of a proof: the walks and laws that it needs. -/
import Derived.Lib.Bytealg
import Derived.Lib.AtoiErrMem
import Derived.WideLaws
import Derived.Lib.LaidTab
import Derived.Lib.ItoaNum
import Derived.Sort.Grow
import Derived.Lib.ItoaMem
import Derived.Lib.AppendStr
import Derived.Lib.Builder
import Derived.WalkKit
import Derived.Laws.Externs
import Derived.Test.YtbbgjeiefmiblaaGreatDoorZE2
namespace Go.Proofs.YtbbgjeiefmiblaaGreatDoor
open Go.RowKit
set_option linter.unusedVariables false
set_option linter.unusedSimpArgs false
abbrev ownG (p : List (List ByteArray)) (slots most g : Nat) (uP uG : Value) (st : GrpS) : List Ent :=
 [.box g ⟨[avI (slots : Int), avI (most : Int), avM p, .v uP, .v uG], 95, 5⟩, .row uP st.parts.length 1 (listM st.parts) 29, .row uG st.groups.length 1 (listM st.groups) 22]
def frG (st : GrpS) (k : Nat) : GrpS := if k = st.parts.length then ⟨st.parts ++ [[]], st.groups ++ [[]]⟩ else st
section
variable {p : List (List ByteArray)} {slots most i k : Nat} {st : GrpS}
theorem frG_y (h : k = st.parts.length) : frG st k = ⟨st.parts ++ [[]], st.groups ++ [[]]⟩ := if_pos h
theorem frG_n (h : k ≠ st.parts.length) : frG st k = st := if_neg h
theorem frG_lens (hl : st.parts.length = st.groups.length) : (frG st k).parts.length = (frG st k).groups.length := by unfold frG; split <;> simp [hl]
theorem frG_lt (h : k ≤ st.parts.length) : k < (frG st k).parts.length := by
 unfold frG; split
 ·simp; omega
 ·omega
theorem frG_parts (h : k ≤ st.parts.length) : (frG st k).parts.getD k default = st.parts.getD k [] := by
 unfold frG; split
 ·rename_i e; subst e; simp [List.getD_eq_getElem?_getD]
 ·rfl
theorem frG_groups (hl : st.parts.length = st.groups.length) (h : k ≤ st.parts.length) : (frG st k).groups.getD k default = st.groups.getD k [] := by
 unfold frG; split
 ·rename_i e; rw [hl] at e; subst e; simp [List.getD_eq_getElem?_getD]
 ·rfl
theorem frG_put (hl : st.parts.length = st.groups.length) (h : k ≤ st.parts.length) : putG p i k st = ⟨(frG st k).parts.set k (allG p i k st), (frG st k).groups.set k (st.groups.getD k [] ++ [(i : Int)])⟩ := by
 unfold putG frG
 by_cases e : k = st.parts.length
 ·rw [if_neg (by omega), if_pos e]
  have e2 : st.groups.getD k [] = [] := by rw [List.getD_eq_getElem?_getD, List.getElem?_eq_none (by omega)]; rfl
  have e3 := e.trans hl
  rw [e2]
  simp only [List.nil_append]
  congr 1
  ·rw [e, List.set_append_right _ _ (Nat.le_refl _), Nat.sub_self]; rfl
  ·rw [e3, List.set_append_right _ _ (Nat.le_refl _), Nat.sub_self]; rfl
 ·rw [if_pos (by omega), if_neg e]
theorem set_backM {α : Type} [Inhabited α] {l : List α} {k : Nat} {x : α} (hk : k < l.length) : (l.set k x).set k (l.getD k default) = l := by
 rw [List.set_set]
 apply List.ext_getElem (by simp)
 intro j h1 h2
 rw [List.getElem_set]
 split
 ·rename_i e; subst e; simp [List.getD_eq_getElem?_getD, hk]
 ·rfl
theorem try_end {d : Nat} (h : min (st.parts.length + 1) most ≤ k) (hn : ∀ j, j < k → tryQ p slots (tryG p slots most d) i st j = none) : tryG p slots most (d + 1) i st = none := by
 rw [tryG]
 exact List.findSome?_eq_none_iff.2 fun j hj => hn j (by have := List.mem_range.1 hj; omega)
theorem try_at {d : Nat} {r : GrpS} (hk : k ≤ st.parts.length) (hm : k < most) (hn : ∀ j, j < k → tryQ p slots (tryG p slots most d) i st j = none) (hs : (allG p i k st).length ≤ slots) (h : tryG p slots most d (i + 1) (putG p i k st) = some r) : tryG p slots most (d + 1) i st = some r := by
 rw [tryG]
 have e : List.range (min (st.parts.length + 1) most) = List.range k ++ (List.range (min (st.parts.length + 1) most)).drop k := by
  conv => lhs; rw [← List.take_append_drop k (List.range (min (st.parts.length + 1) most))]
  rw [List.take_range, Nat.min_eq_left (by omega)]
 have e2 : (List.range (min (st.parts.length + 1) most)).drop k = k :: (List.range (min (st.parts.length + 1) most)).drop (k + 1) := by
  rw [List.drop_eq_getElem_cons (by simp; omega)]; simp
 rw [e, List.findSome?_append, List.findSome?_eq_none_iff.2 (fun j hj => hn j (List.mem_range.1 hj)), e2, List.findSome?_cons]
 have : tryQ p slots (tryG p slots most d) i st k = some r := by rw [tryQ, if_pos hs, h]
 rw [this]; rfl
theorem try_at2 {d : Nat} {s2 : GrpS} (hk : k ≤ st.parts.length) (hm : k < most) (hn : ∀ j, j < k → tryQ p slots (tryG p slots most d) i st j = none) (hs : (allG p i k st).length ≤ slots) (hput : putG p i k st = s2) (h : (tryG p slots most d (i + 1) s2).isSome = true) : tryG p slots most (d + 1) i st = tryG p slots most d (i + 1) s2 := by
 subst hput
 obtain ⟨r, hr⟩ := Option.isSome_iff_exists.1 h
 rw [hr]; exact try_at hk hm hn hs hr
theorem opt_getD {α : Type} {x y : Option α} {a : α} (b : α) (h : y = x) (hx : x.isSome = true) : x.getD a = y.getD b := by
 subst h
 obtain ⟨r, rfl⟩ := Option.isSome_iff_exists.1 hx
 rfl
theorem tryQ_big {f : Nat → GrpS → Option GrpS} (h : ¬ (allG p i k st).length ≤ slots) : tryQ p slots f i st k = none := if_neg h
theorem tryQ_no {f : Nat → GrpS → Option GrpS} (h : f (i + 1) (putG p i k st) = none) : tryQ p slots f i st k = none := by unfold tryQ; split; exact h; rfl
theorem rep_nil1 {w : World} {Z : Nat → Prop} {u : Value} (h : Rep w Z (.im 1 1 fun j => ([.v (.slice none 0 0)] : List AV).getD j .any) u) {y : AV} (hy : Rep w Z y (.slice none 0 0)) : Rep w Z (.im 1 1 fun _ => y) u :=
 Rep.im_mono (fun j hj u h => by
  obtain rfl : j = 0 := by omega
  have h' : Rep w Z (.v (.slice none 0 0)) u := h
  rw [h'.eq_v]; exact hy) h
theorem Wi.notD4 {ops : Array Oper} {i a1 a2 a3 a4 g : Nat} {X Y Z U : Nat → Prop} (h1 : depB ops a1 i = true ∨ ¬ X g) (h2 : depB ops a2 i = true ∨ ¬ Y g) (h3 : depB ops a3 i = true ∨ ¬ Z g) (h4 : depB ops a4 i = true ∨ ¬ U g) : ¬ Wi (fun j b => (j = a1 ∧ X b) ∨ (j = a2 ∧ Y b) ∨ (j = a3 ∧ Z b) ∨ (j = a4 ∧ U b)) ops i g := fun ⟨j, k1, k2⟩ => by
 rcases k2 with ⟨rfl, k2⟩ | ⟨rfl, k2⟩ | ⟨rfl, k2⟩ | ⟨rfl, k2⟩
 ·exact h1.elim (fun h => by rw [h] at k1; cases k1) fun h => h k2
 ·exact h2.elim (fun h => by rw [h] at k1; cases k1) fun h => h k2
 ·exact h3.elim (fun h => by rw [h] at k1; cases k1) fun h => h k2
 ·exact h4.elim (fun h => by rw [h] at k1; cases k1) fun h => h k2
structure GOk (i : Nat) (st : GrpS) : Prop where
 len : st.parts.length = st.groups.length
 le : st.parts.length ≤ i
 par : ∀ j, SmS (st.parts.getD j default) ∧ (st.parts.getD j default).length ≤ 1000
 grp : ∀ j, (st.groups.getD j default).length ≤ i
theorem getD_setD {α : Type} [Inhabited α] {l : List α} {k j : Nat} {x : α} (hk : k < l.length) : (l.set k x).getD j default = if j = k then x else l.getD j default := by
 simp only [List.getD_eq_getElem?_getD, List.getElem?_set]
 by_cases h : k = j
 ·subst h; simp [hk]
 ·rw [if_neg h, if_neg (fun e => h e.symm)]
theorem SmS.app {a b : List ByteArray} (ha : SmS a) (hb : SmS b) (h : (a ++ b).length ≤ 1000000000) : SmS (a ++ b) := ⟨h, fun j => by
 rw [List.getD_eq_getElem?_getD, List.getElem?_append]
 split
 ·have := ha.2 j; rwa [List.getD_eq_getElem?_getD] at this
 ·have := hb.2 (j - a.length); rwa [List.getD_eq_getElem?_getD] at this⟩
theorem SmS.filt {a : List ByteArray} {f : ByteArray → Bool} (h : SmS a) : SmS (a.filter f) := ⟨Nat.le_trans (List.length_filter_le _ _) h.1, fun j => by
 rw [List.getD_eq_getElem?_getD]
 cases hj : (a.filter f)[j]? with
 | none => decide
 | some x =>
  have hm := (List.mem_filter.1 (List.mem_of_getElem? hj)).1
  obtain ⟨q, hq, rfl⟩ := List.getElem_of_mem hm
  have := h.2 q
  rw [List.getD_eq_getElem?_getD, List.getElem?_eq_getElem hq] at this
  exact this⟩
theorem SmS.miss {a b : List ByteArray} (h : SmS b) : SmS (missF a b) := h.filt
theorem GOk.put (h : GOk i st) (hp : ∀ j, SmS (p.getD j default)) (hk : k ≤ st.parts.length) (hs : (allG p i k st).length ≤ slots) (hsl : slots ≤ 1000) : GOk (i + 1) (putG p i k st) := by
 have hl := h.len
 have hn := h.le
 have hfl := frG_lt hk
 have hfe := frG_lens (k := k) hl
 have hfn : (frG st k).parts.length ≤ i + 1 := by unfold frG; split; (simp; omega); omega
 have hsz : (allG p i k st).length ≤ 1000000000 := by omega
 have hall : SmS (allG p i k st) := (h.par k).1.app (hp i).miss hsz
 rw [frG_put hl hk]
 refine ⟨by simp only [List.length_set]; exact hfe, by simp only [List.length_set]; exact hfn, fun j => ?_, fun j => ?_⟩
 ·simp only
  rw [getD_setD hfl]
  split
  ·exact ⟨hall, by omega⟩
  ·unfold frG; split
   ·simp only
    rw [List.getD_eq_getElem?_getD, List.getElem?_append]
    split
    ·have := h.par j; rwa [List.getD_eq_getElem?_getD] at this
    ·cases hj : ([[]] : List (List ByteArray))[j - st.parts.length]? with
     | none => exact ⟨SmS.nil, by decide⟩
     | some x => have := List.mem_of_getElem? hj; simp at this; subst this; exact ⟨SmS.nil, by decide⟩
   ·exact h.par j
 ·simp only
  rw [getD_setD (by omega)]
  split
  ·have := h.grp k; rw [List.length_append]; show (st.groups.getD k default).length + 1 ≤ _; omega
  ·unfold frG; split
   ·simp only
    rw [List.getD_eq_getElem?_getD, List.getElem?_append]
    split
    ·have := h.grp j; rw [List.getD_eq_getElem?_getD] at this; omega
    ·cases hj : ([[]] : List (List Int))[j - st.groups.length]? with
     | none => exact Nat.zero_le _
     | some x => have := List.mem_of_getElem? hj; simp at this; subst this; exact Nat.zero_le _
   ·have := h.grp j; omega
end
set_option maxRecDepth 100000 in
set_option maxHeartbeats 16000000 in
theorem grp_try_step {p : List (List ByteArray)} {slots most g i d : Nat} {uP uG : Value} {st : GrpS} (hp : ∀ j, SmS (p.getD j default)) (hpl : p.length ≤ 10) (hpk : ∀ j, (p.getD j default).length ≤ 1000) (hsl : slots ≤ 1000) (ih : ∀ d', d = d' + 1 → ∀ (uP uG : Value) (st : GrpS), GOk (i + 1) st → SpecH Tryz.prog 59 [pt g, avI ((i : Int) + 1)] (ownG p slots most g uP uG st) (fun y hp' => ∃ uP' uG', y = avB (tryG p slots most d' (i + 1) st).isSome ∧ hp' = ownG p slots most g uP' uG' ((tryG p slots most d' (i + 1) st).getD st))) (hid : i + d = p.length) (hok : GOk i st) :
    SpecH Tryz.prog 59 [pt g, avI (i : Int)] (ownG p slots most g uP uG st) (fun y hp' => ∃ uP' uG', y = avB (tryG p slots most d i st).isSome ∧ hp' = ownG p slots most g uP' uG' ((tryG p slots most d i st).getD st)) := by
  have hl := hok.len
  have hn := hok.le
  refine SpecH.of_VC Tryz.func59 rfl Tryz.ntmps59 (Nle rfl) fun w A hB => ?_
  have hnew : True := trivial
  refine VC.sr ?_
  refine VO.ma rfl rfl rfl rfl ?_
  refine VO.nil ?_
  refine VC.seq ?_
  refine VC.sr ?_
  refine VO.mv rfl rfl rfl rfl ?_
  refine VO.mv rfl rfl rfl rfl ?_
  refine VO.val rfl rfl (OpV.nilCheck rfl rfl) ?_
  refine VO.val rfl rfl (OpV.fieldAddrO 2 rfl Tryz.underlying95 rfl rfl Tryz.sizeOf27 rfl) ?_
  refine VO.val rfl rfl (OpV.load_own (i := 0) rfl hB Tryz.isAgg27 rfl rfl rfl (fun h => h)) ?_
  refine VO.val rfl rfl (OpV.len_im rfl Tryz.underlying27 rfl) ?_
  refine VO.val rfl rfl (OpV.eql rfl rfl rfl) ?_
  refine VO.nil ?_
  refine VC.cond rfl (fun h0b => ?_) (fun h0b => ?_)
  · have h0 := h0b
    try simp only [qqT, qqF, qqN, qqM, qqL, qqE] at h0
    obtain rfl : d = 0 := by omega
    refine VC.sr ?_
    refine VO.ma rfl rfl rfl rfl ?_
    refine VO.nil ?_
    refine VC.ret ?_
    exact Exists.intro _ (And.intro (RetV.one Tryz.results59 (ResV.tmp rfl)) (⟨uP, uG, rfl, rfl⟩))
  · have h0 := h0b
    try simp only [qqT, qqF, qqN, qqM, qqL, qqE] at h0
    obtain ⟨d', rfl⟩ : ∃ d', d = d' + 1 := ⟨d - 1, by omega⟩
    have hi10 : i < p.length := by omega
    refine VC.skip ?_
    refine VC.seq ?_
    refine VC.sr ?_
    refine VO.ma rfl rfl rfl rfl ?_
    refine VO.nil ?_
    refine VC.block ?_
    refine VC.loopK [(0, _), (1, _)] ⟨rfl, rfl, trivial⟩ ({z : (Value × Value) × Nat // z.2 ≤ st.parts.length ∧ ∀ j, j < z.2 → tryQ p slots (tryG p slots most d') i st j = none}) (fun (iZ : {z : (Value × Value) × Nat // z.2 ≤ st.parts.length ∧ ∀ j, j < z.2 → tryQ p slots (tryG p slots most d') i st j = none}) => match iZ with | ⟨⟨⟨vP, vG⟩, k⟩, hk, hkn⟩ => [(5, avI (k : Int))]) (fun (iZ : {z : (Value × Value) × Nat // z.2 ≤ st.parts.length ∧ ∀ j, j < z.2 → tryQ p slots (tryG p slots most d') i st j = none}) => match iZ with | ⟨⟨⟨vP, vG⟩, k⟩, hk, hkn⟩ => ownG p slots most g vP vG st) (fun (iZ : {z : (Value × Value) × Nat // z.2 ≤ st.parts.length ∧ ∀ j, j < z.2 → tryQ p slots (tryG p slots most d') i st j = none}) => match iZ with | ⟨⟨⟨vP, vG⟩, k⟩, hk, hkn⟩ => 0) (fun (iZ : {z : (Value × Value) × Nat // z.2 ≤ st.parts.length ∧ ∀ j, j < z.2 → tryQ p slots (tryG p slots most d') i st j = none}) => match iZ with | ⟨⟨⟨vP, vG⟩, k⟩, hk, hkn⟩ => st.parts.length - k) ⟨((uP, uG), 0), Nat.zero_le _, fun j hj => absurd hj (Nat.not_lt_zero j)⟩ (Le.mkP hB ⟨rfl, rfl, rfl, trivial⟩ (List.Sublist.refl _) (List.Perm.refl _) (Nat.le_refl _)) ?_
    rintro ⟨⟨⟨vP, vG⟩, k⟩, hk, hkn⟩
    show VC _ _ _ _ ⟨[(5, avI (k : Int))] ++ [(0, _), (1, _)], ownG p slots most g vP vG st, 0⟩
    simp only at hk hkn
    refine VC.seq ?_
    refine VC.sr ?_
    refine VO.mv rfl rfl rfl rfl ?_
    refine VO.mv rfl rfl rfl rfl ?_
    refine VO.val rfl rfl (OpV.nilCheck rfl rfl) ?_
    refine VO.val rfl rfl (OpV.fieldAddrO 4 rfl Tryz.underlying95 rfl rfl Tryz.sizeOf35 rfl) ?_
    refine VO.val rfl rfl (OpV.load_own (i := 0) rfl hB Tryz.isAgg35 rfl rfl rfl (fun h => h)) ?_
    refine VO.val rfl rfl (OpV.len_row (i := 2) rfl Tryz.underlying35 rfl rfl) ?_
    refine VO.val rfl rfl (OpV.leq rfl rfl rfl) ?_
    refine VO.mv rfl rfl rfl rfl ?_
    refine VO.opG rfl rfl rfl rfl (fun aK1b => ?_) (fun aK1b => ?_)
    · replace aK1b : _ = true := aK1b
      have aK1 := aK1b
      try simp only [qqT, qqF, qqN, qqM, qqL, qqE] at aK1
      refine OpE.val (W := NoB) (OpV.move (.inl rfl) rfl) rfl ?_
      refine VO.opY rfl rfl rfl rfl aK1b ?_
      refine OpE.val (W := NoB) (OpV.move (.inl rfl) rfl) rfl ?_
      refine VO.opY rfl rfl rfl rfl aK1b ?_
      refine OpE.val (W := NoB) (OpV.nilCheck rfl rfl) rfl ?_
      refine VO.opY rfl rfl rfl rfl aK1b ?_
      refine OpE.val (W := NoB) (OpV.fieldAddrO 1 rfl Tryz.underlying95 rfl rfl Tryz.sizeOf3 rfl) rfl ?_
      refine VO.opY rfl rfl rfl rfl aK1b ?_
      refine OpE.val (W := NoB) (OpV.load_own (i := 0) rfl hB Tryz.isAgg3 rfl rfl rfl (fun h => h)) rfl ?_
      refine VO.opY rfl rfl rfl rfl aK1b ?_
      refine OpE.val (W := NoB) (OpV.lss rfl rfl rfl) rfl ?_
      refine VO.val rfl rfl (OpV.pickT rfl rfl rfl rfl aK1b) ?_
      refine VO.nil ?_
      refine VC.cond rfl (fun h1b => ?_) (fun h1b => ?_)
      · have h1 := h1b
        try simp only [qqT, qqF, qqN, qqM, qqL, qqE] at h1
        refine VC.skip ?_
        refine VC.seq ?_
        refine VC.block ?_
        refine VC.sr ?_
        refine VO.mv rfl rfl rfl rfl ?_
        refine VO.mv rfl rfl rfl rfl ?_
        refine VO.val rfl rfl (OpV.nilCheck rfl rfl) ?_
        refine VO.val rfl rfl (OpV.fieldAddrO 4 rfl Tryz.underlying95 rfl rfl Tryz.sizeOf35 rfl) ?_
        refine VO.val rfl rfl (OpV.load_own (i := 0) rfl hB Tryz.isAgg35 rfl rfl rfl (fun h => h)) ?_
        refine VO.val rfl rfl (OpV.len_row (i := 2) rfl Tryz.underlying35 rfl rfl) ?_
        refine VO.val rfl rfl (OpV.eql rfl rfl rfl) ?_
        refine VO.le _ (Le.recast (t := 40) (y := avB (decide (k = st.parts.length))) rfl (fun w Z u h => by rw [show decide (k = st.parts.length) = decide ((k : Int) = (st.groups.length : Int)) from decide_eq_decide.2 (by omega)]; exact h)) ?_
        refine VO.ma rfl rfl rfl rfl ?_
        refine VO.nil ?_
        refine VC.joinI ({z : (Value × Value) × List (List ByteArray) × List (List Int) // z.2.1 = (frG st k).parts ∧ z.2.2 = (frG st k).groups}) (fun (iZ : {z : (Value × Value) × List (List ByteArray) × List (List Int) // z.2.1 = (frG st k).parts ∧ z.2.2 = (frG st k).groups}) => match iZ with | ⟨⟨⟨wP, wG⟩, P0, G0⟩, hP0, hG0⟩ => ⟨[(0, pt g), (1, avI (i : Int)), (5, avI (k : Int)), (6, avB (decide (k = st.parts.length)))], [.box g ⟨[avI (slots : Int), avI (most : Int), avM p, .v wP, .v wG], 95, 5⟩, .row wP P0.length 1 (listM P0) 29, .row wG G0.length 1 (listM G0) 22], 0⟩) ?_ ?_
        ·
          refine VC.sr ?_
          refine VO.mv rfl rfl rfl rfl ?_
          refine VO.nil ?_
          refine VC.cond rfl (fun h2b => ?_) (fun h2b => ?_)
          · have h2 := h2b
            try simp only [qqT, qqF, qqN, qqM, qqL, qqE] at h2
            refine VC.hap (fun hap => ?_)
            have nP : vP.ownBlock ≠ some g := hap.get (i := 0) (j := 1) rfl rfl (by decide) rfl
            have nG : vG.ownBlock ≠ some g := hap.get (i := 0) (j := 2) rfl rfl (by decide) rfl
            refine VC.draw (fun j b => (j = 16 ∧ b = g) ∨ (j = 19 ∧ b = g) ∨ (j = 7 ∧ vP.ownBlock = some b) ∨ (j = 13 ∧ vG.ownBlock = some b)) hB (by kernel_rfl) ?_
            refine VA.take (i := 0) rfl (by kernel_rfl) (by kernel_rfl) (by kernel_rfl) rfl rfl (OpV.move (.inl rfl) rfl) ?_
            refine VA.take (i := 1) rfl (by kernel_rfl) (by kernel_rfl) (by kernel_rfl) rfl rfl (OpV.move (.inl rfl) rfl) ?_
            refine VA.take (i := 2) rfl (by kernel_rfl) (by kernel_rfl) (by kernel_rfl) rfl rfl (OpV.move (.inl rfl) rfl) ?_
            refine VA.take (i := 3) rfl (by kernel_rfl) (by kernel_rfl) (by kernel_rfl) rfl rfl (OpV.nilCheck rfl rfl) ?_
            refine VA.take (i := 4) rfl (by kernel_rfl) (by kernel_rfl) (by kernel_rfl) rfl rfl (OpV.fieldAddrO 3 rfl Tryz.underlying95 rfl rfl Tryz.sizeOf27 rfl) ?_
            refine VA.take (i := 5) rfl (by kernel_rfl) (by kernel_rfl) (by kernel_rfl) rfl rfl (OpV.load_own (i := 0) rfl hB Tryz.isAgg27 rfl rfl rfl (Wi.notD4 (.inl (by kernel_rfl)) (.inl (by kernel_rfl)) (.inl (by kernel_rfl)) (.inr nG))) ?_
            refine VA.take (i := 8) rfl (by kernel_rfl) (by kernel_rfl) (by kernel_rfl) rfl rfl (OpV.move (.inl rfl) rfl) ?_
            refine VA.take (i := 9) rfl (by kernel_rfl) (by kernel_rfl) (by kernel_rfl) rfl rfl (OpV.nilCheck rfl rfl) ?_
            refine VA.take (i := 10) rfl (by kernel_rfl) (by kernel_rfl) (by kernel_rfl) rfl rfl (OpV.fieldAddrO 4 rfl Tryz.underlying95 rfl rfl Tryz.sizeOf35 rfl) ?_
            refine VA.take (i := 11) rfl (by kernel_rfl) (by kernel_rfl) (by kernel_rfl) rfl rfl (OpV.load_own (i := 0) rfl hB Tryz.isAgg35 rfl rfl rfl (Wi.notD4 (.inl (by kernel_rfl)) (.inl (by kernel_rfl)) (.inr nP) (.inl (by kernel_rfl)))) ?_
            refine VA.all (rs := [6, 12]) (by kernel_rfl) (by decide) ?_
            refine ⟨⟨_, rfl, .inl rfl, ?_⟩, ⟨_, rfl, .inl rfl, ?_⟩, trivial⟩
            ·
              refine OpE.buildSlice (zc := #[.slice none 0 0]) rfl hB rfl Tryz.underlying27 Tryz.sizeOf29 Tryz.zeroValue29 (by decide) (by decide) (by kernel_rfl) rfl rfl ?_
              refine VA.le _ (Le.recast (t := 48) (y := .im 1 1 fun _ => avStrs []) rfl (fun w Z u h => rep_nil1 h (.nil _ _))) ?_
              refine VA.all (rs := [7, 12]) (by kernel_rfl) (by decide) ?_
              refine ⟨⟨_, rfl, .inl rfl, ?_⟩, ⟨_, rfl, .inl rfl, ?_⟩, trivial⟩
              ·
                refine OpE.append1S (i := 1) rfl hB rfl Tryz.underlying27 (infoOf Tryz.t29 1 (by kernel_rfl) rfl rfl) rfl (by decide) (by decide) rfl rfl rfl rfl (listM_snoc st.parts ([] : List ByteArray)) (by omega) (fun g' hg => .inr (.inr (.inl ⟨rfl, hg⟩))) ?_
                intro b49 c49
                refine VA.all (rs := [12]) (by kernel_rfl) (by decide) ?_
                refine ⟨⟨_, rfl, .inl rfl, ?_⟩, trivial⟩
                refine OpE.buildSlice (zc := #[.slice none 0 0]) rfl hB rfl Tryz.underlying35 Tryz.sizeOf22 Tryz.zeroValue22 (by decide) (by decide) (by kernel_rfl) rfl rfl ?_
                refine VA.le _ (Le.recast (t := 54) (y := .im 1 1 fun _ => avInts []) rfl (fun w Z u h => rep_nil1 h (.nil _ _))) ?_
                refine VA.all (rs := [13]) (by kernel_rfl) (by decide) ?_
                refine ⟨⟨_, rfl, .inl rfl, ?_⟩, trivial⟩
                refine OpE.append1S (i := 2) rfl hB rfl Tryz.underlying35 (infoOf Tryz.t22 1 (by kernel_rfl) rfl rfl) rfl (by decide) (by decide) rfl rfl rfl rfl (listM_snoc st.groups ([] : List Int)) (by omega) (fun g' hg => .inr (.inr (.inr ⟨rfl, hg⟩))) ?_
                intro b55 c55
                refine VA.take (i := 14) rfl (by kernel_rfl) (by kernel_rfl) (by kernel_rfl) rfl rfl (OpV.nilCheck rfl rfl) ?_
                refine VA.take (i := 15) rfl (by kernel_rfl) (by kernel_rfl) (by kernel_rfl) rfl rfl (OpV.fieldAddrO 3 rfl Tryz.underlying95 rfl rfl Tryz.sizeOf27 rfl) ?_
                refine VA.all (rs := [16]) (by kernel_rfl) (by decide) ?_
                refine ⟨⟨_, rfl, .inl rfl, ?_⟩, trivial⟩
                refine OpE.store (i := 0) rfl hB rfl Tryz.sizeOf27 rfl rfl rfl rfl rfl rfl (Nle rfl) (by first | exact .inl ⟨rfl, rfl⟩ | exact .inr (.inl ⟨rfl, rfl⟩)) ?_
                refine VA.take (i := 17) rfl (by kernel_rfl) (by kernel_rfl) (by kernel_rfl) rfl rfl (OpV.nilCheck rfl rfl) ?_
                refine VA.take (i := 18) rfl (by kernel_rfl) (by kernel_rfl) (by kernel_rfl) rfl rfl (OpV.fieldAddrO 4 rfl Tryz.underlying95 rfl rfl Tryz.sizeOf35 rfl) ?_
                refine VA.all (rs := [19]) (by kernel_rfl) (by decide) ?_
                refine ⟨⟨_, rfl, .inl rfl, ?_⟩, trivial⟩
                refine OpE.store (i := 0) rfl hB rfl Tryz.sizeOf35 rfl rfl rfl rfl rfl rfl (Nle rfl) (by first | exact .inl ⟨rfl, rfl⟩ | exact .inr (.inl ⟨rfl, rfl⟩)) ?_
                refine VA.done (by kernel_rfl) ?_
                exact Exists.intro (⟨((.slice b49 (st.parts.length + 1) c49, .slice b55 (st.groups.length + 1) c55), st.parts ++ [[]], st.groups ++ [[]]), by rw [frG_y h2], by rw [frG_y h2]⟩) (Le.mk hB [0, 1, 2] ⟨rfl, rfl, rfl, rfl, trivial⟩ rfl (by dsimp only; (try simp only [List.length_append]); rfl) (Nat.le_refl _))
              ·
                refine OpE.buildSlice (zc := #[.slice none 0 0]) rfl hB rfl Tryz.underlying35 Tryz.sizeOf22 Tryz.zeroValue22 (by decide) (by decide) (by kernel_rfl) rfl rfl ?_
                refine VA.le _ (Le.recast (t := 54) (y := .im 1 1 fun _ => avInts []) rfl (fun w Z u h => rep_nil1 h (.nil _ _))) ?_
                refine VA.all (rs := [7]) (by kernel_rfl) (by decide) ?_
                refine ⟨⟨_, rfl, .inl rfl, ?_⟩, trivial⟩
                refine OpE.append1S (i := 1) rfl hB rfl Tryz.underlying27 (infoOf Tryz.t29 1 (by kernel_rfl) rfl rfl) rfl (by decide) (by decide) rfl rfl rfl rfl (listM_snoc st.parts ([] : List ByteArray)) (by omega) (fun g' hg => .inr (.inr (.inl ⟨rfl, hg⟩))) ?_
                intro b49 c49
                refine VA.all (rs := [13]) (by kernel_rfl) (by decide) ?_
                refine ⟨⟨_, rfl, .inl rfl, ?_⟩, trivial⟩
                refine OpE.append1S (i := 2) rfl hB rfl Tryz.underlying35 (infoOf Tryz.t22 1 (by kernel_rfl) rfl rfl) rfl (by decide) (by decide) rfl rfl rfl rfl (listM_snoc st.groups ([] : List Int)) (by omega) (fun g' hg => .inr (.inr (.inr ⟨rfl, hg⟩))) ?_
                intro b55 c55
                refine VA.take (i := 14) rfl (by kernel_rfl) (by kernel_rfl) (by kernel_rfl) rfl rfl (OpV.nilCheck rfl rfl) ?_
                refine VA.take (i := 15) rfl (by kernel_rfl) (by kernel_rfl) (by kernel_rfl) rfl rfl (OpV.fieldAddrO 3 rfl Tryz.underlying95 rfl rfl Tryz.sizeOf27 rfl) ?_
                refine VA.all (rs := [16]) (by kernel_rfl) (by decide) ?_
                refine ⟨⟨_, rfl, .inl rfl, ?_⟩, trivial⟩
                refine OpE.store (i := 0) rfl hB rfl Tryz.sizeOf27 rfl rfl rfl rfl rfl rfl (Nle rfl) (by first | exact .inl ⟨rfl, rfl⟩ | exact .inr (.inl ⟨rfl, rfl⟩)) ?_
                refine VA.take (i := 17) rfl (by kernel_rfl) (by kernel_rfl) (by kernel_rfl) rfl rfl (OpV.nilCheck rfl rfl) ?_
                refine VA.take (i := 18) rfl (by kernel_rfl) (by kernel_rfl) (by kernel_rfl) rfl rfl (OpV.fieldAddrO 4 rfl Tryz.underlying95 rfl rfl Tryz.sizeOf35 rfl) ?_
                refine VA.all (rs := [19]) (by kernel_rfl) (by decide) ?_
                refine ⟨⟨_, rfl, .inl rfl, ?_⟩, trivial⟩
                refine OpE.store (i := 0) rfl hB rfl Tryz.sizeOf35 rfl rfl rfl rfl rfl rfl (Nle rfl) (by first | exact .inl ⟨rfl, rfl⟩ | exact .inr (.inl ⟨rfl, rfl⟩)) ?_
                refine VA.done (by kernel_rfl) ?_
                exact Exists.intro (⟨((.slice b49 (st.parts.length + 1) c49, .slice b55 (st.groups.length + 1) c55), st.parts ++ [[]], st.groups ++ [[]]), by rw [frG_y h2], by rw [frG_y h2]⟩) (Le.mk hB [0, 1, 2] ⟨rfl, rfl, rfl, rfl, trivial⟩ rfl (by dsimp only; (try simp only [List.length_append]); rfl) (Nat.le_refl _))
            ·
              refine OpE.buildSlice (zc := #[.slice none 0 0]) rfl hB rfl Tryz.underlying35 Tryz.sizeOf22 Tryz.zeroValue22 (by decide) (by decide) (by kernel_rfl) rfl rfl ?_
              refine VA.le _ (Le.recast (t := 54) (y := .im 1 1 fun _ => avInts []) rfl (fun w Z u h => rep_nil1 h (.nil _ _))) ?_
              refine VA.all (rs := [6]) (by kernel_rfl) (by decide) ?_
              refine ⟨⟨_, rfl, .inl rfl, ?_⟩, trivial⟩
              refine OpE.buildSlice (zc := #[.slice none 0 0]) rfl hB rfl Tryz.underlying27 Tryz.sizeOf29 Tryz.zeroValue29 (by decide) (by decide) (by kernel_rfl) rfl rfl ?_
              refine VA.le _ (Le.recast (t := 48) (y := .im 1 1 fun _ => avStrs []) rfl (fun w Z u h => rep_nil1 h (.nil _ _))) ?_
              refine VA.all (rs := [7]) (by kernel_rfl) (by decide) ?_
              refine ⟨⟨_, rfl, .inl rfl, ?_⟩, trivial⟩
              refine OpE.append1S (i := 1) rfl hB rfl Tryz.underlying27 (infoOf Tryz.t29 1 (by kernel_rfl) rfl rfl) rfl (by decide) (by decide) rfl rfl rfl rfl (listM_snoc st.parts ([] : List ByteArray)) (by omega) (fun g' hg => .inr (.inr (.inl ⟨rfl, hg⟩))) ?_
              intro b49 c49
              refine VA.all (rs := [13]) (by kernel_rfl) (by decide) ?_
              refine ⟨⟨_, rfl, .inl rfl, ?_⟩, trivial⟩
              refine OpE.append1S (i := 2) rfl hB rfl Tryz.underlying35 (infoOf Tryz.t22 1 (by kernel_rfl) rfl rfl) rfl (by decide) (by decide) rfl rfl rfl rfl (listM_snoc st.groups ([] : List Int)) (by omega) (fun g' hg => .inr (.inr (.inr ⟨rfl, hg⟩))) ?_
              intro b55 c55
              refine VA.take (i := 14) rfl (by kernel_rfl) (by kernel_rfl) (by kernel_rfl) rfl rfl (OpV.nilCheck rfl rfl) ?_
              refine VA.take (i := 15) rfl (by kernel_rfl) (by kernel_rfl) (by kernel_rfl) rfl rfl (OpV.fieldAddrO 3 rfl Tryz.underlying95 rfl rfl Tryz.sizeOf27 rfl) ?_
              refine VA.all (rs := [16]) (by kernel_rfl) (by decide) ?_
              refine ⟨⟨_, rfl, .inl rfl, ?_⟩, trivial⟩
              refine OpE.store (i := 0) rfl hB rfl Tryz.sizeOf27 rfl rfl rfl rfl rfl rfl (Nle rfl) (by first | exact .inl ⟨rfl, rfl⟩ | exact .inr (.inl ⟨rfl, rfl⟩)) ?_
              refine VA.take (i := 17) rfl (by kernel_rfl) (by kernel_rfl) (by kernel_rfl) rfl rfl (OpV.nilCheck rfl rfl) ?_
              refine VA.take (i := 18) rfl (by kernel_rfl) (by kernel_rfl) (by kernel_rfl) rfl rfl (OpV.fieldAddrO 4 rfl Tryz.underlying95 rfl rfl Tryz.sizeOf35 rfl) ?_
              refine VA.all (rs := [19]) (by kernel_rfl) (by decide) ?_
              refine ⟨⟨_, rfl, .inl rfl, ?_⟩, trivial⟩
              refine OpE.store (i := 0) rfl hB rfl Tryz.sizeOf35 rfl rfl rfl rfl rfl rfl (Nle rfl) (by first | exact .inl ⟨rfl, rfl⟩ | exact .inr (.inl ⟨rfl, rfl⟩)) ?_
              refine VA.done (by kernel_rfl) ?_
              exact Exists.intro (⟨((.slice b49 (st.parts.length + 1) c49, .slice b55 (st.groups.length + 1) c55), st.parts ++ [[]], st.groups ++ [[]]), by rw [frG_y h2], by rw [frG_y h2]⟩) (Le.mk hB [0, 1, 2] ⟨rfl, rfl, rfl, rfl, trivial⟩ rfl (by dsimp only; (try simp only [List.length_append]); rfl) (Nat.le_refl _))
          · have h2 := h2b
            try simp only [qqT, qqF, qqN, qqM, qqL, qqE] at h2
            refine VC.skip ?_
            exact Exists.intro (⟨((vP, vG), st.parts, st.groups), by rw [frG_n h2], by rw [frG_n h2]⟩) (Le.mk hB [0, 1, 2] ⟨rfl, rfl, rfl, rfl, trivial⟩ rfl (by dsimp only; (try simp only [List.length_append]); rfl) (Nat.le_refl _))
        ·
          rintro ⟨⟨⟨wP, wG⟩, P0, G0⟩, hP0, hG0⟩
          show VC _ _ _ _ ⟨[(0, pt g), (1, avI (i : Int)), (5, avI (k : Int)), (6, avB (decide (k = st.parts.length)))], [.box g ⟨[avI (slots : Int), avI (most : Int), avM p, .v wP, .v wG], 95, 5⟩, .row wP P0.length 1 (listM P0) 29, .row wG G0.length 1 (listM G0) 22], 0⟩
          simp only at hP0 hG0
          have hfl : k < P0.length := by rw [hP0]; exact frG_lt hk
          have hfe : P0.length = G0.length := by rw [hP0, hG0]; exact frG_lens hl
          have hPk : P0.getD k default = st.parts.getD k [] := by rw [hP0]; exact frG_parts hk
          have hGk : G0.getD k default = st.groups.getD k [] := by rw [hG0]; exact frG_groups hl hk
          have hput : putG p i k st = ⟨P0.set k (allG p i k st), G0.set k (st.groups.getD k [] ++ [(i : Int)])⟩ := by rw [frG_put hl hk, hP0, hG0]
          have hall : P0.getD k default ++ missF (P0.getD k default) (p.getD i default) = allG p i k st := by rw [hPk]; rfl
          have hsk : SmS (P0.getD k default) ∧ (P0.getD k default).length ≤ 1000 := by rw [hPk]; exact hok.par k
          have hgk : (G0.getD k default).length ≤ i := by rw [hGk]; exact hok.grp k
          have hP1 : (P0.set k (allG p i k st)).length = P0.length := List.length_set
          have hG1 : (G0.set k (st.groups.getD k [] ++ [(i : Int)])).length = G0.length := List.length_set
          refine VC.seq ?_
          refine VC.asBox (i := 1) rfl (by omega) (fun gP cP hu1 hc1 hm1 => ?_)
          subst hu1
          refine VC.asBox (i := 2) rfl (by omega) (fun gG cG hu2 hc2 hm2 => ?_)
          subst hu2
          refine VC.draw (fun _ => NoB) hB (by kernel_rfl) ?_
          refine VA.take (i := 0) rfl (by kernel_rfl) (by kernel_rfl) (by kernel_rfl) rfl rfl (OpV.move (.inl rfl) rfl) ?_
          refine VA.take (i := 1) rfl (by kernel_rfl) (by kernel_rfl) (by kernel_rfl) rfl rfl (OpV.nilCheck rfl rfl) ?_
          refine VA.take (i := 2) rfl (by kernel_rfl) (by kernel_rfl) (by kernel_rfl) rfl rfl (OpV.fieldAddrO 3 rfl Tryz.underlying95 rfl rfl Tryz.sizeOf27 rfl) ?_
          refine VA.take (i := 3) rfl (by kernel_rfl) (by kernel_rfl) (by kernel_rfl) rfl rfl (OpV.load_own (i := 0) rfl hB Tryz.isAgg27 rfl rfl rfl Wi.not0) ?_
          refine VA.take (i := 4) rfl (by kernel_rfl) (by kernel_rfl) (by kernel_rfl) rfl rfl (OpV.move (.inl rfl) rfl) ?_
          refine VA.take (i := 5) rfl (by kernel_rfl) (by kernel_rfl) (by kernel_rfl) rfl rfl (OpV.indexAddr_o rfl Tryz.underlying27 Tryz.sizeOf29 rfl rfl rfl (by omega)) ?_
          refine VA.take (i := 6) rfl (by kernel_rfl) (by kernel_rfl) (by kernel_rfl) rfl rfl (OpV.load_own (i := 1) rfl hB Tryz.isAgg29 rfl rfl (listM_get hfl) Wi.not0) ?_
          refine VA.le _ (Le.recast (t := 66) (y := avStrs (P0.getD k default)) rfl (fun w Z u h => h)) ?_
          refine VA.take (i := 7) rfl (by kernel_rfl) (by kernel_rfl) (by kernel_rfl) rfl rfl (OpV.move (.inl rfl) rfl) ?_
          refine VA.take (i := 8) rfl (by kernel_rfl) (by kernel_rfl) (by kernel_rfl) rfl rfl (OpV.nilCheck rfl rfl) ?_
          refine VA.take (i := 9) rfl (by kernel_rfl) (by kernel_rfl) (by kernel_rfl) rfl rfl (OpV.fieldAddrO 4 rfl Tryz.underlying95 rfl rfl Tryz.sizeOf35 rfl) ?_
          refine VA.take (i := 10) rfl (by kernel_rfl) (by kernel_rfl) (by kernel_rfl) rfl rfl (OpV.load_own (i := 0) rfl hB Tryz.isAgg35 rfl rfl rfl Wi.not0) ?_
          refine VA.take (i := 11) rfl (by kernel_rfl) (by kernel_rfl) (by kernel_rfl) rfl rfl (OpV.move (.inl rfl) rfl) ?_
          refine VA.take (i := 12) rfl (by kernel_rfl) (by kernel_rfl) (by kernel_rfl) rfl rfl (OpV.indexAddr_o rfl Tryz.underlying35 Tryz.sizeOf22 rfl rfl rfl (by omega)) ?_
          refine VA.take (i := 13) rfl (by kernel_rfl) (by kernel_rfl) (by kernel_rfl) rfl rfl (OpV.load_own (i := 2) rfl hB Tryz.isAgg22 rfl rfl (listM_get (by omega)) Wi.not0) ?_
          refine VA.le _ (Le.recast (t := 73) (y := avInts (G0.getD k default)) rfl (fun w Z u h => h)) ?_
          refine VA.take (i := 14) rfl (by kernel_rfl) (by kernel_rfl) (by kernel_rfl) rfl rfl (OpV.move (.inr rfl) rfl) ?_
          refine VA.take (i := 15) rfl (by kernel_rfl) (by kernel_rfl) (by kernel_rfl) rfl rfl (OpV.move (.inr rfl) rfl) ?_
          refine VA.done (by kernel_rfl) ?_
          refine VC.sr ?_
          refine VO.mv rfl rfl rfl rfl ?_
          refine VO.mv rfl rfl rfl rfl ?_
          refine VO.mv rfl rfl rfl rfl ?_
          refine VO.val rfl rfl (OpV.nilCheck rfl rfl) ?_
          refine VO.val rfl rfl (OpV.fieldAddrO 2 rfl Tryz.underlying95 rfl rfl Tryz.sizeOf27 rfl) ?_
          refine VO.val rfl rfl (OpV.load_own (i := 0) rfl hB Tryz.isAgg27 rfl rfl rfl (fun h => h)) ?_
          refine VO.mv rfl rfl rfl rfl ?_
          refine VO.val rfl rfl (OpV.indexAddr_1 rfl Tryz.underlying27 Tryz.sizeOf29 rfl rfl rfl (by omega)) ?_
          refine VO.val rfl rfl (OpV.load_at rfl hB OutW.no Tryz.isAgg29 rfl rfl) ?_
          refine VO.le _ (Le.recast (t := 82) (y := avStrs (p.getD i default)) rfl (fun w Z u h => h)) ?_
          refine VO.op rfl (OpE.callH (hp := []) (rest := _) rfl hB rfl Tryz.call87 rfl rfl (setup_missing hsk.1 (hp i)) (List.Perm.refl _) (fun _ h => by obtain ⟨e, he, _⟩ := h; cases he) ?_)
          rintro _ _ ⟨u83, rfl, rfl⟩
          refine VO.le _ (Le.rowS (t := 83) (i := 0) hB hnew rfl rfl (by first | rfl | simp)) ?_
          refine VO.op rfl (OpE.buildSlice (zc := #[.slice none 0 0, .slice none 0 0]) rfl hB rfl Tryz.underlying27 Tryz.sizeOf29 Tryz.zeroValue29 (by decide) (by decide) (by kernel_rfl) rfl rfl ?_)
          refine VO.le _ (Le.recast (t := 84) (y := avM [P0.getD k default, missF (P0.getD k default) (p.getD i default)]) rfl (fun w Z u h => Rep.listM (xs := [P0.getD k default, missF (P0.getD k default) (p.getD i default)]) rfl h)) ?_
          refine VO.op rfl (OpE.callH (hp := []) (rest := _) rfl hB rfl Tryz.call72 rfl rfl (slices_Concat_strX (ll := [P0.getD k default, missF (P0.getD k default) (p.getD i default)]) (by simp) (by have h1 := missF_len (P0.getD k default) (p.getD i default); have h2 := hpk i; rw [List.flatten_cons, List.flatten_cons, List.flatten_nil, List.length_append, List.length_append, List.length_nil]; omega)) (List.Perm.refl _) (fun _ h => by obtain ⟨e, he, _⟩ := h; cases he) ?_)
          rintro _ _ ⟨u85, rfl, rfl⟩
          refine VO.le _ (Le.rowS (t := 85) (i := 0) hB hnew rfl rfl (by first | rfl | simp)) ?_
          refine VO.le _ (Le.recast (t := 85) (y := avStrs (allG p i k st)) rfl (fun w Z u h => by rw [← hall]; simpa using h)) ?_
          refine VO.ma rfl rfl rfl rfl ?_
          refine VO.nil ?_
          refine VC.seq ?_
          refine VC.sr ?_
          refine VO.mv rfl rfl rfl rfl ?_
          refine VO.val rfl rfl (OpV.len_im rfl Tryz.underlying29 rfl) ?_
          refine VO.mv rfl rfl rfl rfl ?_
          refine VO.val rfl rfl (OpV.nilCheck rfl rfl) ?_
          refine VO.val rfl rfl (OpV.fieldAddrO 0 rfl Tryz.underlying95 rfl rfl Tryz.sizeOf3 rfl) ?_
          refine VO.val rfl rfl (OpV.load_own (i := 0) rfl hB Tryz.isAgg3 rfl rfl rfl (fun h => h)) ?_
          refine VO.val rfl rfl (OpV.leq rfl rfl rfl) ?_
          refine VO.nil ?_
          refine VC.cond rfl (fun h3b => ?_) (fun h3b => ?_)
          · have h3 := h3b
            try simp only [qqT, qqF, qqN, qqM, qqL, qqE] at h3
            refine VC.seq ?_
            refine VC.draw (fun j b => 15 ≤ j ∧ b ≠ g) hB (by kernel_rfl) ?_
            refine VA.take (i := 0) rfl (by kernel_rfl) (by kernel_rfl) (by kernel_rfl) rfl rfl (OpV.move (.inl rfl) rfl) ?_
            refine VA.take (i := 1) rfl (by kernel_rfl) (by kernel_rfl) (by kernel_rfl) rfl rfl (OpV.nilCheck rfl rfl) ?_
            refine VA.take (i := 2) rfl (by kernel_rfl) (by kernel_rfl) (by kernel_rfl) rfl rfl (OpV.fieldAddrO 3 rfl Tryz.underlying95 rfl rfl Tryz.sizeOf27 rfl) ?_
            refine VA.take (i := 3) rfl (by kernel_rfl) (by kernel_rfl) (by kernel_rfl) rfl rfl (OpV.load_own (i := 0) rfl hB Tryz.isAgg27 rfl rfl rfl (by first | exact (fun ⟨_, _, _, h⟩ => h rfl) | exact (fun ⟨_, _, _, h⟩ => h.1 rfl) | exact (fun ⟨_, _, _, h⟩ => h.2 rfl) | exact (fun ⟨_, _, _, h⟩ => h.2.1 rfl) | exact (fun ⟨_, _, _, h⟩ => h.2.2 rfl))) ?_
            refine VA.take (i := 4) rfl (by kernel_rfl) (by kernel_rfl) (by kernel_rfl) rfl rfl (OpV.move (.inl rfl) rfl) ?_
            refine VA.take (i := 5) rfl (by kernel_rfl) (by kernel_rfl) (by kernel_rfl) rfl rfl (OpV.move (.inl rfl) rfl) ?_
            refine VA.take (i := 6) rfl (by kernel_rfl) (by kernel_rfl) (by kernel_rfl) rfl rfl (OpV.nilCheck rfl rfl) ?_
            refine VA.take (i := 7) rfl (by kernel_rfl) (by kernel_rfl) (by kernel_rfl) rfl rfl (OpV.fieldAddrO 4 rfl Tryz.underlying95 rfl rfl Tryz.sizeOf35 rfl) ?_
            refine VA.take (i := 8) rfl (by kernel_rfl) (by kernel_rfl) (by kernel_rfl) rfl rfl (OpV.load_own (i := 0) rfl hB Tryz.isAgg35 rfl rfl rfl (by first | exact (fun ⟨_, _, _, h⟩ => h rfl) | exact (fun ⟨_, _, _, h⟩ => h.1 rfl) | exact (fun ⟨_, _, _, h⟩ => h.2 rfl) | exact (fun ⟨_, _, _, h⟩ => h.2.1 rfl) | exact (fun ⟨_, _, _, h⟩ => h.2.2 rfl))) ?_
            refine VA.take (i := 9) rfl (by kernel_rfl) (by kernel_rfl) (by kernel_rfl) rfl rfl (OpV.move (.inl rfl) rfl) ?_
            refine VA.take (i := 10) rfl (by kernel_rfl) (by kernel_rfl) (by kernel_rfl) rfl rfl (OpV.move (.inl rfl) rfl) ?_
            refine VA.take (i := 11) rfl (by kernel_rfl) (by kernel_rfl) (by kernel_rfl) rfl rfl (OpV.move (.inl rfl) rfl) ?_
            refine VA.take (i := 13) rfl (by kernel_rfl) (by kernel_rfl) (by kernel_rfl) rfl rfl (OpV.move (.inl rfl) rfl) ?_
            refine VA.all (rs := [12, 14]) (by kernel_rfl) (by decide) ?_
            refine ⟨⟨_, rfl, .inl rfl, ?_⟩, ⟨_, rfl, .inl rfl, ?_⟩, trivial⟩
            ·
              refine OpE.callR rfl hB rfl Tryz.call91 (slices_Clone_R (by omega)) (ArgsP.cons (ArgP.ev rfl) (ArgsP.nil)) ?_
              intro u105
              refine VA.all (rs := [14]) (by kernel_rfl) (by decide) ?_
              refine ⟨⟨_, rfl, .inl rfl, ?_⟩, trivial⟩
              refine OpE.buildSlice (zc := #[.int .i64 0]) rfl hB rfl Tryz.underlying22 Tryz.sizeOf3 Tryz.zeroValue3 (by decide) (by decide) (by kernel_rfl) rfl rfl ?_
              refine VA.all (rs := [15]) (by kernel_rfl) (by decide) ?_
              refine ⟨⟨_, rfl, .inl rfl, ?_⟩, trivial⟩
              refine OpE.hap (fun hap => ?_)
              refine OpE.append1 (i := 3) rfl hB rfl Tryz.underlying22 (infoOf Tryz.t3 1 (by kernel_rfl) rfl rfl) rfl (by decide) (by decide) rfl rfl rfl rfl (intsL_snoc _ _) (by omega) (fun g' hg => ⟨by decide, apart_ne hap (i := 3) (j := 0) hg rfl (by decide)⟩) ?_
              intro u108
              refine VA.le _ (Le.rowI (t := 108) (i := 3) hB hnew rfl rfl (by first | rfl | simp)) ?_
              refine VA.le _ (Le.recast (t := 108) (y := avInts (st.groups.getD k [] ++ [(i : Int)])) rfl (fun w Z u h => by rw [← hGk]; exact h)) ?_
              refine VA.take (i := 16) rfl (by kernel_rfl) (by kernel_rfl) (by kernel_rfl) rfl rfl (OpV.indexAddr_o rfl Tryz.underlying27 Tryz.sizeOf29 rfl rfl rfl (by omega)) ?_
              refine VA.all (rs := [17]) (by kernel_rfl) (by decide) ?_
              refine ⟨⟨_, rfl, .inl rfl, ?_⟩, trivial⟩
              refine OpE.hap (fun hap => ?_)
              refine OpE.store1 (i := 1) rfl hB rfl Tryz.sizeOf29 rfl rfl rfl rfl rfl rfl (by rw [listM_len]; omega) (listM_set _ _ _) (⟨by decide, by first | exact apart_ne hap (i := 1) (j := 0) rfl rfl (by decide) | exact apart_ne hap (i := 2) (j := 0) rfl rfl (by decide)⟩) ?_
              refine VA.take (i := 18) rfl (by kernel_rfl) (by kernel_rfl) (by kernel_rfl) rfl rfl (OpV.indexAddr_o rfl Tryz.underlying35 Tryz.sizeOf22 rfl rfl rfl (by omega)) ?_
              refine VA.all (rs := [19]) (by kernel_rfl) (by decide) ?_
              refine ⟨⟨_, rfl, .inl rfl, ?_⟩, trivial⟩
              refine OpE.hap (fun hap => ?_)
              refine OpE.store1 (i := 2) rfl hB rfl Tryz.sizeOf22 rfl rfl rfl rfl rfl rfl (by rw [listM_len]; omega) (listM_set _ _ _) (⟨by decide, by first | exact apart_ne hap (i := 1) (j := 0) rfl rfl (by decide) | exact apart_ne hap (i := 2) (j := 0) rfl rfl (by decide)⟩) ?_
              refine VA.done (by kernel_rfl) ?_
              refine VC.seq ?_
              refine VC.seq ?_
              refine VC.le _ (Le.boxRow (i := 1) (n := P0.length) (sz := 1) (cap := cP) rfl (by rw [listM_len, hP1, Nat.mul_one]) hc1 hm1) ?_
              refine VC.le _ (Le.boxRow (i := 2) (n := G0.length) (sz := 1) (cap := cG) rfl (by rw [listM_len, hG1, Nat.mul_one]) hc2 hm2) ?_
              refine VC.region ?_
              refine VO.mv rfl rfl rfl rfl ?_
              refine VO.mv rfl rfl rfl rfl ?_
              refine VO.val rfl rfl (OpV.add rfl rfl rfl (by unfold fits; omega)) ?_
              refine VO.op rfl (OpE.callH0 rfl hB rfl Tryz.call59 rfl rfl ((by have hi := ih d' rfl (.slice (some ⟨gP, 0, none⟩) P0.length cP) (.slice (some ⟨gG, 0, none⟩) G0.length cG) ⟨P0.set k (allG p i k st), G0.set k (st.groups.getD k [] ++ [(i : Int)])⟩ (hput ▸ hok.put hp hk (by omega) hsl); simp only [ownG, hP1, hG1] at hi; exact hi)) (List.Perm.refl _) (fun _ _ => trivial) ?_)
              rintro _ _ ⟨u3, v3, rfl, rfl⟩
              refine VO.nil ?_
              refine VC.cond rfl (fun h4b => ?_) (fun h4b => ?_)
              · have h4 := h4b
                try simp only [qqT, qqF, qqN, qqM, qqL, qqE] at h4
                have hr2 := try_at2 hk (show k < most by omega) hkn (show (allG p i k st).length ≤ slots by omega) hput h4
                have hr3 := opt_getD (a := (⟨P0.set k (allG p i k st), G0.set k (st.groups.getD k [] ++ [(i : Int)])⟩ : GrpS)) st hr2 h4
                refine VC.sr ?_
                refine VO.ma rfl rfl rfl rfl ?_
                refine VO.nil ?_
                refine VC.ret ?_
                exact Exists.intro _ (And.intro (RetV.one Tryz.results59 (ResV.tmp rfl)) (⟨u3, v3, by rw [hr2, h4], congrArg (ownG p slots most g u3 v3) hr3⟩))
              · have h4 := h4b
                try simp only [qqT, qqF, qqN, qqM, qqL, qqE] at h4
                have hno : tryG p slots most d' (i + 1) ⟨P0.set k (allG p i k st), G0.set k (st.groups.getD k [] ++ [(i : Int)])⟩ = none := by simpa using h4
                have hq := tryQ_no (slots := slots) (f := tryG p slots most d') (show tryG p slots most d' (i + 1) (putG p i k st) = none by rw [hput]; exact hno)
                refine VC.le _ (Le.perm (hp := [.box g ⟨[avI (slots : Int), avI (most : Int), avM p, .v u3, .v v3], 95, 5⟩, .row u3 P0.length 1 (listM (P0.set k (allG p i k st))) 29, .row v3 G0.length 1 (listM (G0.set k (st.groups.getD k [] ++ [(i : Int)]))) 22]) (by show List.Perm (ownG p slots most g u3 v3 ((tryG p slots most d' (i + 1) ⟨P0.set k (allG p i k st), G0.set k (st.groups.getD k [] ++ [(i : Int)])⟩).getD ⟨P0.set k (allG p i k st), G0.set k (st.groups.getD k [] ++ [(i : Int)])⟩)) _; rw [hno]; simp only [ownG, Option.getD_none, hP1, hG1]; exact List.Perm.refl _)) ?_
                refine VC.skip ?_
                refine VC.asBox (i := 1) rfl (by omega) (fun gP2 cP2 hu1 hd1 hm3 => ?_)
                subst hu1
                refine VC.asBox (i := 2) rfl (by omega) (fun gG2 cG2 hu2 hd2 hm4 => ?_)
                subst hu2
                refine VC.draw (fun j b => 13 ≤ j ∧ b ≠ g) hB (by kernel_rfl) ?_
                refine VA.take (i := 0) rfl (by kernel_rfl) (by kernel_rfl) (by kernel_rfl) rfl rfl (OpV.move (.inl rfl) rfl) ?_
                refine VA.take (i := 1) rfl (by kernel_rfl) (by kernel_rfl) (by kernel_rfl) rfl rfl (OpV.nilCheck rfl rfl) ?_
                refine VA.take (i := 2) rfl (by kernel_rfl) (by kernel_rfl) (by kernel_rfl) rfl rfl (OpV.fieldAddrO 3 rfl Tryz.underlying95 rfl rfl Tryz.sizeOf27 rfl) ?_
                refine VA.take (i := 3) rfl (by kernel_rfl) (by kernel_rfl) (by kernel_rfl) rfl rfl (OpV.load_own (i := 0) rfl hB Tryz.isAgg27 rfl rfl rfl (by first | exact (fun ⟨_, _, _, h⟩ => h rfl) | exact (fun ⟨_, _, _, h⟩ => h.1 rfl) | exact (fun ⟨_, _, _, h⟩ => h.2 rfl) | exact (fun ⟨_, _, _, h⟩ => h.2.1 rfl) | exact (fun ⟨_, _, _, h⟩ => h.2.2 rfl))) ?_
                refine VA.take (i := 4) rfl (by kernel_rfl) (by kernel_rfl) (by kernel_rfl) rfl rfl (OpV.move (.inl rfl) rfl) ?_
                refine VA.take (i := 5) rfl (by kernel_rfl) (by kernel_rfl) (by kernel_rfl) rfl rfl (OpV.move (.inl rfl) rfl) ?_
                refine VA.take (i := 6) rfl (by kernel_rfl) (by kernel_rfl) (by kernel_rfl) rfl rfl (OpV.nilCheck rfl rfl) ?_
                refine VA.take (i := 7) rfl (by kernel_rfl) (by kernel_rfl) (by kernel_rfl) rfl rfl (OpV.fieldAddrO 4 rfl Tryz.underlying95 rfl rfl Tryz.sizeOf35 rfl) ?_
                refine VA.take (i := 8) rfl (by kernel_rfl) (by kernel_rfl) (by kernel_rfl) rfl rfl (OpV.load_own (i := 0) rfl hB Tryz.isAgg35 rfl rfl rfl (by first | exact (fun ⟨_, _, _, h⟩ => h rfl) | exact (fun ⟨_, _, _, h⟩ => h.1 rfl) | exact (fun ⟨_, _, _, h⟩ => h.2 rfl) | exact (fun ⟨_, _, _, h⟩ => h.2.1 rfl) | exact (fun ⟨_, _, _, h⟩ => h.2.2 rfl))) ?_
                refine VA.take (i := 9) rfl (by kernel_rfl) (by kernel_rfl) (by kernel_rfl) rfl rfl (OpV.move (.inl rfl) rfl) ?_
                refine VA.take (i := 10) rfl (by kernel_rfl) (by kernel_rfl) (by kernel_rfl) rfl rfl (OpV.move (.inl rfl) rfl) ?_
                refine VA.take (i := 11) rfl (by kernel_rfl) (by kernel_rfl) (by kernel_rfl) rfl rfl (OpV.move (.inl rfl) rfl) ?_
                refine VA.take (i := 12) rfl (by kernel_rfl) (by kernel_rfl) (by kernel_rfl) rfl rfl (OpV.indexAddr_o rfl Tryz.underlying27 Tryz.sizeOf29 rfl rfl rfl (by omega)) ?_
                refine VA.all (rs := [13]) (by kernel_rfl) (by decide) ?_
                refine ⟨⟨_, rfl, .inl rfl, ?_⟩, trivial⟩
                refine OpE.hap (fun hap => ?_)
                refine OpE.store1 (i := 1) rfl hB rfl Tryz.sizeOf29 rfl rfl rfl rfl rfl rfl (by rw [listM_len, hP1]; omega) ((listM_set _ _ _).trans (congrArg listM (set_backM hfl))) (⟨by decide, by first | exact apart_ne hap (i := 1) (j := 0) rfl rfl (by decide) | exact apart_ne hap (i := 2) (j := 0) rfl rfl (by decide)⟩) ?_
                refine VA.take (i := 14) rfl (by kernel_rfl) (by kernel_rfl) (by kernel_rfl) rfl rfl (OpV.indexAddr_o rfl Tryz.underlying35 Tryz.sizeOf22 rfl rfl rfl (by omega)) ?_
                refine VA.all (rs := [15]) (by kernel_rfl) (by decide) ?_
                refine ⟨⟨_, rfl, .inl rfl, ?_⟩, trivial⟩
                refine OpE.hap (fun hap => ?_)
                refine OpE.store1 (i := 2) rfl hB rfl Tryz.sizeOf22 rfl rfl rfl rfl rfl rfl (by rw [listM_len, hG1]; omega) ((listM_set _ _ _).trans (congrArg listM (set_backM (by omega)))) (⟨by decide, by first | exact apart_ne hap (i := 1) (j := 0) rfl rfl (by decide) | exact apart_ne hap (i := 2) (j := 0) rfl rfl (by decide)⟩) ?_
                refine VA.done (by kernel_rfl) ?_
                refine VC.sr ?_
                refine VO.mv rfl rfl rfl rfl ?_
                refine VO.nil ?_
                refine VC.cond rfl (fun h5b => ?_) (fun h5b => ?_)
                · have h5 := h5b
                  try simp only [qqT, qqF, qqN, qqM, qqL, qqE] at h5
                  have hkn2 := lt_succ_cases hkn hq
                  obtain rfl : k = st.parts.length := h5
                  have eP : P0 = st.parts ++ [[]] := by rw [hP0, frG_y rfl]
                  have eG : G0 = st.groups ++ [[]] := by rw [hG0, frG_y rfl]
                  refine VC.seq ?_
                  refine VC.draw (fun j b => (j = 16 ∧ b = g) ∨ (j = 19 ∧ b = g)) hB (by kernel_rfl) ?_
                  refine VA.take (i := 0) rfl (by kernel_rfl) (by kernel_rfl) (by kernel_rfl) rfl rfl (OpV.move (.inl rfl) rfl) ?_
                  refine VA.take (i := 1) rfl (by kernel_rfl) (by kernel_rfl) (by kernel_rfl) rfl rfl (OpV.move (.inl rfl) rfl) ?_
                  refine VA.take (i := 2) rfl (by kernel_rfl) (by kernel_rfl) (by kernel_rfl) rfl rfl (OpV.move (.inl rfl) rfl) ?_
                  refine VA.take (i := 3) rfl (by kernel_rfl) (by kernel_rfl) (by kernel_rfl) rfl rfl (OpV.nilCheck rfl rfl) ?_
                  refine VA.take (i := 4) rfl (by kernel_rfl) (by kernel_rfl) (by kernel_rfl) rfl rfl (OpV.fieldAddrO 3 rfl Tryz.underlying95 rfl rfl Tryz.sizeOf27 rfl) ?_
                  refine VA.take (i := 5) rfl (by kernel_rfl) (by kernel_rfl) (by kernel_rfl) rfl rfl (OpV.load_own (i := 0) rfl hB Tryz.isAgg27 rfl rfl rfl (by first | exact Wi.not1 (by kernel_rfl) | exact Wi.not2 (by kernel_rfl) (by kernel_rfl) | exact Wi.notX (by kernel_rfl))) ?_
                  refine VA.take (i := 6) rfl (by kernel_rfl) (by kernel_rfl) (by kernel_rfl) rfl rfl (OpV.move (.inl rfl) rfl) ?_
                  refine VA.take (i := 7) rfl (by kernel_rfl) (by kernel_rfl) (by kernel_rfl) rfl rfl (OpV.slice_own (h := st.parts.length) rfl Tryz.underlying27 Tryz.sizeOf29 rfl rfl ⟨_, _, rfl, rfl⟩ (by omega) (by omega) (by omega)) ?_
                  refine VA.take (i := 8) rfl (by kernel_rfl) (by kernel_rfl) (by kernel_rfl) rfl rfl (OpV.move (.inl rfl) rfl) ?_
                  refine VA.take (i := 9) rfl (by kernel_rfl) (by kernel_rfl) (by kernel_rfl) rfl rfl (OpV.nilCheck rfl rfl) ?_
                  refine VA.take (i := 10) rfl (by kernel_rfl) (by kernel_rfl) (by kernel_rfl) rfl rfl (OpV.fieldAddrO 4 rfl Tryz.underlying95 rfl rfl Tryz.sizeOf35 rfl) ?_
                  refine VA.take (i := 11) rfl (by kernel_rfl) (by kernel_rfl) (by kernel_rfl) rfl rfl (OpV.load_own (i := 0) rfl hB Tryz.isAgg35 rfl rfl rfl (by first | exact Wi.not1 (by kernel_rfl) | exact Wi.not2 (by kernel_rfl) (by kernel_rfl) | exact Wi.notX (by kernel_rfl))) ?_
                  refine VA.take (i := 12) rfl (by kernel_rfl) (by kernel_rfl) (by kernel_rfl) rfl rfl (OpV.move (.inl rfl) rfl) ?_
                  refine VA.take (i := 13) rfl (by kernel_rfl) (by kernel_rfl) (by kernel_rfl) rfl rfl (OpV.slice_own (h := st.groups.length) rfl Tryz.underlying35 Tryz.sizeOf22 rfl rfl ⟨_, _, rfl, by omega⟩ (by omega) (by omega) (by omega)) ?_
                  refine VA.take (i := 14) rfl (by kernel_rfl) (by kernel_rfl) (by kernel_rfl) rfl rfl (OpV.nilCheck rfl rfl) ?_
                  refine VA.take (i := 15) rfl (by kernel_rfl) (by kernel_rfl) (by kernel_rfl) rfl rfl (OpV.fieldAddrO 3 rfl Tryz.underlying95 rfl rfl Tryz.sizeOf27 rfl) ?_
                  refine VA.all (rs := [16]) (by kernel_rfl) (by decide) ?_
                  refine ⟨⟨_, rfl, .inl rfl, ?_⟩, trivial⟩
                  refine OpE.store (i := 0) rfl hB rfl Tryz.sizeOf27 rfl rfl rfl rfl rfl rfl (Nle rfl) (by first | exact ⟨rfl, rfl⟩ | exact .inl ⟨rfl, rfl⟩ | exact .inr ⟨rfl, rfl⟩ | exact ⟨rfl, trivial⟩ | exact .inl ⟨rfl, trivial⟩ | exact .inr ⟨rfl, trivial⟩ | exact ⟨by decide, rfl⟩) ?_
                  refine VA.take (i := 17) rfl (by kernel_rfl) (by kernel_rfl) (by kernel_rfl) rfl rfl (OpV.nilCheck rfl rfl) ?_
                  refine VA.take (i := 18) rfl (by kernel_rfl) (by kernel_rfl) (by kernel_rfl) rfl rfl (OpV.fieldAddrO 4 rfl Tryz.underlying95 rfl rfl Tryz.sizeOf35 rfl) ?_
                  refine VA.all (rs := [19]) (by kernel_rfl) (by decide) ?_
                  refine ⟨⟨_, rfl, .inl rfl, ?_⟩, trivial⟩
                  refine OpE.store (i := 0) rfl hB rfl Tryz.sizeOf35 rfl rfl rfl rfl rfl rfl (Nle rfl) (by first | exact ⟨rfl, rfl⟩ | exact .inl ⟨rfl, rfl⟩ | exact .inr ⟨rfl, rfl⟩ | exact ⟨rfl, trivial⟩ | exact .inl ⟨rfl, trivial⟩ | exact .inr ⟨rfl, trivial⟩ | exact ⟨by decide, rfl⟩) ?_
                  refine VA.done (by kernel_rfl) ?_
                  refine VC.exit ?_
                  refine VC.seq ?_
                  (refine VC.le _ ((Le.cutBoxE (i := 1) (cs' := listM st.parts) st.parts.length rfl (by rw [eP]; simp [listM])).trans ((Le.boxRow (i := 1) (n := st.parts.length) (sz := 1) (cap := cP2) rfl (by rw [listM_len, Nat.mul_one]) (by omega) hm3).trans ((Le.cutBoxE (i := 2) (cs' := listM st.groups) st.groups.length rfl (by rw [eG]; simp [listM])).trans (Le.boxRow (i := 2) (n := st.groups.length) (sz := 1) (cap := cG2) rfl (by rw [listM_len, Nat.mul_one]) (by omega) hm4)))) ?_; refine VC.le _ (Le.perm (hp := ownG p slots most g (.slice (some ⟨gP2, 0, none⟩) st.parts.length cP2) (.slice (some ⟨gG2, 0, none⟩) st.groups.length cG2) st) (List.Perm.refl _)) ?_)
                  have hte : tryG p slots most (d' + 1) i st = none := by first | exact try_end (by omega) hkn2 | exact try_end (by omega) hkn
                  refine VC.region ?_
                  refine VO.ma rfl rfl rfl rfl ?_
                  refine VO.nil ?_
                  refine VC.ret ?_
                  exact Exists.intro _ (And.intro (RetV.one Tryz.results59 (ResV.tmp rfl)) (⟨_, _, congrArg (fun z => avB (Option.isSome z)) hte.symm, congrArg (fun z => ownG p slots most g _ _ (Option.getD z st)) hte.symm⟩))
                · have h5 := h5b
                  try simp only [qqT, qqF, qqN, qqM, qqL, qqE] at h5
                  have eP : P0 = st.parts := by rw [hP0, frG_n h5]
                  have eG : G0 = st.groups := by rw [hG0, frG_n h5]
                  refine VC.skip ?_
                  subst eP
                  subst eG
                  refine VC.le _ ((Le.boxRow (i := 1) (n := st.parts.length) (sz := 1) (cap := cP2) rfl (by rw [listM_len, Nat.mul_one]) hd1 hm3).trans (Le.boxRow (i := 2) (n := st.groups.length) (sz := 1) (cap := cG2) rfl (by rw [listM_len, Nat.mul_one]) hd2 hm4)) ?_
                  refine VC.region ?_
                  refine VO.mv rfl rfl rfl rfl ?_
                  refine VO.val rfl rfl (OpV.add rfl rfl rfl (by unfold fits; omega)) ?_
                  refine VO.ma rfl rfl rfl rfl ?_
                  refine VO.nil ?_
                  exact Exists.intro (⟨((.slice (some ⟨gP2, 0, none⟩) st.parts.length cP2, .slice (some ⟨gG2, 0, none⟩) st.groups.length cG2), k + 1), by show k + 1 ≤ _; omega, lt_succ_cases hkn hq⟩) (And.intro (Le.mkP hB ⟨rfl, rfl, rfl, trivial⟩ (List.Sublist.refl _) (List.Perm.refl _) (Nat.le_refl _)) (by first | omega | (show _ < _; omega) | (simp only []; omega)))
            ·
              refine OpE.buildSlice (zc := #[.int .i64 0]) rfl hB rfl Tryz.underlying22 Tryz.sizeOf3 Tryz.zeroValue3 (by decide) (by decide) (by kernel_rfl) rfl rfl ?_
              refine VA.all (rs := [12]) (by kernel_rfl) (by decide) ?_
              refine ⟨⟨_, rfl, .inl rfl, ?_⟩, trivial⟩
              refine OpE.callR rfl hB rfl Tryz.call91 (slices_Clone_R (by omega)) (ArgsP.cons (ArgP.ev rfl) (ArgsP.nil)) ?_
              intro u105
              refine VA.all (rs := [15]) (by kernel_rfl) (by decide) ?_
              refine ⟨⟨_, rfl, .inl rfl, ?_⟩, trivial⟩
              refine OpE.hap (fun hap => ?_)
              refine OpE.append1 (i := 3) rfl hB rfl Tryz.underlying22 (infoOf Tryz.t3 1 (by kernel_rfl) rfl rfl) rfl (by decide) (by decide) rfl rfl rfl rfl (intsL_snoc _ _) (by omega) (fun g' hg => ⟨by decide, apart_ne hap (i := 3) (j := 0) hg rfl (by decide)⟩) ?_
              intro u108
              refine VA.le _ (Le.rowI (t := 108) (i := 3) hB hnew rfl rfl (by first | rfl | simp)) ?_
              refine VA.le _ (Le.recast (t := 108) (y := avInts (st.groups.getD k [] ++ [(i : Int)])) rfl (fun w Z u h => by rw [← hGk]; exact h)) ?_
              refine VA.take (i := 16) rfl (by kernel_rfl) (by kernel_rfl) (by kernel_rfl) rfl rfl (OpV.indexAddr_o rfl Tryz.underlying27 Tryz.sizeOf29 rfl rfl rfl (by omega)) ?_
              refine VA.all (rs := [17]) (by kernel_rfl) (by decide) ?_
              refine ⟨⟨_, rfl, .inl rfl, ?_⟩, trivial⟩
              refine OpE.hap (fun hap => ?_)
              refine OpE.store1 (i := 1) rfl hB rfl Tryz.sizeOf29 rfl rfl rfl rfl rfl rfl (by rw [listM_len]; omega) (listM_set _ _ _) (⟨by decide, by first | exact apart_ne hap (i := 1) (j := 0) rfl rfl (by decide) | exact apart_ne hap (i := 2) (j := 0) rfl rfl (by decide)⟩) ?_
              refine VA.take (i := 18) rfl (by kernel_rfl) (by kernel_rfl) (by kernel_rfl) rfl rfl (OpV.indexAddr_o rfl Tryz.underlying35 Tryz.sizeOf22 rfl rfl rfl (by omega)) ?_
              refine VA.all (rs := [19]) (by kernel_rfl) (by decide) ?_
              refine ⟨⟨_, rfl, .inl rfl, ?_⟩, trivial⟩
              refine OpE.hap (fun hap => ?_)
              refine OpE.store1 (i := 2) rfl hB rfl Tryz.sizeOf22 rfl rfl rfl rfl rfl rfl (by rw [listM_len]; omega) (listM_set _ _ _) (⟨by decide, by first | exact apart_ne hap (i := 1) (j := 0) rfl rfl (by decide) | exact apart_ne hap (i := 2) (j := 0) rfl rfl (by decide)⟩) ?_
              refine VA.done (by kernel_rfl) ?_
              refine VC.seq ?_
              refine VC.seq ?_
              refine VC.le _ (Le.boxRow (i := 1) (n := P0.length) (sz := 1) (cap := cP) rfl (by rw [listM_len, hP1, Nat.mul_one]) hc1 hm1) ?_
              refine VC.le _ (Le.boxRow (i := 2) (n := G0.length) (sz := 1) (cap := cG) rfl (by rw [listM_len, hG1, Nat.mul_one]) hc2 hm2) ?_
              refine VC.region ?_
              refine VO.mv rfl rfl rfl rfl ?_
              refine VO.mv rfl rfl rfl rfl ?_
              refine VO.val rfl rfl (OpV.add rfl rfl rfl (by unfold fits; omega)) ?_
              refine VO.op rfl (OpE.callH0 rfl hB rfl Tryz.call59 rfl rfl ((by have hi := ih d' rfl (.slice (some ⟨gP, 0, none⟩) P0.length cP) (.slice (some ⟨gG, 0, none⟩) G0.length cG) ⟨P0.set k (allG p i k st), G0.set k (st.groups.getD k [] ++ [(i : Int)])⟩ (hput ▸ hok.put hp hk (by omega) hsl); simp only [ownG, hP1, hG1] at hi; exact hi)) (List.Perm.refl _) (fun _ _ => trivial) ?_)
              rintro _ _ ⟨u3, v3, rfl, rfl⟩
              refine VO.nil ?_
              refine VC.cond rfl (fun h4b => ?_) (fun h4b => ?_)
              · have h4 := h4b
                try simp only [qqT, qqF, qqN, qqM, qqL, qqE] at h4
                have hr2 := try_at2 hk (show k < most by omega) hkn (show (allG p i k st).length ≤ slots by omega) hput h4
                have hr3 := opt_getD (a := (⟨P0.set k (allG p i k st), G0.set k (st.groups.getD k [] ++ [(i : Int)])⟩ : GrpS)) st hr2 h4
                refine VC.sr ?_
                refine VO.ma rfl rfl rfl rfl ?_
                refine VO.nil ?_
                refine VC.ret ?_
                exact Exists.intro _ (And.intro (RetV.one Tryz.results59 (ResV.tmp rfl)) (⟨u3, v3, by rw [hr2, h4], congrArg (ownG p slots most g u3 v3) hr3⟩))
              · have h4 := h4b
                try simp only [qqT, qqF, qqN, qqM, qqL, qqE] at h4
                have hno : tryG p slots most d' (i + 1) ⟨P0.set k (allG p i k st), G0.set k (st.groups.getD k [] ++ [(i : Int)])⟩ = none := by simpa using h4
                have hq := tryQ_no (slots := slots) (f := tryG p slots most d') (show tryG p slots most d' (i + 1) (putG p i k st) = none by rw [hput]; exact hno)
                refine VC.le _ (Le.perm (hp := [.box g ⟨[avI (slots : Int), avI (most : Int), avM p, .v u3, .v v3], 95, 5⟩, .row u3 P0.length 1 (listM (P0.set k (allG p i k st))) 29, .row v3 G0.length 1 (listM (G0.set k (st.groups.getD k [] ++ [(i : Int)]))) 22]) (by show List.Perm (ownG p slots most g u3 v3 ((tryG p slots most d' (i + 1) ⟨P0.set k (allG p i k st), G0.set k (st.groups.getD k [] ++ [(i : Int)])⟩).getD ⟨P0.set k (allG p i k st), G0.set k (st.groups.getD k [] ++ [(i : Int)])⟩)) _; rw [hno]; simp only [ownG, Option.getD_none, hP1, hG1]; exact List.Perm.refl _)) ?_
                refine VC.skip ?_
                refine VC.asBox (i := 1) rfl (by omega) (fun gP2 cP2 hu1 hd1 hm3 => ?_)
                subst hu1
                refine VC.asBox (i := 2) rfl (by omega) (fun gG2 cG2 hu2 hd2 hm4 => ?_)
                subst hu2
                refine VC.draw (fun j b => 13 ≤ j ∧ b ≠ g) hB (by kernel_rfl) ?_
                refine VA.take (i := 0) rfl (by kernel_rfl) (by kernel_rfl) (by kernel_rfl) rfl rfl (OpV.move (.inl rfl) rfl) ?_
                refine VA.take (i := 1) rfl (by kernel_rfl) (by kernel_rfl) (by kernel_rfl) rfl rfl (OpV.nilCheck rfl rfl) ?_
                refine VA.take (i := 2) rfl (by kernel_rfl) (by kernel_rfl) (by kernel_rfl) rfl rfl (OpV.fieldAddrO 3 rfl Tryz.underlying95 rfl rfl Tryz.sizeOf27 rfl) ?_
                refine VA.take (i := 3) rfl (by kernel_rfl) (by kernel_rfl) (by kernel_rfl) rfl rfl (OpV.load_own (i := 0) rfl hB Tryz.isAgg27 rfl rfl rfl (by first | exact (fun ⟨_, _, _, h⟩ => h rfl) | exact (fun ⟨_, _, _, h⟩ => h.1 rfl) | exact (fun ⟨_, _, _, h⟩ => h.2 rfl) | exact (fun ⟨_, _, _, h⟩ => h.2.1 rfl) | exact (fun ⟨_, _, _, h⟩ => h.2.2 rfl))) ?_
                refine VA.take (i := 4) rfl (by kernel_rfl) (by kernel_rfl) (by kernel_rfl) rfl rfl (OpV.move (.inl rfl) rfl) ?_
                refine VA.take (i := 5) rfl (by kernel_rfl) (by kernel_rfl) (by kernel_rfl) rfl rfl (OpV.move (.inl rfl) rfl) ?_
                refine VA.take (i := 6) rfl (by kernel_rfl) (by kernel_rfl) (by kernel_rfl) rfl rfl (OpV.nilCheck rfl rfl) ?_
                refine VA.take (i := 7) rfl (by kernel_rfl) (by kernel_rfl) (by kernel_rfl) rfl rfl (OpV.fieldAddrO 4 rfl Tryz.underlying95 rfl rfl Tryz.sizeOf35 rfl) ?_
                refine VA.take (i := 8) rfl (by kernel_rfl) (by kernel_rfl) (by kernel_rfl) rfl rfl (OpV.load_own (i := 0) rfl hB Tryz.isAgg35 rfl rfl rfl (by first | exact (fun ⟨_, _, _, h⟩ => h rfl) | exact (fun ⟨_, _, _, h⟩ => h.1 rfl) | exact (fun ⟨_, _, _, h⟩ => h.2 rfl) | exact (fun ⟨_, _, _, h⟩ => h.2.1 rfl) | exact (fun ⟨_, _, _, h⟩ => h.2.2 rfl))) ?_
                refine VA.take (i := 9) rfl (by kernel_rfl) (by kernel_rfl) (by kernel_rfl) rfl rfl (OpV.move (.inl rfl) rfl) ?_
                refine VA.take (i := 10) rfl (by kernel_rfl) (by kernel_rfl) (by kernel_rfl) rfl rfl (OpV.move (.inl rfl) rfl) ?_
                refine VA.take (i := 11) rfl (by kernel_rfl) (by kernel_rfl) (by kernel_rfl) rfl rfl (OpV.move (.inl rfl) rfl) ?_
                refine VA.take (i := 12) rfl (by kernel_rfl) (by kernel_rfl) (by kernel_rfl) rfl rfl (OpV.indexAddr_o rfl Tryz.underlying27 Tryz.sizeOf29 rfl rfl rfl (by omega)) ?_
                refine VA.all (rs := [13]) (by kernel_rfl) (by decide) ?_
                refine ⟨⟨_, rfl, .inl rfl, ?_⟩, trivial⟩
                refine OpE.hap (fun hap => ?_)
                refine OpE.store1 (i := 1) rfl hB rfl Tryz.sizeOf29 rfl rfl rfl rfl rfl rfl (by rw [listM_len, hP1]; omega) ((listM_set _ _ _).trans (congrArg listM (set_backM hfl))) (⟨by decide, by first | exact apart_ne hap (i := 1) (j := 0) rfl rfl (by decide) | exact apart_ne hap (i := 2) (j := 0) rfl rfl (by decide)⟩) ?_
                refine VA.take (i := 14) rfl (by kernel_rfl) (by kernel_rfl) (by kernel_rfl) rfl rfl (OpV.indexAddr_o rfl Tryz.underlying35 Tryz.sizeOf22 rfl rfl rfl (by omega)) ?_
                refine VA.all (rs := [15]) (by kernel_rfl) (by decide) ?_
                refine ⟨⟨_, rfl, .inl rfl, ?_⟩, trivial⟩
                refine OpE.hap (fun hap => ?_)
                refine OpE.store1 (i := 2) rfl hB rfl Tryz.sizeOf22 rfl rfl rfl rfl rfl rfl (by rw [listM_len, hG1]; omega) ((listM_set _ _ _).trans (congrArg listM (set_backM (by omega)))) (⟨by decide, by first | exact apart_ne hap (i := 1) (j := 0) rfl rfl (by decide) | exact apart_ne hap (i := 2) (j := 0) rfl rfl (by decide)⟩) ?_
                refine VA.done (by kernel_rfl) ?_
                refine VC.sr ?_
                refine VO.mv rfl rfl rfl rfl ?_
                refine VO.nil ?_
                refine VC.cond rfl (fun h5b => ?_) (fun h5b => ?_)
                · have h5 := h5b
                  try simp only [qqT, qqF, qqN, qqM, qqL, qqE] at h5
                  have hkn2 := lt_succ_cases hkn hq
                  obtain rfl : k = st.parts.length := h5
                  have eP : P0 = st.parts ++ [[]] := by rw [hP0, frG_y rfl]
                  have eG : G0 = st.groups ++ [[]] := by rw [hG0, frG_y rfl]
                  refine VC.seq ?_
                  refine VC.draw (fun j b => (j = 16 ∧ b = g) ∨ (j = 19 ∧ b = g)) hB (by kernel_rfl) ?_
                  refine VA.take (i := 0) rfl (by kernel_rfl) (by kernel_rfl) (by kernel_rfl) rfl rfl (OpV.move (.inl rfl) rfl) ?_
                  refine VA.take (i := 1) rfl (by kernel_rfl) (by kernel_rfl) (by kernel_rfl) rfl rfl (OpV.move (.inl rfl) rfl) ?_
                  refine VA.take (i := 2) rfl (by kernel_rfl) (by kernel_rfl) (by kernel_rfl) rfl rfl (OpV.move (.inl rfl) rfl) ?_
                  refine VA.take (i := 3) rfl (by kernel_rfl) (by kernel_rfl) (by kernel_rfl) rfl rfl (OpV.nilCheck rfl rfl) ?_
                  refine VA.take (i := 4) rfl (by kernel_rfl) (by kernel_rfl) (by kernel_rfl) rfl rfl (OpV.fieldAddrO 3 rfl Tryz.underlying95 rfl rfl Tryz.sizeOf27 rfl) ?_
                  refine VA.take (i := 5) rfl (by kernel_rfl) (by kernel_rfl) (by kernel_rfl) rfl rfl (OpV.load_own (i := 0) rfl hB Tryz.isAgg27 rfl rfl rfl (by first | exact Wi.not1 (by kernel_rfl) | exact Wi.not2 (by kernel_rfl) (by kernel_rfl) | exact Wi.notX (by kernel_rfl))) ?_
                  refine VA.take (i := 6) rfl (by kernel_rfl) (by kernel_rfl) (by kernel_rfl) rfl rfl (OpV.move (.inl rfl) rfl) ?_
                  refine VA.take (i := 7) rfl (by kernel_rfl) (by kernel_rfl) (by kernel_rfl) rfl rfl (OpV.slice_own (h := st.parts.length) rfl Tryz.underlying27 Tryz.sizeOf29 rfl rfl ⟨_, _, rfl, rfl⟩ (by omega) (by omega) (by omega)) ?_
                  refine VA.take (i := 8) rfl (by kernel_rfl) (by kernel_rfl) (by kernel_rfl) rfl rfl (OpV.move (.inl rfl) rfl) ?_
                  refine VA.take (i := 9) rfl (by kernel_rfl) (by kernel_rfl) (by kernel_rfl) rfl rfl (OpV.nilCheck rfl rfl) ?_
                  refine VA.take (i := 10) rfl (by kernel_rfl) (by kernel_rfl) (by kernel_rfl) rfl rfl (OpV.fieldAddrO 4 rfl Tryz.underlying95 rfl rfl Tryz.sizeOf35 rfl) ?_
                  refine VA.take (i := 11) rfl (by kernel_rfl) (by kernel_rfl) (by kernel_rfl) rfl rfl (OpV.load_own (i := 0) rfl hB Tryz.isAgg35 rfl rfl rfl (by first | exact Wi.not1 (by kernel_rfl) | exact Wi.not2 (by kernel_rfl) (by kernel_rfl) | exact Wi.notX (by kernel_rfl))) ?_
                  refine VA.take (i := 12) rfl (by kernel_rfl) (by kernel_rfl) (by kernel_rfl) rfl rfl (OpV.move (.inl rfl) rfl) ?_
                  refine VA.take (i := 13) rfl (by kernel_rfl) (by kernel_rfl) (by kernel_rfl) rfl rfl (OpV.slice_own (h := st.groups.length) rfl Tryz.underlying35 Tryz.sizeOf22 rfl rfl ⟨_, _, rfl, by omega⟩ (by omega) (by omega) (by omega)) ?_
                  refine VA.take (i := 14) rfl (by kernel_rfl) (by kernel_rfl) (by kernel_rfl) rfl rfl (OpV.nilCheck rfl rfl) ?_
                  refine VA.take (i := 15) rfl (by kernel_rfl) (by kernel_rfl) (by kernel_rfl) rfl rfl (OpV.fieldAddrO 3 rfl Tryz.underlying95 rfl rfl Tryz.sizeOf27 rfl) ?_
                  refine VA.all (rs := [16]) (by kernel_rfl) (by decide) ?_
                  refine ⟨⟨_, rfl, .inl rfl, ?_⟩, trivial⟩
                  refine OpE.store (i := 0) rfl hB rfl Tryz.sizeOf27 rfl rfl rfl rfl rfl rfl (Nle rfl) (by first | exact ⟨rfl, rfl⟩ | exact .inl ⟨rfl, rfl⟩ | exact .inr ⟨rfl, rfl⟩ | exact ⟨rfl, trivial⟩ | exact .inl ⟨rfl, trivial⟩ | exact .inr ⟨rfl, trivial⟩ | exact ⟨by decide, rfl⟩) ?_
                  refine VA.take (i := 17) rfl (by kernel_rfl) (by kernel_rfl) (by kernel_rfl) rfl rfl (OpV.nilCheck rfl rfl) ?_
                  refine VA.take (i := 18) rfl (by kernel_rfl) (by kernel_rfl) (by kernel_rfl) rfl rfl (OpV.fieldAddrO 4 rfl Tryz.underlying95 rfl rfl Tryz.sizeOf35 rfl) ?_
                  refine VA.all (rs := [19]) (by kernel_rfl) (by decide) ?_
                  refine ⟨⟨_, rfl, .inl rfl, ?_⟩, trivial⟩
                  refine OpE.store (i := 0) rfl hB rfl Tryz.sizeOf35 rfl rfl rfl rfl rfl rfl (Nle rfl) (by first | exact ⟨rfl, rfl⟩ | exact .inl ⟨rfl, rfl⟩ | exact .inr ⟨rfl, rfl⟩ | exact ⟨rfl, trivial⟩ | exact .inl ⟨rfl, trivial⟩ | exact .inr ⟨rfl, trivial⟩ | exact ⟨by decide, rfl⟩) ?_
                  refine VA.done (by kernel_rfl) ?_
                  refine VC.exit ?_
                  refine VC.seq ?_
                  (refine VC.le _ ((Le.cutBoxE (i := 1) (cs' := listM st.parts) st.parts.length rfl (by rw [eP]; simp [listM])).trans ((Le.boxRow (i := 1) (n := st.parts.length) (sz := 1) (cap := cP2) rfl (by rw [listM_len, Nat.mul_one]) (by omega) hm3).trans ((Le.cutBoxE (i := 2) (cs' := listM st.groups) st.groups.length rfl (by rw [eG]; simp [listM])).trans (Le.boxRow (i := 2) (n := st.groups.length) (sz := 1) (cap := cG2) rfl (by rw [listM_len, Nat.mul_one]) (by omega) hm4)))) ?_; refine VC.le _ (Le.perm (hp := ownG p slots most g (.slice (some ⟨gP2, 0, none⟩) st.parts.length cP2) (.slice (some ⟨gG2, 0, none⟩) st.groups.length cG2) st) (List.Perm.refl _)) ?_)
                  have hte : tryG p slots most (d' + 1) i st = none := by first | exact try_end (by omega) hkn2 | exact try_end (by omega) hkn
                  refine VC.region ?_
                  refine VO.ma rfl rfl rfl rfl ?_
                  refine VO.nil ?_
                  refine VC.ret ?_
                  exact Exists.intro _ (And.intro (RetV.one Tryz.results59 (ResV.tmp rfl)) (⟨_, _, congrArg (fun z => avB (Option.isSome z)) hte.symm, congrArg (fun z => ownG p slots most g _ _ (Option.getD z st)) hte.symm⟩))
                · have h5 := h5b
                  try simp only [qqT, qqF, qqN, qqM, qqL, qqE] at h5
                  have eP : P0 = st.parts := by rw [hP0, frG_n h5]
                  have eG : G0 = st.groups := by rw [hG0, frG_n h5]
                  refine VC.skip ?_
                  subst eP
                  subst eG
                  refine VC.le _ ((Le.boxRow (i := 1) (n := st.parts.length) (sz := 1) (cap := cP2) rfl (by rw [listM_len, Nat.mul_one]) hd1 hm3).trans (Le.boxRow (i := 2) (n := st.groups.length) (sz := 1) (cap := cG2) rfl (by rw [listM_len, Nat.mul_one]) hd2 hm4)) ?_
                  refine VC.region ?_
                  refine VO.mv rfl rfl rfl rfl ?_
                  refine VO.val rfl rfl (OpV.add rfl rfl rfl (by unfold fits; omega)) ?_
                  refine VO.ma rfl rfl rfl rfl ?_
                  refine VO.nil ?_
                  exact Exists.intro (⟨((.slice (some ⟨gP2, 0, none⟩) st.parts.length cP2, .slice (some ⟨gG2, 0, none⟩) st.groups.length cG2), k + 1), by show k + 1 ≤ _; omega, lt_succ_cases hkn hq⟩) (And.intro (Le.mkP hB ⟨rfl, rfl, rfl, trivial⟩ (List.Sublist.refl _) (List.Perm.refl _) (Nat.le_refl _)) (by first | omega | (show _ < _; omega) | (simp only []; omega)))
          · have h3 := h3b
            try simp only [qqT, qqF, qqN, qqM, qqL, qqE] at h3
            have hq := tryQ_big (f := tryG p slots most d') (show ¬ (allG p i k st).length ≤ slots by omega)
            refine VC.skip ?_
            refine VC.sr ?_
            refine VO.mv rfl rfl rfl rfl ?_
            refine VO.nil ?_
            refine VC.cond rfl (fun h5b => ?_) (fun h5b => ?_)
            · have h5 := h5b
              try simp only [qqT, qqF, qqN, qqM, qqL, qqE] at h5
              have hkn2 := lt_succ_cases hkn hq
              obtain rfl : k = st.parts.length := h5
              have eP : P0 = st.parts ++ [[]] := by rw [hP0, frG_y rfl]
              have eG : G0 = st.groups ++ [[]] := by rw [hG0, frG_y rfl]
              refine VC.seq ?_
              refine VC.draw (fun j b => (j = 16 ∧ b = g) ∨ (j = 19 ∧ b = g)) hB (by kernel_rfl) ?_
              refine VA.take (i := 0) rfl (by kernel_rfl) (by kernel_rfl) (by kernel_rfl) rfl rfl (OpV.move (.inl rfl) rfl) ?_
              refine VA.take (i := 1) rfl (by kernel_rfl) (by kernel_rfl) (by kernel_rfl) rfl rfl (OpV.move (.inl rfl) rfl) ?_
              refine VA.take (i := 2) rfl (by kernel_rfl) (by kernel_rfl) (by kernel_rfl) rfl rfl (OpV.move (.inl rfl) rfl) ?_
              refine VA.take (i := 3) rfl (by kernel_rfl) (by kernel_rfl) (by kernel_rfl) rfl rfl (OpV.nilCheck rfl rfl) ?_
              refine VA.take (i := 4) rfl (by kernel_rfl) (by kernel_rfl) (by kernel_rfl) rfl rfl (OpV.fieldAddrO 3 rfl Tryz.underlying95 rfl rfl Tryz.sizeOf27 rfl) ?_
              refine VA.take (i := 5) rfl (by kernel_rfl) (by kernel_rfl) (by kernel_rfl) rfl rfl (OpV.load_own (i := 0) rfl hB Tryz.isAgg27 rfl rfl rfl (by first | exact Wi.not1 (by kernel_rfl) | exact Wi.not2 (by kernel_rfl) (by kernel_rfl) | exact Wi.notX (by kernel_rfl))) ?_
              refine VA.take (i := 6) rfl (by kernel_rfl) (by kernel_rfl) (by kernel_rfl) rfl rfl (OpV.move (.inl rfl) rfl) ?_
              refine VA.take (i := 7) rfl (by kernel_rfl) (by kernel_rfl) (by kernel_rfl) rfl rfl (OpV.slice_own (h := st.parts.length) rfl Tryz.underlying27 Tryz.sizeOf29 rfl rfl ⟨_, _, rfl, rfl⟩ (by omega) (by omega) (by omega)) ?_
              refine VA.take (i := 8) rfl (by kernel_rfl) (by kernel_rfl) (by kernel_rfl) rfl rfl (OpV.move (.inl rfl) rfl) ?_
              refine VA.take (i := 9) rfl (by kernel_rfl) (by kernel_rfl) (by kernel_rfl) rfl rfl (OpV.nilCheck rfl rfl) ?_
              refine VA.take (i := 10) rfl (by kernel_rfl) (by kernel_rfl) (by kernel_rfl) rfl rfl (OpV.fieldAddrO 4 rfl Tryz.underlying95 rfl rfl Tryz.sizeOf35 rfl) ?_
              refine VA.take (i := 11) rfl (by kernel_rfl) (by kernel_rfl) (by kernel_rfl) rfl rfl (OpV.load_own (i := 0) rfl hB Tryz.isAgg35 rfl rfl rfl (by first | exact Wi.not1 (by kernel_rfl) | exact Wi.not2 (by kernel_rfl) (by kernel_rfl) | exact Wi.notX (by kernel_rfl))) ?_
              refine VA.take (i := 12) rfl (by kernel_rfl) (by kernel_rfl) (by kernel_rfl) rfl rfl (OpV.move (.inl rfl) rfl) ?_
              refine VA.take (i := 13) rfl (by kernel_rfl) (by kernel_rfl) (by kernel_rfl) rfl rfl (OpV.slice_own (h := st.groups.length) rfl Tryz.underlying35 Tryz.sizeOf22 rfl rfl ⟨_, _, rfl, by omega⟩ (by omega) (by omega) (by omega)) ?_
              refine VA.take (i := 14) rfl (by kernel_rfl) (by kernel_rfl) (by kernel_rfl) rfl rfl (OpV.nilCheck rfl rfl) ?_
              refine VA.take (i := 15) rfl (by kernel_rfl) (by kernel_rfl) (by kernel_rfl) rfl rfl (OpV.fieldAddrO 3 rfl Tryz.underlying95 rfl rfl Tryz.sizeOf27 rfl) ?_
              refine VA.all (rs := [16]) (by kernel_rfl) (by decide) ?_
              refine ⟨⟨_, rfl, .inl rfl, ?_⟩, trivial⟩
              refine OpE.store (i := 0) rfl hB rfl Tryz.sizeOf27 rfl rfl rfl rfl rfl rfl (Nle rfl) (by first | exact ⟨rfl, rfl⟩ | exact .inl ⟨rfl, rfl⟩ | exact .inr ⟨rfl, rfl⟩ | exact ⟨rfl, trivial⟩ | exact .inl ⟨rfl, trivial⟩ | exact .inr ⟨rfl, trivial⟩ | exact ⟨by decide, rfl⟩) ?_
              refine VA.take (i := 17) rfl (by kernel_rfl) (by kernel_rfl) (by kernel_rfl) rfl rfl (OpV.nilCheck rfl rfl) ?_
              refine VA.take (i := 18) rfl (by kernel_rfl) (by kernel_rfl) (by kernel_rfl) rfl rfl (OpV.fieldAddrO 4 rfl Tryz.underlying95 rfl rfl Tryz.sizeOf35 rfl) ?_
              refine VA.all (rs := [19]) (by kernel_rfl) (by decide) ?_
              refine ⟨⟨_, rfl, .inl rfl, ?_⟩, trivial⟩
              refine OpE.store (i := 0) rfl hB rfl Tryz.sizeOf35 rfl rfl rfl rfl rfl rfl (Nle rfl) (by first | exact ⟨rfl, rfl⟩ | exact .inl ⟨rfl, rfl⟩ | exact .inr ⟨rfl, rfl⟩ | exact ⟨rfl, trivial⟩ | exact .inl ⟨rfl, trivial⟩ | exact .inr ⟨rfl, trivial⟩ | exact ⟨by decide, rfl⟩) ?_
              refine VA.done (by kernel_rfl) ?_
              refine VC.exit ?_
              refine VC.seq ?_
              (refine VC.le _ ((Le.cutBoxE (i := 1) (cs' := listM st.parts) st.parts.length rfl (by rw [eP]; simp [listM])).trans ((Le.boxRow (i := 1) (n := st.parts.length) (sz := 1) (cap := cP) rfl (by rw [listM_len, Nat.mul_one]) (by omega) hm1).trans ((Le.cutBoxE (i := 2) (cs' := listM st.groups) st.groups.length rfl (by rw [eG]; simp [listM])).trans (Le.boxRow (i := 2) (n := st.groups.length) (sz := 1) (cap := cG) rfl (by rw [listM_len, Nat.mul_one]) (by omega) hm2)))) ?_; refine VC.le _ (Le.perm (hp := ownG p slots most g (.slice (some ⟨gP, 0, none⟩) st.parts.length cP) (.slice (some ⟨gG, 0, none⟩) st.groups.length cG) st) (List.Perm.refl _)) ?_)
              have hte : tryG p slots most (d' + 1) i st = none := by first | exact try_end (by omega) hkn2 | exact try_end (by omega) hkn
              refine VC.region ?_
              refine VO.ma rfl rfl rfl rfl ?_
              refine VO.nil ?_
              refine VC.ret ?_
              exact Exists.intro _ (And.intro (RetV.one Tryz.results59 (ResV.tmp rfl)) (⟨_, _, congrArg (fun z => avB (Option.isSome z)) hte.symm, congrArg (fun z => ownG p slots most g _ _ (Option.getD z st)) hte.symm⟩))
            · have h5 := h5b
              try simp only [qqT, qqF, qqN, qqM, qqL, qqE] at h5
              have eP : P0 = st.parts := by rw [hP0, frG_n h5]
              have eG : G0 = st.groups := by rw [hG0, frG_n h5]
              refine VC.skip ?_
              subst eP
              subst eG
              refine VC.le _ ((Le.boxRow (i := 1) (n := st.parts.length) (sz := 1) (cap := cP) rfl (by rw [listM_len, Nat.mul_one]) hc1 hm1).trans (Le.boxRow (i := 2) (n := st.groups.length) (sz := 1) (cap := cG) rfl (by rw [listM_len, Nat.mul_one]) hc2 hm2)) ?_
              refine VC.region ?_
              refine VO.mv rfl rfl rfl rfl ?_
              refine VO.val rfl rfl (OpV.add rfl rfl rfl (by unfold fits; omega)) ?_
              refine VO.ma rfl rfl rfl rfl ?_
              refine VO.nil ?_
              exact Exists.intro (⟨((.slice (some ⟨gP, 0, none⟩) st.parts.length cP, .slice (some ⟨gG, 0, none⟩) st.groups.length cG), k + 1), by show k + 1 ≤ _; omega, lt_succ_cases hkn hq⟩) (And.intro (Le.mkP hB ⟨rfl, rfl, rfl, trivial⟩ (List.Sublist.refl _) (List.Perm.refl _) (Nat.le_refl _)) (by first | omega | (show _ < _; omega) | (simp only []; omega)))
      · have h1 := h1b
        try simp only [qqT, qqF, qqN, qqM, qqL, qqE] at h1
        refine VC.exit ?_
        refine VC.seq ?_
        skip
        have hte : tryG p slots most (d' + 1) i st = none := by first | exact try_end (by omega) hkn2 | exact try_end (by omega) hkn
        refine VC.region ?_
        refine VO.ma rfl rfl rfl rfl ?_
        refine VO.nil ?_
        refine VC.ret ?_
        exact Exists.intro _ (And.intro (RetV.one Tryz.results59 (ResV.tmp rfl)) (⟨_, _, congrArg (fun z => avB (Option.isSome z)) hte.symm, congrArg (fun z => ownG p slots most g _ _ (Option.getD z st)) hte.symm⟩))
    · replace aK1b : _ = false := aK1b
      have aK1 := aK1b
      try simp only [qqT, qqF, qqN, qqM, qqL, qqE] at aK1
      refine VO.opX rfl rfl rfl rfl aK1b ?_
      refine VO.opX rfl rfl rfl rfl aK1b ?_
      refine VO.opX rfl rfl rfl rfl aK1b ?_
      refine VO.opX rfl rfl rfl rfl aK1b ?_
      refine VO.opX rfl rfl rfl rfl aK1b ?_
      refine VO.val rfl rfl (OpV.pickF rfl rfl rfl rfl aK1b) ?_
      refine VO.nil ?_
      refine VC.condF rfl rfl ?_
      refine VC.exit ?_
      refine VC.seq ?_
      skip
      have hte : tryG p slots most (d' + 1) i st = none := by first | exact try_end (by omega) hkn2 | exact try_end (by omega) hkn
      refine VC.region ?_
      refine VO.ma rfl rfl rfl rfl ?_
      refine VO.nil ?_
      refine VC.ret ?_
      exact Exists.intro _ (And.intro (RetV.one Tryz.results59 (ResV.tmp rfl)) (⟨_, _, congrArg (fun z => avB (Option.isSome z)) hte.symm, congrArg (fun z => ownG p slots most g _ _ (Option.getD z st)) hte.symm⟩))
end Go.Proofs.YtbbgjeiefmiblaaGreatDoor
namespace Go.Proofs.YtbbgjeiefmiblaaGreatDoor
open Go.RowKit
set_option linter.unusedVariables false
set_option linter.unusedSimpArgs false
theorem grp_try {p : List (List ByteArray)} {slots most g : Nat} (hp : ∀ j, SmS (p.getD j default)) (hpl : p.length ≤ 10) (hpk : ∀ j, (p.getD j default).length ≤ 1000) (hsl : slots ≤ 1000) : ∀ (d i : Nat) (uP uG : Value) (st : GrpS), i + d = p.length → GOk i st →
  SpecH Tryz.prog 59 [pt g, avI (i : Int)] (ownG p slots most g uP uG st) (fun y hp' => ∃ uP' uG', y = avB (tryG p slots most d i st).isSome ∧ hp' = ownG p slots most g uP' uG' ((tryG p slots most d i st).getD st))
 | 0, i, uP, uG, st, h1, h2 => grp_try_step hp hpl hpk hsl (fun d' e => by omega) h1 h2
 | d + 1, i, uP, uG, st, h1, h2 => grp_try_step hp hpl hpk hsl (fun d' e uP uG st h => by obtain rfl : d = d' := (by omega); exact grp_try hp hpl hpk hsl d (i + 1) uP uG st (by omega) h) h1 h2
theorem GOk.nil : GOk 0 ⟨[], []⟩ := ⟨rfl, Nat.le_refl _, fun j => ⟨SmS.nil, by simp; exact Nat.zero_le _⟩, fun j => by simp; rfl⟩
def grpO (slots : Nat) (p : List (List ByteArray)) : Option GrpS := (List.range (p.length + 1)).findSome? fun m => tryG p slots m p.length 0 ⟨[], []⟩
def grpLst (slots : Nat) (p : List (List ByteArray)) : List (List Int) := ((grpO slots p).getD ⟨[], []⟩).groups
def grpE (slots : Int) (p : List (List ByteArray)) : Int := if partsF slots p ≠ 0 then partsF slots p else if 10 < p.length then 2 else 0
def grpR (slots : Int) (p : List (List ByteArray)) : List (List Int) := if grpE slots p = 0 then grpLst slots.toNat p else []
section
variable {p : List (List ByteArray)} {slots : Nat}
theorem grpO_at {q : Nat} {r : GrpS} (hq : q ≤ p.length) (hn : ∀ m, m < q → tryG p slots m p.length 0 ⟨[], []⟩ = none) (h : tryG p slots q p.length 0 ⟨[], []⟩ = some r) : grpO slots p = some r := by
 unfold grpO
 have e : List.range (p.length + 1) = List.range q ++ (List.range (p.length + 1)).drop q := by
  conv => lhs; rw [← List.take_append_drop q (List.range (p.length + 1))]
  rw [List.take_range, Nat.min_eq_left (by omega)]
 have e2 : (List.range (p.length + 1)).drop q = q :: (List.range (p.length + 1)).drop (q + 1) := by
  rw [List.drop_eq_getElem_cons (by simp; omega)]; simp
 rw [e, List.findSome?_append, List.findSome?_eq_none_iff.2 (fun j hj => hn j (List.mem_range.1 hj)), e2, List.findSome?_cons, h]
 rfl
theorem grp_alone (hp : ∀ i, i < p.length → (p.getD i default).length ≤ slots) (h : tryG p slots p.length p.length 0 ⟨[], []⟩ = none) : False := by
 have h1 := (alone hp p.length (Nat.le_refl _)).1
 have h2 := tryG_some p.length 0 (fun j => j) (show OkG p slots _ _ (0 + p.length) by rw [Nat.zero_add]; exact h1)
 have h3 : stG p (fun j => j) 0 = ⟨[], []⟩ := rfl
 rw [h3, h] at h2
 cases h2
structure GrpF (slots : Nat) (p : List (List ByteArray)) (G : List (List Int)) : Prop where
 perm : G.flatten.Perm (idO p.length)
 ne : ∀ k, k < G.length → 0 < (G.getD k []).length
 uni : ∀ k, k < G.length → (uK (unS p (G.getD k []))).length ≤ slots
 hd : ∀ k, k + 1 < G.length → (G.getD k []).getD 0 0 ≤ (G.getD (k + 1) []).getD 0 0
 pr : ∀ a b, a < b → b < G.length → slots < (uK (unS p (G.getD a [] ++ G.getD b []))).length
theorem unS_mem {xs : List Int} {x : ByteArray} : x ∈ unS p xs ↔ ∃ i ∈ xs, x ∈ unX p i := by
 unfold unS; rw [List.mem_flatMap]
theorem unX_nat {j : Nat} (hj : j < p.length) : unX p (j : Int) = p.getD j default := by
 unfold unX; rw [if_pos ⟨by omega, by omega⟩, Int.toNat_natCast]
theorem mem0 {l : List Int} (h : 0 < l.length) : l.getD 0 0 ∈ l := by
 rw [List.getD_eq_getElem?_getD, List.getElem?_eq_getElem h]; exact List.getElem_mem _
theorem grp_facts (hnd : ∀ i, i < p.length → (p.getD i default).Nodup) {most : Nat} {r : GrpS} (hn : ∀ m, m < most → tryG p slots m p.length 0 ⟨[], []⟩ = none) (h : tryG p slots most p.length 0 ⟨[], []⟩ = some r) : GrpF slots p r.groups := by
 have h0 : OkG p slots most (fun _ => 0) 0 := fun j hj => absurd hj (Nat.not_lt_zero j)
 have h5 : stG p (fun _ => 0) 0 = ⟨[], []⟩ := rfl
 obtain ⟨f, hok, _, h3⟩ := tryG_found p.length 0 (fun _ => 0) r h0 (by rw [h5]; exact h)
 rw [Nat.zero_add] at hok h3
 obtain ⟨W, _⟩ := wayG hnd p.length (Nat.le_refl _) hok
 have hl := stG_lens (p := p) f p.length
 subst h3
 have hmem : ∀ k, k < (stG p f p.length).parts.length → ∀ x : Int, x ∈ (stG p f p.length).groups.getD k [] ↔ ∃ j : Nat, j < p.length ∧ f j = k ∧ x = (j : Int) := fun k hk x => by
  rw [W.grp k hk, List.mem_map]
  constructor
  ·rintro ⟨j, hj, rfl⟩
   obtain ⟨h1, h2⟩ := List.mem_filter.1 hj
   exact ⟨j, List.mem_range.1 h1, by simpa using h2, rfl⟩
  ·rintro ⟨j, h1, h2, rfl⟩
   exact ⟨j, List.mem_filter.2 ⟨List.mem_range.2 h1, by simpa using h2⟩, rfl⟩
 have huni : ∀ k, k < (stG p f p.length).parts.length → ∀ x, x ∈ unS p ((stG p f p.length).groups.getD k []) ↔ x ∈ (stG p f p.length).parts.getD k [] := fun k hk x => by
  rw [unS_mem, W.mem k hk]
  constructor
  ·rintro ⟨i, hi, hx⟩
   obtain ⟨j, h1, h2, rfl⟩ := (hmem k hk i).1 hi
   rw [unX_nat h1] at hx
   exact ⟨j, h1, h2, hx⟩
  ·rintro ⟨j, h1, h2, hx⟩
   exact ⟨(j : Int), (hmem k hk _).2 ⟨j, h1, h2, rfl⟩, by rw [unX_nat h1]; exact hx⟩
 have hndg : ∀ k, k < (stG p f p.length).parts.length → ((stG p f p.length).groups.getD k []).Nodup := fun k hk => by
  rw [W.grp k hk, List.Nodup, List.pairwise_map]
  exact ((List.nodup_range (n := p.length)).sublist List.filter_sublist).imp fun h e => h (by omega)
 have hgd : ∀ k (hk : k < (stG p f p.length).groups.length), (stG p f p.length).groups[k] = (stG p f p.length).groups.getD k [] := fun k hk => by simp [hk]
 refine ⟨?_, fun k hk => ?_, fun k hk => ?_, fun k hk => ?_, fun a b hab hb => ?_⟩
 ·refine (List.perm_ext_iff_of_nodup ?_ (idO_ord p.length).nd).2 fun x => ?_
  ·rw [List.Nodup, List.pairwise_flatten]
   refine ⟨fun l hl' => ?_, ?_⟩
   ·obtain ⟨k, hk, rfl⟩ := List.getElem_of_mem hl'
    rw [hgd k hk]; exact hndg k (by omega)
   ·rw [List.pairwise_iff_getElem]
    intro i j hi hj hij
    rw [hgd i hi, hgd j hj]
    intro x hx y hy e
    obtain ⟨a, _, h1, h2⟩ := (hmem i (by omega) x).1 hx
    obtain ⟨b, _, h3, h4⟩ := (hmem j (by omega) y).1 hy
    have hab : a = b := by omega
    subst hab
    omega
  ·rw [List.mem_flatten]
   constructor
   ·rintro ⟨l, hl', hx⟩
    obtain ⟨k, hk, rfl⟩ := List.getElem_of_mem hl'
    rw [hgd k hk] at hx
    obtain ⟨j, h1, _, rfl⟩ := (hmem k (by omega) x).1 hx
    exact List.mem_map.2 ⟨j, List.mem_range.2 h1, rfl⟩
   ·intro hx
    obtain ⟨j, hj, rfl⟩ := List.mem_map.1 hx
    have hj := List.mem_range.1 hj
    have hlab := W.lab j hj
    exact ⟨_, List.getElem_mem (by omega : f j < (stG p f p.length).groups.length), by rw [hgd _ (by omega)]; exact (hmem _ hlab _).2 ⟨j, hj, rfl, rfl⟩⟩
 ·obtain ⟨j, h1, h2⟩ := W.used k (by omega)
  exact List.length_pos_of_mem ((hmem k (by omega) _).2 ⟨j, h1, h2, rfl⟩)
 ·have e : uK (unS p ((stG p f p.length).groups.getD k [])) = uK ((stG p f p.length).parts.getD k []) := uK_uniq (uK_srt _) fun x => by rw [uK_mem, huni k (by omega)]
  rw [e]
  exact Nat.le_trans (uK_len _) (W.size k (by omega))
 ·obtain ⟨j, h1, h2, h3⟩ := W.head k (by omega)
  obtain ⟨j2, g1, g2⟩ := W.used (k + 1) (by omega)
  have hpos : 0 < ((stG p f p.length).groups.getD (k + 1) []).length := List.length_pos_of_mem ((hmem (k + 1) (by omega) _).2 ⟨j2, g1, g2, rfl⟩)
  have hm2 : ((stG p f p.length).groups.getD (k + 1) []).getD 0 0 ∈ (stG p f p.length).groups.getD (k + 1) [] := mem0 hpos
  obtain ⟨m, m1, m2, m3⟩ := (hmem (k + 1) (by omega) _).1 hm2
  have hlt := h3 m m1 m2
  rw [m3]
  have hjm : (j : Int) ∈ (stG p f p.length).groups.getD k [] := (hmem k (by omega) _).2 ⟨j, h1, h2, rfl⟩
  have hsrt : ((stG p f p.length).groups.getD k []).Pairwise (· ≤ ·) := by
   rw [W.grp k (by omega), List.pairwise_map]
   exact (List.Pairwise.sublist List.filter_sublist (List.pairwise_lt_range (n := p.length))).imp fun h => by omega
  have hle : ((stG p f p.length).groups.getD k []).getD 0 0 ≤ (j : Int) := by
   generalize (stG p f p.length).groups.getD k [] = l at hsrt hjm
   cases l with
   | nil => cases hjm
   | cons y l =>
    rcases List.mem_cons.1 hjm with e | hjm
    ·rw [e]; exact Int.le_refl _
    ·exact (List.pairwise_cons.1 hsrt).1 _ hjm
  omega
 ·have hm := no_merge hnd hok hn hab (by omega)
  refine Nat.lt_of_lt_of_le hm ?_
  refine nodup_sub ?_ fun x hx => ?_
  ·rw [List.nodup_append]
   exact ⟨W.nd a (by omega), missF_nodup (W.nd b (by omega)), fun c hc d hd e => (missF_mem.1 hd).2 (e ▸ hc)⟩
  ·rw [uK_mem, unS_mem]
   rw [List.mem_append, missF_mem] at hx
   have hin : ∀ k, k < (stG p f p.length).parts.length → x ∈ (stG p f p.length).parts.getD k [] → ∃ i ∈ (stG p f p.length).groups.getD k [], x ∈ unX p i := fun k hk hx => unS_mem.1 ((huni k hk x).2 hx)
   rcases hx with hx | hx
   ·obtain ⟨i, h1, h2⟩ := hin a (by omega) hx
    exact ⟨i, List.mem_append_left _ h1, h2⟩
   ·obtain ⟨i, h1, h2⟩ := hin b (by omega) hx.1
    exact ⟨i, List.mem_append_right _ h1, h2⟩
end
theorem grpE_1 {slots : Int} {p : List (List ByteArray)} (h : partsF slots p ≠ 0) : grpE slots p = partsF slots p ∧ grpR slots p = [] := by
 have e : grpE slots p = partsF slots p := if_pos h
 exact ⟨e, by rw [grpR, e, if_neg h]⟩
theorem grpE_2 {slots : Int} {p : List (List ByteArray)} (h : partsF slots p = 0) (h2 : 10 < p.length) : grpE slots p = 2 ∧ grpR slots p = [] := by
 have e : grpE slots p = 2 := by rw [grpE, if_neg (by omega), if_pos h2]
 exact ⟨e, by rw [grpR, e, if_neg (by omega)]⟩
theorem grpE_3 {slots : Int} {sN : Nat} {p : List (List ByteArray)} (h : partsF slots p = 0) (h2 : p.length ≤ 10) (hs : slots = sN) : grpE slots p = 0 ∧ grpR slots p = grpLst sN p := by
 have e : grpE slots p = 0 := by rw [grpE, if_neg (by omega), if_neg (by omega)]
 exact ⟨e, by rw [grpR, e, if_pos rfl, hs, Int.toNat_natCast]⟩
set_option maxRecDepth 100000 in
set_option maxHeartbeats 4000000 in
theorem setup_Groups {slots : Int} {p : List (List ByteArray)} (hs : SmSS p) :
  Spec Tryz.prog 14 [avI slots, avM p] (fun y => y = .tup [avM (grpR slots p), avI (grpE slots p)]) := by
 refine Spec.of_VC Tryz.func14 rfl Tryz.ntmps14 (Nle rfl) fun w A hB => ?_
 have hnew : True := trivial
 refine VC.sr ?_
 refine VO.ma rfl rfl rfl rfl ?_
 refine VO.ma rfl rfl rfl rfl ?_
 refine VO.nil ?_
 refine VC.seq ?_
 refine VC.sr ?_
 refine VO.mv rfl rfl rfl rfl ?_
 refine VO.mv rfl rfl rfl rfl ?_
 refine VO.op rfl (OpE.call rfl hB rfl Tryz.call58 rfl (SpecN.spec (setup_CheckParts hs)) ?_)
 rintro _ rfl
 refine VO.ma rfl rfl rfl rfl ?_
 refine VO.nil ?_
 refine VC.sr ?_
 refine VO.mv rfl rfl rfl rfl ?_
 refine VO.val rfl rfl (OpV.neq rfl rfl rfl) ?_
 refine VO.nil ?_
 refine VC.cond rfl (fun h0b => ?_) (fun h0b => ?_)
 ·have h0 := h0b
  try simp only [qqT, qqF, qqN, qqM, qqL, qqE] at h0
  refine VC.sr ?_
  refine VO.mv rfl rfl rfl rfl ?_
  refine VO.ma rfl rfl rfl rfl ?_
  refine VO.ma rfl rfl rfl rfl ?_
  refine VO.nil ?_
  refine VC.le _ (Le.recast (t := 4) (y := avM ([] : List (List Int))) rfl (fun w Z u h => by rw [h.eq_v]; exact .nil _ _)) ?_
  refine VC.ret ?_
  exact Exists.intro _ (And.intro (RetV.two Tryz.results14 (ResV.tmp rfl) (ResV.tmp rfl)) (by rw [(grpE_1 h0).1, (grpE_1 h0).2]))
 ·have h0 := h0b
  try simp only [qqT, qqF, qqN, qqM, qqL, qqE] at h0
  have hf : partsF slots p = 0 := by omega
  obtain ⟨k1, k2, k3⟩ := partsF_zero hf
  obtain ⟨sN, hsN⟩ : ∃ sN : Nat, slots = sN := ⟨slots.toNat, by unfold outR at k1; simp at k1; omega⟩
  have hs100 : sN ≤ 100 := by unfold outR at k1; simp at k1; omega
  have hpr : ∀ i, i < p.length → RightP sN (p.getD i default) := fun i hi => RightP.of hsN hf hi
  have hpk : ∀ j, (p.getD j default).length ≤ 1000 := fun j => by
   by_cases hj : j < p.length
   ·have := (hpr j hj).len; omega
   ·rw [List.getD_eq_getElem?_getD, List.getElem?_eq_none (by omega)]; exact Nat.zero_le _
  refine VC.skip ?_
  refine VC.seq ?_
  refine VC.sr ?_
  refine VO.mv rfl rfl rfl rfl ?_
  refine VO.val rfl rfl (OpV.len_im rfl Tryz.underlying27 rfl) ?_
  refine VO.val rfl rfl (OpV.gtr rfl rfl rfl) ?_
  refine VO.nil ?_
  refine VC.cond rfl (fun h1b => ?_) (fun h1b => ?_)
  ·have h1 := h1b
   try simp only [qqT, qqF, qqN, qqM, qqL, qqE] at h1
   refine VC.sr ?_
   refine VO.ma rfl rfl rfl rfl ?_
   refine VO.ma rfl rfl rfl rfl ?_
   refine VO.nil ?_
   refine VC.le _ (Le.recast (t := 4) (y := avM ([] : List (List Int))) rfl (fun w Z u h => by rw [h.eq_v]; exact .nil _ _)) ?_
   refine VC.ret ?_
   exact Exists.intro _ (And.intro (RetV.two Tryz.results14 (ResV.tmp rfl) (ResV.tmp rfl)) (by rw [(grpE_2 hf (by omega)).1, (grpE_2 hf (by omega)).2]))
  ·have h1 := h1b
   try simp only [qqT, qqF, qqN, qqM, qqL, qqE] at h1
   have hl10 : p.length ≤ 10 := by omega
   refine VC.skip ?_
   refine VC.sr ?_
   refine VO.ma rfl rfl rfl rfl ?_
   refine VO.nil ?_
   refine VC.block ?_
   refine VC.loopK [(0, _), (1, _)] ⟨rfl, rfl, trivial⟩ ({q : Nat // q ≤ p.length ∧ ∀ m, m < q → tryG p sN m p.length 0 ⟨[], []⟩ = none}) (fun (iZ : {q : Nat // q ≤ p.length ∧ ∀ m, m < q → tryG p sN m p.length 0 ⟨[], []⟩ = none}) => match iZ with | ⟨q, hq, hqn⟩ => [(7, avI (q : Int))]) (fun (iZ : {q : Nat // q ≤ p.length ∧ ∀ m, m < q → tryG p sN m p.length 0 ⟨[], []⟩ = none}) => match iZ with | ⟨q, hq, hqn⟩ => []) (fun (iZ : {q : Nat // q ≤ p.length ∧ ∀ m, m < q → tryG p sN m p.length 0 ⟨[], []⟩ = none}) => match iZ with | ⟨q, hq, hqn⟩ => 0) (fun (iZ : {q : Nat // q ≤ p.length ∧ ∀ m, m < q → tryG p sN m p.length 0 ⟨[], []⟩ = none}) => match iZ with | ⟨q, hq, hqn⟩ => p.length - q) ⟨0, Nat.zero_le _, fun m hm => absurd hm (Nat.not_lt_zero m)⟩ (Le.mk hB [] ⟨rfl, rfl, rfl, trivial⟩ rfl rfl (Nat.le_refl _)) ?_
   rintro ⟨q, hq, hqn⟩
   show VC _ _ _ _ ⟨[(7, avI (q : Int))] ++ [(0, _), (1, _)], [], 0⟩
   refine VC.seq ?_
   refine VC.block ?_
   refine VC.sr ?_
   refine VO.mv rfl rfl rfl rfl ?_
   refine VO.mv rfl rfl rfl rfl ?_
   refine VO.mv rfl rfl rfl rfl ?_
   refine VO.val rfl rfl (OpV.build (pls := #[(0, 1), (1, 1), (2, 1), (3, 1), (4, 1)]) rfl Tryz.zeroValue95 Tryz.underlying95 (fun w => by kernel_rfl) rfl rfl) ?_
   refine VO.op rfl (OpE.box rfl hB rfl rfl rfl ?_)
   intro g24
   refine VO.le _ (Le.nilRow 1 29) ?_
   refine VO.le _ (Le.nilRow 1 22) ?_
   refine VO.le _ (Le.perm (hp := ownG p sN q g24 (.slice none 0 0) (.slice none 0 0) ⟨[], []⟩) (by subst hsN; exact List.Perm.refl _)) ?_
   refine VO.ma rfl rfl rfl rfl ?_
   refine VO.nil ?_
   refine VC.sr ?_
   refine VO.mv rfl rfl rfl rfl ?_
   refine VO.op rfl (OpE.callH0 rfl hB rfl Tryz.call59 rfl rfl (grp_try hs.2 hl10 hpk (by omega) p.length 0 (.slice none 0 0) (.slice none 0 0) ⟨[], []⟩ (Nat.zero_add _) GOk.nil) (List.Perm.refl _) (fun _ _ => trivial) ?_)
   rintro _ _ ⟨u3, v3, rfl, rfl⟩
   refine VO.nil ?_
   refine VC.cond rfl (fun h2b => ?_) (fun h2b => ?_)
   ·have h2 := h2b
    try simp only [qqT, qqF, qqN, qqM, qqL, qqE] at h2
    have hgl : ((tryG p sN q p.length 0 ⟨[], []⟩).getD ⟨[], []⟩).groups = grpLst sN p := by
     obtain ⟨r, hr⟩ := Option.isSome_iff_exists.1 h2
     unfold grpLst
     rw [grpO_at hq hqn hr, hr]
    refine VC.sr ?_
    refine VO.mv rfl rfl rfl rfl ?_
    refine VO.val rfl rfl (OpV.nilCheck rfl rfl) ?_
    refine VO.val rfl rfl (OpV.fieldAddrO 4 rfl Tryz.underlying95 rfl rfl Tryz.sizeOf35 rfl) ?_
    refine VO.val rfl rfl (OpV.load_own (i := 0) rfl hB Tryz.isAgg35 rfl rfl rfl (fun h => h)) ?_
    refine VO.ma rfl rfl rfl rfl ?_
    refine VO.ma rfl rfl rfl rfl ?_
    refine VO.nil ?_
    refine VC.le _ (Le.rowsM (t := 4) (i := 2) (xs := ((tryG p sN q p.length 0 ⟨[], []⟩).getD ⟨[], []⟩).groups) hB hnew rfl rfl rfl) ?_
    refine VC.le _ (Le.recast (t := 4) (y := avM (grpLst sN p)) rfl (fun w Z u h => by rw [← hgl]; exact h)) ?_
    refine VC.ret ?_
    exact Exists.intro _ (And.intro (RetV.two Tryz.results14 (ResV.tmp rfl) (ResV.tmp rfl)) (by rw [(grpE_3 hf hl10 hsN).1, (grpE_3 hf hl10 hsN).2]))
   ·have h2 := h2b
    try simp only [qqT, qqF, qqN, qqM, qqL, qqE] at h2
    have hno : tryG p sN q p.length 0 ⟨[], []⟩ = none := by simpa using h2
    have hq1 : q + 1 ≤ p.length := by
     rcases Nat.lt_or_ge q p.length with h | h
     ·exact h
     ·obtain rfl : q = p.length := by omega
      exact (grp_alone (fun i hi => (hpr i hi).len) hno).elim
    refine VC.skip ?_
    refine VC.region ?_
    refine VO.mv rfl rfl rfl rfl ?_
    refine VO.val rfl rfl (OpV.add rfl rfl rfl (by unfold fits; omega)) ?_
    refine VO.ma rfl rfl rfl rfl ?_
    refine VO.nil ?_
    exact Exists.intro (⟨q + 1, hq1, lt_succ_cases hqn hno⟩) (And.intro (Le.mk hB [] ⟨rfl, rfl, rfl, trivial⟩ rfl rfl (Nat.le_refl _)) (by first | omega | (show _ < _; omega) | (simp only []; omega)))
end Go.Proofs.YtbbgjeiefmiblaaGreatDoor
namespace Go.Proofs.YtbbgjeiefmiblaaGreatDoor
open Go.RowKit
set_option linter.unusedVariables false
set_option linter.unusedSimpArgs false
section
variable {B : Bs} {s : St'}
theorem Le.freezeIn {u u2 : Value} {n sz n2 sz2 q : Nat} {cs cs2 : List AV} {ty ty2 : TypeId} {rest : List Ent} {y : AV} (hB : B.Ok) (he : s.hp = .row u2 n2 sz2 cs2 ty2 :: .row u n sz cs ty :: rest) (hq : cs2[q]? = some (.v u))
  (hy : ∀ w Z u, Rep w Z (.im n sz fun j => cs.getD j .any) u → Rep w Z y u) : Le B s ⟨s.sl, .row u2 n2 sz2 (cs2.set q y) ty2 :: rest, s.k⟩ := fun a w hr => by
 obtain ⟨sl, hp, k⟩ := s
 simp only at he
 subst he
 have hr' : R B ⟨sl, .row u2 n2 sz2 cs2 ty2 :: rest, k⟩ a w := hr.erase 1
 have hZ : Zn B (.row u2 n2 sz2 (cs2.set q y) ty2 :: rest) w = Zn B (.row u2 n2 sz2 cs2 ty2 :: rest) w := by
  funext b; simp [Zn, Ent.blk]
 refine ⟨fun t x hx => ?_, hr'.size, hr'.defs, fun p hp => ?_, ?_, hr'.chg, fun p hp g hg => ?_, hr'.res⟩
 ·show Rep w (Zn B (.row u2 n2 sz2 (cs2.set q y) ty2 :: rest) w) _ _
  rw [hZ]; exact hr'.slots t x hx
 ·show EntR w (Zn B (.row u2 n2 sz2 (cs2.set q y) ty2 :: rest) w) p
  rw [hZ]
  rcases List.mem_cons.1 hp with rfl | hp
  ·obtain ⟨h0, h1⟩ := hr'.blocks _ (List.mem_cons_self ..)
   refine ⟨by rw [List.length_set]; exact h0, h1.imp id fun ⟨g, cap, c, e1, e2, e3, e4, e5, e6⟩ => ⟨g, cap, c, e1, e2, e3, e4, e5, fun j hj => ?_⟩⟩
   rw [List.length_set] at hj
   obtain ⟨x, k1, k2⟩ := e6 j hj
   refine ⟨x, k1, ?_⟩
   rw [List.getElem_set]
   split
   ·rename_i e
    subst e
    have e7 : cs2[q] = .v u := by rw [List.getElem?_eq_getElem hj] at hq; exact Option.some.inj hq
    rw [e7] at k2
    rw [k2.eq_v]
    exact hy _ _ _ (hr.repRow (i := 1) rfl (fun b hb => ⟨hb.1, fun p hp => hb.2.1 p ((List.eraseIdx_sublist _ 1).subset hp), hb.2.2⟩) fun g hg hl => hr.erased hB (i := 1) rfl hg)
   ·exact k2
  ·exact hr'.blocks p (List.mem_cons_of_mem _ hp)
 ·exact List.pairwise_cons.2 ⟨(List.pairwise_cons.1 hr'.nodup).1, (List.pairwise_cons.1 hr'.nodup).2⟩
 ·rcases List.mem_cons.1 hp with rfl | hp
  ·exact hr'.own _ (List.mem_cons_self ..) g hg
  ·exact hr'.own _ (List.mem_cons_of_mem _ hp) g hg
abbrev rwI (u : Value) (l : List Int) : Ent := .row u l.length 1 (intsL l) 3
def rowsT : List Value → List (List Int) → List Ent
 | u :: us, l :: ls => rwI u l :: rowsT us ls
 | _, _ => []
theorem Le.freezeRows (hB : B.Ok) {uO : Value} {n : Nat} {ty : TypeId} {rest : List Ent} : ∀ (us : List Value) (gs done : List (List Int)) (s : St'), us.length = gs.length → s.hp = .row uO n 1 (listM done ++ us.map .v) ty :: (rowsT us gs ++ rest) →
  Le B s ⟨s.sl, .row uO n 1 (listM (done ++ gs)) ty :: rest, s.k⟩
 | [], [], done, s, _, he => fun a w hr => by
  obtain ⟨sl, hp, k⟩ := s
  simp only at he
  subst he
  simpa [rowsT] using hr
 | u :: us, l :: gs, done, s, hl, he => by
  have h1 := Le.freezeIn (q := (listM done).length) (y := avInts l) (rest := rowsT us gs ++ rest) hB (by rw [he]; rfl) (by simp) (fun w Z u h => Rep.ints rfl h)
  have e : (listM done ++ List.map AV.v (u :: us)).set (listM done).length (avInts l) = listM (done ++ [l]) ++ us.map .v := by
   rw [List.set_append_right _ _ (Nat.le_refl _), Nat.sub_self]
   simp [listM]
   rfl
  rw [e] at h1
  have h2 := Le.freezeRows hB us gs (done ++ [l]) ⟨s.sl, .row uO n 1 (listM (done ++ [l]) ++ us.map .v) ty :: (rowsT us gs ++ rest), s.k⟩ (by simpa using hl) rfl
  rw [List.append_assoc] at h2
  exact h1.trans h2
theorem rowsT_pick : ∀ (us : List Value) (gs : List (List Int)) (g : Nat), us.length = gs.length → g < us.length → (rowsT us gs).Perm (rwI (us.getD g (.slice none 0 0)) (gs.getD g []) :: rowsT (us.eraseIdx g) (gs.eraseIdx g))
 | u :: us, l :: gs, 0, _, _ => by simp [rowsT]
 | u :: us, l :: gs, g + 1, hl, hg => by
  have ih := rowsT_pick us gs g (by simpa using hl) (by simpa using hg)
  show (rwI u l :: rowsT us gs).Perm _
  refine (ih.cons _).trans ?_
  simp only [List.eraseIdx_cons_succ, rowsT, List.getD_cons_succ]
  exact List.Perm.swap _ _ _
theorem rowsT_set {u' : Value} {l' : List Int} : ∀ (us : List Value) (gs : List (List Int)) (g : Nat), us.length = gs.length → g < us.length → (rwI u' l' :: rowsT (us.eraseIdx g) (gs.eraseIdx g)).Perm (rowsT (us.set g u') (gs.set g l'))
 | u :: us, l :: gs, 0, _, _ => by simp [rowsT]
 | u :: us, l :: gs, g + 1, hl, hg => by
  have ih := rowsT_set (u' := u') (l' := l') us gs g (by simpa using hl) (by simpa using hg)
  simp only [List.eraseIdx_cons_succ, rowsT, List.set_cons_succ]
  exact (List.Perm.swap _ _ _).trans (ih.cons _)
end
end Go.Proofs.YtbbgjeiefmiblaaGreatDoor
namespace Go.Proofs.YtbbgjeiefmiblaaGreatDoor
open Go.RowKit
set_option linter.unusedVariables false
set_option linter.unusedSimpArgs false
structure RefG where
 all : List (List ByteArray)
 out : List (List Int)
instance : Inhabited RefG := ⟨⟨[], []⟩⟩
theorem uK_eq {a b : List ByteArray} (h : ∀ x, x ∈ a ↔ x ∈ b) : uK a = uK b := uK_uniq (uK_srt a) fun x => by rw [uK_mem, h]
theorem uK_nodup_len {l : List ByteArray} (h : l.Nodup) : (uK l).length = l.length := by
 refine Nat.le_antisymm (uK_len l) (nodup_sub h fun x hx => uK_mem.2 hx)
section
variable (p : List (List ByteArray)) (slots many : Nat)
def mgR (i k : Nat) (s : RefG) : List ByteArray := uK (s.all.getD k [] ++ p.getD i default)
def putR (i k : Nat) (s : RefG) : RefG := ⟨s.all.set k (mgR p i k s), s.out.set k (s.out.getD k [] ++ [(i : Int)])⟩
def tryRQ (f : Nat → Nat → RefG → Option RefG) (i used : Nat) (s : RefG) (k : Nat) : Option RefG := if (mgR p i k s).length ≤ slots then f (i + 1) (max used (k + 1)) (putR p i k s) else none
def tryR : Nat → Nat → Nat → RefG → Option RefG
 | 0, _, used, s => if used = many then some s else none
 | d + 1, i, used, s => (List.range (min (used + 1) many)).findSome? (tryRQ p slots (tryR d) i used s)
def tryX : Nat → Nat → GrpS → Option GrpS
 | 0, _, g => if g.parts.length = many then some g else none
 | d + 1, i, g => (List.range (min (g.parts.length + 1) many)).findSome? (tryQ p slots (tryX d) i g)
def refG (g : GrpS) : RefG := ⟨g.parts.map uK ++ List.replicate (many - g.parts.length) [], g.groups ++ List.replicate (many - g.parts.length) []⟩
end
section
variable {p : List (List ByteArray)} {slots many : Nat}
theorem findSome_map {α β γ : Type} {F : α → Option β} {F' : α → Option γ} {h : β → γ} : ∀ {l : List α}, (∀ k ∈ l, F' k = (F k).map h) → l.findSome? F' = (l.findSome? F).map h
 | [], _ => rfl
 | k :: l, hl => by
  rw [List.findSome?_cons, List.findSome?_cons, hl k (List.mem_cons_self ..)]
  cases F k with
  | none => exact findSome_map fun j hj => hl j (List.mem_cons_of_mem _ hj)
  | some x => rfl
theorem getD_rep {α : Type} {l : List α} {n k : Nat} {x d : α} (hx : x = d) : (l ++ List.replicate n x).getD k d = l.getD k d := by
 subst hx
 simp only [List.getD_eq_getElem?_getD]
 by_cases h : k < l.length
 ·rw [List.getElem?_append_left h]
 ·rw [List.getElem?_append_right (by omega), List.getElem?_eq_none (by omega : l.length ≤ k), List.getElem?_replicate]
  split <;> rfl
theorem uK_nil : uK [] = [] := List.eq_nil_of_length_eq_zero (Nat.le_zero.1 (uK_len []))
theorem refG_all (g : GrpS) (k : Nat) : (refG many g).all.getD k [] = uK (g.parts.getD k []) := by
 show (g.parts.map uK ++ _).getD k [] = _
 rw [getD_rep rfl]
 simp only [List.getD_eq_getElem?_getD, List.getElem?_map]
 cases g.parts[k]? with
 | none => exact uK_nil.symm
 | some x => rfl
theorem refG_out (g : GrpS) (k : Nat) : (refG many g).out.getD k [] = g.groups.getD k [] := getD_rep rfl
theorem mgR_ref (g : GrpS) (i k : Nat) : mgR p i k (refG many g) = uK (allG p i k g) := by
 unfold mgR
 rw [refG_all]
 exact uK_eq fun x => by rw [List.mem_append, uK_mem, allG_mem]
theorem set_rep {α : Type} {l : List α} {n : Nat} {x d : α} (h : 0 < n) : (l ++ List.replicate n d).set l.length x = (l ++ [x]) ++ List.replicate (n - 1) d := by
 obtain ⟨m, rfl⟩ : ∃ m, n = m + 1 := ⟨n - 1, by omega⟩
 rw [List.set_append_right _ _ (Nat.le_refl _), Nat.sub_self, List.replicate_succ, List.set_cons_zero, Nat.add_sub_cancel, List.append_assoc]
 rfl
theorem putR_ref {g : GrpS} {i k : Nat} (hl : g.parts.length = g.groups.length) (hk : k ≤ g.parts.length) (hm : k < many) : putR p i k (refG many g) = refG many (putG p i k g) := by
 unfold putR
 rw [mgR_ref, refG_out]
 unfold putG
 split
 ·rename_i h
  unfold refG
  simp only [List.length_set]
  rw [List.set_append_left _ _ (by rw [List.length_map]; exact h), List.set_append_left _ _ (by omega), List.map_set]
 ·rename_i h
  obtain rfl : k = g.parts.length := by omega
  have e2 : g.groups.getD g.parts.length [] = [] := by rw [List.getD_eq_getElem?_getD, List.getElem?_eq_none (by omega)]; rfl
  unfold refG
  rw [e2]
  simp only [List.length_append, List.length_cons, List.length_nil, List.map_append, List.map_cons, List.map_nil, List.nil_append]
  have h1 := set_rep (l := g.parts.map uK) (x := uK (allG p i g.parts.length g)) (d := []) (n := many - g.parts.length) (by omega)
  have h2 := set_rep (l := g.groups) (x := [(i : Int)]) (d := []) (n := many - g.parts.length) (by omega)
  rw [List.length_map] at h1
  rw [← hl] at h2
  rw [h1, h2, Nat.sub_sub]
theorem putG_len2 {g : GrpS} {i k : Nat} (hk : k ≤ g.parts.length) : (putG p i k g).parts.length = max g.parts.length (k + 1) := by
 rw [putG_len]
 split <;> omega
theorem stG_put {f : Nat → Nat} {i k : Nat} : stG p (fun j => if j = i then k else f j) (i + 1) = putG p i k (stG p f i) := by
 have hst : stG p (fun j => if j = i then k else f j) i = stG p f i := stG_congr fun j hj => if_neg (by omega)
 rw [stG, hst]; simp
theorem OkG.put {f : Nat → Nat} {i k : Nat} (h : OkG p slots many f i) (h1 : k ≤ (stG p f i).parts.length) (h2 : k < many) (hs : (allG p i k (stG p f i)).length ≤ slots) : OkG p slots many (fun j => if j = i then k else f j) (i + 1) := fun j hj => by
 have he : ∀ j, j < i → f j = (fun j => if j = i then k else f j) j := fun j hj => (if_neg (by omega)).symm
 have hst : stG p (fun j => if j = i then k else f j) i = stG p f i := stG_congr fun j hj => (he j hj).symm
 by_cases e3 : j = i
 ·subst e3
  simp only [if_true]
  rw [hst]
  exact ⟨h1, h2, hs⟩
 ·exact (h.congr (f' := fun j => if j = i then k else f j) he) j (by omega)
theorem OkG.nd {f : Nat → Nat} {i : Nat} (hp : ∀ i, i < p.length → (p.getD i default).Nodup) (hi : i < p.length) (h : OkG p slots many f i) (k : Nat) : (allG p i k (stG p f i)).Nodup := by
 refine allG_nd ?_ (hp i hi)
 by_cases hk : k < (stG p f i).parts.length
 ·exact (wayG hp i (by omega) h).1.nd k hk
 ·rw [List.getD_eq_getElem?_getD, List.getElem?_eq_none (by omega)]; exact List.nodup_nil
theorem tryR_X (hp : ∀ i, i < p.length → (p.getD i default).Nodup) : ∀ (d i : Nat) (f : Nat → Nat), i + d ≤ p.length → OkG p slots many f i → tryR p slots many d i (stG p f i).parts.length (refG many (stG p f i)) = (tryX p slots many d i (stG p f i)).map (refG many)
 | 0, i, f, hi, h => by
  rw [tryR, tryX]
  split <;> rfl
 | d + 1, i, f, hi, h => by
  rw [tryR, tryX]
  refine findSome_map fun k hk => ?_
  have hk := List.mem_range.1 hk
  unfold tryRQ tryQ
  rw [mgR_ref, uK_nodup_len (h.nd hp (by omega) k)]
  split
  ·rename_i hs
   rw [putR_ref (stG_lens f i) (by omega) (by omega), ← putG_len2 (p := p) (i := i) (by omega), ← stG_put]
   exact tryR_X hp d (i + 1) _ (by omega) (h.put (by omega) (by omega) hs)
  ·rfl
theorem tryX_G : ∀ (d i : Nat) (f : Nat → Nat), OkG p slots many f i → (∀ f', OkG p slots many f' (i + d) → (stG p f' (i + d)).parts.length = many) → tryX p slots many d i (stG p f i) = tryG p slots many d i (stG p f i)
 | 0, i, f, h, hx => by
  have hx0 : (stG p f i).parts.length = many := hx f h
  rw [tryX, tryG, if_pos hx0]
 | d + 1, i, f, h, hx => by
  rw [tryX, tryG]
  have hf := findSome_map (F := tryQ p slots (tryG p slots many d) i (stG p f i)) (F' := tryQ p slots (tryX p slots many d) i (stG p f i)) (h := id) (l := List.range (min ((stG p f i).parts.length + 1) many)) fun k hk => by
   have hk := List.mem_range.1 hk
   unfold tryQ
   rw [Option.map_id]
   split
   ·rename_i hs
    rw [← stG_put]
    exact tryX_G d (i + 1) _ (h.put (by omega) (by omega) hs) (by rwa [show i + 1 + d = i + (d + 1) by omega])
   ·rfl
  rw [Option.map_id] at hf
  exact hf
theorem OkG.less {f : Nat → Nat} {i m : Nat} (hp : ∀ i, i < p.length → (p.getD i default).Nodup) (hi : i ≤ p.length) (h : OkG p slots many f i) (hm : (stG p f i).parts.length ≤ m) : OkG p slots m f i := fun j hj => by
 obtain ⟨h1, h2, h3⟩ := h j hj
 exact ⟨h1, Nat.lt_of_lt_of_le ((wayG hp i hi h).1.lab j hj) hm, h3⟩
theorem tryR_eq (hp : ∀ i, i < p.length → (p.getD i default).Nodup) (hmin : ∀ m, m < many → tryG p slots m p.length 0 ⟨[], []⟩ = none) : tryR p slots many p.length 0 0 (refG many ⟨[], []⟩) = (tryG p slots many p.length 0 ⟨[], []⟩).map (refG many) := by
 have h0 : OkG p slots many (fun _ => 0) 0 := fun j hj => absurd hj (Nat.not_lt_zero j)
 have h1 := tryR_X hp p.length 0 (fun _ => 0) (by omega) h0
 have h2 := tryX_G p.length 0 (fun _ => 0) h0 fun f' hf => by
  rw [Nat.zero_add] at hf ⊢
  have hle := (wayG hp p.length (Nat.le_refl _) hf).2
  refine Nat.le_antisymm hle (Nat.not_lt.1 fun hlt => ?_)
  have h3 := tryG_some p.length 0 f' (show OkG p slots _ f' (0 + p.length) by rw [Nat.zero_add]; exact hf.less hp (Nat.le_refl _) (Nat.le_refl _))
  have h4 := hmin _ hlt
  have h5 : stG p f' 0 = ⟨[], []⟩ := rfl
  rw [h5, h4] at h3
  cases h3
 have h5 : stG p (fun _ => 0) 0 = ⟨[], []⟩ := rfl
 rw [h5] at h1 h2
 rw [h2] at h1
 exact h1
theorem tryG_exact (hp : ∀ i, i < p.length → (p.getD i default).Nodup) (hmin : ∀ m, m < many → tryG p slots m p.length 0 ⟨[], []⟩ = none) {g : GrpS} (hg : tryG p slots many p.length 0 ⟨[], []⟩ = some g) : g.parts.length = many ∧ g.groups.length = many ∧ (refG many g).out = g.groups := by
 have h0 : OkG p slots many (fun _ => 0) 0 := fun j hj => absurd hj (Nat.not_lt_zero j)
 have h5 : stG p (fun _ => 0) 0 = ⟨[], []⟩ := rfl
 obtain ⟨f', h1, _, h3⟩ := tryG_found p.length 0 (fun _ => 0) g h0 (by rw [h5]; exact hg)
 rw [Nat.zero_add] at h1 h3
 have hl := stG_lens (p := p) f' p.length
 have hle := (wayG hp p.length (Nat.le_refl _) h1).2
 have hlen : (stG p f' p.length).parts.length = many := by
  refine Nat.le_antisymm hle (Nat.not_lt.1 fun hlt => ?_)
  have h3 := tryG_some p.length 0 f' (show OkG p slots _ f' (0 + p.length) by rw [Nat.zero_add]; exact h1.less hp (Nat.le_refl _) (Nat.le_refl _))
  have h4 := hmin _ hlt
  have h5 : stG p f' 0 = ⟨[], []⟩ := rfl
  rw [h5, h4] at h3
  cases h3
 subst h3
 refine ⟨hlen, by omega, ?_⟩
 show (stG p f' p.length).groups ++ List.replicate (many - _) [] = _
 rw [hlen, Nat.sub_self]
 simp
end
end Go.Proofs.YtbbgjeiefmiblaaGreatDoor
namespace Go.Proofs.YtbbgjeiefmiblaaGreatDoor
open Go.RowKit
set_option linter.unusedVariables false
set_option linter.unusedSimpArgs false
abbrev tryGV (gp gm ga gs go gt : Nat) : AV := .v (.func (.func 71) #[] #[.pointer (some ⟨gp, 0, none⟩), .pointer (some ⟨gm, 0, none⟩), .pointer (some ⟨ga, 0, none⟩), .pointer (some ⟨gs, 0, none⟩), .pointer (some ⟨go, 0, none⟩), .pointer (some ⟨gt, 0, none⟩)])
abbrev ownGR (p : List (List ByteArray)) (slots many gp gm ga gs go gt : Nat) (uA uO : Value) (us : List Value) (s : RefG) : List Ent :=
 .box gp ⟨[avM p], 27, 1⟩ :: .box gm ⟨[avI (many : Int)], 3, 1⟩ :: .box ga ⟨[.v uA], 27, 1⟩ :: .box gs ⟨[avI (slots : Int)], 3, 1⟩ ::
  .box go ⟨[.v uO], 35, 1⟩ :: .box gt ⟨[tryGV gp gm ga gs go gt], 110, 1⟩ :: .row uA s.all.length 1 (listM s.all) 29 :: .row uO s.out.length 1 (us.map .v) 22 :: rowsT us s.out
structure ROk (many i : Nat) (us : List Value) (s : RefG) : Prop where
 a : s.all.length = many
 o : s.out.length = many
 u : us.length = many
 par : ∀ j, SmS (s.all.getD j default) ∧ (s.all.getD j default).length ≤ 1000
 grp : ∀ j, (s.out.getD j default).length ≤ i
theorem mapv_get {us : List Value} {k : Nat} (h : k < us.length) : (us.map AV.v)[k]? = some (.v (us.getD k (.slice none 0 0))) := by simp [h]
theorem mapv_set (us : List Value) (k : Nat) (u : Value) : (us.map AV.v).set k (.v u) = (us.set k u).map AV.v := (List.map_set ..).symm
theorem Wi.notD3 {ops : Array Oper} {i a1 a2 a3 g : Nat} {X Y Z : Nat → Prop} (h1 : depB ops a1 i = true ∨ ¬ X g) (h2 : depB ops a2 i = true ∨ ¬ Y g) (h3 : depB ops a3 i = true ∨ ¬ Z g) : ¬ Wi (fun j b => (j = a1 ∧ X b) ∨ (j = a2 ∧ Y b) ∨ (j = a3 ∧ Z b)) ops i g := fun ⟨j, k1, k2⟩ => by
 rcases k2 with ⟨rfl, k2⟩ | ⟨rfl, k2⟩ | ⟨rfl, k2⟩
 ·exact h1.elim (fun h => by rw [h] at k1; cases k1) fun h => h k2
 ·exact h2.elim (fun h => by rw [h] at k1; cases k1) fun h => h k2
 ·exact h3.elim (fun h => by rw [h] at k1; cases k1) fun h => h k2
theorem SmS.ofUK {l : List ByteArray} (h : SmS l) : SmS (uK l) := ⟨Nat.le_trans (uK_len l) h.1, fun j => by
 rw [List.getD_eq_getElem?_getD]
 cases hj : (uK l)[j]? with
 | none => decide
 | some x =>
  have hm := uK_mem.1 (List.mem_of_getElem? hj)
  obtain ⟨q, hq, rfl⟩ := List.getElem_of_mem hm
  have := h.2 q
  rw [List.getD_eq_getElem?_getD, List.getElem?_eq_getElem hq] at this
  exact this⟩
section
variable {p : List (List ByteArray)} {slots many i k used d : Nat} {us vs : List Value} {s r : RefG} {u : Value}
theorem ROk.put (h : ROk many i us s) (hv : vs.length = many) (hp : ∀ j, SmS (p.getD j default)) (hpk : ∀ j, (p.getD j default).length ≤ 1000) (hk : k < many) (hs : (mgR p i k s).length ≤ slots) (hsl : slots ≤ 1000) : ROk many (i + 1) (vs.set k u) (putR p i k s) := by
 have ha := h.a
 have ho := h.o
 refine ⟨by show (s.all.set k _).length = _; rw [List.length_set]; exact ha, by show (s.out.set k _).length = _; rw [List.length_set]; exact ho, by rw [List.length_set]; exact hv, fun j => ?_, fun j => ?_⟩
 ·show SmS ((s.all.set k (mgR p i k s)).getD j default) ∧ ((s.all.set k (mgR p i k s)).getD j default).length ≤ 1000
  rw [getD_setD (by omega)]
  split
  ·refine ⟨?_, by omega⟩
   have h1 := (h.par k).2
   have h2 := hpk i
   exact (SmS.app (h.par k).1 (hp i) (by rw [List.length_append]; omega)).ofUK
  ·exact h.par j
 ·show ((s.out.set k (s.out.getD k [] ++ [(i : Int)])).getD j default).length ≤ i + 1
  rw [getD_setD (by omega)]
  split
  ·have := h.grp k; rw [List.length_append]; show (s.out.getD k default).length + 1 ≤ _; omega
  ·have := h.grp j; omega
theorem tryR_end (h : min (used + 1) many ≤ k) (hn : ∀ j, j < k → tryRQ p slots (tryR p slots many d) i used s j = none) : tryR p slots many (d + 1) i used s = none := by
 rw [tryR]
 exact List.findSome?_eq_none_iff.2 fun j hj => hn j (by have := List.mem_range.1 hj; omega)
theorem tryR_at (hk : k ≤ used) (hm : k < many) (hn : ∀ j, j < k → tryRQ p slots (tryR p slots many d) i used s j = none) (hs : (mgR p i k s).length ≤ slots) (h : tryR p slots many d (i + 1) (max used (k + 1)) (putR p i k s) = some r) : tryR p slots many (d + 1) i used s = some r := by
 rw [tryR]
 have e : List.range (min (used + 1) many) = List.range k ++ (List.range (min (used + 1) many)).drop k := by
  conv => lhs; rw [← List.take_append_drop k (List.range (min (used + 1) many))]
  rw [List.take_range, Nat.min_eq_left (by omega)]
 have e2 : (List.range (min (used + 1) many)).drop k = k :: (List.range (min (used + 1) many)).drop (k + 1) := by
  rw [List.drop_eq_getElem_cons (by simp; omega)]; simp
 rw [e, List.findSome?_append, List.findSome?_eq_none_iff.2 (fun j hj => hn j (List.mem_range.1 hj)), e2, List.findSome?_cons]
 have : tryRQ p slots (tryR p slots many d) i used s k = some r := by rw [tryRQ, if_pos hs, h]
 rw [this]; rfl
theorem tryR_at2 (hk : k ≤ used) (hm : k < many) (hn : ∀ j, j < k → tryRQ p slots (tryR p slots many d) i used s j = none) (hs : (mgR p i k s).length ≤ slots) (h : (tryR p slots many d (i + 1) (max used (k + 1)) (putR p i k s)).isSome = true) : tryR p slots many (d + 1) i used s = tryR p slots many d (i + 1) (max used (k + 1)) (putR p i k s) := by
 obtain ⟨r, hr⟩ := Option.isSome_iff_exists.1 h
 rw [hr]; exact tryR_at hk hm hn hs hr
theorem tryRQ_no {f : Nat → Nat → RefG → Option RefG} (h : f (i + 1) (max used (k + 1)) (putR p i k s) = none) : tryRQ p slots f i used s k = none := by unfold tryRQ; split; exact h; rfl
theorem putR_all (hk : k < s.all.length) : (putR p i k s).all.set k (s.all.getD k default) = s.all := set_backM hk
end
theorem rowsT_setN {u' : Value} {l' : List Int} {n : Nat} (us : List Value) (gs : List (List Int)) (g : Nat) (hl : us.length = gs.length) (hg : g < us.length) (hn : n = l'.length) : (.row u' n 1 (intsL l') 3 :: rowsT (us.eraseIdx g) (gs.eraseIdx g)).Perm (rowsT (us.set g u') (gs.set g l')) := by
 subst hn; exact rowsT_set us gs g hl hg
theorem eraseIdx_set {α : Type} {l : List α} {k : Nat} {x : α} : (l.set k x).eraseIdx k = l.eraseIdx k := by
 induction l generalizing k with
 | nil => rfl
 | cons a l ih => cases k with
  | zero => rfl
  | succ k => simp only [List.set_cons_succ, List.eraseIdx_cons_succ, ih]
theorem rowsT_pickN {l' : List Int} {n : Nat} (us : List Value) (gs : List (List Int)) (g : Nat) (hl : us.length = gs.length) (hg : g < us.length) (hn : n = l'.length) : (rowsT us (gs.set g l')).Perm (.row (us.getD g (.slice none 0 0)) n 1 (intsL l') 3 :: rowsT (us.eraseIdx g) (gs.eraseIdx g)) := by
 subst hn
 have h := rowsT_pick us (gs.set g l') g (by rw [List.length_set]; exact hl) hg
 rw [eraseIdx_set, show (gs.set g l').getD g [] = l' by rw [List.getD_eq_getElem?_getD, List.getElem?_set]; simp [← hl, hg]] at h
 exact h
theorem rowsT_back {u' : Value} (us : List Value) (gs : List (List Int)) (g : Nat) (hl : us.length = gs.length) (hg : g < us.length) : (.row u' (gs.getD g []).length 1 (intsL (gs.getD g [])) 3 :: rowsT (us.eraseIdx g) (gs.eraseIdx g)).Perm (rowsT (us.set g u') gs) := by
 have h := rowsT_set (u' := u') (l' := gs.getD g []) us gs g hl hg
 rwa [show gs.set g (gs.getD g []) = gs by
  apply List.ext_getElem (by simp)
  intro j h1 h2
  rw [List.getElem_set]
  split
  ·rename_i e; subst e; simp [List.getD_eq_getElem?_getD, h2]
  ·rfl] at h
theorem Wi.notD2 {ops : Array Oper} {i a1 a2 g : Nat} {X Y : Nat → Prop} (h1 : depB ops a1 i = true ∨ ¬ X g) (h2 : depB ops a2 i = true ∨ ¬ Y g) : ¬ Wi (fun j b => (j = a1 ∧ X b) ∨ (j = a2 ∧ Y b)) ops i g := fun ⟨j, k1, k2⟩ => by
 rcases k2 with ⟨rfl, k2⟩ | ⟨rfl, k2⟩
 ·exact h1.elim (fun h => by rw [h] at k1; cases k1) fun h => h k2
 ·exact h2.elim (fun h => by rw [h] at k1; cases k1) fun h => h k2
set_option maxRecDepth 100000 in
set_option maxHeartbeats 16000000 in
theorem rf_GroupsOf1_step {p : List (List ByteArray)} {slots many i used d gp gm ga gs go gt : Nat} {uA uO : Value} {us : List Value} {s : RefG} (hp : ∀ j, SmS (p.getD j default)) (hpl : p.length ≤ 10) (hpk : ∀ j, (p.getD j default).length ≤ 1000) (hsl : slots ≤ 1000) (hmn : many ≤ 10) (hus : used ≤ 10) (ih : ∀ d', d = d' + 1 → ∀ (used' : Nat) (uA uO : Value) (us : List Value) (s : RefG), used' ≤ 10 → ROk many (i + 1) us s → SpecH Tryz.prog 71 [avI ((i : Int) + 1), avI (used' : Int), pt gp, pt gm, pt ga, pt gs, pt go, pt gt] (ownGR p slots many gp gm ga gs go gt uA uO us s) (fun y hp' => ∃ uA' uO' us', y = avB (tryR p slots many d' (i + 1) used' s).isSome ∧ us'.length = many ∧ hp' = ownGR p slots many gp gm ga gs go gt uA' uO' us' ((tryR p slots many d' (i + 1) used' s).getD s))) (hid : i + d = p.length) (hok : ROk many i us s) :
  SpecH Tryz.prog 71 [avI (i : Int), avI (used : Int), pt gp, pt gm, pt ga, pt gs, pt go, pt gt] (ownGR p slots many gp gm ga gs go gt uA uO us s) (fun y hp' => ∃ uA' uO' us', y = avB (tryR p slots many d i used s).isSome ∧ us'.length = many ∧ hp' = ownGR p slots many gp gm ga gs go gt uA' uO' us' ((tryR p slots many d i used s).getD s)) := by
 refine SpecH.of_VC Tryz.func71 rfl Tryz.ntmps71 (Nle rfl) fun w A hB => ?_
 have hnew : True := trivial
 refine VC.sr ?_
 refine VO.ma rfl rfl rfl rfl ?_
 refine VO.nil ?_
 refine VC.seq ?_
 refine VC.sr ?_
 refine VO.mv rfl rfl rfl rfl ?_
 refine VO.val rfl rfl (OpV.load_own (i := 0) rfl hB Tryz.isAgg27 rfl rfl rfl (fun h => h)) ?_
 refine VO.val rfl rfl (OpV.len_im rfl Tryz.underlying27 rfl) ?_
 refine VO.val rfl rfl (OpV.eql rfl rfl rfl) ?_
 refine VO.nil ?_
 refine VC.cond rfl (fun h0b => ?_) (fun h0b => ?_)
 ·have h0 := h0b
  try simp only [qqT, qqF, qqN, qqM, qqL, qqE] at h0
  obtain rfl : d = 0 := by omega
  refine VC.sr ?_
  refine VO.mv rfl rfl rfl rfl ?_
  refine VO.val rfl rfl (OpV.load_own (i := 1) rfl hB Tryz.isAgg3 rfl rfl rfl (fun h => h)) ?_
  refine VO.val rfl rfl (OpV.eql rfl rfl rfl) ?_
  refine VO.ma rfl rfl rfl rfl ?_
  refine VO.nil ?_
  refine VC.ret ?_
  exact Exists.intro _ (And.intro (RetV.one Tryz.results71 (ResV.tmp rfl)) (⟨uA, uO, us, by rw [tryR]; split <;> rename_i e <;> simp <;> omega, hok.u, by rw [tryR]; split <;> rfl⟩))
 ·have h0 := h0b
  try simp only [qqT, qqF, qqN, qqM, qqL, qqE] at h0
  obtain ⟨d', rfl⟩ : ∃ d', d = d' + 1 := ⟨d - 1, by omega⟩
  have hi10 : i < p.length := by omega
  refine VC.skip ?_
  refine VC.seq ?_
  refine VC.sr ?_
  refine VO.ma rfl rfl rfl rfl ?_
  refine VO.nil ?_
  refine VC.block ?_
  refine VC.loopK [(0, _), (1, _), (2, _), (3, _), (4, _), (5, _), (6, _), (7, _)] ⟨rfl, rfl, rfl, rfl, rfl, rfl, rfl, rfl, trivial⟩ ({z : (Value × Value × List Value) × Nat // (z.2 ≤ used + 1 ∧ z.2 ≤ many ∧ z.1.2.2.length = many) ∧ ∀ j, j < z.2 → tryRQ p slots (tryR p slots many d') i used s j = none}) (fun (iZ : {z : (Value × Value × List Value) × Nat // (z.2 ≤ used + 1 ∧ z.2 ≤ many ∧ z.1.2.2.length = many) ∧ ∀ j, j < z.2 → tryRQ p slots (tryR p slots many d') i used s j = none}) => match iZ with | ⟨⟨⟨vA, vO, vs⟩, k⟩, ⟨hku, hkm, hvs⟩, hkn⟩ => [(11, avI (k : Int))]) (fun (iZ : {z : (Value × Value × List Value) × Nat // (z.2 ≤ used + 1 ∧ z.2 ≤ many ∧ z.1.2.2.length = many) ∧ ∀ j, j < z.2 → tryRQ p slots (tryR p slots many d') i used s j = none}) => match iZ with | ⟨⟨⟨vA, vO, vs⟩, k⟩, ⟨hku, hkm, hvs⟩, hkn⟩ => ownGR p slots many gp gm ga gs go gt vA vO vs s) (fun (iZ : {z : (Value × Value × List Value) × Nat // (z.2 ≤ used + 1 ∧ z.2 ≤ many ∧ z.1.2.2.length = many) ∧ ∀ j, j < z.2 → tryRQ p slots (tryR p slots many d') i used s j = none}) => match iZ with | ⟨⟨⟨vA, vO, vs⟩, k⟩, ⟨hku, hkm, hvs⟩, hkn⟩ => 0) (fun (iZ : {z : (Value × Value × List Value) × Nat // (z.2 ≤ used + 1 ∧ z.2 ≤ many ∧ z.1.2.2.length = many) ∧ ∀ j, j < z.2 → tryRQ p slots (tryR p slots many d') i used s j = none}) => match iZ with | ⟨⟨⟨vA, vO, vs⟩, k⟩, ⟨hku, hkm, hvs⟩, hkn⟩ => many - k) ⟨((uA, uO, us), 0), ⟨Nat.zero_le _, Nat.zero_le _, hok.u⟩, fun j hj => absurd hj (Nat.not_lt_zero j)⟩ (Le.mkP hB ⟨rfl, rfl, rfl, rfl, rfl, rfl, rfl, rfl, rfl, trivial⟩ (List.Sublist.refl _) (List.Perm.refl _) (Nat.le_refl _)) ?_
  rintro ⟨⟨⟨vA, vO, vs⟩, k⟩, ⟨hku, hkm, hvs⟩, hkn⟩
  show VC _ _ _ _ ⟨[(11, avI (k : Int))] ++ [(0, _), (1, _), (2, _), (3, _), (4, _), (5, _), (6, _), (7, _)], ownGR p slots many gp gm ga gs go gt vA vO vs s, 0⟩
  simp only at hku hkm hvs hkn
  refine VC.seq ?_
  refine VC.sr ?_
  refine VO.mv rfl rfl rfl rfl ?_
  refine VO.val rfl rfl (OpV.load_own (i := 1) rfl hB Tryz.isAgg3 rfl rfl rfl (fun h => h)) ?_
  refine VO.val rfl rfl (OpV.lss rfl rfl rfl) ?_
  refine VO.mv rfl rfl rfl rfl ?_
  refine VO.opG rfl rfl rfl rfl (fun aK1b => ?_) (fun aK1b => ?_)
  ·replace aK1b : _ = true := aK1b
   have aK1 := aK1b
   try simp only [qqT, qqF, qqN, qqM, qqL, qqE] at aK1
   refine OpE.val (W := NoB) (OpV.move (.inl rfl) rfl) rfl ?_
   refine VO.opY rfl rfl rfl rfl aK1b ?_
   refine OpE.val (W := NoB) (OpV.move (.inl rfl) rfl) rfl ?_
   refine VO.opY rfl rfl rfl rfl aK1b ?_
   refine OpE.val (W := NoB) (OpV.leq rfl rfl rfl) rfl ?_
   refine VO.val rfl rfl (OpV.pickT rfl rfl rfl rfl aK1b) ?_
   refine VO.nil ?_
   refine VC.cond rfl (fun h1b => ?_) (fun h1b => ?_)
   ·have h1 := h1b
    try simp only [qqT, qqF, qqN, qqM, qqL, qqE] at h1
    refine VC.skip ?_
    refine VC.seq ?_
    refine VC.block ?_
    refine VC.seq ?_
    have ha := hok.a
    have ho := hok.o
    have hsk := hok.par k
    have hgk := hok.grp k
    have hgk2 : (s.out.getD k []).length ≤ i := hgk
    have hi10 := hpl
    refine VC.asBox (i := 6) rfl (by omega) (fun gA cA hu1 hc1 hm1 => ?_)
    subst hu1
    refine VC.asBox (i := 7) rfl (by omega) (fun gO cO hu2 hc2 hm2 => ?_)
    subst hu2
    refine VC.region ?_
    refine VO.val rfl rfl (OpV.load_own (i := 2) rfl hB Tryz.isAgg27 rfl rfl rfl (fun h => h)) ?_
    refine VO.mv rfl rfl rfl rfl ?_
    refine VO.val rfl rfl (OpV.indexAddr_o rfl Tryz.underlying27 Tryz.sizeOf29 rfl rfl rfl (by omega)) ?_
    refine VO.val rfl rfl (OpV.load_own (i := 6) rfl hB Tryz.isAgg29 rfl rfl (listM_get (by omega)) (fun h => h)) ?_
    refine VO.le _ (Le.recast (t := 34) (y := avStrs (s.all.getD k default)) rfl (fun w Z u h => h)) ?_
    refine VO.ma rfl rfl rfl rfl ?_
    refine VO.nil ?_
    refine VC.sr ?_
    refine VO.mv rfl rfl rfl rfl ?_
    refine VO.val rfl rfl (OpV.load_own (i := 0) rfl hB Tryz.isAgg27 rfl rfl rfl (fun h => h)) ?_
    refine VO.mv rfl rfl rfl rfl ?_
    refine VO.val rfl rfl (OpV.indexAddr_1 rfl Tryz.underlying27 Tryz.sizeOf29 rfl rfl rfl (by omega)) ?_
    refine VO.val rfl rfl (OpV.load_at rfl hB OutW.no Tryz.isAgg29 rfl rfl) ?_
    refine VO.le _ (Le.recast (t := 39) (y := avStrs (p.getD i default)) rfl (fun w Z u h => h)) ?_
    refine VO.op rfl (OpE.buildSlice (zc := #[.slice none 0 0, .slice none 0 0]) rfl hB rfl Tryz.underlying27 Tryz.sizeOf29 Tryz.zeroValue29 (by decide) (by decide) (by kernel_rfl) rfl rfl ?_)
    refine VO.le _ (Le.recast (t := 40) (y := avM [s.all.getD k default, p.getD i default]) rfl (fun w Z u h => Rep.listM (xs := [s.all.getD k default, p.getD i default]) rfl h)) ?_
    refine VO.op rfl (OpE.callH (hp := []) (rest := _) rfl hB rfl Tryz.call72 rfl rfl (slices_Concat_strX (ll := [s.all.getD k default, p.getD i default]) (by simp) (by have h2 := hpk i; rw [List.flatten_cons, List.flatten_cons, List.flatten_nil, List.length_append, List.length_append, List.length_nil]; omega)) (List.Perm.refl _) (fun _ h => by obtain ⟨e, he, _⟩ := h; cases he) ?_)
    rintro _ _ ⟨u41, rfl, rfl⟩
    refine VO.ma rfl rfl rfl rfl ?_
    refine VO.nil ?_
    refine VC.sr ?_
    refine VO.mv rfl rfl rfl rfl ?_
    refine VO.op rfl (OpE.callH (hp := [_]) rfl hB rfl Tryz.call73 rfl rfl (slices_Sort_O (xs := [s.all.getD k default, p.getD i default].flatten) (by have h2 := hpk i; rw [List.flatten_cons, List.flatten_cons, List.flatten_nil, List.length_append, List.length_append, List.length_nil]; omega)) (List.Perm.refl _) (fun _ _ => trivial) ?_)
    rintro _ _ ⟨rfl, rfl⟩
    refine VO.nil ?_
    refine VC.seq ?_
    refine VC.sr ?_
    refine VO.mv rfl rfl rfl rfl ?_
    refine VO.op rfl (OpE.callH (hp := [_]) rfl hB rfl Tryz.call74 rfl rfl (slices_Compact_O (xs := [s.all.getD k default, p.getD i default].flatten) (by have h2 := hpk i; rw [List.flatten_cons, List.flatten_cons, List.flatten_nil, List.length_append, List.length_append, List.length_nil]; omega)) (List.Perm.refl _) (fun _ _ => trivial) ?_)
    rintro _ _ ⟨u45, rfl, rfl⟩
    refine VO.le _ (Le.rowS (t := 45) (i := 0) hB hnew rfl rfl rfl) ?_
    refine VO.le _ (Le.recast (t := 45) (y := avStrs (mgR p i k s)) rfl (fun w Z u h => by rw [show uK [s.all.getD k default, p.getD i default].flatten = mgR p i k s by unfold mgR; simp; rfl] at h; exact h)) ?_
    refine VO.ma rfl rfl rfl rfl ?_
    refine VO.nil ?_
    refine VC.sr ?_
    refine VO.mv rfl rfl rfl rfl ?_
    refine VO.val rfl rfl (OpV.len_im rfl Tryz.underlying29 rfl) ?_
    refine VO.val rfl rfl (OpV.load_own (i := 3) rfl hB Tryz.isAgg3 rfl rfl rfl (fun h => h)) ?_
    refine VO.val rfl rfl (OpV.gtr rfl rfl rfl) ?_
    refine VO.nil ?_
    refine VC.cond rfl (fun h2b => ?_) (fun h2b => ?_)
    ·have h2 := h2b
     try simp only [qqT, qqF, qqN, qqM, qqL, qqE] at h2
     have hq : tryRQ p slots (tryR p slots many d') i used s k = none := if_neg (by omega)
     refine VC.le _ ((Le.boxRow (i := 6) (n := s.all.length) (sz := 1) (cap := cA) rfl (by rw [listM_len, Nat.mul_one]) hc1 hm1).trans (Le.boxRow (i := 7) (n := s.out.length) (sz := 1) (cap := cO) rfl (by rw [List.length_map, Nat.mul_one, hvs, ho]) hc2 hm2)) ?_
     refine VC.exit ?_
     skip
     refine VC.region ?_
     refine VO.mv rfl rfl rfl rfl ?_
     refine VO.val rfl rfl (OpV.add rfl rfl rfl (by unfold fits; omega)) ?_
     refine VO.ma rfl rfl rfl rfl ?_
     refine VO.nil ?_
     exact Exists.intro (⟨((.slice (some ⟨gA, 0, none⟩) s.all.length cA, .slice (some ⟨gO, 0, none⟩) s.out.length cO, vs), k + 1), ⟨by show k + 1 ≤ _; omega, by show k + 1 ≤ _; omega, hvs⟩, lt_succ_cases hkn hq⟩) (And.intro (Le.mkP hB ⟨rfl, rfl, rfl, rfl, rfl, rfl, rfl, rfl, rfl, trivial⟩ (List.Sublist.refl _) (List.Perm.refl _) (Nat.le_refl _)) (by first | omega | (show _ < _; omega) | (simp only []; omega)))
    ·have h2 := h2b
     try simp only [qqT, qqF, qqN, qqM, qqL, qqE] at h2
     refine VC.skip ?_
     refine VC.seq ?_
     refine VC.le _ (Le.perm ((((((((((rowsT_pick vs s.out k (by omega) (by omega)).cons _).cons _).cons _).cons _).cons _).cons _).cons _).cons _))) ?_
     refine VC.hap (fun hap => ?_)
     have nA : (vs.getD k (.slice none 0 0)).ownBlock ≠ some ga := hap.get (i := 2) (j := 8) rfl rfl (by decide) rfl
     have nO : (vs.getD k (.slice none 0 0)).ownBlock ≠ some go := hap.get (i := 4) (j := 8) rfl rfl (by decide) rfl
     have m26 := apart_ne hap (i := 2) (j := 6) rfl rfl (by decide)
     have m27 := apart_ne hap (i := 2) (j := 7) rfl rfl (by decide)
     have m46 := apart_ne hap (i := 4) (j := 6) rfl rfl (by decide)
     have m47 := apart_ne hap (i := 4) (j := 7) rfl rfl (by decide)
     have m76 := apart_ne hap (i := 7) (j := 6) rfl rfl (by decide)
     refine VC.draw (fun j b => (j = 11 ∧ (vs.getD k (.slice none 0 0)).ownBlock = some b) ∨ (j = 13 ∧ b = gA) ∨ (j = 15 ∧ b = gO)) hB (by kernel_rfl) ?_
     refine VA.take (i := 0) rfl (by kernel_rfl) (by kernel_rfl) (by kernel_rfl) rfl rfl (OpV.load_own (i := 2) rfl hB Tryz.isAgg27 rfl rfl rfl (Wi.notD3 (.inr nA) (.inr m26) (.inr m27))) ?_
     refine VA.take (i := 1) rfl (by kernel_rfl) (by kernel_rfl) (by kernel_rfl) rfl rfl (OpV.move (.inl rfl) rfl) ?_
     refine VA.take (i := 2) rfl (by kernel_rfl) (by kernel_rfl) (by kernel_rfl) rfl rfl (OpV.load_own (i := 4) rfl hB Tryz.isAgg35 rfl rfl rfl (Wi.notD3 (.inr nO) (.inr m46) (.inr m47))) ?_
     refine VA.take (i := 3) rfl (by kernel_rfl) (by kernel_rfl) (by kernel_rfl) rfl rfl (OpV.move (.inl rfl) rfl) ?_
     refine VA.take (i := 4) rfl (by kernel_rfl) (by kernel_rfl) (by kernel_rfl) rfl rfl (OpV.move (.inl rfl) rfl) ?_
     refine VA.take (i := 5) rfl (by kernel_rfl) (by kernel_rfl) (by kernel_rfl) rfl rfl (OpV.load_own (i := 4) rfl hB Tryz.isAgg35 rfl rfl rfl (Wi.notD3 (.inr nO) (.inr m46) (.inr m47))) ?_
     refine VA.take (i := 6) rfl (by kernel_rfl) (by kernel_rfl) (by kernel_rfl) rfl rfl (OpV.move (.inl rfl) rfl) ?_
     refine VA.take (i := 7) rfl (by kernel_rfl) (by kernel_rfl) (by kernel_rfl) rfl rfl (OpV.indexAddr_o rfl Tryz.underlying35 Tryz.sizeOf22 rfl rfl rfl (by omega)) ?_
     refine VA.take (i := 8) rfl (by kernel_rfl) (by kernel_rfl) (by kernel_rfl) rfl rfl (OpV.load_own (i := 7) rfl hB Tryz.isAgg22 rfl rfl (mapv_get (by omega)) (Wi.notD3 (.inl (by kernel_rfl)) (.inr m76) (.inl (by kernel_rfl)))) ?_
     refine VA.take (i := 9) rfl (by kernel_rfl) (by kernel_rfl) (by kernel_rfl) rfl rfl (OpV.move (.inl rfl) rfl) ?_
     refine VA.all (rs := [10]) (by kernel_rfl) (by decide) ?_
     refine ⟨⟨_, rfl, .inl rfl, ?_⟩, trivial⟩
     refine OpE.buildSlice (zc := #[.int .i64 0]) rfl hB rfl Tryz.underlying22 Tryz.sizeOf3 Tryz.zeroValue3 (by decide) (by decide) (by kernel_rfl) rfl rfl ?_
     refine VA.all (rs := [11]) (by kernel_rfl) (by decide) ?_
     refine ⟨⟨_, rfl, .inl rfl, ?_⟩, trivial⟩
     refine OpE.append1S (i := 8) rfl hB rfl Tryz.underlying22 (infoOf Tryz.t3 1 (by kernel_rfl) rfl rfl) rfl (by decide) (by decide) rfl rfl rfl rfl (intsL_snoc _ _) (by omega) (fun g' hg => .inl ⟨rfl, hg⟩) ?_
     intro b61 c61
     refine VA.take (i := 12) rfl (by kernel_rfl) (by kernel_rfl) (by kernel_rfl) rfl rfl (OpV.indexAddr_o rfl Tryz.underlying27 Tryz.sizeOf29 rfl rfl rfl (by omega)) ?_
     refine VA.all (rs := [13]) (by kernel_rfl) (by decide) ?_
     refine ⟨⟨_, rfl, .inl rfl, ?_⟩, trivial⟩
     refine OpE.store1 (i := 6) rfl hB rfl Tryz.sizeOf29 rfl rfl rfl rfl rfl rfl (by rw [listM_len]; omega) (listM_set _ _ _) (by first | exact .inr (.inl ⟨rfl, rfl⟩) | exact .inr (.inr ⟨rfl, rfl⟩)) ?_
     refine VA.take (i := 14) rfl (by kernel_rfl) (by kernel_rfl) (by kernel_rfl) rfl rfl (OpV.indexAddr_o rfl Tryz.underlying35 Tryz.sizeOf22 rfl rfl rfl (by omega)) ?_
     refine VA.all (rs := [15]) (by kernel_rfl) (by decide) ?_
     refine ⟨⟨_, rfl, .inl rfl, ?_⟩, trivial⟩
     refine OpE.store1 (i := 7) rfl hB rfl Tryz.sizeOf22 rfl rfl rfl rfl rfl rfl (by first | (rw [List.length_map]; omega) | (simp; omega) | (show 0 + k * 1 < (vs.map AV.v).length; rw [List.length_map]; omega) | (show k < (vs.map AV.v).length; rw [List.length_map]; omega)) (mapv_set _ _ _) (by first | exact .inr (.inl ⟨rfl, rfl⟩) | exact .inr (.inr ⟨rfl, rfl⟩)) ?_
     refine VA.done (by kernel_rfl) ?_
     refine VC.seq ?_
     refine VC.seq ?_
     have hA1 : (putR p i k s).all.length = s.all.length := List.length_set
     have hO1 : (putR p i k s).out.length = s.out.length := List.length_set
     have hgE : (s.out.getD k default).length = (s.out.getD k []).length := rfl
     refine VC.le _ ((Le.boxRow (i := 6) (n := s.all.length) (sz := 1) (cap := cA) rfl (by rw [listM_len, List.length_set, Nat.mul_one]) hc1 hm1).trans (Le.boxRow (i := 7) (n := s.out.length) (sz := 1) (cap := cO) rfl (by rw [List.length_map, List.length_set, Nat.mul_one, hvs, ho]) hc2 hm2)) ?_
     refine VC.le _ (Le.perm (hp := ownGR p slots many gp gm ga gs go gt (.slice (some ⟨gA, 0, none⟩) s.all.length cA) (.slice (some ⟨gO, 0, none⟩) s.out.length cO) (vs.set k (.slice b61 ((s.out.getD k []).length + 1) c61)) (putR p i k s)) (by
      simp only [ownGR]
      rw [hA1, hO1]
      exact (((((((((rowsT_setN vs s.out k (by omega) (by omega) (by rw [List.length_append]; rfl)).cons _).cons _).cons _).cons _).cons _).cons _).cons _).cons _))) ?_
     have hput : ROk many (i + 1) (vs.set k (.slice b61 ((s.out.getD k []).length + 1) c61)) (putR p i k s) := hok.put hvs hp hpk (by omega) (by omega) hsl
     refine VC.region ?_
     refine VO.val rfl rfl (OpV.load_own (i := 5) rfl hB Tryz.isAgg110 rfl rfl rfl (fun h => h)) ?_
     refine VO.mv rfl rfl rfl rfl ?_
     refine VO.val rfl rfl (OpV.add rfl rfl rfl (by unfold fits; omega)) ?_
     refine VO.mv rfl rfl rfl rfl ?_
     refine VO.mv rfl rfl rfl rfl ?_
     refine VO.val rfl rfl (OpV.add rfl rfl rfl (by unfold fits; omega)) ?_
     refine VO.val rfl rfl (OpV.max2 rfl rfl rfl) ?_
     refine VO.le _ (Le.recast (t := 70) (y := avI ((max used (k + 1) : Nat) : Int)) rfl (fun w Z u h => by rw [show ((max used (k + 1) : Nat) : Int) = max (used : Int) ((k : Int) + 1) by omega]; exact h)) ?_
     refine VO.op rfl (OpE.callH (rest := []) rfl hB rfl Tryz.call71 rfl rfl (ih d' rfl (max used (k + 1)) (.slice (some ⟨gA, 0, none⟩) s.all.length cA) (.slice (some ⟨gO, 0, none⟩) s.out.length cO) (vs.set k (.slice b61 ((s.out.getD k []).length + 1) c61)) (putR p i k s) (by omega) hput) (List.Perm.of_eq (List.append_nil _).symm) (fun _ _ => trivial) ?_)
     rintro _ _ ⟨u3, v3, w3, rfl, hw3, rfl⟩
     refine VO.le _ (Le.perm (List.Perm.of_eq (List.append_nil _))) ?_
     refine VO.nil ?_
     refine VC.cond rfl (fun h3b => ?_) (fun h3b => ?_)
     ·have h3 := h3b
      try simp only [qqT, qqF, qqN, qqM, qqL, qqE] at h3
      have hr2 := tryR_at2 (by omega) (by omega) hkn (show (mgR p i k s).length ≤ slots by omega) h3
      have hr3 := opt_getD (a := putR p i k s) s hr2 h3
      refine VC.sr ?_
      refine VO.ma rfl rfl rfl rfl ?_
      refine VO.nil ?_
      refine VC.ret ?_
      exact Exists.intro _ (And.intro (RetV.one Tryz.results71 (ResV.tmp rfl)) (⟨u3, v3, w3, by rw [hr2, h3], hw3, congrArg (ownGR p slots many gp gm ga gs go gt u3 v3 w3) hr3⟩))
     ·have h3 := h3b
      try simp only [qqT, qqF, qqN, qqM, qqL, qqE] at h3
      have hno : tryR p slots many d' (i + 1) (max used (k + 1)) (putR p i k s) = none := by simpa using h3
      have hq : tryRQ p slots (tryR p slots many d') i used s k = none := tryRQ_no hno
      refine VC.skip ?_
      refine VC.le _ (Le.perm (hp := .box gp ⟨[avM p], 27, 1⟩ :: .box gm ⟨[avI (many : Int)], 3, 1⟩ :: .box ga ⟨[.v u3], 27, 1⟩ :: .box gs ⟨[avI (slots : Int)], 3, 1⟩ ::
       .box go ⟨[.v v3], 35, 1⟩ :: .box gt ⟨[tryGV gp gm ga gs go gt], 110, 1⟩ :: .row u3 s.all.length 1 (listM (putR p i k s).all) 29 :: .row v3 s.out.length 1 (w3.map .v) 22 ::
        .row (w3.getD k (.slice none 0 0)) ((s.out.getD k []).length + 1) 1 (intsL (s.out.getD k [] ++ [(i : Int)])) 3 :: rowsT (w3.eraseIdx k) (s.out.eraseIdx k)) (by
       show List.Perm (ownGR p slots many gp gm ga gs go gt u3 v3 w3 ((tryR p slots many d' (i + 1) (max used (k + 1)) (putR p i k s)).getD (putR p i k s))) _
       rw [hno]
       simp only [ownGR, Option.getD_none]
       rw [hA1, hO1]
       exact ((((((((rowsT_pickN w3 s.out k (by omega) (by omega) (by rw [List.length_append]; rfl)).cons _).cons _).cons _).cons _).cons _).cons _).cons _).cons _)) ?_
      refine VC.asBox (i := 6) rfl (by omega) (fun gA2 cA2 hu1 hd1 hm3 => ?_)
      subst hu1
      refine VC.asBox (i := 7) rfl (by omega) (fun gO2 cO2 hu2 hd2 hm4 => ?_)
      subst hu2
      refine VC.asBox (i := 8) rfl (by omega) (fun gR cR hu3 hd3 hm5 => ?_)
      refine VC.hap (fun hap => ?_)
      have nA6 := apart_ne hap (i := 2) (j := 6) rfl rfl (by decide)
      have nO6 := apart_ne hap (i := 4) (j := 6) rfl rfl (by decide)
      have nA7 := apart_ne hap (i := 2) (j := 7) rfl rfl (by decide)
      have nO7 := apart_ne hap (i := 4) (j := 7) rfl rfl (by decide)
      have nAO := apart_ne hap (i := 7) (j := 6) rfl rfl (by decide)
      have hw3k : w3[k]? = some (.slice (some ⟨gR, 0, none⟩) ((s.out.getD k []).length + 1) cR) := by
       rw [List.getElem?_eq_getElem (by omega)]
       congr 1
       rw [← hu3, List.getD_eq_getElem?_getD, List.getElem?_eq_getElem (by omega)]; rfl
      have hw3m : (w3.map AV.v)[k]? = some (.v (.slice (some ⟨gR, 0, none⟩) ((s.out.getD k []).length + 1) cR)) := by rw [List.getElem?_map, hw3k]; rfl
      refine VC.draw (fun j b => (j = 17 ∧ b = gA2) ∨ (j = 19 ∧ b = gO2)) hB (by kernel_rfl) ?_
      refine VA.take (i := 0) rfl (by kernel_rfl) (by kernel_rfl) (by kernel_rfl) rfl rfl (OpV.load_own (i := 2) rfl hB Tryz.isAgg27 rfl rfl rfl (Wi.notD2 (.inr nA6) (.inr nA7))) ?_
      refine VA.take (i := 1) rfl (by kernel_rfl) (by kernel_rfl) (by kernel_rfl) rfl rfl (OpV.move (.inl rfl) rfl) ?_
      refine VA.take (i := 2) rfl (by kernel_rfl) (by kernel_rfl) (by kernel_rfl) rfl rfl (OpV.load_own (i := 4) rfl hB Tryz.isAgg35 rfl rfl rfl (Wi.notD2 (.inr nO6) (.inr nO7))) ?_
      refine VA.take (i := 3) rfl (by kernel_rfl) (by kernel_rfl) (by kernel_rfl) rfl rfl (OpV.move (.inl rfl) rfl) ?_
      refine VA.take (i := 4) rfl (by kernel_rfl) (by kernel_rfl) (by kernel_rfl) rfl rfl (OpV.move (.inl rfl) rfl) ?_
      refine VA.take (i := 5) rfl (by kernel_rfl) (by kernel_rfl) (by kernel_rfl) rfl rfl (OpV.load_own (i := 4) rfl hB Tryz.isAgg35 rfl rfl rfl (Wi.notD2 (.inr nO6) (.inr nO7))) ?_
      refine VA.take (i := 6) rfl (by kernel_rfl) (by kernel_rfl) (by kernel_rfl) rfl rfl (OpV.move (.inl rfl) rfl) ?_
      refine VA.take (i := 7) rfl (by kernel_rfl) (by kernel_rfl) (by kernel_rfl) rfl rfl (OpV.indexAddr_o rfl Tryz.underlying35 Tryz.sizeOf22 rfl rfl rfl (by omega)) ?_
      refine VA.take (i := 8) rfl (by kernel_rfl) (by kernel_rfl) (by kernel_rfl) rfl rfl (OpV.load_own (i := 7) rfl hB Tryz.isAgg22 rfl rfl hw3m (Wi.notD2 (.inr nAO) (.inl (by kernel_rfl)))) ?_
      refine VA.take (i := 9) rfl (by kernel_rfl) (by kernel_rfl) (by kernel_rfl) rfl rfl (OpV.load_own (i := 4) rfl hB Tryz.isAgg35 rfl rfl rfl (Wi.notD2 (.inr nO6) (.inr nO7))) ?_
      refine VA.take (i := 10) rfl (by kernel_rfl) (by kernel_rfl) (by kernel_rfl) rfl rfl (OpV.move (.inl rfl) rfl) ?_
      refine VA.take (i := 11) rfl (by kernel_rfl) (by kernel_rfl) (by kernel_rfl) rfl rfl (OpV.indexAddr_o rfl Tryz.underlying35 Tryz.sizeOf22 rfl rfl rfl (by omega)) ?_
      refine VA.take (i := 12) rfl (by kernel_rfl) (by kernel_rfl) (by kernel_rfl) rfl rfl (OpV.load_own (i := 7) rfl hB Tryz.isAgg22 rfl rfl hw3m (Wi.notD2 (.inr nAO) (.inl (by kernel_rfl)))) ?_
      refine VA.take (i := 13) rfl (by kernel_rfl) (by kernel_rfl) (by kernel_rfl) rfl rfl (OpV.len_v rfl Tryz.underlying22 rfl) ?_
      refine VA.take (i := 14) rfl (by kernel_rfl) (by kernel_rfl) (by kernel_rfl) rfl rfl (OpV.sub rfl rfl rfl (by unfold fits; omega)) ?_
      refine VA.take (i := 15) rfl (by kernel_rfl) (by kernel_rfl) (by kernel_rfl) rfl rfl (OpV.slice_own (h := (s.out.getD k []).length) rfl Tryz.underlying22 Tryz.sizeOf3 rfl rfl ⟨_, _, rfl, by omega⟩ (by omega) (by omega) (by omega)) ?_
      refine VA.take (i := 16) rfl (by kernel_rfl) (by kernel_rfl) (by kernel_rfl) rfl rfl (OpV.indexAddr_o rfl Tryz.underlying27 Tryz.sizeOf29 rfl rfl rfl (by omega)) ?_
      refine VA.all (rs := [17]) (by kernel_rfl) (by decide) ?_
      refine ⟨⟨_, rfl, .inl rfl, ?_⟩, trivial⟩
      refine OpE.store1 (i := 6) rfl hB rfl Tryz.sizeOf29 rfl rfl rfl rfl rfl rfl (by rw [listM_len]; omega) ((listM_set _ _ _).trans (congrArg listM (putR_all (by omega)))) (by first | exact .inl ⟨rfl, rfl⟩ | exact .inr ⟨rfl, rfl⟩) ?_
      refine VA.take (i := 18) rfl (by kernel_rfl) (by kernel_rfl) (by kernel_rfl) rfl rfl (OpV.indexAddr_o rfl Tryz.underlying35 Tryz.sizeOf22 rfl rfl rfl (by omega)) ?_
      refine VA.all (rs := [19]) (by kernel_rfl) (by decide) ?_
      refine ⟨⟨_, rfl, .inl rfl, ?_⟩, trivial⟩
      refine OpE.store1 (i := 7) rfl hB rfl Tryz.sizeOf22 rfl rfl rfl rfl rfl rfl (by first | (rw [List.length_map]; omega) | (simp; omega)) (mapv_set _ _ _) (by first | exact .inl ⟨rfl, rfl⟩ | exact .inr ⟨rfl, rfl⟩) ?_
      refine VA.done (by kernel_rfl) ?_
      (refine VC.le _ ((Le.boxRow (i := 6) (n := s.all.length) (sz := 1) (cap := cA2) rfl (by rw [listM_len, Nat.mul_one]) hd1 hm3).trans ((Le.boxRow (i := 7) (n := s.out.length) (sz := 1) (cap := cO2) rfl (by rw [List.length_map, List.length_set, Nat.mul_one, hw3, ho]) hd2 hm4).trans ((Le.cutBoxE (i := 8) (cs' := intsL (s.out.getD k [])) (s.out.getD k []).length rfl (by simp [intsL])).trans (Le.boxRow (i := 8) (n := (s.out.getD k []).length) (sz := 1) (cap := cR) rfl (by rw [intsL_len, Nat.mul_one]) (by omega) hm5)))) ?_; refine VC.le _ (Le.perm (hp := ownGR p slots many gp gm ga gs go gt (.slice (some ⟨gA2, 0, none⟩) s.all.length cA2) (.slice (some ⟨gO2, 0, none⟩) s.out.length cO2) (w3.set k (.slice (some ⟨gR, 0, none⟩) (s.out.getD k []).length cR)) s) (((((((((rowsT_back w3 s.out k (by omega) (by omega)).cons _).cons _).cons _).cons _).cons _).cons _).cons _).cons _)) ?_)
      refine VC.region ?_
      refine VO.mv rfl rfl rfl rfl ?_
      refine VO.val rfl rfl (OpV.add rfl rfl rfl (by unfold fits; omega)) ?_
      refine VO.ma rfl rfl rfl rfl ?_
      refine VO.nil ?_
      exact Exists.intro (⟨((.slice (some ⟨gA2, 0, none⟩) s.all.length cA2, .slice (some ⟨gO2, 0, none⟩) s.out.length cO2, w3.set k (.slice (some ⟨gR, 0, none⟩) (s.out.getD k []).length cR)), k + 1), ⟨by show k + 1 ≤ _; omega, by show k + 1 ≤ _; omega, (List.length_set ..).trans hw3⟩, lt_succ_cases hkn hq⟩) (And.intro (Le.mkP hB ⟨rfl, rfl, rfl, rfl, rfl, rfl, rfl, rfl, rfl, trivial⟩ (List.Sublist.refl _) (List.Perm.refl _) (Nat.le_refl _)) (by first | omega | (show _ < _; omega) | (simp only []; omega)))
   ·have h1 := h1b
    try simp only [qqT, qqF, qqN, qqM, qqL, qqE] at h1
    refine VC.exit ?_
    refine VC.sr ?_
    refine VO.ma rfl rfl rfl rfl ?_
    refine VO.nil ?_
    refine VC.ret ?_
    exact Exists.intro _ (And.intro (RetV.one Tryz.results71 (ResV.tmp rfl)) (⟨_, _, vs, by first | rw [tryR_end (by omega) hkn]; rfl, hvs, by rw [tryR_end (by omega) hkn]; rfl⟩))
  ·replace aK1b : _ = false := aK1b
   have aK1 := aK1b
   try simp only [qqT, qqF, qqN, qqM, qqL, qqE] at aK1
   refine VO.opX rfl rfl rfl rfl aK1b ?_
   refine VO.opX rfl rfl rfl rfl aK1b ?_
   refine VO.val rfl rfl (OpV.pickF rfl rfl rfl rfl aK1b) ?_
   refine VO.nil ?_
   refine VC.condF rfl rfl ?_
   refine VC.exit ?_
   refine VC.sr ?_
   refine VO.ma rfl rfl rfl rfl ?_
   refine VO.nil ?_
   refine VC.ret ?_
   exact Exists.intro _ (And.intro (RetV.one Tryz.results71 (ResV.tmp rfl)) (⟨_, _, vs, by first | rw [tryR_end (by omega) hkn]; rfl, hvs, by rw [tryR_end (by omega) hkn]; rfl⟩))
end Go.Proofs.YtbbgjeiefmiblaaGreatDoor
namespace Go.Proofs.YtbbgjeiefmiblaaGreatDoor
open Go.RowKit
set_option linter.unusedVariables false
set_option linter.unusedSimpArgs false
theorem least_some2 {α : Type} {T : Nat → Option α} : ∀ n, (T n).isSome = true → ∃ m, m ≤ n ∧ (T m).isSome = true ∧ ∀ j, j < m → T j = none := fun n => by
 induction n using Nat.strongRecOn with
 | _ n ih =>
  intro h
  by_cases hx : ∃ j, j < n ∧ (T j).isSome = true
  ·obtain ⟨j, h1, h2⟩ := hx
   obtain ⟨m, k1, k2⟩ := ih j h1 h2
   exact ⟨m, by omega, k2⟩
  ·refine ⟨n, Nat.le_refl _, h, fun j hj => ?_⟩
   cases e : T j with
   | none => rfl
   | some x => exact absurd ⟨j, hj, by rw [e]; rfl⟩ hx
theorem grp_yes2 {slots : Int} {p : List (List ByteArray)} (hp : p.length ≤ 10) (h : partsF slots p = 0) : GrpF slots.toNat p (grpR slots p) := by
 obtain ⟨k1, _, _⟩ := partsF_zero h
 have hs : slots = (slots.toNat : Int) := by unfold outR at k1; simp at k1; omega
 have hpr : ∀ i, i < p.length → RightP slots.toNat (p.getD i default) := fun i hi => RightP.of hs h hi
 have hnd : ∀ i, i < p.length → (p.getD i default).Nodup := fun i hi => sort_nodup (can_sort (hpr i hi).can)
 have h1 := (alone (fun i hi => (hpr i hi).len) p.length (Nat.le_refl _)).1
 have h2 := tryG_some p.length 0 (fun j => j) (show OkG p slots.toNat _ _ (0 + p.length) by rw [Nat.zero_add]; exact h1)
 have h3 : stG p (fun j => j) 0 = ⟨[], []⟩ := rfl
 rw [h3] at h2
 obtain ⟨m, m1, m2, m3⟩ := least_some2 (T := fun m => tryG p slots.toNat m p.length 0 ⟨[], []⟩) p.length h2
 obtain ⟨r, hr⟩ := Option.isSome_iff_exists.1 m2
 rw [(grpE_3 h hp hs).2, grpLst, grpO_at m1 m3 hr]
 exact grp_facts hnd m3 hr
theorem flat_ge2 {G : List (List Int)} : (∀ k, k < G.length → 0 < (G.getD k []).length) → G.length ≤ G.flatten.length := by
 induction G with
 | nil => intro _; exact Nat.le_refl _
 | cons x G ih =>
  intro h
  have h0 := h 0 (by simp)
  have := ih fun k hk => h (k + 1) (by simp; omega)
  rw [List.flatten_cons, List.length_append, List.length_cons]
  have h0' : 0 < x.length := h0
  omega
theorem flat_mem2 {G : List (List Int)} : ∀ k, (G.getD k default).length ≤ G.flatten.length := by
 induction G with
 | nil => intro k; simp; rfl
 | cons x G ih =>
  intro k
  rw [List.flatten_cons, List.length_append]
  cases k with
  | zero => show x.length ≤ _; omega
  | succ k => have := ih k; show (G.getD k default).length ≤ _; omega
theorem grpR_sz (slots : Int) (p : List (List ByteArray)) : (grpR slots p).length ≤ 10 ∧ ∀ i, ((grpR slots p).getD i default).length ≤ 10 := by
 by_cases hf : partsF slots p = 0
 ·by_cases hl : 10 < p.length
  ·rw [(grpE_2 hf hl).2]; exact ⟨Nat.zero_le _, fun i => Nat.zero_le _⟩
  ·have F := grp_yes2 (by omega) hf
   have h1 : (grpR slots p).flatten.length = p.length := by rw [F.perm.length_eq, idO_len]
   have h2 := flat_ge2 F.ne
   exact ⟨by omega, fun i => by have := flat_mem2 (G := grpR slots p) i; omega⟩
 ·rw [(grpE_1 hf).2]; exact ⟨Nat.zero_le _, fun i => Nat.zero_le _⟩
end Go.Proofs.YtbbgjeiefmiblaaGreatDoor
namespace Go.Proofs.YtbbgjeiefmiblaaGreatDoor
open Go.RowKit
set_option linter.unusedVariables false
set_option linter.unusedSimpArgs false
set_option maxRecDepth 100000 in
theorem slices_IndexFunc_LL {xs : List (List ByteArray)} {F : FuncId} {cs : List AV} {p : List ByteArray → Bool} (hl : xs.length ≤ 1000000000) (hcall : ∀ us w, (callFunc F us).run Tryz.prog w = .ok (.enter F us) w) (hF : ∀ i, i < xs.length → Spec Tryz.prog F ([avStrs (xs.getD i default)] ++ cs) (fun y => y = avB (p (xs.getD i default)))) :
  SpecN Tryz.prog 115 [avM xs, .fn F cs] (fun y => y = avI (fidx p xs)) := by
 refine SpecN.of_VCN Tryz.func115 rfl Tryz.ntmps115 (Nle rfl) fun w A hB => ?_
 have hnew : True := trivial
 refine VC.sr ?_
 refine VO.ma rfl rfl rfl rfl ?_
 refine VO.nil ?_
 refine VC.seq ?_
 refine VC.sr ?_
 refine VO.mv rfl rfl rfl rfl ?_
 refine VO.val rfl rfl (OpV.len_im rfl Tryz.underlying27 rfl) ?_
 refine VO.mv rfl rfl rfl rfl ?_
 refine VO.nil ?_
 refine VC.block ?_
 refine VC.loopK [(0, _), (1, _), (7, _)] ⟨rfl, rfl, rfl, trivial⟩ ({q : Nat // q ≤ xs.length ∧ ∀ j, j < q → p (xs.getD j default) = false}) (fun (iZ : {q : Nat // q ≤ xs.length ∧ ∀ j, j < q → p (xs.getD j default) = false}) => match iZ with | ⟨q, hq, hn⟩ => [(8, avI (q : Int))]) (fun (iZ : {q : Nat // q ≤ xs.length ∧ ∀ j, j < q → p (xs.getD j default) = false}) => match iZ with | ⟨q, hq, hn⟩ => []) (fun (iZ : {q : Nat // q ≤ xs.length ∧ ∀ j, j < q → p (xs.getD j default) = false}) => match iZ with | ⟨q, hq, hn⟩ => 0) (fun (iZ : {q : Nat // q ≤ xs.length ∧ ∀ j, j < q → p (xs.getD j default) = false}) => match iZ with | ⟨q, hq, hn⟩ => xs.length - q) ⟨0, Nat.zero_le _, fun j hj => absurd hj (Nat.not_lt_zero j)⟩ (Le.mk hB [] ⟨rfl, rfl, rfl, rfl, trivial⟩ rfl rfl (Nat.le_refl _)) ?_
 rintro ⟨q, hq, hn⟩
 show VC _ _ _ _ ⟨[(8, avI (q : Int))] ++ [(0, _), (1, _), (7, _)], [], 0⟩
 refine VC.sr ?_
 refine VO.val rfl rfl (OpV.lss rfl rfl rfl) ?_
 refine VO.nil ?_
 refine VC.seq ?_
 refine VC.cond rfl (fun aH1b => ?_) (fun aH1b => ?_)
 ·have aH1 := aH1b
  try simp only [qqT, qqF, qqN, qqM, qqL, qqE] at aH1
  refine VC.skip ?_
  refine VC.seq ?_
  refine VC.block ?_
  refine VC.sr ?_
  refine VO.mv rfl rfl rfl rfl ?_
  refine VO.ma rfl rfl rfl rfl ?_
  refine VO.nil ?_
  refine VC.sr ?_
  refine VO.mv rfl rfl rfl rfl ?_
  refine VO.mv rfl rfl rfl rfl ?_
  refine VO.mv rfl rfl rfl rfl ?_
  refine VO.val rfl rfl (OpV.indexAddr_1 rfl Tryz.underlying27 Tryz.sizeOf29 rfl rfl rfl (by omega)) ?_
  refine VO.val rfl rfl (OpV.load_at rfl hB OutW.no Tryz.isAgg29 rfl rfl) ?_
  refine VO.op rfl (OpE.callF rfl hB rfl hcall rfl rfl (hF q (by omega)) ?_)
  rintro _ rfl
  refine VO.nil ?_
  refine VC.cond rfl (fun aH2b => ?_) (fun aH2b => ?_)
  ·have aH2 := aH2b
   try simp only [qqT, qqF, qqN, qqM, qqL, qqE] at aH2
   refine VC.sr ?_
   refine VO.mv rfl rfl rfl rfl ?_
   refine VO.ma rfl rfl rfl rfl ?_
   refine VO.nil ?_
   refine VC.ret ?_
   exact Exists.intro _ (And.intro (RetN.one Tryz.results115 (ResN.v rfl)) (by first | (rw [fidx_found (d := default) (q := q) (by omega) hn (by assumption)]) | (rw [fidx_none (d := default) (fun j hj => hn j (by omega))])))
  ·have aH2 := aH2b
   try simp only [qqT, qqF, qqN, qqM, qqL, qqE] at aH2
   refine VC.skip ?_
   refine VC.region ?_
   refine VO.val rfl rfl (OpV.add rfl rfl rfl (by unfold fits; omega)) ?_
   refine VO.mv rfl rfl rfl rfl ?_
   refine VO.nil ?_
   exact Exists.intro (⟨q + 1, by omega, lt_succ_cases hn (by assumption)⟩) (And.intro (Le.mk hB [] ⟨rfl, rfl, rfl, rfl, trivial⟩ rfl rfl (Nat.le_refl _)) (by first | omega | (show _ < _; omega) | (simp only []; omega)))
 ·have aH1 := aH1b
  try simp only [qqT, qqF, qqN, qqM, qqL, qqE] at aH1
  refine VC.exit ?_
  refine VC.sr ?_
  refine VO.ma rfl rfl rfl rfl ?_
  refine VO.nil ?_
  refine VC.ret ?_
  exact Exists.intro _ (And.intro (RetN.one Tryz.results115 (ResN.v rfl)) (by first | (rw [fidx_found (d := default) (q := q) (by omega) hn (by assumption)]) | (rw [fidx_none (d := default) (fun j hj => hn j (by omega))])))
set_option maxRecDepth 100000 in
theorem setup_needed1 {l : List ByteArray} {x : ByteArray} (hl : l.length ≤ 1000000000) :
  SpecN Tryz.prog 209 [avStrs l, .at_ 1 (fun _ => avS x)] (fun y => y = avB (has l x)) := by
 refine SpecN.of_VCN Tryz.func209 rfl Tryz.ntmps209 (Nle rfl) fun w A hB => ?_
 have hnew : True := trivial
 refine VC.sr ?_
 refine VO.ma rfl rfl rfl rfl ?_
 refine VO.nil ?_
 refine VC.sr ?_
 refine VO.mv rfl rfl rfl rfl ?_
 refine VO.val rfl rfl (OpV.load_at rfl hB OutW.no Tryz.isAgg9 rfl rfl) ?_
 refine VO.op rfl (OpE.call rfl hB rfl Tryz.call54 rfl (SpecN.spec (slices_Contains_str hl)) ?_)
 rintro _ rfl
 refine VO.ma rfl rfl rfl rfl ?_
 refine VO.nil ?_
 refine VC.ret ?_
 exact Exists.intro _ (And.intro (RetN.one Tryz.results209 (ResN.v rfl)) (rfl))
set_option maxRecDepth 100000 in
theorem setup_needed {x : ByteArray} {later : List (List ByteArray)} (hp : SmSS later) :
  SpecN Tryz.prog 171 [avS x, avM later] (fun y => y = avI (needF x later)) := by
 have hl := hp.1
 refine SpecN.of_VCN Tryz.func171 rfl Tryz.ntmps171 (Nle rfl) fun w A hB => ?_
 have hnew : True := trivial
 refine VC.sr ?_
 refine VO.op rfl (OpE.box rfl hB rfl rfl rfl ?_)
 intro g2
 refine VO.ma rfl rfl rfl rfl ?_
 refine VO.nil ?_
 refine VC.seq ?_
 refine VC.sr ?_
 refine VO.mv rfl rfl rfl rfl ?_
 refine VO.val rfl rfl (OpV.makeFunc1 rfl rfl) ?_
 refine VO.op rfl (OpE.callL rfl hB rfl Tryz.call115 (slices_IndexFunc_LL (p := fun l => has l x) hl Tryz.call209 (fun i hi => (setup_needed1 (hp.2 i).1).spec)) (ArgsP.cons (ArgP.ev rfl) (ArgsP.cons (ArgP.fn1 (i := 0) (m := 1) (f := fun _ => avS x) rfl rfl (Nle rfl) (lt1 rfl)) (ArgsP.nil))) ?_)
 rintro _ rfl
 refine VO.ma rfl rfl rfl rfl ?_
 refine VO.nil ?_
 refine VC.sr ?_
 refine VO.mv rfl rfl rfl rfl ?_
 refine VO.val rfl rfl (OpV.geq rfl rfl rfl) ?_
 refine VO.nil ?_
 refine VC.cond rfl (fun h0b => ?_) (fun h0b => ?_)
 ·have h0 := h0b
  try simp only [qqT, qqF, qqN, qqM, qqL, qqE] at h0
  refine VC.sr ?_
  refine VO.mv rfl rfl rfl rfl ?_
  refine VO.ma rfl rfl rfl rfl ?_
  refine VO.nil ?_
  refine VC.ret ?_
  exact Exists.intro _ (And.intro (RetN.one Tryz.results171 (ResN.v rfl)) (by first | rw [needF, if_pos h0] | rw [needF, if_neg (by omega)]))
 ·have h0 := h0b
  try simp only [qqT, qqF, qqN, qqM, qqL, qqE] at h0
  refine VC.skip ?_
  refine VC.sr ?_
  refine VO.mv rfl rfl rfl rfl ?_
  refine VO.val rfl rfl (OpV.len_im rfl Tryz.underlying27 rfl) ?_
  refine VO.ma rfl rfl rfl rfl ?_
  refine VO.nil ?_
  refine VC.ret ?_
  exact Exists.intro _ (And.intro (RetN.one Tryz.results171 (ResN.v rfl)) (by first | rw [needF, if_pos h0] | rw [needF, if_neg (by omega)]))
set_option maxRecDepth 100000 in
theorem setup_victim {s parts : List ByteArray} {later : List (List ByteArray)} (hs : s.length ≤ 1000000000) (hp : parts.length ≤ 1000000000) (hl : SmSS later) :
  SpecN Tryz.prog 128 [avStrs s, avStrs parts, avM later] (fun y => y = avI (vic s parts later s.length).1) := by
 have hll := hl.1
 refine SpecN.of_VCN Tryz.func128 rfl Tryz.ntmps128 (Nle rfl) fun w A hB => ?_
 have hnew : True := trivial
 refine VC.sr ?_
 refine VO.ma rfl rfl rfl rfl ?_
 refine VO.nil ?_
 refine VC.sr ?_
 refine VO.ma rfl rfl rfl rfl ?_
 refine VO.ma rfl rfl rfl rfl ?_
 refine VO.nil ?_
 refine VC.seq ?_
 refine VC.sr ?_
 refine VO.mv rfl rfl rfl rfl ?_
 refine VO.val rfl rfl (OpV.len_im rfl Tryz.underlying29 rfl) ?_
 refine VO.mv rfl rfl rfl rfl ?_
 refine VO.nil ?_
 refine VC.block ?_
 refine VC.loopK [(0, _), (1, _), (2, _), (12, _), (13, _)] ⟨rfl, rfl, rfl, rfl, rfl, trivial⟩ ({q : Nat // q ≤ s.length}) (fun (iZ : {q : Nat // q ≤ s.length}) => match iZ with | ⟨q, hq⟩ => [(7, avI (vic s parts later q).1), (8, avI (vic s parts later q).2), (14, avI (q : Int))]) (fun (iZ : {q : Nat // q ≤ s.length}) => match iZ with | ⟨q, hq⟩ => []) (fun (iZ : {q : Nat // q ≤ s.length}) => match iZ with | ⟨q, hq⟩ => 0) (fun (iZ : {q : Nat // q ≤ s.length}) => match iZ with | ⟨q, hq⟩ => s.length - q) ⟨0, Nat.zero_le _⟩ (Le.mk hB [] ⟨rfl, rfl, rfl, rfl, rfl, rfl, rfl, rfl, trivial⟩ rfl rfl (Nat.le_refl _)) ?_
 rintro ⟨q, hq⟩
 show VC _ _ _ _ ⟨[(7, avI (vic s parts later q).1), (8, avI (vic s parts later q).2), (14, avI (q : Int))] ++ [(0, _), (1, _), (2, _), (12, _), (13, _)], [], 0⟩
 refine VC.sr ?_
 refine VO.val rfl rfl (OpV.lss rfl rfl rfl) ?_
 refine VO.nil ?_
 refine VC.seq ?_
 refine VC.cond rfl (fun aH1b => ?_) (fun aH1b => ?_)
 ·have aH1 := aH1b
  try simp only [qqT, qqF, qqN, qqM, qqL, qqE] at aH1
  refine VC.skip ?_
  refine VC.seq ?_
  refine VC.block ?_
  refine VC.sr ?_
  refine VO.mv rfl rfl rfl rfl ?_
  refine VO.val rfl rfl (OpV.indexAddr_1 rfl Tryz.underlying29 Tryz.sizeOf9 rfl rfl rfl (by omega)) ?_
  refine VO.val rfl rfl (OpV.load_at rfl hB OutW.no Tryz.isAgg9 rfl rfl) ?_
  refine VO.ma rfl rfl rfl rfl ?_
  refine VO.ma rfl rfl rfl rfl ?_
  refine VO.nil ?_
  refine VC.seq ?_
  refine VC.sr ?_
  refine VO.mv rfl rfl rfl rfl ?_
  refine VO.mv rfl rfl rfl rfl ?_
  refine VO.op rfl (OpE.call rfl hB rfl Tryz.call54 rfl (SpecN.spec (slices_Contains_str hp)) ?_)
  rintro _ rfl
  refine VO.nil ?_
  refine VC.cond rfl (fun h1b => ?_) (fun h1b => ?_)
  ·have h1 := h1b
   try simp only [qqT, qqF, qqN, qqM, qqL, qqE] at h1
   refine VC.exit ?_
   refine VC.region ?_
   refine VO.val rfl rfl (OpV.add rfl rfl rfl (by unfold fits; omega)) ?_
   refine VO.mv rfl rfl rfl rfl ?_
   refine VO.nil ?_
   exact Exists.intro (⟨q + 1, by omega⟩) (And.intro (Le.mk hB [] ⟨(by dsimp only; first | (rw [vic_has h1]; rfl) | (rw [vic_new h1 (.inl (by assumption))]; rfl) | (rw [vic_new h1 (.inr ⟨by assumption, not_true_false h2b⟩)]; rfl) | (rw [vic_old (s := s) (parts := parts) (later := later) (q := q) h1 (by rintro (h8 | ⟨h8, h9⟩); exact absurd h8 (by omega); exact absurd (h9.symm.trans (not_false_true h2b)) Bool.false_ne_true)]; rfl) | (rw [vic_old (s := s) (parts := parts) (later := later) (q := q) h1 (by rintro (h8 | ⟨h8, h9⟩); omega; omega)]; rfl)), (by dsimp only; first | (rw [vic_has h1]; rfl) | (rw [vic_new h1 (.inl (by assumption))]; rfl) | (rw [vic_new h1 (.inr ⟨by assumption, not_true_false h2b⟩)]; rfl) | (rw [vic_old (s := s) (parts := parts) (later := later) (q := q) h1 (by rintro (h8 | ⟨h8, h9⟩); exact absurd h8 (by omega); exact absurd (h9.symm.trans (not_false_true h2b)) Bool.false_ne_true)]; rfl) | (rw [vic_old (s := s) (parts := parts) (later := later) (q := q) h1 (by rintro (h8 | ⟨h8, h9⟩); omega; omega)]; rfl)), rfl, rfl, rfl, rfl, rfl, rfl, trivial⟩ rfl rfl (Nat.le_refl _)) (by first | omega | (show _ < _; omega) | (simp only []; omega)))
  ·have h1 := h1b
   try simp only [qqT, qqF, qqN, qqM, qqL, qqE] at h1
   refine VC.skip ?_
   refine VC.sr ?_
   refine VO.mv rfl rfl rfl rfl ?_
   refine VO.mv rfl rfl rfl rfl ?_
   refine VO.op rfl (OpE.call rfl hB rfl Tryz.call171 rfl (SpecN.spec (setup_needed hl)) ?_)
   rintro _ rfl
   refine VO.ma rfl rfl rfl rfl ?_
   refine VO.nil ?_
   refine VC.sr ?_
   refine VO.mv rfl rfl rfl rfl ?_
   refine VO.mv rfl rfl rfl rfl ?_
   refine VO.val rfl rfl (OpV.gtr rfl rfl rfl) ?_
   refine VO.mv rfl rfl rfl rfl ?_
   refine VO.opG rfl rfl rfl rfl (fun aK2b => ?_) (fun aK2b => ?_)
   ·replace aK2b : _ = false := aK2b
    have aK2 := aK2b
    try simp only [qqT, qqF, qqN, qqM, qqL, qqE] at aK2
    refine OpE.val (W := NoB) (OpV.move (.inl rfl) rfl) rfl ?_
    refine VO.opY rfl rfl rfl rfl aK2b ?_
    refine OpE.val (W := NoB) (OpV.move (.inl rfl) rfl) rfl ?_
    refine VO.opY rfl rfl rfl rfl aK2b ?_
    refine OpE.val (W := NoB) (OpV.eql rfl rfl rfl) rfl ?_
    refine VO.opY rfl rfl rfl rfl aK2b ?_
    refine OpE.val (W := NoB) (OpV.move (.inl rfl) rfl) rfl ?_
    refine VO.opG rfl rfl rfl rfl (fun aK3b => ?_) (fun aK3b => ?_)
    ·replace aK3b : _ = true := aK3b
     have aK3 := aK3b
     try simp only [qqT, qqF, qqN, qqM, qqL, qqE] at aK3
     refine OpE.val (W := NoB) (OpV.move (.inl rfl) rfl) rfl ?_
     refine VO.opY rfl rfl rfl rfl aK3b ?_
     refine OpE.val (W := NoB) (OpV.move (.inl rfl) rfl) rfl ?_
     refine VO.opY rfl rfl rfl rfl aK3b ?_
     refine OpE.val (W := NoB) (OpV.move (.inl rfl) rfl) rfl ?_
     refine VO.opY rfl rfl rfl rfl aK3b ?_
     refine OpE.val (W := NoB) (OpV.indexAddr_1 rfl Tryz.underlying29 Tryz.sizeOf9 rfl rfl (Int.toNat_of_nonneg (vic_tie (by assumption)).1).symm (by have h7 := vic_tie (s := s) (parts := parts) (by assumption); omega)) rfl ?_
     refine VO.opY rfl rfl rfl rfl aK3b ?_
     refine OpE.val (W := NoB) (OpV.load_at rfl hB OutW.no Tryz.isAgg9 rfl rfl) rfl ?_
     refine VO.opY rfl rfl rfl rfl aK3b ?_
     refine OpE.val (W := NoB) (OpV.sgtr rfl rfl rfl) rfl ?_
     refine VO.opY rfl rfl rfl rfl aK2b ?_
     refine OpE.val (W := NoB) (OpV.pickT rfl rfl rfl rfl aK3b) rfl ?_
     refine VO.val rfl rfl (OpV.pickF rfl rfl rfl rfl aK2b) ?_
     refine VO.nil ?_
     refine VC.cond rfl (fun h2b => ?_) (fun h2b => ?_)
     ·have h2 := h2b
      try simp only [qqT, qqF, qqN, qqM, qqL, qqE] at h2
      refine VC.region ?_
      refine VO.mv rfl rfl rfl rfl ?_
      refine VO.mv rfl rfl rfl rfl ?_
      refine VO.ma rfl rfl rfl rfl ?_
      refine VO.ma rfl rfl rfl rfl ?_
      refine VO.nil ?_
      refine VC.region ?_
      refine VO.val rfl rfl (OpV.add rfl rfl rfl (by unfold fits; omega)) ?_
      refine VO.mv rfl rfl rfl rfl ?_
      refine VO.nil ?_
      exact Exists.intro (⟨q + 1, by omega⟩) (And.intro (Le.mk hB [] ⟨(by dsimp only; first | (rw [vic_has h1]; rfl) | (rw [vic_new h1 (.inl (by assumption))]; rfl) | (rw [vic_new h1 (.inr ⟨by assumption, not_true_false h2b⟩)]; rfl) | (rw [vic_old (s := s) (parts := parts) (later := later) (q := q) h1 (by rintro (h8 | ⟨h8, h9⟩); exact absurd h8 (by omega); exact absurd (h9.symm.trans (not_false_true h2b)) Bool.false_ne_true)]; rfl) | (rw [vic_old (s := s) (parts := parts) (later := later) (q := q) h1 (by rintro (h8 | ⟨h8, h9⟩); omega; omega)]; rfl)), (by dsimp only; first | (rw [vic_has h1]; rfl) | (rw [vic_new h1 (.inl (by assumption))]; rfl) | (rw [vic_new h1 (.inr ⟨by assumption, not_true_false h2b⟩)]; rfl) | (rw [vic_old (s := s) (parts := parts) (later := later) (q := q) h1 (by rintro (h8 | ⟨h8, h9⟩); exact absurd h8 (by omega); exact absurd (h9.symm.trans (not_false_true h2b)) Bool.false_ne_true)]; rfl) | (rw [vic_old (s := s) (parts := parts) (later := later) (q := q) h1 (by rintro (h8 | ⟨h8, h9⟩); omega; omega)]; rfl)), rfl, rfl, rfl, rfl, rfl, rfl, trivial⟩ rfl rfl (Nat.le_refl _)) (by first | omega | (show _ < _; omega) | (simp only []; omega)))
     ·have h2 := h2b
      try simp only [qqT, qqF, qqN, qqM, qqL, qqE] at h2
      refine VC.skip ?_
      refine VC.region ?_
      refine VO.val rfl rfl (OpV.add rfl rfl rfl (by unfold fits; omega)) ?_
      refine VO.mv rfl rfl rfl rfl ?_
      refine VO.nil ?_
      exact Exists.intro (⟨q + 1, by omega⟩) (And.intro (Le.mk hB [] ⟨(by dsimp only; first | (rw [vic_has h1]; rfl) | (rw [vic_new h1 (.inl (by assumption))]; rfl) | (rw [vic_new h1 (.inr ⟨by assumption, not_true_false h2b⟩)]; rfl) | (rw [vic_old (s := s) (parts := parts) (later := later) (q := q) h1 (by rintro (h8 | ⟨h8, h9⟩); exact absurd h8 (by omega); exact absurd (h9.symm.trans (not_false_true h2b)) Bool.false_ne_true)]; rfl) | (rw [vic_old (s := s) (parts := parts) (later := later) (q := q) h1 (by rintro (h8 | ⟨h8, h9⟩); omega; omega)]; rfl)), (by dsimp only; first | (rw [vic_has h1]; rfl) | (rw [vic_new h1 (.inl (by assumption))]; rfl) | (rw [vic_new h1 (.inr ⟨by assumption, not_true_false h2b⟩)]; rfl) | (rw [vic_old (s := s) (parts := parts) (later := later) (q := q) h1 (by rintro (h8 | ⟨h8, h9⟩); exact absurd h8 (by omega); exact absurd (h9.symm.trans (not_false_true h2b)) Bool.false_ne_true)]; rfl) | (rw [vic_old (s := s) (parts := parts) (later := later) (q := q) h1 (by rintro (h8 | ⟨h8, h9⟩); omega; omega)]; rfl)), rfl, rfl, rfl, rfl, rfl, rfl, trivial⟩ rfl rfl (Nat.le_refl _)) (by first | omega | (show _ < _; omega) | (simp only []; omega)))
    ·replace aK3b : _ = false := aK3b
     have aK3 := aK3b
     try simp only [qqT, qqF, qqN, qqM, qqL, qqE] at aK3
     refine VO.opX rfl rfl rfl rfl aK3b ?_
     refine VO.opX rfl rfl rfl rfl aK3b ?_
     refine VO.opX rfl rfl rfl rfl aK3b ?_
     refine VO.opX rfl rfl rfl rfl aK3b ?_
     refine VO.opX rfl rfl rfl rfl aK3b ?_
     refine VO.opY rfl rfl rfl rfl aK2b ?_
     refine OpE.val (W := NoB) (OpV.pickF rfl rfl rfl rfl aK3b) rfl ?_
     refine VO.val rfl rfl (OpV.pickF rfl rfl rfl rfl aK2b) ?_
     refine VO.nil ?_
     refine VC.condF rfl rfl ?_
     refine VC.skip ?_
     refine VC.region ?_
     refine VO.val rfl rfl (OpV.add rfl rfl rfl (by unfold fits; omega)) ?_
     refine VO.mv rfl rfl rfl rfl ?_
     refine VO.nil ?_
     exact Exists.intro (⟨q + 1, by omega⟩) (And.intro (Le.mk hB [] ⟨(by dsimp only; first | (rw [vic_has h1]; rfl) | (rw [vic_new h1 (.inl (by assumption))]; rfl) | (rw [vic_new h1 (.inr ⟨by assumption, not_true_false h2b⟩)]; rfl) | (rw [vic_old (s := s) (parts := parts) (later := later) (q := q) h1 (by rintro (h8 | ⟨h8, h9⟩); exact absurd h8 (by omega); exact absurd (h9.symm.trans (not_false_true h2b)) Bool.false_ne_true)]; rfl) | (rw [vic_old (s := s) (parts := parts) (later := later) (q := q) h1 (by rintro (h8 | ⟨h8, h9⟩); omega; omega)]; rfl)), (by dsimp only; first | (rw [vic_has h1]; rfl) | (rw [vic_new h1 (.inl (by assumption))]; rfl) | (rw [vic_new h1 (.inr ⟨by assumption, not_true_false h2b⟩)]; rfl) | (rw [vic_old (s := s) (parts := parts) (later := later) (q := q) h1 (by rintro (h8 | ⟨h8, h9⟩); exact absurd h8 (by omega); exact absurd (h9.symm.trans (not_false_true h2b)) Bool.false_ne_true)]; rfl) | (rw [vic_old (s := s) (parts := parts) (later := later) (q := q) h1 (by rintro (h8 | ⟨h8, h9⟩); omega; omega)]; rfl)), rfl, rfl, rfl, rfl, rfl, rfl, trivial⟩ rfl rfl (Nat.le_refl _)) (by first | omega | (show _ < _; omega) | (simp only []; omega)))
   ·replace aK2b : _ = true := aK2b
    have aK2 := aK2b
    try simp only [qqT, qqF, qqN, qqM, qqL, qqE] at aK2
    refine VO.opX rfl rfl rfl rfl aK2b ?_
    refine VO.opX rfl rfl rfl rfl aK2b ?_
    refine VO.opX rfl rfl rfl rfl aK2b ?_
    refine VO.opU rfl rfl rfl rfl ?_
    refine VO.opU rfl rfl rfl rfl ?_
    refine VO.opU rfl rfl rfl rfl ?_
    refine VO.opU rfl rfl rfl rfl ?_
    refine VO.opU rfl rfl rfl rfl ?_
    refine VO.opU rfl rfl rfl rfl ?_
    refine VO.opX rfl rfl rfl rfl aK2b ?_
    refine VO.val rfl rfl (OpV.pickT rfl rfl rfl rfl aK2b) ?_
    refine VO.nil ?_
    refine VC.condT rfl rfl ?_
    refine VC.region ?_
    refine VO.mv rfl rfl rfl rfl ?_
    refine VO.mv rfl rfl rfl rfl ?_
    refine VO.ma rfl rfl rfl rfl ?_
    refine VO.ma rfl rfl rfl rfl ?_
    refine VO.nil ?_
    refine VC.region ?_
    refine VO.val rfl rfl (OpV.add rfl rfl rfl (by unfold fits; omega)) ?_
    refine VO.mv rfl rfl rfl rfl ?_
    refine VO.nil ?_
    exact Exists.intro (⟨q + 1, by omega⟩) (And.intro (Le.mk hB [] ⟨(by dsimp only; first | (rw [vic_has h1]; rfl) | (rw [vic_new h1 (.inl (by assumption))]; rfl) | (rw [vic_new h1 (.inr ⟨by assumption, not_true_false h2b⟩)]; rfl) | (rw [vic_old (s := s) (parts := parts) (later := later) (q := q) h1 (by rintro (h8 | ⟨h8, h9⟩); exact absurd h8 (by omega); exact absurd (h9.symm.trans (not_false_true h2b)) Bool.false_ne_true)]; rfl) | (rw [vic_old (s := s) (parts := parts) (later := later) (q := q) h1 (by rintro (h8 | ⟨h8, h9⟩); omega; omega)]; rfl)), (by dsimp only; first | (rw [vic_has h1]; rfl) | (rw [vic_new h1 (.inl (by assumption))]; rfl) | (rw [vic_new h1 (.inr ⟨by assumption, not_true_false h2b⟩)]; rfl) | (rw [vic_old (s := s) (parts := parts) (later := later) (q := q) h1 (by rintro (h8 | ⟨h8, h9⟩); exact absurd h8 (by omega); exact absurd (h9.symm.trans (not_false_true h2b)) Bool.false_ne_true)]; rfl) | (rw [vic_old (s := s) (parts := parts) (later := later) (q := q) h1 (by rintro (h8 | ⟨h8, h9⟩); omega; omega)]; rfl)), rfl, rfl, rfl, rfl, rfl, rfl, trivial⟩ rfl rfl (Nat.le_refl _)) (by first | omega | (show _ < _; omega) | (simp only []; omega)))
 ·have aH1 := aH1b
  try simp only [qqT, qqF, qqN, qqM, qqL, qqE] at aH1
  refine VC.exit ?_
  refine VC.sr ?_
  refine VO.mv rfl rfl rfl rfl ?_
  refine VO.ma rfl rfl rfl rfl ?_
  refine VO.nil ?_
  refine VC.ret ?_
  exact Exists.intro _ (And.intro (RetN.one Tryz.results128 (ResN.v rfl)) (by rw [show q = s.length by omega]))
end Go.Proofs.YtbbgjeiefmiblaaGreatDoor
namespace Go.Proofs.YtbbgjeiefmiblaaGreatDoor
open Go.RowKit
set_option linter.unusedVariables false
set_option linter.unusedSimpArgs false
set_option maxRecDepth 100000 in
theorem setup_next {s parts : List ByteArray} {later : List (List ByteArray)} {u : Value} (hg : Good' s) (hp : RightP s.length parts) (hl : SmSS later) :
  SpecH Tryz.prog 85 [.v u, avStrs parts, avM later] [.row u s.length 1 (strsL s) 9] (fun y hp' => y = avI (missF s parts).length ∧ hp' = [.row u s.length 1 (strsL (nextF s parts later)) 9]) := by
 have hls := hg.len
 have hlp := hp.len
 have hps := hp.sms (by omega)
 have hml := missF_len s parts
 have hf := hp.fits hg.once
 have hnd := missF_nodup (s := s) hf.pnd
 have hns : ∀ x ∈ missF s parts, x ∉ s := fun x hx => (missF_mem.1 hx).2
 refine SpecH.of_VC Tryz.func85 rfl Tryz.ntmps85 (Nle rfl) fun w A hB => ?_
 have hnew : True := trivial
 refine VC.sr ?_
 refine VO.ma rfl rfl rfl rfl ?_
 refine VO.nil ?_
 refine VC.sr ?_
 refine VO.mv rfl rfl rfl rfl ?_
 refine VO.mv rfl rfl rfl rfl ?_
 refine VO.op rfl (OpE.callL rfl hB rfl Tryz.call87 (setup_missing_N hg.sms hps) (ArgsP.cons (ArgP.rowS (i := 0) rfl rfl rfl) (ArgsP.cons (ArgP.ev rfl) (ArgsP.nil))) ?_)
 rintro _ rfl
 refine VO.ma rfl rfl rfl rfl ?_
 refine VO.nil ?_
 refine VC.seq ?_
 refine VC.sr ?_
 refine VO.mv rfl rfl rfl rfl ?_
 refine VO.val rfl rfl (OpV.len_im rfl Tryz.underlying29 rfl) ?_
 refine VO.mv rfl rfl rfl rfl ?_
 refine VO.nil ?_
 refine VC.block ?_
 refine VC.loopK [(0, _), (1, _), (2, _), (7, _), (14, _), (15, _)] ⟨rfl, rfl, rfl, rfl, rfl, rfl, trivial⟩ ({q : Nat // q ≤ (missF s parts).length}) (fun (iZ : {q : Nat // q ≤ (missF s parts).length}) => match iZ with | ⟨q, hq⟩ => [(16, avI (q : Int))]) (fun (iZ : {q : Nat // q ≤ (missF s parts).length}) => match iZ with | ⟨q, hq⟩ => [.row u s.length 1 (strsL (nextL parts later s ((missF s parts).take q))) 9]) (fun (iZ : {q : Nat // q ≤ (missF s parts).length}) => match iZ with | ⟨q, hq⟩ => 0) (fun (iZ : {q : Nat // q ≤ (missF s parts).length}) => match iZ with | ⟨q, hq⟩ => (missF s parts).length - q) ⟨0, Nat.zero_le _⟩ (Le.mk hB [0] ⟨rfl, rfl, rfl, rfl, rfl, rfl, rfl, trivial⟩ rfl rfl (Nat.le_refl _)) ?_
 rintro ⟨q, hq⟩
 show VC _ _ _ _ ⟨[(16, avI (q : Int))] ++ [(0, _), (1, _), (2, _), (7, _), (14, _), (15, _)], [.row u s.length 1 (strsL (nextL parts later s ((missF s parts).take q))) 9], 0⟩
 refine VC.sr ?_
 refine VO.val rfl rfl (OpV.lss rfl rfl rfl) ?_
 refine VO.nil ?_
 refine VC.seq ?_
 refine VC.cond rfl (fun aH1b => ?_) (fun aH1b => ?_)
 ·have aH1 := aH1b
  try simp only [qqT, qqF, qqN, qqM, qqL, qqE] at aH1
  have hq' : q < (missF s parts).length := by omega
  have hcur := hg.next hp later q (by omega)
  have hcl : (nextL parts later s ((missF s parts).take q)).length = s.length := nextL_len _ _ _ _
  have hx := nextL_not (parts := parts) (later := later) hnd hns hq'
  have hxp : (missF s parts).getD q ByteArray.empty ∈ parts := (missF_mem.1 (by simp [hq'] : (missF s parts).getD q ByteArray.empty ∈ missF s parts)).1
  obtain ⟨k1, k2, k3⟩ := slotF_in (later := later) (nextL_fits (later := later) hf hnd hns q (by omega)) hxp hx
  rw [hcl] at k2
  refine VC.asBox (i := 0) rfl (by omega) (fun g cap hu hcap hmx => ?_)
  subst hu
  refine VC.skip ?_
  refine VC.seq ?_
  refine VC.block ?_
  refine VC.sr ?_
  refine VO.val rfl rfl (OpV.indexAddr_1 rfl Tryz.underlying29 Tryz.sizeOf9 rfl rfl rfl (by omega)) ?_
  refine VO.val rfl rfl (OpV.load_at rfl hB OutW.no Tryz.isAgg9 rfl rfl) ?_
  refine VO.ma rfl rfl rfl rfl ?_
  refine VO.nil ?_
  refine VC.sr ?_
  refine VO.mv rfl rfl rfl rfl ?_
  refine VO.op rfl (OpE.callL rfl hB rfl Tryz.call109 (slices_Index_str (by rw [hcl]; omega)) (ArgsP.cons (ArgP.boxS (i := 0) rfl rfl hcl.symm hcap hmx) (ArgsP.cons (ArgP.ev rfl) (ArgsP.nil))) ?_)
  rintro _ rfl
  refine VO.ma rfl rfl rfl rfl ?_
  refine VO.nil ?_
  refine VC.seq ?_
  refine VC.sr ?_
  refine VO.mv rfl rfl rfl rfl ?_
  refine VO.val rfl rfl (OpV.lss rfl rfl rfl) ?_
  refine VO.nil ?_
  refine VC.cond rfl (fun h1b => ?_) (fun h1b => ?_)
  ·have h1 := h1b
   try simp only [qqT, qqF, qqN, qqM, qqL, qqE] at h1
   have hsl := slotF_of_neg (parts := parts) (later := later) h1
   rw [hsl] at k1 k2 k3
   refine VC.region ?_
   refine VO.mv rfl rfl rfl rfl ?_
   refine VO.mv rfl rfl rfl rfl ?_
   refine VO.mv rfl rfl rfl rfl ?_
   refine VO.op rfl (OpE.callL rfl hB rfl Tryz.call128 (setup_victim (by rw [hcl]; omega) hps.1 hl) (ArgsP.cons (ArgP.boxS (i := 0) rfl rfl hcl.symm hcap hmx) (ArgsP.cons (ArgP.ev rfl) (ArgsP.cons (ArgP.ev rfl) (ArgsP.nil)))) ?_)
   rintro _ rfl
   refine VO.ma rfl rfl rfl rfl ?_
   refine VO.nil ?_
   refine VC.region ?_
   refine VO.mv rfl rfl rfl rfl ?_
   refine VO.mv rfl rfl rfl rfl ?_
   refine VO.mv rfl rfl rfl rfl ?_
   refine VO.val rfl rfl (OpV.indexAddr_o rfl Tryz.underlying29 Tryz.sizeOf9 rfl rfl (Int.toNat_of_nonneg k1).symm (by omega)) ?_
   refine VO.op rfl (OpE.store1 (i := 0) rfl hB rfl Tryz.sizeOf9 rfl rfl rfl rfl rfl rfl (by rw [strsL_len]; omega) (strsL_set _ _ _) trivial ?_)
   refine VO.nil ?_
   refine VC.le _ (Le.boxRow (i := 0) (n := s.length) (sz := 1) (cap := cap) rfl (by rw [strsL_len, List.length_set]; omega) hcap hmx) ?_
   have e1 := nextL_take_succ (parts := parts) (later := later) (s := s) hq'
   rw [hsl] at e1
   refine VC.region ?_
   refine VO.val rfl rfl (OpV.add rfl rfl rfl (by unfold fits; omega)) ?_
   refine VO.mv rfl rfl rfl rfl ?_
   refine VO.nil ?_
   exact Exists.intro (⟨q + 1, by omega⟩) (And.intro (Le.mk hB [0] ⟨rfl, rfl, rfl, rfl, rfl, rfl, rfl, trivial⟩ rfl (by dsimp only; rw [e1]; first | rfl | (rw [hcl]; rfl)) (Nat.le_refl _)) (by first | omega | (show _ < _; omega) | (simp only []; omega)))
  ·have h1 := h1b
   try simp only [qqT, qqF, qqN, qqM, qqL, qqE] at h1
   have hsl := slotF_of_pos (parts := parts) (later := later) h1
   rw [hsl] at k1 k2 k3
   refine VC.skip ?_
   refine VC.region ?_
   refine VO.mv rfl rfl rfl rfl ?_
   refine VO.mv rfl rfl rfl rfl ?_
   refine VO.mv rfl rfl rfl rfl ?_
   refine VO.val rfl rfl (OpV.indexAddr_o rfl Tryz.underlying29 Tryz.sizeOf9 rfl rfl (Int.toNat_of_nonneg k1).symm (by omega)) ?_
   refine VO.op rfl (OpE.store1 (i := 0) rfl hB rfl Tryz.sizeOf9 rfl rfl rfl rfl rfl rfl (by rw [strsL_len]; omega) (strsL_set _ _ _) trivial ?_)
   refine VO.nil ?_
   refine VC.le _ (Le.boxRow (i := 0) (n := s.length) (sz := 1) (cap := cap) rfl (by rw [strsL_len, List.length_set]; omega) hcap hmx) ?_
   have e1 := nextL_take_succ (parts := parts) (later := later) (s := s) hq'
   rw [hsl] at e1
   refine VC.region ?_
   refine VO.val rfl rfl (OpV.add rfl rfl rfl (by unfold fits; omega)) ?_
   refine VO.mv rfl rfl rfl rfl ?_
   refine VO.nil ?_
   exact Exists.intro (⟨q + 1, by omega⟩) (And.intro (Le.mk hB [0] ⟨rfl, rfl, rfl, rfl, rfl, rfl, rfl, trivial⟩ rfl (by dsimp only; rw [e1]; first | rfl | (rw [hcl]; rfl)) (Nat.le_refl _)) (by first | omega | (show _ < _; omega) | (simp only []; omega)))
 ·have aH1 := aH1b
  try simp only [qqT, qqF, qqN, qqM, qqL, qqE] at aH1
  obtain rfl : q = (missF s parts).length := by omega
  refine VC.exit ?_
  refine VC.sr ?_
  refine VO.mv rfl rfl rfl rfl ?_
  refine VO.val rfl rfl (OpV.len_im rfl Tryz.underlying29 rfl) ?_
  refine VO.ma rfl rfl rfl rfl ?_
  refine VO.nil ?_
  refine VC.ret ?_
  exact Exists.intro _ (And.intro (RetV.one Tryz.results85 (ResV.tmp rfl)) (⟨rfl, by rw [nextF, List.take_length]; rfl⟩))
theorem SmSS.drop {p : List (List ByteArray)} (h : SmSS p) (k : Nat) : SmSS (p.drop k) := ⟨by have := h.1; simp; omega, fun i => by
 have : (p.drop k).getD i default = p.getD (k + i) default := by simp [List.getD_eq_getElem?_getD]
 rw [this]; exact h.2 _⟩
theorem SmSS.take {p : List (List ByteArray)} (h : SmSS p) (k : Nat) : SmSS (p.take k) := ⟨by have := h.1; simp; omega, fun i => by
 by_cases hi : i < k
 ·have : (p.take k).getD i default = p.getD i default := by simp [List.getD_eq_getElem?_getD, List.getElem?_take, hi]
  rw [this]; exact h.2 _
 ·have : (p.take k).getD i default = default := by simp [List.getD_eq_getElem?_getD, List.getElem?_take, hi]
  rw [this]; exact SmS.nil⟩
set_option maxRecDepth 100000 in
theorem setup_total {s : List ByteArray} {p : List (List ByteArray)} {most : Int} (hg : Good' s) (hp : ∀ q, q < p.length → RightP s.length (p.getD q default)) (hl : SmSS p) (hl2 : p.length ≤ 200) (hmost : -1000000 ≤ most ∧ most ≤ 1000000) :
  SpecN Tryz.prog 90 [avStrs s, avM p, avI most] (fun y => y = avI (totalF s p most)) := by
 have hls := hg.len
 refine SpecN.of_VCN Tryz.func90 rfl Tryz.ntmps90 (Nle rfl) fun w A hB => ?_
 have hnew : True := trivial
 refine VC.sr ?_
 refine VO.ma rfl rfl rfl rfl ?_
 refine VO.nil ?_
 refine VC.sr ?_
 refine VO.mv rfl rfl rfl rfl ?_
 refine VO.op rfl (OpE.callR rfl hB rfl Tryz.call52 (slices_CloneS_R (by omega)) (ArgsP.cons (ArgP.ev rfl) (ArgsP.nil)) ?_)
 intro u
 refine VO.ma rfl rfl rfl rfl ?_
 refine VO.nil ?_
 refine VC.sr ?_
 refine VO.ma rfl rfl rfl rfl ?_
 refine VO.nil ?_
 refine VC.seq ?_
 refine VC.sr ?_
 refine VO.mv rfl rfl rfl rfl ?_
 refine VO.val rfl rfl (OpV.len_im rfl Tryz.underlying27 rfl) ?_
 refine VO.mv rfl rfl rfl rfl ?_
 refine VO.nil ?_
 refine VC.block ?_
 refine VC.loopK [(0, _), (1, _), (2, _), (12, _), (13, _)] ⟨rfl, rfl, rfl, rfl, rfl, trivial⟩ ({q : Nat // q ≤ p.length ∧ (q = 0 ∨ totF s p q < most)}) (fun (iZ : {q : Nat // q ≤ p.length ∧ (q = 0 ∨ totF s p q < most)}) => match iZ with | ⟨q, hq, hlt⟩ => [(7, avI (totF s p q)), (14, avI (q : Int))]) (fun (iZ : {q : Nat // q ≤ p.length ∧ (q = 0 ∨ totF s p q < most)}) => match iZ with | ⟨q, hq, hlt⟩ => [.row u (stF s p q).length 1 (strsL (stF s p q)) 9]) (fun (iZ : {q : Nat // q ≤ p.length ∧ (q = 0 ∨ totF s p q < most)}) => match iZ with | ⟨q, hq, hlt⟩ => 0) (fun (iZ : {q : Nat // q ≤ p.length ∧ (q = 0 ∨ totF s p q < most)}) => match iZ with | ⟨q, hq, hlt⟩ => p.length - q) ⟨0, Nat.zero_le _, .inl rfl⟩ (Le.mk hB [0] ⟨rfl, rfl, rfl, rfl, rfl, rfl, rfl, trivial⟩ rfl rfl (Nat.le_refl _)) ?_
 rintro ⟨q, hq, hlt⟩
 show VC _ _ _ _ ⟨[(7, avI (totF s p q)), (14, avI (q : Int))] ++ [(0, _), (1, _), (2, _), (12, _), (13, _)], [.row u (stF s p q).length 1 (strsL (stF s p q)) 9], 0⟩
 refine VC.sr ?_
 refine VO.val rfl rfl (OpV.lss rfl rfl rfl) ?_
 refine VO.nil ?_
 refine VC.seq ?_
 refine VC.cond rfl (fun aH1b => ?_) (fun aH1b => ?_)
 ·have aH1 := aH1b
  try simp only [qqT, qqF, qqN, qqM, qqL, qqE] at aH1
  have hst := stF_good hg hp q (by omega)
  have hsl := stF_len s p q
  have hti := totF_in hls hp q (by omega)
  have hms := missF_len (stF s p q) (p.getD q default)
  have hpl := (hp q (by omega)).len
  refine VC.skip ?_
  refine VC.seq ?_
  refine VC.block ?_
  refine VC.sr ?_
  refine VO.mv rfl rfl rfl rfl ?_
  refine VO.val rfl rfl (OpV.indexAddr_1 rfl Tryz.underlying27 Tryz.sizeOf29 rfl rfl rfl (by omega)) ?_
  refine VO.val rfl rfl (OpV.load_at rfl hB OutW.no Tryz.isAgg29 rfl rfl) ?_
  refine VO.ma rfl rfl rfl rfl ?_
  refine VO.ma rfl rfl rfl rfl ?_
  refine VO.nil ?_
  refine VC.sr ?_
  refine VO.mv rfl rfl rfl rfl ?_
  refine VO.mv rfl rfl rfl rfl ?_
  refine VO.mv rfl rfl rfl rfl ?_
  refine VO.mv rfl rfl rfl rfl ?_
  refine VO.mv rfl rfl rfl rfl ?_
  refine VO.val rfl rfl (OpV.add rfl rfl rfl (by unfold fits; omega)) ?_
  refine VO.val rfl rfl (OpV.slice_M (l := q + 1) rfl Tryz.underlying27 Tryz.sizeOf29 rfl ⟨_, _, rfl, (by omega)⟩ rfl (by omega) (by omega)) ?_
  refine VO.op rfl (OpE.callH0 rfl hB rfl Tryz.call85 rfl rfl (setup_next hst (by rw [hsl]; exact hp q (by omega)) ((hl.take _).drop _)) (List.Perm.refl _) (fun _ _ => trivial) ?_)
  rintro _ _ ⟨rfl, rfl⟩
  refine VO.val rfl rfl (OpV.add rfl rfl rfl (by unfold fits; omega)) ?_
  refine VO.ma rfl rfl rfl rfl ?_
  refine VO.nil ?_
  refine VC.sr ?_
  refine VO.mv rfl rfl rfl rfl ?_
  refine VO.mv rfl rfl rfl rfl ?_
  refine VO.val rfl rfl (OpV.geq rfl rfl rfl) ?_
  refine VO.nil ?_
  refine VC.cond rfl (fun h1b => ?_) (fun h1b => ?_)
  ·have h1 := h1b
   try simp only [qqT, qqF, qqN, qqM, qqL, qqE] at h1
   have hmono := totF_mono (s := s) (p := p) (a := q + 1) (b := p.length) (by omega)
   have h1' : most ≤ totF s p (q + 1) := h1
   refine VC.sr ?_
   refine VO.mv rfl rfl rfl rfl ?_
   refine VO.ma rfl rfl rfl rfl ?_
   refine VO.nil ?_
   refine VC.ret ?_
   exact Exists.intro _ (And.intro (RetN.one Tryz.results90 (ResN.v rfl)) (by rw [totalF, if_neg (by omega), if_pos (by omega)]))
  ·have h1 := h1b
   try simp only [qqT, qqF, qqN, qqM, qqL, qqE] at h1
   refine VC.skip ?_
   refine VC.region ?_
   refine VO.val rfl rfl (OpV.add rfl rfl rfl (by unfold fits; omega)) ?_
   refine VO.mv rfl rfl rfl rfl ?_
   refine VO.nil ?_
   exact Exists.intro (⟨q + 1, by omega, .inr h1⟩) (And.intro (Le.mk hB [0] ⟨rfl, rfl, rfl, rfl, rfl, rfl, rfl, trivial⟩ rfl (by dsimp only; rw [List.take_length, show (stF s p (q + 1)).length = (stF s p q).length by rw [stF_len, stF_len]]; rfl) (Nat.le_refl _)) (by first | omega | (show _ < _; omega) | (simp only []; omega)))
 ·have aH1 := aH1b
  try simp only [qqT, qqF, qqN, qqM, qqL, qqE] at aH1
  obtain rfl : q = p.length := by omega
  refine VC.exit ?_
  refine VC.sr ?_
  refine VO.mv rfl rfl rfl rfl ?_
  refine VO.ma rfl rfl rfl rfl ?_
  refine VO.nil ?_
  refine VC.ret ?_
  exact Exists.intro _ (And.intro (RetN.one Tryz.results90 (ResN.v rfl)) (by rw [totalF]; split; (rw [show p.length = 0 by assumption]; rfl); rw [if_neg (by omega)]))
def totE (s : List ByteArray) (p : List (List ByteArray)) : Int := if setsF s p = 0 then totF s p p.length else 0
theorem setsF_zero {s : List ByteArray} {p : List (List ByteArray)} (h : setsF s p = 0) : setupF s = 0 ∧ Good' s ∧ p.length ≤ 200 ∧ (∀ q, q < p.length → RightP s.length (p.getD q default)) ∧ partsF s.length p = 0 := by
 rw [setsF] at h
 split at h
 ·rename_i h1; exact absurd h h1
 ·rename_i h1
  have h0 : setupF s = 0 := by omega
  exact ⟨h0, Good'.of h0, (partsF_zero h).2.1, fun q hq => RightP.of rfl h hq, h⟩
theorem totalF_big {s : List ByteArray} {p : List (List ByteArray)} (hs : s.length ≤ 100) (hl : p.length ≤ 200) (hp : ∀ q, q < p.length → RightP s.length (p.getD q default)) : totalF s p 20001 = totF s p p.length := by
 have := totF_in hs hp p.length (Nat.le_refl _)
 rw [totalF]
 split
 ·rename_i h; rw [h]; rfl
 ·rw [if_neg (by omega)]
set_option maxRecDepth 100000 in
theorem setup_Total {s : List ByteArray} {p : List (List ByteArray)} (hs : SmS s) (hl : SmSS p) :
  SpecN Tryz.prog 82 [avStrs s, avM p] (fun y => y = .tup [avI (totE s p), avI (setsF s p)]) := by
 refine SpecN.of_VCN Tryz.func82 rfl Tryz.ntmps82 (Nle rfl) fun w A hB => ?_
 have hnew : True := trivial
 refine VC.sr ?_
 refine VO.ma rfl rfl rfl rfl ?_
 refine VO.ma rfl rfl rfl rfl ?_
 refine VO.nil ?_
 refine VC.seq ?_
 refine VC.sr ?_
 refine VO.mv rfl rfl rfl rfl ?_
 refine VO.mv rfl rfl rfl rfl ?_
 refine VO.op rfl (OpE.call rfl hB rfl Tryz.call86 rfl (SpecN.spec (setup_fault hs hl)) ?_)
 rintro _ rfl
 refine VO.ma rfl rfl rfl rfl ?_
 refine VO.nil ?_
 refine VC.sr ?_
 refine VO.mv rfl rfl rfl rfl ?_
 refine VO.val rfl rfl (OpV.neq rfl rfl rfl) ?_
 refine VO.nil ?_
 refine VC.cond rfl (fun h0b => ?_) (fun h0b => ?_)
 ·have h0 := h0b
  try simp only [qqT, qqF, qqN, qqM, qqL, qqE] at h0
  refine VC.sr ?_
  refine VO.mv rfl rfl rfl rfl ?_
  refine VO.ma rfl rfl rfl rfl ?_
  refine VO.ma rfl rfl rfl rfl ?_
  refine VO.nil ?_
  refine VC.ret ?_
  exact Exists.intro _ (And.intro (RetN.two Tryz.results82 (ResN.v rfl) (ResN.v rfl)) (by rw [totE, if_neg h0]))
 ·have h0 := h0b
  try simp only [qqT, qqF, qqN, qqM, qqL, qqE] at h0
  obtain ⟨z1, z2, z3, z4, z5⟩ := setsF_zero (s := s) (p := p) (by omega)
  refine VC.skip ?_
  refine VC.sr ?_
  refine VO.mv rfl rfl rfl rfl ?_
  refine VO.mv rfl rfl rfl rfl ?_
  refine VO.op rfl (OpE.call rfl hB rfl Tryz.call90 rfl (SpecN.spec (setup_total z2 z4 hl z3 (by decide))) ?_)
  rintro _ rfl
  refine VO.ma rfl rfl rfl rfl ?_
  refine VO.ma rfl rfl rfl rfl ?_
  refine VO.nil ?_
  refine VC.ret ?_
  exact Exists.intro _ (And.intro (RetN.two Tryz.results82 (ResN.v rfl) (ResN.v rfl)) (by rw [totE, if_pos (by omega), totalF_big z2.len z3 z4, show setsF s p = 0 by omega]))
end Go.Proofs.YtbbgjeiefmiblaaGreatDoor
namespace Go.Proofs.YtbbgjeiefmiblaaGreatDoor
open Go.RowKit
set_option linter.unusedVariables false
set_option linter.unusedSimpArgs false
def loadS : List ByteArray := [ε]
def loadP : List (List ByteArray) := [[⟨#[97]⟩], [⟨#[98]⟩]]
theorem load_sms : SmS loadS := ⟨by decide, fun i => by cases i with | zero => decide | succ i => simp [loadS]⟩
theorem load_smss : SmSS loadP := ⟨by decide, fun i => by
 match i with
 | 0 => exact ⟨by decide, fun i => by cases i with | zero => decide | succ i => simp [loadP]⟩
 | 1 => exact ⟨by decide, fun i => by cases i with | zero => decide | succ i => simp [loadP]⟩
 | i + 2 => exact SmS.nil⟩
theorem load_ok : setsF loadS loadP = 0 := by decide +kernel
theorem load_two : totE loadS loadP = 2 := by decide +kernel
set_option maxRecDepth 100000 in
theorem rf_loaded   :
  SpecN Tryz.prog 27 [] (fun y => y = avB true) := by
 refine SpecN.of_VCN Tryz.func27 rfl Tryz.ntmps27 (Nle rfl) fun w A hB => ?_
 have hnew : True := trivial
 refine VC.sr ?_
 refine VO.ma rfl rfl rfl rfl ?_
 refine VO.nil ?_
 refine VC.sr ?_
 refine VO.op rfl (OpE.buildSlice (zc := #[.string ⟨#[]⟩]) rfl hB rfl Tryz.underlying29 Tryz.sizeOf9 Tryz.zeroValue9 (by decide) (by decide) (by kernel_rfl) rfl rfl ?_)
 refine VO.le _ (Le.recast (t := 4) (y := avStrs loadS) rfl (fun w Z u h => Rep.strs (xs := loadS) rfl h)) ?_
 refine VO.op rfl (OpE.buildSlice (zc := #[.string ⟨#[]⟩]) rfl hB rfl Tryz.underlying29 Tryz.sizeOf9 Tryz.zeroValue9 (by decide) (by decide) (by kernel_rfl) rfl rfl ?_)
 refine VO.le _ (Le.recast (t := 5) (y := avStrs [⟨#[97]⟩]) rfl (fun w Z u h => Rep.strs (xs := [⟨#[97]⟩]) rfl h)) ?_
 refine VO.op rfl (OpE.buildSlice (zc := #[.string ⟨#[]⟩]) rfl hB rfl Tryz.underlying29 Tryz.sizeOf9 Tryz.zeroValue9 (by decide) (by decide) (by kernel_rfl) rfl rfl ?_)
 refine VO.le _ (Le.recast (t := 6) (y := avStrs [⟨#[98]⟩]) rfl (fun w Z u h => Rep.strs (xs := [⟨#[98]⟩]) rfl h)) ?_
 refine VO.op rfl (OpE.buildSlice (zc := #[.slice none 0 0, .slice none 0 0]) rfl hB rfl Tryz.underlying27 Tryz.sizeOf29 Tryz.zeroValue29 (by decide) (by decide) (by kernel_rfl) rfl rfl ?_)
 refine VO.le _ (Le.recast (t := 7) (y := avM loadP) rfl (fun w Z u h => Rep.listM (xs := loadP) rfl h)) ?_
 refine VO.op rfl (OpE.call rfl hB rfl Tryz.call82 rfl (SpecN.spec (setup_Total load_sms load_smss)) ?_)
 rintro _ rfl
 refine VO.mv rfl rfl rfl rfl ?_
 refine VO.val rfl rfl (OpV.extract rfl rfl rfl) ?_
 refine VO.val rfl rfl (OpV.extract rfl rfl rfl) ?_
 refine VO.ma rfl rfl rfl rfl ?_
 refine VO.ma rfl rfl rfl rfl ?_
 refine VO.nil ?_
 refine VC.sr ?_
 refine VO.mv rfl rfl rfl rfl ?_
 refine VO.val rfl rfl (OpV.eql rfl rfl rfl) ?_
 refine VO.mv rfl rfl rfl rfl ?_
 refine VO.opG rfl rfl rfl rfl (fun aK1b => ?_) (fun aK1b => ?_)
 ·replace aK1b : _ = true := aK1b
  have aK1 := aK1b
  try simp only [qqT, qqF, qqN, qqM, qqL, qqE] at aK1
  refine OpE.val (W := NoB) (OpV.move (.inl rfl) rfl) rfl ?_
  refine VO.opY rfl rfl rfl rfl aK1b ?_
  refine OpE.val (W := NoB) (OpV.eql rfl rfl rfl) rfl ?_
  refine VO.val rfl rfl (OpV.pickT rfl rfl rfl rfl aK1b) ?_
  refine VO.ma rfl rfl rfl rfl ?_
  refine VO.nil ?_
  refine VC.ret ?_
  exact Exists.intro _ (And.intro (RetN.one Tryz.results27 (ResN.v rfl)) (by first | rfl | (rw [load_two, load_ok]; rfl) | (simp_all [load_two, load_ok])))
 ·replace aK1b : _ = false := aK1b
  have aK1 := aK1b
  try simp only [qqT, qqF, qqN, qqM, qqL, qqE] at aK1
  refine VO.opX rfl rfl rfl rfl aK1b ?_
  refine VO.val rfl rfl (OpV.pickF rfl rfl rfl rfl aK1b) ?_
  refine VO.ma rfl rfl rfl rfl ?_
  refine VO.nil ?_
  refine VC.ret ?_
  exact Exists.intro _ (And.intro (RetN.one Tryz.results27 (ResN.v rfl)) (by first | rfl | (rw [load_two, load_ok]; rfl) | (simp_all [load_two, load_ok])))
end Go.Proofs.YtbbgjeiefmiblaaGreatDoor
namespace Go.Proofs.YtbbgjeiefmiblaaGreatDoor
open Go.RowKit
set_option linter.unusedVariables false
set_option linter.unusedSimpArgs false

theorem made_rep {z : Value} {n m : Nat} (hz : z.cells = #[z]) (hm : m = n) : (madeCells z.cells (m * 1)).toList.map AV.v = List.replicate n (.v z) := by
 subst hm
 rw [hz, Nat.mul_one, toList_madeCells_one]
 simp
end Go.Proofs.YtbbgjeiefmiblaaGreatDoor
namespace Go.Proofs.YtbbgjeiefmiblaaGreatDoor
open Go.RowKit
set_option linter.unusedVariables false
set_option linter.unusedSimpArgs false
theorem rf_GroupsOf1 {p : List (List ByteArray)} {slots many gp gm ga gs go gt : Nat} (hp : ∀ j, SmS (p.getD j default)) (hpl : p.length ≤ 10) (hpk : ∀ j, (p.getD j default).length ≤ 1000) (hsl : slots ≤ 1000) (hmn : many ≤ 10) : ∀ (d i used : Nat) (uA uO : Value) (us : List Value) (s : RefG), i + d = p.length → used ≤ 10 → ROk many i us s →
  SpecH Tryz.prog 71 [avI (i : Int), avI (used : Int), pt gp, pt gm, pt ga, pt gs, pt go, pt gt] (ownGR p slots many gp gm ga gs go gt uA uO us s) (fun y hp' => ∃ uA' uO' us', y = avB (tryR p slots many d i used s).isSome ∧ us'.length = many ∧ hp' = ownGR p slots many gp gm ga gs go gt uA' uO' us' ((tryR p slots many d i used s).getD s))
 | 0, i, used, uA, uO, us, s, h1, h2, h3 => rf_GroupsOf1_step hp hpl hpk hsl hmn h2 (fun d' e => by omega) h1 h3
 | d + 1, i, used, uA, uO, us, s, h1, h2, h3 => rf_GroupsOf1_step hp hpl hpk hsl hmn h2 (fun d' e used' uA uO us s k1 k2 => by obtain rfl : d = d' := (by omega); exact rf_GroupsOf1 hp hpl hpk hsl hmn d (i + 1) used' uA uO us s (by omega) k1 k2) h1 h3
section
variable {B : Bs} {s : St'}
theorem Le.nilRows : ∀ (q : Nat) (s : St'), Le B s ⟨s.sl, s.hp ++ rowsT (List.replicate q (.slice none 0 0)) (List.replicate q []), s.k⟩
 | 0, s => by rw [show s.hp ++ rowsT (List.replicate 0 (.slice none 0 0)) (List.replicate 0 []) = s.hp by simp [rowsT]]; exact Le.refl
 | q + 1, s => by
  refine (Le.nilRow 1 3).trans ((Le.nilRows q _).trans (Le.perm (List.Perm.of_eq ?_)))
  simp only [List.append_assoc]
  rfl
end
theorem ROk.start {many : Nat} {us : List Value} {s : RefG} (hu : us.length = many) (ha : s.all = List.replicate many []) (ho : s.out = List.replicate many []) : ROk many 0 us s := by
 refine ⟨by rw [ha, List.length_replicate], by rw [ho, List.length_replicate], hu, fun j => ?_, fun j => ?_⟩
 ·have e : s.all.getD j default = [] := by
   rw [ha, List.getD_eq_getElem?_getD, List.getElem?_replicate]; split <;> rfl
  rw [e]; exact ⟨SmS.nil, Nat.zero_le _⟩
 ·have e : s.out.getD j default = [] := by
   rw [ho, List.getD_eq_getElem?_getD, List.getElem?_replicate]; split <;> rfl
  rw [e]; exact Nat.le_refl _
theorem refG_nil (many : Nat) : (refG many ⟨[], []⟩).all = List.replicate many [] ∧ (refG many ⟨[], []⟩).out = List.replicate many [] := ⟨rfl, rfl⟩
theorem rf_GroupsOf0 {p : List (List ByteArray)} {slots many gp gm ga gs go gt : Nat} {uA uO : Value} {us : List Value} {s0 : RefG} {r : Option RefG} (hp : ∀ j, SmS (p.getD j default)) (hpl : p.length ≤ 10) (hpk : ∀ j, (p.getD j default).length ≤ 1000) (hsl : slots ≤ 1000) (hmn : many ≤ 10) (hu : us.length = many) (hs0 : s0 = refG many ⟨[], []⟩) (hr : tryR p slots many p.length 0 0 s0 = r) :
  SpecH Tryz.prog 71 [avI 0, avI 0, pt gp, pt gm, pt ga, pt gs, pt go, pt gt] (ownGR p slots many gp gm ga gs go gt uA uO us s0) (fun y hp' => ∃ uA' uO' us', y = avB r.isSome ∧ us'.length = many ∧ hp' = ownGR p slots many gp gm ga gs go gt uA' uO' us' (r.getD s0)) := by
 subst hr
 exact rf_GroupsOf1 hp hpl hpk hsl hmn p.length 0 0 uA uO us s0 (Nat.zero_add _) (Nat.zero_le _) (ROk.start hu (by rw [hs0]; exact (refG_nil many).1) (by rw [hs0]; exact (refG_nil many).2))
theorem Le.boxRowG {B : Bs} {s : St'} {i g n : Nat} {cs : List AV} {ty : TypeId} (hi : s.hp[i]? = some (.box g ⟨cs, ty, n⟩)) (hl : cs.length = n) (hm : n ≤ maxLen) : Le B s ⟨s.sl, s.hp.set i (.row (.slice (some ⟨g, 0, none⟩) n n) n 1 cs ty), s.k⟩ :=
 Le.boxRow (i := i) (n := n) (sz := 1) (cap := n) (by rw [Nat.mul_one]; exact hi) (by rw [hl, Nat.mul_one]) (Nat.le_refl _) hm
abbrev own8 (p : List (List ByteArray)) (slots q gp gm ga gs go gt gA gO : Nat) : List Ent :=
 [.box gp ⟨[avM p], 27, 1⟩, .box gm ⟨[avI (q : Int)], 3, 1⟩, .box ga ⟨[.v (.slice (some ⟨gA, 0, none⟩) q q)], 27, 1⟩, .box gs ⟨[avI (slots : Int)], 3, 1⟩,
  .box go ⟨[.v (.slice (some ⟨gO, 0, none⟩) q q)], 35, 1⟩, .box gt ⟨[tryGV gp gm ga gs go gt], 110, 1⟩, .row (.slice (some ⟨gA, 0, none⟩) q q) q 1 (listM (List.replicate q ([] : List ByteArray))) 29, .row (.slice (some ⟨gO, 0, none⟩) q q) q 1 ((List.replicate q (.slice none 0 0)).map AV.v) 22]
theorem ownGR_start {p : List (List ByteArray)} {slots q gp gm ga gs go gt : Nat} {uA uO : Value} {s0 : RefG} (ha : s0.all = List.replicate q []) (ho : s0.out = List.replicate q []) :
  .box gp ⟨[avM p], 27, 1⟩ :: .box gm ⟨[avI (q : Int)], 3, 1⟩ :: .box ga ⟨[.v uA], 27, 1⟩ :: .box gs ⟨[avI (slots : Int)], 3, 1⟩ ::
  .box go ⟨[.v uO], 35, 1⟩ :: .box gt ⟨[tryGV gp gm ga gs go gt], 110, 1⟩ :: .row uA q 1 (listM (List.replicate q ([] : List ByteArray))) 29 :: .row uO q 1 ((List.replicate q (.slice none 0 0)).map AV.v) 22 :: rowsT (List.replicate q (.slice none 0 0)) (List.replicate q []) = ownGR p slots q gp gm ga gs go gt uA uO (List.replicate q (.slice none 0 0)) s0 := by
 obtain ⟨a, o⟩ := s0
 simp only at ha ho
 subst ha; subst ho
 simp only [ownGR, List.length_replicate]
theorem own8_start {B : Bs} {s : St'} {p : List (List ByteArray)} {slots q gp gm ga gs go gt gA gO : Nat} {s0 : RefG} (h : s.hp = own8 p slots q gp gm ga gs go gt gA gO) (ha : s0.all = List.replicate q []) (ho : s0.out = List.replicate q []) :
  Le B s ⟨s.sl, ownGR p slots q gp gm ga gs go gt (.slice (some ⟨gA, 0, none⟩) q q) (.slice (some ⟨gO, 0, none⟩) q q) (List.replicate q (.slice none 0 0)) s0, s.k⟩ := by
 refine (Le.nilRows q s).trans (Le.perm (List.Perm.of_eq ?_))
 show s.hp ++ _ = _
 rw [h]
 exact ownGR_start ha ho
theorem opt_map_some {α β : Type} {r : Option β} {T : Option α} {F : α → β} (h : r = T.map F) (h1 : r.isSome = true) : ∃ g, T = some g ∧ r = some (F g) := by
 subst h
 cases T with
 | none => cases h1
 | some g => exact ⟨g, rfl, rfl⟩
theorem opt_map_none {α β : Type} {r : Option β} {T : Option α} {F : α → β} (h : r = T.map F) (h1 : r.isSome = false) : T = none := by
 subst h
 cases T with
 | none => rfl
 | some g => cases h1
theorem grOf_yes {p : List (List ByteArray)} {sN q : Nat} {r : Option RefG} {s0 : RefG} (hnd : ∀ i, i < p.length → (p.getD i default).Nodup) (hq : q ≤ p.length) (hqn : ∀ m, m < q → tryG p sN m p.length 0 ⟨[], []⟩ = none) (hra : r = (tryG p sN q p.length 0 ⟨[], []⟩).map (refG q)) (h1 : r.isSome = true) :
  (r.getD s0).out = grpLst sN p ∧ (r.getD s0).out.length = q := by
 obtain ⟨g, hg, hr⟩ := opt_map_some hra h1
 obtain ⟨x1, x2, x3⟩ := tryG_exact hnd hqn hg
 have e : (r.getD s0).out = g.groups := by rw [hr]; exact x3
 refine ⟨?_, by rw [e]; exact x2⟩
 rw [e]; unfold grpLst; rw [grpO_at hq hqn hg]; rfl
theorem own8_end {B : Bs} {s : St'} {p : List (List ByteArray)} {slots q gp gm ga gs go gt : Nat} {uA uO : Value} {us : List Value} {x : RefG} (hB : B.Ok) (h : s.hp = ownGR p slots q gp gm ga gs go gt uA uO us x) (hl : us.length = x.out.length) :
  Le B s ⟨s.sl, [.row uO x.out.length 1 (listM x.out) 22], s.k⟩ := by
 refine (Le.drop 7).trans ?_
 have e : (s.hp.drop 7) = .row uO x.out.length 1 (listM ([] : List (List Int)) ++ us.map .v) 22 :: (rowsT us x.out ++ []) := by rw [h, List.append_nil]; rfl
 exact Le.freezeRows hB us x.out [] ⟨s.sl, s.hp.drop 7, s.k⟩ hl e
theorem grOf_out {p : List (List ByteArray)} {sN : Nat} (hf : partsF (sN : Int) p = 0) (hl : p.length ≤ 10) : AV.tup [avM (grpLst sN p), avI 0] = AV.tup [avM (grpR (sN : Int) p), avI (grpE (sN : Int) p)] := by
 have h := grpE_3 (sN := sN) hf hl rfl
 rw [h.1, h.2]
theorem OpV.makeFuncG6 {P : Program} {B : Bs} {W : Nat → Prop} {s : St'} {o : Oper} {fn : Fn} {c1 c2 c3 c4 c5 c6 : Operand} {u1 u2 u3 u4 u5 u6 : Value} (ho : o.op = .makeFunc fn #[] #[c1, c2, c3, c4, c5, c6]) (h1 : evO s c1 = some (.v u1)) (h2 : evO s c2 = some (.v u2)) (h3 : evO s c3 = some (.v u3)) (h4 : evO s c4 = some (.v u4)) (h5 : evO s c5 = some (.v u5)) (h6 : evO s c6 = some (.v u6)) : OpV P B W s o (.v (.func fn #[] #[u1, u2, u3, u4, u5, u6])) :=
 OpV.makeFunc ho fun a w hr => by simp [hr.evv h1, hr.evv h2, hr.evv h3, hr.evv h4, hr.evv h5, hr.evv h6]
set_option maxRecDepth 100000 in
set_option maxHeartbeats 16000000 in
theorem rf_GroupsOf {slots : Int} {p : List (List ByteArray)} (hps : SmSS p) (hf : partsF slots p = 0) :
  Spec Tryz.prog 19 [avI slots, avM p] (fun y => y = .tup [avM (grpR slots p), avI (grpE slots p)]) := by
 obtain ⟨k1, k2, k3⟩ := partsF_zero hf
 obtain ⟨sN, hsN⟩ : ∃ sN : Nat, slots = sN := ⟨slots.toNat, by unfold outR at k1; simp at k1; omega⟩
 have hs100 : sN ≤ 100 := by unfold outR at k1; simp at k1; omega
 have hpr : ∀ i, i < p.length → RightP sN (p.getD i default) := fun i hi => RightP.of hsN hf hi
 have hnd : ∀ i, i < p.length → (p.getD i default).Nodup := fun i hi => sort_nodup (can_sort (hpr i hi).can)
 have hpk : ∀ j, (p.getD j default).length ≤ 1000 := fun j => by
  by_cases hj : j < p.length
  ·have := (hpr j hj).len; omega
  ·rw [List.getD_eq_getElem?_getD, List.getElem?_eq_none (by omega)]; exact Nat.zero_le _
 refine Spec.of_VC Tryz.func19 rfl Tryz.ntmps19 (Nle rfl) fun w A hB => ?_
 have hnew : True := trivial
 refine VC.sr ?_
 refine VO.op rfl (OpE.box rfl hB rfl rfl rfl ?_)
 intro gs
 refine VO.op rfl (OpE.box rfl hB rfl rfl rfl ?_)
 intro gp
 refine VO.ma rfl rfl rfl rfl ?_
 refine VO.ma rfl rfl rfl rfl ?_
 refine VO.nil ?_
 refine VC.seq ?_
 refine VC.sr ?_
 refine VO.val rfl rfl (OpV.load_own (i := 1) rfl hB Tryz.isAgg27 rfl rfl rfl (fun h => h)) ?_
 refine VO.val rfl rfl (OpV.len_im rfl Tryz.underlying27 rfl) ?_
 refine VO.val rfl rfl (OpV.gtr rfl rfl rfl) ?_
 refine VO.nil ?_
 refine VC.cond rfl (fun h0b => ?_) (fun h0b => ?_)
 ·have h0 := h0b
  try simp only [qqT, qqF, qqN, qqM, qqL, qqE] at h0
  refine VC.sr ?_
  refine VO.ma rfl rfl rfl rfl ?_
  refine VO.ma rfl rfl rfl rfl ?_
  refine VO.nil ?_
  refine VC.le _ (Le.recast (t := 4) (y := avM ([] : List (List Int))) rfl (fun w Z u h => by rw [h.eq_v]; exact .nil _ _)) ?_
  refine VC.ret ?_
  exact Exists.intro _ (And.intro (RetV.two Tryz.results19 (ResV.tmp rfl) (ResV.tmp rfl)) (by rw [(grpE_2 hf (by omega)).1, (grpE_2 hf (by omega)).2]))
 ·have h0 := h0b
  try simp only [qqT, qqF, qqN, qqM, qqL, qqE] at h0
  have hl10 : p.length ≤ 10 := by omega
  subst hsN
  refine VC.skip ?_
  refine VC.sr ?_
  refine VO.op rfl (OpE.alloc rfl hB rfl Tryz.zeroValue3 rfl ?_)
  intro g6
  refine VO.op rfl (OpE.store (i := 2) rfl hB rfl Tryz.sizeOf3 rfl rfl rfl rfl rfl rfl (Nle rfl) trivial ?_)
  refine VO.nil ?_
  refine VC.block ?_
  refine VC.loopK [(2, _), (3, _)] ⟨rfl, rfl, trivial⟩ ({z : Nat × Nat // z.2 ≤ p.length ∧ ∀ m, m < z.2 → tryG p sN m p.length 0 ⟨[], []⟩ = none}) (fun (iZ : {z : Nat × Nat // z.2 ≤ p.length ∧ ∀ m, m < z.2 → tryG p sN m p.length 0 ⟨[], []⟩ = none}) => match iZ with | ⟨⟨gm, q⟩, hq, hqn⟩ => [(6, pt gm)]) (fun (iZ : {z : Nat × Nat // z.2 ≤ p.length ∧ ∀ m, m < z.2 → tryG p sN m p.length 0 ⟨[], []⟩ = none}) => match iZ with | ⟨⟨gm, q⟩, hq, hqn⟩ => [.box gs ⟨[avI (sN : Int)], 3, 1⟩, .box gp ⟨[avM p], 27, 1⟩, .box gm ⟨[avI (q : Int)], 3, 1⟩]) (fun (iZ : {z : Nat × Nat // z.2 ≤ p.length ∧ ∀ m, m < z.2 → tryG p sN m p.length 0 ⟨[], []⟩ = none}) => match iZ with | ⟨⟨gm, q⟩, hq, hqn⟩ => 0) (fun (iZ : {z : Nat × Nat // z.2 ≤ p.length ∧ ∀ m, m < z.2 → tryG p sN m p.length 0 ⟨[], []⟩ = none}) => match iZ with | ⟨⟨gm, q⟩, hq, hqn⟩ => p.length - q) ⟨(g6, 0), Nat.zero_le _, fun m hm => absurd hm (Nat.not_lt_zero m)⟩ (Le.mk hB [0, 1, 2] ⟨rfl, rfl, rfl, trivial⟩ rfl rfl (Nat.le_refl _)) ?_
  rintro ⟨⟨gm, q⟩, hq, hqn⟩
  show VC _ _ _ _ ⟨[(6, pt gm)] ++ [(2, _), (3, _)], [.box gs ⟨[avI (sN : Int)], 3, 1⟩, .box gp ⟨[avM p], 27, 1⟩, .box gm ⟨[avI (q : Int)], 3, 1⟩], 0⟩
  simp only at hq hqn
  refine VC.seq ?_
  refine VC.block ?_
  refine VC.sr ?_
  refine VO.val rfl rfl (OpV.load_own (i := 2) rfl hB Tryz.isAgg3 rfl rfl rfl (fun h => h)) ?_
  refine VO.op rfl (OpE.make rfl hB rfl Tryz.underlying27 (infoOf Tryz.t29 1 (by kernel_rfl) rfl rfl) (by decide) rfl rfl (n := q) rfl rfl (by omega) (made_rep rfl rfl) ?_)
  intro gA
  rw [List.length_replicate]
  refine VO.op rfl (OpE.alloc rfl hB rfl Tryz.zeroValue27 rfl ?_)
  intro ga
  refine VO.op rfl (OpE.store (i := 4) rfl hB rfl Tryz.sizeOf27 rfl rfl rfl rfl rfl rfl (Nle rfl) trivial ?_)
  refine VO.nil ?_
  refine VC.sr ?_
  refine VO.val rfl rfl (OpV.load_own (i := 2) rfl hB Tryz.isAgg3 rfl rfl rfl (fun h => h)) ?_
  refine VO.op rfl (OpE.make rfl hB rfl Tryz.underlying35 (infoOf Tryz.t22 1 (by kernel_rfl) rfl rfl) (by decide) rfl rfl (n := q) rfl rfl (by omega) (made_rep rfl rfl) ?_)
  intro gO
  rw [List.length_replicate]
  refine VO.op rfl (OpE.alloc rfl hB rfl Tryz.zeroValue35 rfl ?_)
  intro go
  refine VO.op rfl (OpE.store (i := 6) rfl hB rfl Tryz.sizeOf35 rfl rfl rfl rfl rfl rfl (Nle rfl) trivial ?_)
  refine VO.nil ?_
  refine VC.sr ?_
  refine VO.op rfl (OpE.alloc rfl hB rfl Tryz.zeroValue110 rfl ?_)
  intro gt
  refine VO.nil ?_
  refine VC.sr ?_
  refine VO.val rfl rfl (OpV.makeFuncG6 rfl rfl rfl rfl rfl rfl rfl) ?_
  refine VO.op rfl (OpE.store (i := 7) rfl hB rfl Tryz.sizeOf110 rfl rfl rfl rfl rfl rfl (Nle rfl) trivial ?_)
  refine VO.nil ?_
  refine VC.seq ?_
  obtain ⟨s0, hs0⟩ : ∃ s0 : RefG, s0 = refG q ⟨[], []⟩ := ⟨_, rfl⟩
  obtain ⟨r, hr⟩ : ∃ r, tryR p sN q p.length 0 0 s0 = r := ⟨_, rfl⟩
  have hra : r = (tryG p sN q p.length 0 ⟨[], []⟩).map (refG q) := by rw [← hr, hs0]; exact tryR_eq hnd hqn
  have hs0a : s0.all = List.replicate q [] := by rw [hs0]; exact (refG_nil q).1
  have hs0o : s0.out = List.replicate q [] := by rw [hs0]; exact (refG_nil q).2
  refine VC.le _ (Le.recastBox (i := 3) (cs' := listM (List.replicate q ([] : List ByteArray))) rfl (by rw [listM_len, List.length_replicate, List.length_replicate]) (fun j h1 h2 w Z u h => by simp only [listM, List.getElem_map, List.getElem_replicate] at h ⊢; rw [h.eq_v]; exact .nil _ _)) ?_
  refine VC.le _ (Le.recastBox (i := 5) (cs' := (List.replicate q (.slice none 0 0)).map AV.v) rfl (by simp) (fun j h1 h2 w Z u h => by simp only [List.getElem_map, List.getElem_replicate] at h ⊢; exact h)) ?_
  refine VC.le _ ((Le.boxRowG (i := 3) (n := q) rfl (by rw [listM_len, List.length_replicate]) (by simp only [maxLen]; omega)).trans (Le.boxRowG (i := 5) (n := q) rfl (by simp) (by simp only [maxLen]; omega))) ?_
  refine VC.le _ (Le.pickH (hp := own8 p sN q gp gm ga gs go gt gA gO) [1, 2, 4, 0, 6, 7, 3, 5] rfl rfl) ?_
  refine VC.le _ (own8_start (s0 := s0) rfl hs0a hs0o) ?_
  refine VC.region ?_
  refine VO.val rfl rfl (OpV.load_own (i := 5) rfl hB Tryz.isAgg110 rfl rfl rfl (fun h => h)) ?_
  refine VO.op rfl (OpE.callH (rest := []) rfl hB rfl Tryz.call71 rfl rfl (rf_GroupsOf0 (r := r) hps.2 hl10 hpk (by omega) (by omega) List.length_replicate hs0 hr) (List.Perm.of_eq (List.append_nil _).symm) (fun _ _ => trivial) ?_)
  rintro _ _ ⟨u3, v3, w3, rfl, hw3, rfl⟩
  refine VO.le _ (Le.perm (List.Perm.of_eq (List.append_nil _))) ?_
  refine VO.nil ?_
  refine VC.cond rfl (fun h1b => ?_) (fun h1b => ?_)
  ·have h1 := h1b
   try simp only [qqT, qqF, qqN, qqM, qqL, qqE] at h1
   have hyes := grOf_yes (s0 := s0) hnd hq hqn hra h1
   refine VC.sr ?_
   refine VO.val rfl rfl (OpV.load_own (i := 4) rfl hB Tryz.isAgg35 rfl rfl rfl (fun h => h)) ?_
   refine VO.ma rfl rfl rfl rfl ?_
   refine VO.ma rfl rfl rfl rfl ?_
   refine VO.nil ?_
   refine VC.le _ (own8_end (x := r.getD s0) hB rfl (hw3.trans hyes.2.symm)) ?_
   refine VC.le _ (Le.rowsM (t := 4) (i := 0) (xs := (r.getD s0).out) hB hnew rfl rfl rfl) ?_
   refine VC.le _ (Le.recast (t := 4) (y := avM (grpLst sN p)) rfl (fun w Z u h => by rw [← hyes.1]; exact h)) ?_
   refine VC.ret ?_
   exact Exists.intro _ (And.intro (RetV.two Tryz.results19 (ResV.tmp rfl) (ResV.tmp rfl)) (grOf_out hf hl10))
  ·have h1 := h1b
   try simp only [qqT, qqF, qqN, qqM, qqL, qqE] at h1
   have hno : tryG p sN q p.length 0 ⟨[], []⟩ = none := opt_map_none hra h1
   have hq1 : q + 1 ≤ p.length := by
    rcases Nat.lt_or_ge q p.length with h | h
    ·exact h
    ·obtain rfl : q = p.length := by omega
     exact (grp_alone (fun i hi => (hpr i hi).len) hno).elim
   refine VC.le _ (Le.pickH [3, 0, 1] rfl rfl) ?_
   refine VC.skip ?_
   refine VC.seq ?_
   refine VC.sr ?_
   refine VO.val rfl rfl (OpV.load_own (i := 2) rfl hB Tryz.isAgg3 rfl rfl rfl (fun h => h)) ?_
   refine VO.le _ (Le.pickH [0, 1] rfl rfl) ?_
   refine VO.nil ?_
   refine VC.region ?_
   refine VO.op rfl (OpE.alloc rfl hB rfl Tryz.zeroValue3 rfl ?_)
   intro g6
   refine VO.op rfl (OpE.store (i := 2) rfl hB rfl Tryz.sizeOf3 rfl rfl rfl rfl rfl rfl (Nle rfl) trivial ?_)
   refine VO.nil ?_
   refine VC.region ?_
   refine VO.val rfl rfl (OpV.load_own (i := 2) rfl hB Tryz.isAgg3 rfl rfl rfl (fun h => h)) ?_
   refine VO.val rfl rfl (OpV.add rfl rfl rfl (by unfold fits; omega)) ?_
   refine VO.op rfl (OpE.store (i := 2) rfl hB rfl Tryz.sizeOf3 rfl rfl rfl rfl rfl rfl (Nle rfl) trivial ?_)
   refine VO.nil ?_
   exact Exists.intro (⟨(g6, q + 1), hq1, lt_succ_cases hqn hno⟩) (And.intro (Le.mk hB [0, 1, 2] ⟨rfl, rfl, rfl, trivial⟩ rfl rfl (Nat.le_refl _)) (by first | omega | (show _ < _; omega) | (simp only []; omega)))
end Go.Proofs.YtbbgjeiefmiblaaGreatDoor
namespace Go.Proofs.YtbbgjeiefmiblaaGreatDoor
open Go.RowKit
set_option linter.unusedVariables false
set_option linter.unusedSimpArgs false
section
variable {κ α : Type}
abbrev mapX (kv : κ → Value) (g : Nat) (E : α → AV) (l : List (κ × α × Nat)) (clk : Nat) : Ent := .mp g (l.map fun p => (kv p.1, E p.2.1, p.2.2)) clk
end
section
variable {κ α : Type} {P : Program} {B : Bs} {W : Nat → Prop} {s : St'} {o : Oper} {K : St' → Prop} {kv : κ → Value} {E : α → AV} {w : World} {a : Act}
theorem EntR.toX {g clk : Nat} {l : List (κ × α × Nat)} {Z : Nat → Prop} (h : EntR w Z (mapX kv g E l clk)) : ∃ c : Array MapEntry, w.heap[g]? = some (.map c clk) ∧ c.size = l.length ∧ (l.map (·.2.2)).Nodup ∧ ∀ j (hj : j < l.length), (c[j]!).key = kv (l[j]).1 ∧ (c[j]!).born = (l[j]).2.2 ∧ (l[j]).2.2 < clk ∧ Rep w Z (E (l[j]).2.1) (c[j]!).val := by
 obtain ⟨c, h1, h2, h3, h4⟩ := h
 refine ⟨c, h1, by simpa using h2, by simpa [Function.comp_def] using h3, fun j hj => ?_⟩
 have := h4 j (by simpa using hj)
 simpa using this
end
end Go.Proofs.YtbbgjeiefmiblaaGreatDoor
namespace Go.Proofs.YtbbgjeiefmiblaaGreatDoor
open Go.RowKit Go.Maps Go.Sort Go.Shelf
set_option linter.unusedVariables false
set_option linter.unusedSimpArgs false
section
variable {P : Program} {w : World} {kt : TypeId}
end
section
set_option maxHeartbeats 1000000 in
end
end Go.Proofs.YtbbgjeiefmiblaaGreatDoor
namespace Go.Proofs.YtbbgjeiefmiblaaGreatDoor
open Go.RowKit
set_option linter.unusedVariables false
set_option linter.unusedSimpArgs false
def isC (x : LookS) : Bool := decide (x.verdict ≠ 1)
def fD (x : LookS) : Bool := isC x && x.bad
def fW (x : LookS) : Bool := isC x && !x.bad
def fE (x : LookS) : Bool := !isC x && x.bad
def fG (x : LookS) : Bool := !isC x && !x.bad
def c4 (l : List LookS) : List Nat := [cntL fD l, cntL fW l, cntL fE l, cntL fG l]
section
variable {l : List LookS} {q : Nat} (hq : q < l.length)
include hq
end
end Go.Proofs.YtbbgjeiefmiblaaGreatDoor
namespace Go.Proofs.YtbbgjeiefmiblaaGreatDoor
open Go.RowKit
set_option linter.unusedVariables false
set_option linter.unusedSimpArgs false
theorem ResN.nilS {P : Program} {s : St'} {t : Nat} (h : look s.sl t = some (.v (.slice none 0 0))) : ResN P s (.tmp t) (avStrs []) := fun B a w hS hr => ⟨_, rfl, by
 show Rep w (NewZ B w) _ (a.tmps.getD t undef)
 rw [(hr.slots t _ h).eq_v]; exact .nil _ _⟩
section
variable {f : LookS → ByteArray} {l : List LookS} {q : Nat → Bool} {l' : List (ByteArray × ShS × Nat)}
end
end Go.Proofs.YtbbgjeiefmiblaaGreatDoor
namespace Go.Proofs.YtbbgjeiefmiblaaGreatDoor
open Go.RowKit
set_option linter.unusedVariables false
set_option linter.unusedSimpArgs false
def alwX (p : List (List ByteArray)) (x : ByteArray) : Bool := p.any fun q => !has q x
def alwL (p : List (List ByteArray)) : List ByteArray := (p.getD 0 default).filter fun x => !alwX p x
def alwR (p : List (List ByteArray)) : List ByteArray := if partsF 100 p = 0 then alwL p else []
theorem alwL_nil : alwL [] = [] := rfl
theorem alwR_0 {p : List (List ByteArray)} (h : partsF 100 p = 0) : alwR p = alwL p := if_pos h
theorem alwR_e {p : List (List ByteArray)} (h : ¬ partsF 100 p = 0) : alwR p = [] := if_neg h
theorem alwR_n {p : List (List ByteArray)} (h : p.length = 0) : alwR p = [] := by
 obtain rfl := List.eq_nil_of_length_eq_zero h
 unfold alwR; rw [alwL_nil]; exact ite_self _
theorem alwL_n {p : List (List ByteArray)} (h : p.length = 0) : alwL p = [] := by
 obtain rfl := List.eq_nil_of_length_eq_zero h
 rfl
set_option maxRecDepth 100000 in
theorem slices_IndexFunc_SS {p : List (List ByteArray)} {F : FuncId} {cs : List AV} {pd : List ByteArray → Bool} (hl : p.length ≤ 1000000000) (hcall : ∀ us w, (callFunc F us).run Tryz.prog w = .ok (.enter F us) w) (hF : ∀ i, i < p.length → Spec Tryz.prog F ([avStrs (p.getD i default)] ++ cs) (fun y => y = avB (pd (p.getD i default)))) :
  SpecN Tryz.prog 115 [avM p, .fn F cs] (fun y => y = avI (fidx pd p)) := by
 refine SpecN.of_VCN Tryz.func115 rfl Tryz.ntmps115 (Nle rfl) fun w A hB => ?_
 have hnew : True := trivial
 refine VC.sr ?_
 refine VO.ma rfl rfl rfl rfl ?_
 refine VO.nil ?_
 refine VC.seq ?_
 refine VC.sr ?_
 refine VO.mv rfl rfl rfl rfl ?_
 refine VO.val rfl rfl (OpV.len_im rfl Tryz.underlying27 rfl) ?_
 refine VO.mv rfl rfl rfl rfl ?_
 refine VO.nil ?_
 refine VC.block ?_
 refine VC.loopK [(0, _), (1, _), (7, _)] ⟨rfl, rfl, rfl, trivial⟩ ({q : Nat // q ≤ p.length ∧ ∀ j, j < q → pd (p.getD j default) = false}) (fun (iZ : {q : Nat // q ≤ p.length ∧ ∀ j, j < q → pd (p.getD j default) = false}) => match iZ with | ⟨q, hq, hn⟩ => [(8, avI (q : Int))]) (fun (iZ : {q : Nat // q ≤ p.length ∧ ∀ j, j < q → pd (p.getD j default) = false}) => match iZ with | ⟨q, hq, hn⟩ => []) (fun (iZ : {q : Nat // q ≤ p.length ∧ ∀ j, j < q → pd (p.getD j default) = false}) => match iZ with | ⟨q, hq, hn⟩ => 0) (fun (iZ : {q : Nat // q ≤ p.length ∧ ∀ j, j < q → pd (p.getD j default) = false}) => match iZ with | ⟨q, hq, hn⟩ => p.length - q) ⟨0, Nat.zero_le _, fun j hj => absurd hj (Nat.not_lt_zero j)⟩ (Le.mk hB [] ⟨rfl, rfl, rfl, rfl, trivial⟩ rfl rfl (Nat.le_refl _)) ?_
 rintro ⟨q, hq, hn⟩
 show VC _ _ _ _ ⟨[(8, avI (q : Int))] ++ [(0, _), (1, _), (7, _)], [], 0⟩
 refine VC.sr ?_
 refine VO.val rfl rfl (OpV.lss rfl rfl rfl) ?_
 refine VO.nil ?_
 refine VC.seq ?_
 refine VC.cond rfl (fun aH1b => ?_) (fun aH1b => ?_)
 ·have aH1 := aH1b
  try simp only [qqT, qqF, qqN, qqM, qqL, qqE] at aH1
  refine VC.skip ?_
  refine VC.seq ?_
  refine VC.block ?_
  refine VC.sr ?_
  refine VO.mv rfl rfl rfl rfl ?_
  refine VO.ma rfl rfl rfl rfl ?_
  refine VO.nil ?_
  refine VC.sr ?_
  refine VO.mv rfl rfl rfl rfl ?_
  refine VO.mv rfl rfl rfl rfl ?_
  refine VO.mv rfl rfl rfl rfl ?_
  refine VO.val rfl rfl (OpV.indexAddr_1 rfl Tryz.underlying27 Tryz.sizeOf29 rfl rfl rfl (by omega)) ?_
  refine VO.val rfl rfl (OpV.load_at rfl hB OutW.no Tryz.isAgg29 rfl rfl) ?_
  refine VO.op rfl (OpE.callF rfl hB rfl hcall rfl rfl (hF q (by omega)) ?_)
  rintro _ rfl
  refine VO.nil ?_
  refine VC.cond rfl (fun aH2b => ?_) (fun aH2b => ?_)
  ·have aH2 := aH2b
   try simp only [qqT, qqF, qqN, qqM, qqL, qqE] at aH2
   refine VC.sr ?_
   refine VO.mv rfl rfl rfl rfl ?_
   refine VO.ma rfl rfl rfl rfl ?_
   refine VO.nil ?_
   refine VC.ret ?_
   exact Exists.intro _ (And.intro (RetN.one Tryz.results115 (ResN.v rfl)) (by first | (rw [fidx_found (d := default) (q := q) (by omega) hn (by assumption)]) | (rw [fidx_none (d := default) (fun j hj => hn j (by omega))])))
  ·have aH2 := aH2b
   try simp only [qqT, qqF, qqN, qqM, qqL, qqE] at aH2
   refine VC.skip ?_
   refine VC.region ?_
   refine VO.val rfl rfl (OpV.add rfl rfl rfl (by unfold fits; omega)) ?_
   refine VO.mv rfl rfl rfl rfl ?_
   refine VO.nil ?_
   exact Exists.intro (⟨q + 1, by omega, lt_succ_cases hn ((by assumption))⟩) (And.intro (Le.mk hB [] ⟨rfl, rfl, rfl, rfl, trivial⟩ rfl rfl (Nat.le_refl _)) (by first | omega | (show _ < _; omega) | (simp only []; omega)))
 ·have aH1 := aH1b
  try simp only [qqT, qqF, qqN, qqM, qqL, qqE] at aH1
  refine VC.exit ?_
  refine VC.sr ?_
  refine VO.ma rfl rfl rfl rfl ?_
  refine VO.nil ?_
  refine VC.ret ?_
  exact Exists.intro _ (And.intro (RetN.one Tryz.results115 (ResN.v rfl)) (by first | (rw [fidx_found (d := default) (q := q) (by omega) hn (by assumption)]) | (rw [fidx_none (d := default) (fun j hj => hn j (by omega))])))
set_option maxRecDepth 100000 in
theorem slices_ContainsFunc_SS {p : List (List ByteArray)} {F : FuncId} {cs : List AV} {pd : List ByteArray → Bool} (hl : p.length ≤ 1000000000) (hcall : ∀ us w, (callFunc F us).run Tryz.prog w = .ok (.enter F us) w) (hF : ∀ i, i < p.length → Spec Tryz.prog F ([avStrs (p.getD i default)] ++ cs) (fun y => y = avB (pd (p.getD i default)))) :
  SpecN Tryz.prog 62 [avM p, .fn F cs] (fun y => y = avB (p.any pd)) := by
 refine SpecN.of_VCN Tryz.func62 rfl Tryz.ntmps62 (Nle rfl) fun w A hB => ?_
 have hnew : True := trivial
 refine VC.sr ?_
 refine VO.ma rfl rfl rfl rfl ?_
 refine VO.nil ?_
 refine VC.sr ?_
 refine VO.mv rfl rfl rfl rfl ?_
 refine VO.mv rfl rfl rfl rfl ?_
 refine VO.op rfl (OpE.call rfl hB rfl Tryz.call115 rfl (SpecN.spec (slices_IndexFunc_SS hl hcall hF)) ?_)
 rintro _ rfl
 refine VO.val rfl rfl (OpV.geq rfl rfl rfl) ?_
 refine VO.ma rfl rfl rfl rfl ?_
 refine VO.nil ?_
 refine VC.ret ?_
 exact Exists.intro _ (And.intro (RetN.one Tryz.results62 (ResN.v rfl)) (by rw [← fidx_any]))
set_option maxRecDepth 100000 in
theorem setup_Always11 {x : ByteArray} {q : List ByteArray} (hq : SmS q) :
  SpecN Tryz.prog 63 [avStrs q, .at_ 1 (fun _ => avS x)] (fun y => y = avB (!has q x)) := by
 refine SpecN.of_VCN Tryz.func63 rfl Tryz.ntmps63 (Nle rfl) fun w A hB => ?_
 have hnew : True := trivial
 refine VC.sr ?_
 refine VO.ma rfl rfl rfl rfl ?_
 refine VO.nil ?_
 refine VC.sr ?_
 refine VO.mv rfl rfl rfl rfl ?_
 refine VO.val rfl rfl (OpV.load_at rfl hB OutW.no Tryz.isAgg9 rfl rfl) ?_
 refine VO.op rfl (OpE.call rfl hB rfl Tryz.call54 rfl (SpecN.spec (slices_Contains_str hq.1)) ?_)
 rintro _ rfl
 refine VO.val rfl rfl (OpV.not rfl rfl) ?_
 refine VO.ma rfl rfl rfl rfl ?_
 refine VO.nil ?_
 refine VC.ret ?_
 exact Exists.intro _ (And.intro (RetN.one Tryz.results63 (ResN.v rfl)) (rfl))
set_option maxRecDepth 100000 in
theorem rf_AlwaysOf11 {x : ByteArray} {q : List ByteArray} (hq : SmS q) :
  SpecN Tryz.prog 76 [avStrs q, .at_ 1 (fun _ => avS x)] (fun y => y = avB (!has q x)) := by
 refine SpecN.of_VCN Tryz.func76 rfl Tryz.ntmps76 (Nle rfl) fun w A hB => ?_
 have hnew : True := trivial
 refine VC.sr ?_
 refine VO.ma rfl rfl rfl rfl ?_
 refine VO.nil ?_
 refine VC.sr ?_
 refine VO.mv rfl rfl rfl rfl ?_
 refine VO.val rfl rfl (OpV.load_at rfl hB OutW.no Tryz.isAgg9 rfl rfl) ?_
 refine VO.op rfl (OpE.call rfl hB rfl Tryz.call54 rfl (SpecN.spec (slices_Contains_str hq.1)) ?_)
 rintro _ rfl
 refine VO.val rfl rfl (OpV.not rfl rfl) ?_
 refine VO.ma rfl rfl rfl rfl ?_
 refine VO.nil ?_
 refine VC.ret ?_
 exact Exists.intro _ (And.intro (RetN.one Tryz.results76 (ResN.v rfl)) (rfl))
abbrev bxPP (g : Nat) (p : List (List ByteArray)) : Ent := .box g ⟨[avM p], 27, 1⟩
set_option maxRecDepth 100000 in
theorem setup_Always1 {g : Nat} {p : List (List ByteArray)} {x : ByteArray} (hp : SmSS p) :
  SpecH Tryz.prog 61 [avS x, pt g] [bxPP g p] (fun y hp' => y = avB (alwX p x) ∧ hp' = [bxPP g p]) := by
 refine SpecH.of_VC Tryz.func61 rfl Tryz.ntmps61 (Nle rfl) fun w A hB => ?_
 have hnew : True := trivial
 refine VC.sr ?_
 refine VO.op rfl (OpE.box rfl hB rfl rfl rfl ?_)
 intro g2
 refine VO.ma rfl rfl rfl rfl ?_
 refine VO.nil ?_
 refine VC.seq ?_
 have hpl := hp.1
 refine VC.le _ (Le.freezeAt (t := 2) (m := 1) (f := fun _ => avS x) (i := 1) rfl rfl (Nat.le_refl _) (fun w Z u h => h.at_congr (g := fun _ => avS x) (fun j hj => by rcases j with _ | j <;> first | rfl | omega)) hnew hB) ?_
 refine VC.region ?_
 refine VO.val rfl rfl (OpV.load_own (i := 0) rfl hB Tryz.isAgg27 rfl rfl rfl (fun h => h)) ?_
 refine VO.val rfl rfl (OpV.makeFuncF1 rfl rfl) ?_
 refine VO.op rfl (OpE.call rfl hB rfl Tryz.call62 rfl (SpecN.spec (slices_ContainsFunc_SS (cs := [.at_ 1 (fun _ => avS x)]) (pd := fun q => !has q x) (by omega) Tryz.call63 (fun i hi => (setup_Always11 (hp.2 i)).spec))) ?_)
 rintro _ rfl
 refine VO.ma rfl rfl rfl rfl ?_
 refine VO.nil ?_
 refine VC.ret ?_
 exact Exists.intro _ (And.intro (RetV.one Tryz.results61 (ResV.tmp rfl)) (⟨rfl, rfl⟩))
set_option maxRecDepth 100000 in
theorem rf_AlwaysOf1 {g : Nat} {p : List (List ByteArray)} {x : ByteArray} (hp : SmSS p) :
  SpecH Tryz.prog 75 [avS x, pt g] [bxPP g p] (fun y hp' => y = avB (alwX p x) ∧ hp' = [bxPP g p]) := by
 refine SpecH.of_VC Tryz.func75 rfl Tryz.ntmps75 (Nle rfl) fun w A hB => ?_
 have hnew : True := trivial
 refine VC.sr ?_
 refine VO.op rfl (OpE.box rfl hB rfl rfl rfl ?_)
 intro g2
 refine VO.ma rfl rfl rfl rfl ?_
 refine VO.nil ?_
 refine VC.seq ?_
 have hpl := hp.1
 refine VC.le _ (Le.freezeAt (t := 2) (m := 1) (f := fun _ => avS x) (i := 1) rfl rfl (Nat.le_refl _) (fun w Z u h => h.at_congr (g := fun _ => avS x) (fun j hj => by rcases j with _ | j <;> first | rfl | omega)) hnew hB) ?_
 refine VC.region ?_
 refine VO.val rfl rfl (OpV.load_own (i := 0) rfl hB Tryz.isAgg27 rfl rfl rfl (fun h => h)) ?_
 refine VO.val rfl rfl (OpV.makeFuncF1 rfl rfl) ?_
 refine VO.op rfl (OpE.call rfl hB rfl Tryz.call62 rfl (SpecN.spec (slices_ContainsFunc_SS (cs := [.at_ 1 (fun _ => avS x)]) (pd := fun q => !has q x) (by omega) Tryz.call76 (fun i hi => (rf_AlwaysOf11 (hp.2 i)).spec))) ?_)
 rintro _ rfl
 refine VO.ma rfl rfl rfl rfl ?_
 refine VO.nil ?_
 refine VC.ret ?_
 exact Exists.intro _ (And.intro (RetV.one Tryz.results75 (ResV.tmp rfl)) (⟨rfl, rfl⟩))
set_option maxRecDepth 100000 in
theorem rf_AlwaysOf {p : List (List ByteArray)} (hp : SmSS p) :
  SpecN Tryz.prog 20 [avM p] (fun y => y = avStrs (alwL p)) := by
 refine SpecN.of_VCN Tryz.func20 rfl Tryz.ntmps20 (Nle rfl) fun w A hB => ?_
 have hnew : True := trivial
 refine VC.sr ?_
 refine VO.op rfl (OpE.box rfl hB rfl rfl rfl ?_)
 intro g1
 refine VO.ma rfl rfl rfl rfl ?_
 refine VO.nil ?_
 refine VC.seq ?_
 refine VC.sr ?_
 refine VO.val rfl rfl (OpV.load_own (i := 0) rfl hB Tryz.isAgg27 rfl rfl rfl (fun h => h)) ?_
 refine VO.val rfl rfl (OpV.len_im rfl Tryz.underlying27 rfl) ?_
 refine VO.val rfl rfl (OpV.eql rfl rfl rfl) ?_
 refine VO.nil ?_
 refine VC.cond rfl (fun h0b => ?_) (fun h0b => ?_)
 ·have h0 := h0b
  try simp only [qqT, qqF, qqN, qqM, qqL, qqE] at h0
  refine VC.sr ?_
  refine VO.ma rfl rfl rfl rfl ?_
  refine VO.nil ?_
  refine VC.ret ?_
  exact Exists.intro _ (And.intro (RetN.one Tryz.results20 (ResN.nilS rfl)) (by rw [alwL_n (by omega)]))
 ·have h0 := h0b
  try simp only [qqT, qqF, qqN, qqM, qqL, qqE] at h0
  refine VC.skip ?_
  refine VC.sr ?_
  refine VO.val rfl rfl (OpV.load_own (i := 0) rfl hB Tryz.isAgg27 rfl rfl rfl (fun h => h)) ?_
  refine VO.val rfl rfl (OpV.indexAddr_1 rfl Tryz.underlying27 Tryz.sizeOf29 rfl rfl (Int.toNat_of_nonneg (by omega)).symm (by omega)) ?_
  refine VO.val rfl rfl (OpV.load_at rfl hB OutW.no Tryz.isAgg29 rfl rfl) ?_
  refine VO.op rfl (OpE.callR rfl hB rfl Tryz.call52 (slices_CloneS_R (hp.2 0).1) (ArgsP.cons (ArgP.ev rfl) (ArgsP.nil)) ?_)
  intro u
  refine VO.val rfl rfl (OpV.makeFunc1 rfl rfl) ?_
  refine VO.op rfl (OpE.callH0 rfl hB rfl Tryz.call60 rfl rfl (slices_DeleteFunc_str (p := fun x => alwX p x) (hpC := [bxPP g1 p]) (hp.2 0).1 Tryz.call75 (fun x => rf_AlwaysOf1 hp)) (List.Perm.swap _ _ _) (fun _ _ => trivial) ?_)
  rintro _ _ ⟨u', rfl, rfl⟩
  refine VO.ma rfl rfl rfl rfl ?_
  refine VO.nil ?_
  refine VC.ret ?_
  exact Exists.intro _ (And.intro (RetN.one Tryz.results20 (ResN.rowS (i := 0) rfl rfl rfl)) (rfl))
set_option maxRecDepth 100000 in
theorem setup_Always {p : List (List ByteArray)} (hp : SmSS p) :
  SpecN Tryz.prog 15 [avM p] (fun y => y = .tup [avStrs (alwR p), avI (partsF 100 p)]) := by
 refine SpecN.of_VCN Tryz.func15 rfl Tryz.ntmps15 (Nle rfl) fun w A hB => ?_
 have hnew : True := trivial
 refine VC.sr ?_
 refine VO.op rfl (OpE.box rfl hB rfl rfl rfl ?_)
 intro g1
 refine VO.ma rfl rfl rfl rfl ?_
 refine VO.ma rfl rfl rfl rfl ?_
 refine VO.nil ?_
 refine VC.seq ?_
 refine VC.sr ?_
 refine VO.val rfl rfl (OpV.load_own (i := 0) rfl hB Tryz.isAgg27 rfl rfl rfl (fun h => h)) ?_
 refine VO.op rfl (OpE.call rfl hB rfl Tryz.call58 rfl (SpecN.spec (setup_CheckParts hp)) ?_)
 rintro _ rfl
 refine VO.ma rfl rfl rfl rfl ?_
 refine VO.nil ?_
 refine VC.sr ?_
 refine VO.mv rfl rfl rfl rfl ?_
 refine VO.val rfl rfl (OpV.neq rfl rfl rfl) ?_
 refine VO.nil ?_
 refine VC.cond rfl (fun h0b => ?_) (fun h0b => ?_)
 ·have h0 := h0b
  try simp only [qqT, qqF, qqN, qqM, qqL, qqE] at h0
  refine VC.sr ?_
  refine VO.mv rfl rfl rfl rfl ?_
  refine VO.ma rfl rfl rfl rfl ?_
  refine VO.ma rfl rfl rfl rfl ?_
  refine VO.nil ?_
  refine VC.ret ?_
  exact Exists.intro _ (And.intro (RetN.two Tryz.results15 (ResN.nilS rfl) (ResN.v rfl)) (by rw [alwR_e h0]))
 ·have h0 := h0b
  try simp only [qqT, qqF, qqN, qqM, qqL, qqE] at h0
  refine VC.skip ?_
  refine VC.seq ?_
  refine VC.sr ?_
  refine VO.val rfl rfl (OpV.load_own (i := 0) rfl hB Tryz.isAgg27 rfl rfl rfl (fun h => h)) ?_
  refine VO.val rfl rfl (OpV.len_im rfl Tryz.underlying27 rfl) ?_
  refine VO.val rfl rfl (OpV.eql rfl rfl rfl) ?_
  refine VO.nil ?_
  refine VC.cond rfl (fun h1b => ?_) (fun h1b => ?_)
  ·have h1 := h1b
   try simp only [qqT, qqF, qqN, qqM, qqL, qqE] at h1
   refine VC.sr ?_
   refine VO.ma rfl rfl rfl rfl ?_
   refine VO.ma rfl rfl rfl rfl ?_
   refine VO.nil ?_
   refine VC.ret ?_
   exact Exists.intro _ (And.intro (RetN.two Tryz.results15 (ResN.nilS rfl) (ResN.v rfl)) (by rw [alwR_n (by omega), show partsF 100 p = 0 by omega]))
  ·have h1 := h1b
   try simp only [qqT, qqF, qqN, qqM, qqL, qqE] at h1
   refine VC.skip ?_
   refine VC.sr ?_
   refine VO.val rfl rfl (OpV.load_own (i := 0) rfl hB Tryz.isAgg27 rfl rfl rfl (fun h => h)) ?_
   refine VO.val rfl rfl (OpV.indexAddr_1 rfl Tryz.underlying27 Tryz.sizeOf29 rfl rfl (Int.toNat_of_nonneg (by omega)).symm (by omega)) ?_
   refine VO.val rfl rfl (OpV.load_at rfl hB OutW.no Tryz.isAgg29 rfl rfl) ?_
   refine VO.op rfl (OpE.callR rfl hB rfl Tryz.call52 (slices_CloneS_R (hp.2 0).1) (ArgsP.cons (ArgP.ev rfl) (ArgsP.nil)) ?_)
   intro u
   refine VO.val rfl rfl (OpV.makeFunc1 rfl rfl) ?_
   refine VO.op rfl (OpE.callH0 rfl hB rfl Tryz.call60 rfl rfl (slices_DeleteFunc_str (p := fun x => alwX p x) (hpC := [bxPP g1 p]) (hp.2 0).1 Tryz.call61 (fun x => setup_Always1 hp)) (List.Perm.swap _ _ _) (fun _ _ => trivial) ?_)
   rintro _ _ ⟨u', rfl, rfl⟩
   refine VO.ma rfl rfl rfl rfl ?_
   refine VO.ma rfl rfl rfl rfl ?_
   refine VO.nil ?_
   refine VC.ret ?_
   exact Exists.intro _ (And.intro (RetN.two Tryz.results15 (ResN.rowS (i := 0) (xs := alwL p) rfl rfl rfl) (ResN.v rfl)) (by rw [alwR_0 (by omega), show partsF 100 p = 0 by omega]))
end Go.Proofs.YtbbgjeiefmiblaaGreatDoor
namespace Go.Proofs.YtbbgjeiefmiblaaGreatDoor
open Go.RowKit
set_option linter.unusedVariables false
set_option linter.unusedSimpArgs false
def splitL (c : UInt8) : List UInt8 → List (List UInt8)
 | [] => [[]]
 | b :: l => if b = c then [] :: splitL c l else match splitL c l with
  | [] => [[b]]
  | h :: t => (b :: h) :: t
theorem splitL_ne (c : UInt8) : ∀ l, splitL c l ≠ []
 | [] => by simp [splitL]
 | b :: l => by
  unfold splitL
  split
  ·simp
  ·split <;> simp
theorem splitL_len (c : UInt8) : ∀ l, (splitL c l).length = Lib.countByte l c + 1
 | [] => by simp [splitL, Lib.countByte]
 | b :: l => by
  have ih := splitL_len c l
  unfold Lib.countByte at *
  rw [splitL]
  split
  ·rename_i h; subst h; rw [List.length_cons, ih]; simp
  ·rename_i h
   rw [List.count_cons_of_ne (by simpa using h)]
   have hne := splitL_ne c l
   split
   ·rename_i e; exact absurd e hne
   ·rename_i h' t e; rw [e] at ih; simpa using ih
theorem index_none {c : UInt8} : ∀ {l : List UInt8}, Lib.indexByte l c < 0 → splitL c l = [l]
 | [], _ => rfl
 | b :: l, h => by
  unfold Lib.indexByte at h
  by_cases hb : b = c
  ·subst hb; simp at h
  ·have hb' : (b == c) = false := by simpa using hb
   rw [hb'] at h
   have hge := Lib.indexByte_ge l c
   have h1 : Lib.indexByte l c < 0 := by
    by_cases e : Lib.indexByte l c = -1
    ·omega
    ·have : (Lib.indexByte l c == -1) = false := by simpa using e
     rw [this] at h
     simp at h
     omega
   rw [splitL, if_neg hb, index_none h1]
theorem index_some {c : UInt8} : ∀ {l : List UInt8} {m : Nat}, Lib.indexByte l c = m → m < l.length ∧ splitL c l = l.take m :: splitL c (l.drop (m + 1))
 | [], m, h => by simp [Lib.indexByte] at h
 | b :: l, m, h => by
  unfold Lib.indexByte at h
  by_cases hb : b = c
  ·subst hb
   simp at h
   obtain rfl : m = 0 := by omega
   exact ⟨by simp, by simp [splitL]⟩
  ·have hb' : (b == c) = false := by simpa using hb
   rw [hb'] at h
   have hge := Lib.indexByte_ge l c
   by_cases e : Lib.indexByte l c = -1
   ·have e2 : (Lib.indexByte l c == -1) = true := by simpa using e
    rw [e2] at h
    simp at h
   ·have e2 : (Lib.indexByte l c == -1) = false := by simpa using e
    rw [e2] at h
    simp only [Bool.false_eq_true, if_false] at h
    obtain ⟨k, rfl⟩ : ∃ k, m = k + 1 := ⟨m - 1, by omega⟩
    obtain ⟨h1, h2⟩ := index_some (c := c) (l := l) (m := k) (by omega)
    refine ⟨by simp; omega, ?_⟩
    rw [splitL, if_neg hb, h2]
    simp
abbrev byL (p : ByteArray) : List UInt8 := p.data.toList
theorem byL_len (p : ByteArray) : (byL p).length = p.size := lenB p
theorem bytesOf_byL (p : ByteArray) : bytesOf (byL p) = p := by simp [bytesOf, byL]
theorem byL_extract (p : ByteArray) (l h : Nat) : byL (p.extract l h) = ((byL p).drop l).take (h - l) := by
 simp [byL, ByteArray.data_extract, Array.toList_extract, List.extract_eq_take_drop]
def splitS (c : UInt8) (p : ByteArray) : List ByteArray := (splitL c (byL p)).map bytesOf
theorem splitS_len (c : UInt8) (p : ByteArray) : (splitS c p).length = Lib.countByte (byL p) c + 1 := by rw [splitS, List.length_map, splitL_len]
theorem splitS_none {c : UInt8} {p : ByteArray} (h : Lib.indexByte (byL p) c < 0) : splitS c p = [p] := by rw [splitS, index_none h]; simp [bytesOf]
theorem splitS_some {c : UInt8} {p : ByteArray} {m : Nat} (h : Lib.indexByte (byL p) c = m) : m < p.size ∧ splitS c p = p.extract 0 m :: splitS c (p.extract (m + 1) p.size) := by
 obtain ⟨h1, h2⟩ := index_some h
 rw [byL_len] at h1
 refine ⟨h1, ?_⟩
 have e1 : p.extract 0 m = bytesOf ((byL p).take m) := by rw [← bytesOf_byL (p.extract 0 m), byL_extract]; simp
 have e2 : byL (p.extract (m + 1) p.size) = (byL p).drop (m + 1) := by
  rw [byL_extract, List.take_of_length_le (by rw [List.length_drop, byL_len]; omega)]
 rw [splitS, h2, List.map_cons, e1, splitS, e2]
theorem getD_drop {ps : List ByteArray} {i : Nat} {x : ByteArray} {t : List ByteArray} (h : ps.drop i = x :: t) : i < ps.length ∧ ps.getD i ByteArray.empty = x ∧ ps.drop (i + 1) = t := by
 have hi : i < ps.length := by
  have := congrArg List.length h
  rw [List.length_drop, List.length_cons] at this; omega
 rw [List.drop_eq_getElem_cons hi] at h
 obtain ⟨h1, h2⟩ := List.cons.inj h
 exact ⟨hi, by rw [List.getD_eq_getElem?_getD, List.getElem?_eq_getElem hi]; exact h1, h2⟩
theorem split_next {ps : List ByteArray} {c : UInt8} {r : ByteArray} {i m : Nat} (h : ps.drop i = splitS c r) (hm : Lib.indexByte (byL r) c = m) : m < r.size ∧ ps.getD i ByteArray.empty = r.extract 0 m ∧ ps.drop (i + 1) = splitS c (r.extract (m + 1) r.size) := by
 obtain ⟨h1, h2⟩ := splitS_some hm
 rw [h2] at h
 exact ⟨h1, (getD_drop h).2⟩
theorem split_last {ps : List ByteArray} {c : UInt8} {r : ByteArray} {i : Nat} (h : ps.drop i = splitS c r) (hl : ps.length = i + 1) : ps.getD i ByteArray.empty = r := by
 have hn : Lib.indexByte (byL r) c < 0 := by
  by_cases h0 : Lib.indexByte (byL r) c < 0
  ·exact h0
  ·obtain ⟨m, hm⟩ : ∃ m : Nat, Lib.indexByte (byL r) c = m := ⟨_, (Int.toNat_of_nonneg (by omega)).symm⟩
   have h3 := congrArg List.length h
   rw [(splitS_some hm).2, List.length_drop, List.length_cons, splitS_len] at h3
   omega
 rw [splitS_none hn] at h
 exact (getD_drop h).2.1
def partS (ps : List ByteArray) (i : Nat) : List ByteArray := ps.take i ++ List.replicate (ps.length - i) ⟨#[]⟩
theorem partS_len (ps : List ByteArray) {i : Nat} (h : i ≤ ps.length) : (partS ps i).length = ps.length := by simp [partS]; omega
theorem partS_0 (ps : List ByteArray) : partS ps 0 = List.replicate ps.length ⟨#[]⟩ := by simp [partS]
theorem partS_all (ps : List ByteArray) : partS ps ps.length = ps := by simp [partS]
theorem partS_set {ps : List ByteArray} {i : Nat} {x : ByteArray} (h : i < ps.length) (hx : ps.getD i ByteArray.empty = x) : (partS ps i).set i x = partS ps (i + 1) := by
 rw [List.getD_eq_getElem?_getD, List.getElem?_eq_getElem h] at hx
 simp at hx
 unfold partS
 obtain ⟨k, hk⟩ : ∃ k, ps.length - i = k + 1 := ⟨ps.length - i - 1, by omega⟩
 rw [hk, show ps.length - (i + 1) = k by omega, List.replicate_succ, List.take_add_one, List.getElem?_eq_getElem h, List.set_append]
 have hl : (ps.take i).length = i := by simp; omega
 rw [if_neg (by omega), hl, Nat.sub_self]
 simp [hx]
end Go.Proofs.YtbbgjeiefmiblaaGreatDoor
namespace Go.Proofs.YtbbgjeiefmiblaaGreatDoor
open Go.RowKit
set_option linter.unusedVariables false
set_option linter.unusedSimpArgs false
section
variable {P : Program} {s : St'}
theorem ResN.boxS {t i n g cap : Nat} {xs : List ByteArray} {ty : TypeId} {tot : Nat} (h : look s.sl t = some (.v (.slice (some ⟨g, 0, none⟩) n cap))) (hi : s.hp[i]? = some (.box g ⟨strsL xs, ty, tot⟩)) (hn : n = xs.length) (hcap : n ≤ cap) (hm : cap ≤ maxLen) : ResN P s (.tmp t) (avStrs xs) :=
 ResN.box h hi (by show n * 1 ≤ (strsL xs).length; rw [strsL_len]; omega) hcap hm (flat_strs xs) fun w Z u h => Rep.strs hn h
end
theorem strings_Index_S {s : ByteArray} {c : UInt8} : SpecN Tryz.prog 124 [avS s, avS ⟨#[c]⟩] (fun y => y = avI (Lib.indexByte (byL s) c)) := by
 intro w us ha
 rw [argsV2 ha]
 refine (Tryz.strings_Index_one s c w).mono ?_
 rintro e w' ⟨rfl, rfl⟩
 exact ⟨_, _, rfl, rfl, .v _, Chg.refl _ _, trivial⟩
theorem stringslite_Index_S {s : ByteArray} {c : UInt8} : SpecN Tryz.prog 168 [avS s, avS ⟨#[c]⟩] (fun y => y = avI (Lib.indexByte (byL s) c)) := by
 intro w us ha
 rw [argsV2 ha]
 refine (Tryz.stringslite_Index_one s c w).mono ?_
 rintro e w' ⟨rfl, rfl⟩
 exact ⟨_, _, rfl, rfl, .v _, Chg.refl _ _, trivial⟩
theorem strings_Count_S {s : ByteArray} {c : UInt8} : SpecN Tryz.prog 204 [avS s, avS ⟨#[c]⟩] (fun y => y = avI (Lib.countByte (byL s) c : Int)) := by
 intro w us ha
 rw [argsV2 ha]
 refine (Tryz.strings_Count_one s c w).mono ?_
 rintro e w' ⟨rfl, rfl⟩
 exact ⟨_, _, rfl, rfl, .v _, Chg.refl _ _, trivial⟩



set_option maxRecDepth 100000 in
set_option maxHeartbeats 4000000 in
theorem strings_genSplit {s : ByteArray} {c : UInt8} (hs : s.size ≤ 100000000) :
  SpecN Tryz.prog 167 [avS s, avS ⟨#[c]⟩, avI 0, avI (-1)] (fun y => y = avStrs (splitS c s)) := by
 refine SpecN.of_VCN Tryz.func167 rfl Tryz.ntmps167 (Nle rfl) fun w A hB => ?_
 have hnew : True := trivial
 refine VC.seq ?_
 obtain ⟨ps, hps⟩ : ∃ ps, splitS c s = ps := ⟨_, rfl⟩
 have hpl : ps.length = Lib.countByte (byL s) c + 1 := by rw [← hps, splitS_len]
 have hcl : Lib.countByte (byL s) c ≤ s.size := by rw [← byL_len]; exact List.count_le_length
 have hc1 : (⟨#[c]⟩ : ByteArray).size = 1 := rfl
 refine VC.region ?_
 refine VO.ma rfl rfl rfl rfl ?_
 refine VO.nil ?_
 refine VC.seq ?_
 refine VC.sr ?_
 refine VO.mv rfl rfl rfl rfl ?_
 refine VO.val rfl rfl (OpV.eql rfl rfl rfl) ?_
 refine VO.nil ?_
 refine VC.condF rfl rfl ?_
 refine VC.skip ?_
 refine VC.seq ?_
 refine VC.sr ?_
 refine VO.mv rfl rfl rfl rfl ?_
 refine VO.val rfl rfl (OpV.seql rfl rfl rfl) ?_
 refine VO.le _ (Le.recast (t := 15) (y := avB false) rfl (fun w Z u h => by rw [sEq_empty] at h; exact h)) ?_
 refine VO.nil ?_
 refine VC.condF rfl rfl ?_
 refine VC.skip ?_
 refine VC.seq ?_
 refine VC.sr ?_
 refine VO.mv rfl rfl rfl rfl ?_
 refine VO.val rfl rfl (OpV.lss rfl rfl rfl) ?_
 refine VO.nil ?_
 refine VC.condT rfl rfl ?_
 refine VC.region ?_
 refine VO.mv rfl rfl rfl rfl ?_
 refine VO.mv rfl rfl rfl rfl ?_
 refine VO.op rfl (OpE.call rfl hB rfl Tryz.call204 rfl (SpecN.spec (strings_Count_S)) ?_)
 rintro _ rfl
 refine VO.val rfl rfl (OpV.add rfl rfl rfl (by unfold fits; omega)) ?_
 refine VO.ma rfl rfl rfl rfl ?_
 refine VO.nil ?_
 refine VC.sr ?_
 refine VO.mv rfl rfl rfl rfl ?_
 refine VO.mv rfl rfl rfl rfl ?_
 refine VO.val rfl rfl (OpV.len_s rfl Tryz.underlying9 rfl) ?_
 refine VO.val rfl rfl (OpV.add rfl rfl rfl (by unfold fits; omega)) ?_
 refine VO.val rfl rfl (OpV.min2 rfl rfl rfl) ?_
 refine VO.ma rfl rfl rfl rfl ?_
 refine VO.nil ?_
 refine VC.sr ?_
 refine VO.mv rfl rfl rfl rfl ?_
 refine VO.op rfl (OpE.make rfl hB rfl Tryz.underlying29 (infoOf Tryz.t9 1 (by kernel_rfl) rfl rfl) (by decide) rfl rfl (n := ps.length) (by omega) (by omega) (by omega) (made_strs _ _) ?_)
 intro g31
 refine VO.ma rfl rfl rfl rfl ?_
 refine VO.nil ?_
 refine VC.sr ?_
 refine VO.mv rfl rfl rfl rfl ?_
 refine VO.val rfl rfl (OpV.sub rfl rfl rfl (by unfold fits; omega)) ?_
 refine VO.ma rfl rfl rfl rfl ?_
 refine VO.nil ?_
 refine VC.sr ?_
 refine VO.ma rfl rfl rfl rfl ?_
 refine VO.nil ?_
 refine VC.seq ?_
 refine VC.block ?_
 refine VC.loopK [(1, _), (2, _), (3, _), (9, _)] ⟨rfl, rfl, rfl, rfl, trivial⟩ ({z : ByteArray × Nat // z.2 < ps.length ∧ ps.drop z.2 = splitS c z.1 ∧ z.1.size ≤ s.size}) (fun (iZ : {z : ByteArray × Nat // z.2 < ps.length ∧ ps.drop z.2 = splitS c z.1 ∧ z.1.size ≤ s.size}) => match iZ with | ⟨⟨r, i⟩, hi, hr, hrs⟩ => [(0, avS r), (10, avI (i : Int))]) (fun (iZ : {z : ByteArray × Nat // z.2 < ps.length ∧ ps.drop z.2 = splitS c z.1 ∧ z.1.size ≤ s.size}) => match iZ with | ⟨⟨r, i⟩, hi, hr, hrs⟩ => [.box g31 ⟨strsL (partS ps i), 9, (strsL (List.replicate ps.length (⟨#[]⟩ : ByteArray))).length⟩]) (fun (iZ : {z : ByteArray × Nat // z.2 < ps.length ∧ ps.drop z.2 = splitS c z.1 ∧ z.1.size ≤ s.size}) => match iZ with | ⟨⟨r, i⟩, hi, hr, hrs⟩ => 0) (fun (iZ : {z : ByteArray × Nat // z.2 < ps.length ∧ ps.drop z.2 = splitS c z.1 ∧ z.1.size ≤ s.size}) => match iZ with | ⟨⟨r, i⟩, hi, hr, hrs⟩ => ps.length - i) ⟨(s, 0), by show 0 < _; omega, by show ps.drop 0 = splitS c s; rw [hps, List.drop_zero], Nat.le_refl _⟩ (Le.mk hB [0] ⟨rfl, rfl, rfl, rfl, rfl, rfl, trivial⟩ rfl (congrArg (fun z => [Ent.box g31 ⟨strsL z, 9, (strsL (List.replicate ps.length (⟨#[]⟩ : ByteArray))).length⟩]) (partS_0 ps).symm) (Nat.le_refl _)) ?_
 rintro ⟨⟨r, i⟩, hi, hr, hrs⟩
 show VC _ _ _ _ ⟨[(0, avS r), (10, avI (i : Int))] ++ [(1, _), (2, _), (3, _), (9, _)], [.box g31 ⟨strsL (partS ps i), 9, (strsL (List.replicate ps.length (⟨#[]⟩ : ByteArray))).length⟩], 0⟩
 simp only at hi hr hrs
 have hrl : ps.length - i = Lib.countByte (byL r) c + 1 := by rw [← splitS_len, ← hr, List.length_drop]
 refine VC.seq ?_
 refine VC.sr ?_
 refine VO.mv rfl rfl rfl rfl ?_
 refine VO.mv rfl rfl rfl rfl ?_
 refine VO.val rfl rfl (OpV.lss rfl rfl rfl) ?_
 refine VO.nil ?_
 refine VC.cond rfl (fun aH1b => ?_) (fun aH1b => ?_)
 ·have aH1 := aH1b
  try simp only [qqT, qqF, qqN, qqM, qqL, qqE] at aH1
  refine VC.skip ?_
  refine VC.block ?_
  refine VC.sr ?_
  refine VO.mv rfl rfl rfl rfl ?_
  refine VO.mv rfl rfl rfl rfl ?_
  refine VO.op rfl (OpE.call rfl hB rfl Tryz.call124 rfl (SpecN.spec (strings_Index_S)) ?_)
  rintro _ rfl
  refine VO.ma rfl rfl rfl rfl ?_
  refine VO.nil ?_
  refine VC.seq ?_
  refine VC.sr ?_
  refine VO.mv rfl rfl rfl rfl ?_
  refine VO.val rfl rfl (OpV.lss rfl rfl rfl) ?_
  refine VO.nil ?_
  refine VC.cond rfl (fun h4b => ?_) (fun h4b => ?_)
  ·have h4 := h4b
   try simp only [qqT, qqF, qqN, qqM, qqL, qqE] at h4
   exact VC.absurd (by have := splitS_none h4; have h5 := congrArg List.length this; rw [splitS_len, ← hrl] at h5; simp at h5; omega)
  ·have h4 := h4b
   try simp only [qqT, qqF, qqN, qqM, qqL, qqE] at h4
   obtain ⟨m, hm⟩ : ∃ m : Nat, Lib.indexByte (byL r) c = m := ⟨(Lib.indexByte (byL r) c).toNat, by omega⟩
   obtain ⟨hm1, hm3, hr2⟩ := split_next hr hm
   refine VC.skip ?_
   refine VC.sr ?_
   refine VO.mv rfl rfl rfl rfl ?_
   refine VO.mv rfl rfl rfl rfl ?_
   refine VO.mv rfl rfl rfl rfl ?_
   refine VO.mv rfl rfl rfl rfl ?_
   refine VO.mv rfl rfl rfl rfl ?_
   refine VO.val rfl rfl (OpV.add rfl rfl rfl (by unfold fits; omega)) ?_
   refine VO.val rfl rfl (OpV.slice_s (h := m) rfl Tryz.underlying9 rfl rfl ⟨_, _, rfl, by omega⟩ (by omega) (by omega)) ?_
   refine VO.val rfl rfl (OpV.indexAddr_o rfl Tryz.underlying29 Tryz.sizeOf9 rfl rfl rfl (by omega)) ?_
   refine VO.op rfl (OpE.store1 (i := 0) rfl hB rfl Tryz.sizeOf9 rfl rfl rfl rfl rfl rfl (by rw [strsL_len, partS_len _ (by omega)]; exact hi) ((strsL_set _ _ _).trans (congrArg strsL (partS_set hi hm3))) trivial ?_)
   refine VO.nil ?_
   refine VC.sr ?_
   refine VO.mv rfl rfl rfl rfl ?_
   refine VO.mv rfl rfl rfl rfl ?_
   refine VO.mv rfl rfl rfl rfl ?_
   refine VO.val rfl rfl (OpV.len_s rfl Tryz.underlying9 rfl) ?_
   refine VO.val rfl rfl (OpV.add rfl rfl rfl (by unfold fits; omega)) ?_
   refine VO.val rfl rfl (OpV.slice_s (l := m + 1) rfl Tryz.underlying9 rfl ⟨_, _, rfl, by omega⟩ rfl (by omega) (by omega)) ?_
   refine VO.ma rfl rfl rfl rfl ?_
   refine VO.nil ?_
   refine VC.region ?_
   refine VO.mv rfl rfl rfl rfl ?_
   refine VO.val rfl rfl (OpV.add rfl rfl rfl (by unfold fits; omega)) ?_
   refine VO.ma rfl rfl rfl rfl ?_
   refine VO.nil ?_
   exact Exists.intro (⟨(r.extract (m + 1) r.size, i + 1), by show i + 1 < _; omega, hr2, by show (r.extract (m + 1) r.size).size ≤ _; rw [ByteArray.size_extract]; omega⟩) (And.intro (Le.mk hB [0] ⟨rfl, rfl, rfl, rfl, rfl, rfl, trivial⟩ rfl rfl (Nat.le_refl _)) (by first | omega | (show _ < _; omega) | (simp only []; omega)))
 ·have aH1 := aH1b
  try simp only [qqT, qqF, qqN, qqM, qqL, qqE] at aH1
  have hl1 : ps.length = i + 1 := by omega
  have hlast := split_last hr hl1
  refine VC.exit ?_
  refine VC.sr ?_
  refine VO.mv rfl rfl rfl rfl ?_
  refine VO.mv rfl rfl rfl rfl ?_
  refine VO.mv rfl rfl rfl rfl ?_
  refine VO.val rfl rfl (OpV.indexAddr_o rfl Tryz.underlying29 Tryz.sizeOf9 rfl rfl rfl (by omega)) ?_
  refine VO.op rfl (OpE.store1 (i := 0) rfl hB rfl Tryz.sizeOf9 rfl rfl rfl rfl rfl rfl (by rw [strsL_len, partS_len _ (by omega)]; exact hi) ((strsL_set _ _ _).trans (congrArg strsL (partS_set hi hlast))) trivial ?_)
  refine VO.nil ?_
  refine VC.sr ?_
  refine VO.mv rfl rfl rfl rfl ?_
  refine VO.mv rfl rfl rfl rfl ?_
  refine VO.val rfl rfl (OpV.add rfl rfl rfl (by unfold fits; omega)) ?_
  refine VO.val rfl rfl (OpV.slice_own (h := i + 1) rfl Tryz.underlying29 Tryz.sizeOf9 rfl rfl ⟨_, _, rfl, by omega⟩ (by omega) (by omega) (by omega)) ?_
  refine VO.ma rfl rfl rfl rfl ?_
  refine VO.nil ?_
  refine VC.ret ?_
  exact Exists.intro _ (And.intro (RetN.one Tryz.results167 (ResN.boxS (i := 0) (xs := partS ps (i + 1)) rfl rfl (by rw [partS_len _ (by omega)]; omega) (by omega) (capM (by omega)))) (by rw [hps, ← hl1, partS_all]))
end Go.Proofs.YtbbgjeiefmiblaaGreatDoor
namespace Go.Proofs.YtbbgjeiefmiblaaGreatDoor
open Go.RowKit
set_option linter.unusedVariables false
set_option linter.unusedSimpArgs false
theorem rep_sb {w : World} {Z : Nat → Prop} (p : ByteArray) (b : Bool) : Rep w Z (.tup [avS p, avB b]) (.tuple #[.string p, .bool b]) := .tup _ _ rfl fun q hq => by
 match q, hq with
 | 0, _ => exact .v _
 | 1, _ => exact .v _
theorem strings_CutSuffix_S {s p : ByteArray} (hs : s.size ≤ 1000000000) : SpecN Tryz.prog 122 [avS s, avS p] (fun y => y = .tup [avS (bytesOf (Lib.trimSuffix (byL s) (byL p))), avB (Lib.hasSuffix (byL s) (byL p))]) := by
 intro w us ha
 rw [argsV2 ha]
 refine (Tryz.strings_CutSuffix s p w (by omega)).mono ?_
 rintro e w' ⟨rfl, rfl⟩
 exact ⟨_, _, rfl, rfl, rep_sb _ _, Chg.refl _ _, trivial⟩
set_option maxRecDepth 100000 in
theorem strings_Split {s : ByteArray} {c : UInt8} (hs : s.size ≤ 100000000) :
  Spec Tryz.prog 123 [avS s, avS ⟨#[c]⟩] (fun y => y = avStrs (splitS c s)) := by
 refine Spec.of_VC Tryz.func123 rfl Tryz.ntmps123 (Nle rfl) fun w A hB => ?_
 have hnew : True := trivial
 refine VC.sr ?_
 refine VO.ma rfl rfl rfl rfl ?_
 refine VO.nil ?_
 refine VC.sr ?_
 refine VO.mv rfl rfl rfl rfl ?_
 refine VO.mv rfl rfl rfl rfl ?_
 refine VO.op rfl (OpE.call rfl hB rfl Tryz.call167 rfl (SpecN.spec (strings_genSplit hs)) ?_)
 rintro _ rfl
 refine VO.ma rfl rfl rfl rfl ?_
 refine VO.nil ?_
 refine VC.ret ?_
 exact Exists.intro _ (And.intro (RetV.one Tryz.results123 (ResV.tmp rfl)) (rfl))
def endB (s : ByteArray) : Bool := Lib.hasSuffix (byL s) [10]
def linesR (s : ByteArray) : List ByteArray := if sEq s ⟨#[]⟩ = true then [] else splitS 10 (bytesOf (Lib.trimSuffix (byL s) [10]))
def linesE (s : ByteArray) : Bool := if sEq s ⟨#[]⟩ = true then true else endB s
theorem trimSuffix_size (s p : ByteArray) : (bytesOf (Lib.trimSuffix (byL s) (byL p))).size ≤ s.size := by
 rw [← byL_len, ← byL_len]
 show ((Lib.trimSuffix (byL s) (byL p)).toArray.toList).length ≤ _
 unfold Lib.trimSuffix
 split <;> simp
set_option maxRecDepth 100000 in
theorem kit_Lines {s : ByteArray} (hs : s.size ≤ 100000000) :
  Spec Tryz.prog 77 [avS s] (fun y => y = .tup [avStrs (linesR s), avB (linesE s)]) := by
 refine Spec.of_VC Tryz.func77 rfl Tryz.ntmps77 (Nle rfl) fun w A hB => ?_
 have hnew : True := trivial
 refine VC.sr ?_
 refine VO.ma rfl rfl rfl rfl ?_
 first | refine VO.le _ (Le.recast (t := 2) (y := avStrs []) rfl (fun w Z u h => by rw [h.eq_v]; exact .nil _ _)) ?_ | skip
 refine VO.ma rfl rfl rfl rfl ?_
 refine VO.nil ?_
 refine VC.seq ?_
 refine VC.sr ?_
 refine VO.mv rfl rfl rfl rfl ?_
 refine VO.val rfl rfl (OpV.seql rfl rfl rfl) ?_
 refine VO.nil ?_
 refine VC.cond rfl (fun h0b => ?_) (fun h0b => ?_)
 ·have h0 := h0b
  try simp only [qqT, qqF, qqN, qqM, qqL, qqE] at h0
  refine VC.sr ?_
  refine VO.ma rfl rfl rfl rfl ?_
  first | refine VO.le _ (Le.recast (t := 2) (y := avStrs []) rfl (fun w Z u h => by rw [h.eq_v]; exact .nil _ _)) ?_ | skip
  refine VO.ma rfl rfl rfl rfl ?_
  refine VO.nil ?_
  refine VC.ret ?_
  exact Exists.intro _ (And.intro (RetV.two Tryz.results77 (ResV.tmp rfl) (ResV.tmp rfl)) (by rw [linesR, linesE, if_pos h0, if_pos h0]))
 ·have h0 := h0b
  try simp only [qqT, qqF, qqN, qqM, qqL, qqE] at h0
  refine VC.skip ?_
  refine VC.sr ?_
  refine VO.mv rfl rfl rfl rfl ?_
  refine VO.op rfl (OpE.call rfl hB rfl Tryz.call122 rfl (SpecN.spec (strings_CutSuffix_S (p := ⟨#[10]⟩) (by omega))) ?_)
  rintro _ rfl
  refine VO.mv rfl rfl rfl rfl ?_
  refine VO.val rfl rfl (OpV.extract rfl rfl rfl) ?_
  refine VO.val rfl rfl (OpV.extract rfl rfl rfl) ?_
  refine VO.ma rfl rfl rfl rfl ?_
  refine VO.ma rfl rfl rfl rfl ?_
  refine VO.nil ?_
  refine VC.sr ?_
  refine VO.mv rfl rfl rfl rfl ?_
  refine VO.op rfl (OpE.call rfl hB rfl Tryz.call123 rfl (strings_Split (c := 10) (Nat.le_trans (trimSuffix_size s ⟨#[10]⟩) hs)) ?_)
  rintro _ rfl
  refine VO.mv rfl rfl rfl rfl ?_
  refine VO.ma rfl rfl rfl rfl ?_
  first | refine VO.le _ (Le.recast (t := 2) (y := avStrs []) rfl (fun w Z u h => by rw [h.eq_v]; exact .nil _ _)) ?_ | skip
  refine VO.ma rfl rfl rfl rfl ?_
  refine VO.nil ?_
  refine VC.ret ?_
  exact Exists.intro _ (And.intro (RetV.two Tryz.results77 (ResV.tmp rfl) (ResV.tmp rfl)) (by rw [linesR, linesE, if_neg (by rw [h0]; simp), if_neg (by rw [h0]; simp)]; rfl))
end Go.Proofs.YtbbgjeiefmiblaaGreatDoor
namespace Go.Proofs.YtbbgjeiefmiblaaGreatDoor
open Go.RowKit
set_option linter.unusedVariables false
set_option linter.unusedSimpArgs false
def SpecW (g : World → Prop) (P : Program) (F : FuncId) (xs : List AV) (G : AV → Prop) : Prop :=
 ∀ (w : World) (A : Nat → Prop) (us : Array Value), g w → Args w A xs us → Calls P F us w (Ret w A NoB (fun _ => True) G)
section
variable {P : Program} {B : Bs} {W : Nat → Prop} {s : St'} {o : Oper} {K : St' → Prop}
theorem SpecW.of_VC {g : World → Prop} {F : FuncId} {fn : Func} {c : Code} (hf : P.funcs[F]? = some fn) (hb : fn.body = some c) {xs : List AV} {G : AV → Prop} {nt : Nat} (hn : fn.ntmps = nt) (hle : xs.length ≤ nt)
  (h : ∀ w A, g w → (B0 w A nt).Ok → VC P (B0 w A nt) c (retQ P fn G) ⟨slots0 0 xs, [], 0⟩) : SpecW g P F xs G := fun w A us hg ha =>
 (calls_of_VC (k := 0) hf hb (B := B0 w A nt) rfl hn.symm ha (fun _ h => h.elim) trivial (by omega) (h w A hg (B0.ok _ _ _))).mono fun e w' ⟨y, v, s, a, h1, h2, h3, h4⟩ =>
  ⟨y, v, h1, h2, h3.keep fun b hb _ => ⟨rfl, hb.1, fun hl => (hb.2.2 hl).1.elim id fun h => h.elim⟩, h4.chg, trivial⟩
end
def TabW (P : Program) (w : World) : Prop := Lib.TabIs P w "internal/strconv.uint64pow10" .u64 Lib.pow10Tab
theorem TabW.keep {P : Program} {S : Nat → Prop} {w w' : World} {g : Nat} (hg : P.globalNamed "internal/strconv.uint64pow10" = some g) (h : TabW P w) (c : Chg S w w') (hS : ¬ S g) : TabW P w' := by
 unfold TabW Lib.TabIs World.var? at *
 rw [hg] at h ⊢
 simp only [Option.bind_some] at h ⊢
 have hlt : g < w.heap.size := by
  by_cases hl : g < w.heap.size
  ·exact hl
  ·rw [Array.getElem?_eq_none (by omega)] at h; cases h
 rw [c.block g hlt hS]
 exact h
theorem TabW.base {P : Program} {w : World} {A : Nat → Prop} {nt g : Nat} (hg : P.globalNamed "internal/strconv.uint64pow10" = some g) (h : TabW P w) : ∀ {s a w'}, R (B0 w A nt) s a w' → TabW P w' := fun hr => h.keep hg hr.chg fun h => h
end Go.Proofs.YtbbgjeiefmiblaaGreatDoor
namespace Go.Proofs.YtbbgjeiefmiblaaGreatDoor
open Go.RowKit
set_option linter.unusedVariables false
set_option linter.unusedSimpArgs false
def joinL (xs : List ByteArray) (sep : ByteArray) : List UInt8 := Lib.join (xs.map (·.data.toList)) sep.data.toList
theorem strings_Join_S {xs : List ByteArray} {sep : ByteArray} (hN : xs.length ≤ 1000000) (hlen : (joinL xs sep).length ≤ 100000000) : SpecN Tryz.prog 117 [avStrs xs, avS sep] (fun y => y = avS (bytesOf (joinL xs sep))) := by
 intro w us ha
 obtain ⟨hsz, hr⟩ := ha
 have h0 : Rep w (fun b => b < w.heap.size ∧ True) (avStrs xs) (us.getD 0 undef) := hr 0 (by simp)
 have h1 : us.getD 1 undef = .string sep := (hr 1 (by simp)).eq_v
 have hus : us = #[us.getD 0 undef, .string sep] := by
  apply Array.ext (by simpa using hsz)
  intro i hi hi'
  simp at hi'
  match i, hi' with
  | 0, _ => simp [Array.getD_eq_getD_getElem?, Array.getElem?_eq_getElem hi]
  | 1, _ =>
   rw [Array.getD_eq_getD_getElem?, Array.getElem?_eq_getElem hi] at h1
   simpa using h1
 generalize us.getD 0 undef = v at h0 hus
 subst hus
 have h2 : Rep w (fun b => b < w.heap.size ∧ True) (.im xs.length 1 fun j => avS (xs.getD j ByteArray.empty)) v := h0
 clear h0 hr hsz h1
 generalize hn : xs.length = n at h2
 cases h2 with
 | nil =>
  have hx : xs = [] := List.length_eq_zero_iff.1 hn
  subst hx
  refine (Tryz.strings_Join_none none 0 sep w).mono ?_
  rintro e w' ⟨rfl, rfl⟩
  exact ⟨_, _, rfl, rfl, .v _, Chg.refl _ _, trivial⟩
 | im n sz f b off cap c e u hZ k1 k2 hb hc hrr =>
  subst hn
  refine (Tryz.strings_Join b off cap xs sep w (fun j x hj => ?_) hZ.1 (by omega) k1 (by unfold joinL at hlen; omega)).mono ?_
  ·have hjl : j < xs.length := (List.getElem?_eq_some_iff.1 hj).1
   have hx := (hrr j (by omega)).eq_v
   have hcj := hc j (by omega)
   rw [hx] at hcj
   have e1 : xs.getD j ByteArray.empty = x := by rw [List.getD_eq_getElem?_getD, hj]; rfl
   simp only [World.cell?, hb]
   rw [← e1]
   exact hcj
  ·rintro e w' ⟨rfl, h⟩
   exact ⟨_, _, rfl, rfl, .v _, .ofBelowN h, trivial⟩
theorem bytesOf_append (l r : List UInt8) : bytesOf l ++ bytesOf r = bytesOf (l ++ r) := by
 apply ByteArray.ext
 simp [bytesOf]
theorem bytesOf_size (l : List UInt8) : (bytesOf l).size = l.length := by rw [← byL_len]; simp [bytesOf, byL]
set_option maxRecDepth 100000 in
theorem kit_Join {xs : List ByteArray} (hN : xs.length ≤ 1000000) (hlen : (joinL xs ⟨#[32]⟩).length ≤ 10000000) :
  SpecN Tryz.prog 66 [avStrs xs] (fun y => y = avS (bytesOf (joinL xs ⟨#[32]⟩ ++ [10]))) := by
 refine SpecN.of_VCN Tryz.func66 rfl Tryz.ntmps66 (Nle rfl) fun w A hB => ?_
 have hnew : True := trivial
 refine VC.seq ?_
 have hz := bytesOf_size (joinL xs ⟨#[32]⟩)
 have hz1 : (⟨#[10]⟩ : ByteArray).size = 1 := rfl
 refine VC.region ?_
 refine VO.ma rfl rfl rfl rfl ?_
 refine VO.nil ?_
 refine VC.sr ?_
 refine VO.mv rfl rfl rfl rfl ?_
 refine VO.op rfl (OpE.call rfl hB rfl Tryz.call117 rfl (SpecN.spec (strings_Join_S (sep := ⟨#[32]⟩) hN (by omega))) ?_)
 rintro _ rfl
 refine VO.val rfl rfl (OpV.sadd rfl rfl rfl (by omega)) ?_
 refine VO.ma rfl rfl rfl rfl ?_
 refine VO.nil ?_
 refine VC.ret ?_
 exact Exists.intro _ (And.intro (RetN.one Tryz.results66 (ResN.v rfl)) (by rw [← bytesOf_append]; rfl))
end Go.Proofs.YtbbgjeiefmiblaaGreatDoor
namespace Go.Proofs.YtbbgjeiefmiblaaGreatDoor
open Go.RowKit Go.Lib
set_option linter.unusedVariables false
set_option linter.unusedSimpArgs false
def bysA (s : ByteArray) : List AV := (strCells s).map .v
theorem bysA_len (s : ByteArray) : (bysA s).length = s.size := by rw [bysA, List.length_map, strCells_length]
theorem appendS_run {P : Program} (w : World) (T U ty e : TypeId) (i : TypeInfo) (ht : P.underlying T = some (.slice e)) (hU : P.underlying U = some .string) (hi : P.info? e = some i) (hz : i.zero = some (.int .u8 0)) (hs : i.size = 1) (hb : i.bytes = 1)
  (u : Value) (n : Nat) (xs : List Value) (hown : w.ownsRow 0 e 1 u n xs) (s : ByteArray) (hlen : n + s.size ≤ 10000000000) :
  ∃ v' w', (Builtin.append_ #[T, U] ty #[u, .string s]).run P w = .ok v' w' ∧ w'.ownsRow 0 e 1 v' (n + s.size) (xs ++ strCells s) ∧ Chg (fun q => u.ownBlock = some q) w w' ∧ (v'.ownBlock = u.ownBlock ∨ ∃ g, v'.ownBlock = some g ∧ w.heap.size ≤ g) := by
 have h63 : n + s.size ≤ maxLen := by simp only [maxLen]; omega
 have hxl : xs.length = n := by simpa using hown.1
 have hll : (xs ++ strCells s).length = (n + s.size) * 1 := by rw [List.length_append, hxl, strCells_length, Nat.mul_one]
 have grown : ∀ (old : Nat), (w.drew.alloc (.cells (xs.toArray ++ (strCells s).toArray ++ Builtin.zeroCells (Value.int .u8 0).cells (grownCap w (n + s.size) old e - (n + s.size))) e)).ownsRow 0 e 1 (.slice (some ⟨w.heap.size, 0, none⟩) (n + s.size) (grownCap w (n + s.size) old e)) (n + s.size) (xs ++ strCells s) := by
  intro old
  have hge := grownCap_ge w (n + s.size) old e
  have hcm : grownCap w (n + s.size) old e ≤ maxLen := grownCap_le_maxLen w (n + s.size) old e h63
  refine ⟨hll, .inr ⟨w.heap.size, _, _, rfl, Nat.zero_le _, heap_alloc_new w.drew _, hge, hcm, ?_, ?_⟩⟩
  ·have hz1 : (Value.int IntKind.u8 0).cells.size = 1 := rfl
   simp only [Array.size_append, List.size_toArray, size_zeroCells, hz1, hxl, strCells_length]
   omega
  ·simp only [Array.toList_append, List.append_assoc]
   rw [← List.append_assoc, ← hll]
   exact List.take_left
 rcases hown.2 with ⟨rfl, rfl⟩ | ⟨g, cap, cur, rfl, hbg, hg, hnc, hcm, hcs, htake⟩
 ·have hx : xs = [] := List.eq_nil_of_length_eq_zero hxl
  subst hx
  by_cases hm : s.size = 0
  ·have hn : strCells s = [] := List.eq_nil_of_length_eq_zero (by rw [strCells_length]; exact hm)
   refine ⟨.slice none 0 0, w, ?_, by rw [hm, hn]; exact World.ownsRow_nil w 0 e 1, Chg.refl _ _, .inl rfl⟩
   have hf := run_firstCells_string (P := P) w 1 s
   rw [hm] at hf
   simp [Builtin.append_, run_underlying ht, run_underlying hU, sizeOf, typeInfo, hi, hs, Builtin.lenOf, hm, hf]
  ·have hr := run_append_nil_string (P := P) w T U ty e i (.int .u8 0) ht hU hi hz s (by omega) (by omega) (by rw [hb]; omega)
   have hgr := grown 0
   simp only [Nat.zero_add, List.nil_append, Array.empty_append] at hgr ⊢
   have e1 : (s.data.map fun b => Value.int .u8 b.toNat) = (strCells s).toArray := by
    apply Array.ext'
    simp [strCells]
   rw [e1] at hr
   exact ⟨_, _, hr, hgr, (Chg.refl _ w).drew.alloc _, .inr ⟨_, rfl, by simp⟩⟩
 ·by_cases hroom : n + s.size ≤ cap
  ·have hcs' : cur.size = cap := by simpa using hcs
   have hr := run_append_room_string (P := P) w T U ty e i ht hU hi hs g n cap cur hg s hroom (by omega)
   refine ⟨_, _, hr, ⟨hll, .inr ⟨g, cap, _, rfl, hbg, setRow_heap w g cur _ e _ hg, hroom, hcm, ?_, ?_⟩⟩, chg_setRow w g _, .inl rfl⟩
   ·simp only [List.size_toArray, List.length_append, List.length_take, List.length_drop, Array.length_toList, strCells_length]
    omega
   ·have ht' : cur.toList.take n = xs := by simpa using htake
    rw [ht', ← hll]
    exact List.take_left
  ·have holds : ∀ j u, xs[j]? = some u → w.cell? ((⟨g, 0, none⟩ : Addr).add j) = some u := hown.cells (g := g) rfl
   have hr := run_append_grow_string (P := P) w T U ty e i (.int .u8 0) ht hU hi hz ⟨g, 0, none⟩ n cap xs (by rw [hs]; simpa using hxl) holds s (by omega) (by omega) (by rw [hb]; exact growslice_fits (by omega) (by omega))
   exact ⟨_, _, hr, grown cap, (Chg.refl _ w).drew.alloc _, .inr ⟨_, rfl, by simp⟩⟩
theorem ownsRow_of {w : World} {Z : Nat → Prop} {u : Value} {t : ByteArray} {e : TypeId} (h : EntR w Z (.row u t.size 1 (bysA t) e)) : w.ownsRow 0 e 1 u t.size (strCells t) := by
 obtain ⟨h0, h⟩ := h
 refine ⟨by rw [strCells_length, Nat.mul_one], ?_⟩
 rcases h with ⟨rfl, h⟩ | ⟨g, cap, c, rfl, h1, h2, h3, h4, h5⟩
 ·exact .inl ⟨rfl, h⟩
 ·refine .inr ⟨g, cap, c, rfl, Nat.zero_le _, h3, h1, h2, h4, ?_⟩
  apply List.ext_getElem?
  intro j
  rw [List.getElem?_take]
  by_cases hj : j < t.size
  ·rw [if_pos (by omega)]
   obtain ⟨x, k1, k2⟩ := h5 j (by rw [bysA_len]; exact hj)
   have hl : j < (strCells t).length := by rw [strCells_length]; exact hj
   have k3 : (bysA t)[j]'(by rw [bysA_len]; exact hj) = .v ((strCells t)[j]) := by simp [bysA]
   rw [k3] at k2
   rw [Array.getElem?_toList, k1, k2.eq_v, List.getElem?_eq_getElem hl]
  ·rw [if_neg (by omega), List.getElem?_eq_none (by rw [strCells_length]; omega)]
theorem row_of_owns {w : World} {Z : Nat → Prop} {u : Value} {t : ByteArray} {n : Nat} {e : TypeId} (hn : n = t.size) (h : w.ownsRow 0 e 1 u n (strCells t)) : EntR w Z (.row u n 1 (bysA t) e) := by
 subst hn
 refine ⟨by rw [bysA_len, Nat.mul_one], ?_⟩
 rcases h.2 with ⟨rfl, h0⟩ | ⟨g, cap, cur, rfl, hbg, hg, hnc, hcm, hcs, htake⟩
 ·exact .inl ⟨rfl, h0⟩
 ·refine .inr ⟨g, cap, cur, rfl, hnc, hcm, hg, hcs, fun j hj => ?_⟩
  rw [bysA_len] at hj
  have hl : j < (strCells t).length := by rw [strCells_length]; exact hj
  have k3 : (bysA t)[j]'(by rw [bysA_len]; exact hj) = .v ((strCells t)[j]) := by simp [bysA]
  rw [k3]
  refine ⟨(strCells t)[j], ?_, .v _⟩
  have := congrArg (fun z => z[j]?) htake
  simp only [List.getElem?_take, List.getElem?_eq_getElem hl, Nat.mul_one] at this
  rw [if_pos hj] at this
  simpa using this
section
variable {P : Program} {B : Bs} {W : Nat → Prop} {s : St'} {a : Act} {w w' : World} {o : Oper} {K : St' → Prop}
theorem OpE.appendStr {x y : Operand} {T U e i : Nat} {u : Value} {t s0 : ByteArray} (ho : o.op = .call { callee := .builtin .append, args := #[x, y], argTypes := #[T, U] }) (hB : B.Ok) (hd : okd B.nt o.dst = true)
  (hu : P.underlying T = some (.slice e)) (hU : P.underlying U = some .string) (hinfo : (P.info? e).map (fun i => (i.zero, i.size, i.bytes)) = some (some (.int .u8 0), 1, 1))
  (hx : evO s x = some (.v u)) (hi : s.hp[i]? = some (.row u t.size 1 (bysA t) e)) (hy : evO s y = some (avS s0)) (hlen : t.size + s0.size ≤ 10000000000) (hW : ∀ g, u.ownBlock = some g → W g)
  (hK : ∀ u', K ((St'.mk s.sl (s.hp.set i (.row u' (t ++ s0).size 1 (bysA (t ++ s0)) e)) s.k).put o.dst (.v u'))) : OpE P B W s o K := by
 obtain ⟨ii, hii, hz0, hz1, hz2⟩ := info_parts hinfo
 intro a w hr next Qx hn
 have hmem := List.mem_of_getElem? hi
 have hE := hr.blocks _ hmem
 obtain ⟨v', w', hrun, hown, hch, hbl⟩ := appendS_run (P := P) w T U o.type e ii hu hU hii hz0 hz1 hz2 u t.size (strCells t) (ownsRow_of hE) s0 hlen
 have hsz : (t ++ s0).size = t.size + s0.size := ByteArray.size_append
 have hsc : strCells (t ++ s0) = strCells t ++ strCells s0 := by unfold strCells; rw [← List.map_append, ByteArray.data_append, Array.toList_append]
 have hr' := hr.set hB hi (e' := .row v' (t ++ s0).size 1 (bysA (t ++ s0)) e) hch hbl (row_of_owns rfl (by rw [hsc, hsz]; exact hown))
 unfold Oper.wp
 simp only [execOp, ho, resolve, invoke, builtin, List.map_toArray, List.map_cons, List.map_nil, hr.evv hx, hr.evv hy, Sem.run_bind, Sem.run_pure, Result.andThen_ok, hrun]
 exact hn _ _ _ (hK _) (hr'.put _ hd _ _ (.v _)) (hch.mono fun b _ h => .inr (hW b h))
end
end Go.Proofs.YtbbgjeiefmiblaaGreatDoor
namespace Go.Proofs.YtbbgjeiefmiblaaGreatDoor
open Go.RowKit
set_option linter.unusedVariables false
set_option linter.unusedSimpArgs false

def Inp (w : World) (a : Option Addr) (L : List Int) : Prop :=
 L.length ≤ 9223372036854775807 ∧ ∀ i, i < L.length → ∃ b o, a = some ⟨b, o, none⟩ ∧ w.cell? ⟨b, o + i, none⟩ = some (.int .i64 (L.getD i 0))

theorem Inp.ofRow {w : World} {a : Option Addr} {len cap : Nat} {zs : List Int}
  (h : (a = none ∧ len = 0 ∧ cap = 0 ∧ zs = []) ∨
   ∃ x, a = some x ∧ len ≤ cap ∧ cap ≤ maxLen ∧ zs.length = cap ∧ (∀ i, i < zs.length → w.cell? (x.add i) = some (.int .i64 (zs.getD i 0))) ∧ ∀ n ∈ zs, (Lit.int .i64 n).wf = true) :
  ∃ L : List Int, L.length = len ∧ Inp w a L := by
 rcases h with ⟨rfl, rfl, rfl, rfl⟩ | ⟨x, rfl, h1, h2, h3, h4, h5⟩
 ·exact ⟨[], rfl, by simp, by simp⟩
 ·unfold maxLen at h2
  refine ⟨zs.take len, by simp; omega, by simp; omega, fun i hi => ?_⟩
  have hi' : i < len ∧ i < zs.length := by simp at hi; omega
  obtain ⟨b, o, s⟩ := x
  have h0 := h4 0 (by omega)
  have hs : s = none := by
   cases s with
   | none => rfl
   | some s =>
    simp only [Addr.add, if_true, World.cell?] at h0
    split at h0 <;> simp at h0
  subst hs
  have hadd : (⟨b, o, none⟩ : Addr).add i = ⟨b, o + i, none⟩ := by unfold Addr.add; split <;> simp_all
  have := h4 i hi'.2
  rw [hadd] at this
  exact ⟨b, o, rfl, by rw [this]; simp [hi'.1, hi'.2]⟩

def lawQ (t : Nat) (x : Value) (e : Exit) (s : St') : Prop := e = .ret ∧ look s.sl t = some (.v x)
section
variable {P : Program} {w : World} {A : Nat → Prop} {nt t : Nat} {x : Value} {c : Code} {s : St'}
theorem VC.rebase (h : ∀ a w1, R (B0 w A nt) s a w1 → ∃ (B1 : Bs) (s1 : St'), B1.nt = nt ∧ B1.w0 = w1 ∧ (∀ b, B1.S b → w.heap.size ≤ b) ∧ R B1 s1 a w1 ∧ VC P B1 c (lawQ t x) s1) : VC P (B0 w A nt) c (lawQ t x) s := fun a w1 hr => by
 obtain ⟨B1, s1, h1, h2, h3, h4, h5⟩ := h a w1 hr
 refine Code.wp_mono (fun e a' w' ⟨s2, ⟨k1, k2⟩, k3⟩ => ?_) (h5 a w1 h4)
 refine ⟨⟨[(t, .v x)], [], 0⟩, ⟨k1, by simp [look_put]⟩, fun t' y hy => ?_, k3.size.trans h1, k3.defs, fun p hp => by simp at hp, List.Pairwise.nil, ?_, fun p hp => by simp at hp, trivial⟩
 ·rw [look_put] at hy
  split at hy
  ·rename_i e; subst e; cases hy; exact (k3.slots _ _ k2).flat ⟨_, rfl⟩
  ·cases hy
 ·have c1 := hr.chg
  have c2 := k3.chg
  rw [h2] at c2
  exact (c1.any.trans c2).mono fun b hb hs => (Nat.not_lt.2 (h3 b hs) hb).elim
theorem VC.stream {a0 : Option Addr} {cap0 g tot i : Nat} {L : List Int} {sl : List (Nat × AV)} (hi : s.hp[i]? = some (.box g ⟨[.v (.slice a0 L.length cap0), .v (.int .i64 0)], 25, tot⟩)) (htot : tot = 2) (hin : Inp w a0 L) (hsl : LeL s.sl sl) (hf : ∀ p ∈ sl, ∃ v, p.2 = .v v)
  (h : ∀ w1, w.heap.size ≤ g → (B1 w1 (fun b => b ≠ g) nt (fun b => b = g) (fun b => b ≤ g) (TT g L)).Ok → VC P (B1 w1 (fun b => b ≠ g) nt (fun b => b = g) (fun b => b ≤ g) (TT g L)) c (lawQ t x) ⟨sl, [], 0⟩) : VC P (B0 w A nt) c (lawQ t x) s :=
 VC.rebase fun a w1 hr => by
  have hm := List.mem_of_getElem? hi
  obtain ⟨cc, k1, k2, k3, k4⟩ := hr.blocks _ hm
  have hnew : ¬ g < w.heap.size := hr.isNew (fun b h => h) hm rfl
  have hge : w.heap.size ≤ g := by omega
  have hcc : cc = #[.slice a0 L.length cap0, .int .i64 0] := by
   obtain ⟨u0, p0, q0⟩ := k4 0 (by simp)
   obtain ⟨u1, p1, q1⟩ := k4 1 (by simp)
   have e0 := q0.eq_v
   have e1 := q1.eq_v
   have hsz : cc.size = 2 := k2.trans htot
   apply Array.ext (by simpa using hsz)
   intro i hi hi'
   simp at hi'
   match i, hi' with
   | 0, _ => have := Array.getElem?_eq_some_iff.1 p0; simp; rw [this.2, e0]
   | 1, _ => have := Array.getElem?_eq_some_iff.1 p1; simp; rw [this.2, e1]
  subst hcc
  have hT : TT g L w1 0 := ⟨0, Nat.le_refl _, a0, cap0, k1, hin.1, fun i hi => by
   obtain ⟨b, o, e1, e2⟩ := hin.2 i hi
   have hb := World.block_lt_of_cell? w _ e2
   exact ⟨b, o, e1, Nat.lt_of_lt_of_le hb hge, hr.chg.cell e2 fun h => h⟩⟩
  refine ⟨_, _, rfl, rfl, fun b hb => by rw [hb]; exact hge, ?_, h w1 hge (TT.ok hT)⟩
  refine ⟨fun t' y hy => ?_, hr.size, hr.defs, fun p hp => by simp at hp, List.Pairwise.nil, Chg.refl _ _, fun p hp => by simp at hp, hT⟩
  have hs := hr.slots t' y (LeL.look hsl t' y hy)
  have : ∃ v, y = .v v := by
   have key : ∀ (l : List (Nat × AV)), (∀ p ∈ l, ∃ v, p.2 = .v v) → look l t' = some y → ∃ v, y = .v v := by
    intro l
    induction l with
    | nil => intro _ h; cases h
    | cons p r ih =>
     intro hp hl
     obtain ⟨k, z⟩ := p
     rw [look_put] at hl
     split at hl
     ·cases hl; exact hp (k, y) (by simp)
     ·exact ih (fun q hq => hp q (by simp [hq])) hl
   exact key sl hf hy
  exact hs.flat this
theorem law_calls {F : FuncId} {fn : Func} {a0 : Option Addr} {cap0 : Nat} {L : List Int} {body : Code} (hf : P.funcs[F]? = some fn) (hb : fn.body = some body) (hn : fn.ntmps = nt) (h1 : 1 ≤ nt) (hres : fn.results = #[.tmp t])
  (h : VC P (B0 w (fun _ => True) nt) body (lawQ t (.bool true)) ⟨slots0 0 [.v (.slice a0 L.length cap0)], [], 0⟩) : Calls P F #[.slice a0 L.length cap0] w fun e w' => e = .returned (.bool true) ∧ Chg NoB w w' := by
 subst hn
 refine calls_of_wp hf hb (Code.wp_mono (fun e a w' hq => ?_) (h _ w (R.start (us := #[.slice a0 L.length cap0]) (k := 0) rfl ⟨rfl, fun j hj => by simp at hj; subst hj; exact .v _⟩ (fun _ h => h.elim) trivial (by show fn.ntmps = 1 + (fn.ntmps - 1); omega))))
 obtain ⟨s, ⟨rfl, hq⟩, hr⟩ := hq
 refine ⟨hr.defs, .bool true, ?_, rfl, hr.chg⟩
 have hv := (hr.slots t _ hq).eq_v
 simp [results_eq, hres, resRun, hv]
end
theorem Le.boolT {B : Bs} {s : St'} {t : Nat} {b : Bool} (ht : look s.sl t = some (avB b)) (hb : b = true) : Le B s ⟨(t, avB true) :: s.sl, s.hp, s.k⟩ := Le.recast ht fun w Z u h => by subst hb; exact h
end Go.Proofs.YtbbgjeiefmiblaaGreatDoor
namespace Go.Proofs.YtbbgjeiefmiblaaGreatDoor
open Go.RowKit Go.Lib
set_option linter.unusedVariables false
set_option linter.unusedSimpArgs false
def bldOk (g : Nat) (p : Value) : Prop := p = .pointer none ∨ p = ptv g
theorem bldOk.none (g : Nat) : bldOk g (.pointer none) := .inl rfl
theorem bldOk.self (g : Nat) : bldOk g (ptv g) := .inr rfl
abbrev bldE (g : Nat) (p u : Value) : Ent := .box g ⟨[.v p, .v u], 103, 2⟩
abbrev bufE (u : Value) (t : ByteArray) : Ent := .row u t.size 1 (bysA t) 5
set_option maxHeartbeats 1000000 in
set_option maxRecDepth 100000 in
theorem copyCheck_used (g : Nat) (w : World) (h0 : w.cell? ⟨g, 0, none⟩ = some (.pointer (some ⟨g, 0, none⟩))) : Calls Tryz.prog 116 #[.pointer (some ⟨g, 0, none⟩)] w fun e w' => e = .returned (.tuple #[]) ∧ w' = w := by
 obtain ⟨j, hj, _⟩ := Option.map_eq_some_iff.1 (show (Tryz.prog.info? 103).map (·.size) = some 2 by kernel_rfl)
 go_enter Tryz.func116, Tryz.ntmps116
 go_wp2
 rw [Lib.run_neq_ptr_same w _ Tryz.underlying100 hj]
 go_wp2
 go_end0
 exact ⟨rfl, rfl⟩
set_option maxHeartbeats 1000000 in
set_option maxRecDepth 100000 in
theorem copyCheck_fresh (g : Nat) (w : World) (h0 : w.cell? ⟨g, 0, none⟩ = some (.pointer none)) (hsh : w.shape? g = some (103, 2)) (hfz : w.frozen? ⟨g, 0, none⟩ = false) :
  Calls Tryz.prog 116 #[.pointer (some ⟨g, 0, none⟩)] w fun e w' => e = .returned (.tuple #[]) ∧ w' = w.setCell ⟨g, 0, none⟩ (.pointer (some ⟨g, 0, none⟩)) := by
 obtain ⟨j, hj, hjs⟩ := Option.map_eq_some_iff.1 (show (Tryz.prog.info? 103).map (·.size) = some 2 by kernel_rfl)
 go_enter Tryz.func116, Tryz.ntmps116
 go_wp2
 rw [Lib.run_to_unsafe w ⟨g, 0, none⟩ Tryz.underlying100 Tryz.underlying216 hj (by rw [hjs]; decide) hsh (Nat.zero_lt_succ 1)]
 simp only [Result.andThen]
 rw [Oper.upon_value]
 go_wp2
 rw [run_callFunc_extern Tryz.func153 (by kernel_rfl) (by kernel_rfl) (by kernel_rfl) (e := Extern.AbiNoEscape.same) (by kernel_rfl)]
 rw [Lib.run_noEscape]
 simp only [Result.andThen]
 rw [Oper.upon_value]
 go_wp2
 rw [Lib.run_from_unsafe w ⟨g, 0, none⟩ Tryz.underlying216 Tryz.underlying100 hj hsh (by show liesAt _ _ _ _ 0 _ 1 = true; decide +kernel)]
 simp only [Result.andThen]
 rw [Oper.upon_value]
 go_wp2
 go_end0
 exact ⟨rfl, rfl⟩
theorem copyCheck_H {g : Nat} {p u : Value} (hp : bldOk g p) : SpecH Tryz.prog 116 [pt g] [bldE g p u] (fun y hp' => y = .tup [] ∧ hp' = [bldE g (ptv g) u]) := fun w A us ha hap hA hE => by
 obtain rfl := args1 ha
 obtain ⟨c, k1, k2, k3, k4⟩ := hE _ (List.mem_cons_self ..)
 obtain ⟨v0, p0, q0⟩ := k4 0 (by simp)
 obtain ⟨v1, p1, q1⟩ := k4 1 (by simp)
 have e0 : v0 = p := (show Rep w _ (.v p) v0 from q0).eq_v
 have e1 : v1 = u := (show Rep w _ (.v u) v1 from q1).eq_v
 subst e0; subst e1
 have hcell : w.cell? ⟨g, 0, none⟩ = some v0 := by simp [World.cell?, k1, p0]
 have hc2 : c.size = 2 := k2
 rcases hp with rfl | rfl
 ·refine (copyCheck_fresh g w hcell (by simp [World.shape?, k1, hc2]) (by simp [World.frozen?, k1])).mono fun e w' ⟨h1, h2⟩ => ?_
  subst h1; subst h2
  have hheap : (w.setCell ⟨g, 0, none⟩ (ptv g)).heap[g]? = some (.cells (c.setIfInBounds 0 (ptv g)) 103 (0, 0)) := by simp [World.setCell, Array.getElem?_modify, k1]
  refine ⟨_, .tuple #[], _, ⟨rfl, rfl⟩, rfl, List.pairwise_singleton _ _, .tup _ _ rfl (fun j hj => by simp at hj), fun e he => ?_, fun b ⟨e, he, hb⟩ _ => ?_, (Chg.setAt w g 0 _).mono fun b _ hb => ⟨_, List.mem_cons_self .., by have : b = g := hb; rw [this]; rfl⟩⟩
  ·obtain rfl := List.mem_singleton.1 he
   refine ⟨_, hheap, by simp [hc2], by simp, fun j hj => ?_⟩
   match j, hj with
   | 0, _ => exact ⟨ptv g, by simp [hc2], .v _⟩
   | 1, _ => exact ⟨v1, by rw [Array.getElem?_setIfInBounds_ne (by decide)]; exact p1, .v _⟩
  ·obtain rfl := List.mem_singleton.1 he
   exact ⟨_, List.mem_cons_self .., hb⟩
 ·refine (copyCheck_used g w hcell).mono fun e w' ⟨h1, h2⟩ => ?_
  subst h1; subst h2
  refine ⟨_, .tuple #[], _, ⟨rfl, rfl⟩, rfl, List.pairwise_singleton _ _, .tup _ _ rfl (fun j hj => by simp at hj), fun e he => ?_, fun b ⟨e, he, hb⟩ _ => ?_, Chg.refl _ _⟩
  ·obtain rfl := List.mem_singleton.1 he
   refine ⟨_, k1, k2, k3, fun j hj => ?_⟩
   match j, hj with
   | 0, _ => exact ⟨_, p0, .v _⟩
   | 1, _ => exact ⟨_, p1, .v _⟩
  ·obtain rfl := List.mem_singleton.1 he
   exact ⟨_, List.mem_cons_self .., hb⟩
set_option maxRecDepth 100000 in
theorem Builder_WriteString_H {g : Nat} {p u : Value} {t s : ByteArray} (hp : bldOk g p) (hlen : t.size + s.size ≤ 1000000000) :
  SpecH Tryz.prog 65 [pt g, avS s] [bldE g p u, bufE u t] (fun y hp' => ∃ u', y = .tup [avI s.size, .v .nilIface] ∧ hp' = [bldE g (ptv g) u', bufE u' (t ++ s)]) := by
 refine SpecH.of_VC Tryz.func65 rfl Tryz.ntmps65 (Nle rfl) fun w A hB => ?_
 have hnew : True := trivial
 refine VC.sr ?_
 refine VO.ma rfl rfl rfl rfl ?_
 refine VO.ma rfl rfl rfl rfl ?_
 refine VO.nil ?_
 refine VC.sr ?_
 refine VO.mv rfl rfl rfl rfl ?_
 refine VO.op rfl (OpE.callH (rest := [_]) rfl hB rfl Tryz.call116 rfl rfl (copyCheck_H hp) (List.Perm.refl _) (fun _ _ => trivial) ?_)
 rintro _ _ ⟨rfl, rfl⟩
 refine VO.nil ?_
 refine VC.sr ?_
 refine VO.mv rfl rfl rfl rfl ?_
 refine VO.mv rfl rfl rfl rfl ?_
 refine VO.val rfl rfl (OpV.nilCheck rfl rfl) ?_
 refine VO.val rfl rfl (OpV.fieldAddrO 1 rfl Tryz.underlying103 rfl rfl Tryz.sizeOf101 rfl) ?_
 refine VO.val rfl rfl (OpV.load_own (i := 0) rfl hB Tryz.isAgg101 rfl rfl rfl (fun h => h)) ?_
 refine VO.mv rfl rfl rfl rfl ?_
 refine VO.op rfl (OpE.appendStr (i := 1) rfl hB rfl Tryz.underlying101 Tryz.underlying9 (infoOf Tryz.t5 1 (by kernel_rfl) rfl rfl) rfl rfl rfl (by omega) (fun _ _ => trivial) ?_)
 intro u14
 refine VO.rowIs (i := 1) rfl (fun b14 c14 hu14 => ?_)
 subst hu14
 refine VO.val rfl rfl (OpV.nilCheck rfl rfl) ?_
 refine VO.val rfl rfl (OpV.fieldAddrO 1 rfl Tryz.underlying103 rfl rfl Tryz.sizeOf101 rfl) ?_
 refine VO.op rfl (OpE.store (i := 0) rfl hB rfl Tryz.sizeOf101 rfl rfl rfl rfl rfl rfl (Nle rfl) trivial ?_)
 refine VO.nil ?_
 refine VC.sr ?_
 refine VO.mv rfl rfl rfl rfl ?_
 refine VO.val rfl rfl (OpV.len_s rfl Tryz.underlying9 rfl) ?_
 refine VO.ma rfl rfl rfl rfl ?_
 refine VO.ma rfl rfl rfl rfl ?_
 refine VO.nil ?_
 refine VC.ret ?_
 exact Exists.intro _ (And.intro (RetV.two Tryz.results65 (ResV.tmp rfl) (ResV.tmp rfl)) (⟨_, rfl, rfl⟩))
theorem ownsRow_ofB {w : World} {Z : Nat → Prop} {u : Value} {t : ByteArray} {e : TypeId} {B0 : Nat} (h : EntR w Z (.row u t.size 1 (bysA t) e)) (hb : ∀ g, u.ownBlock = some g → B0 ≤ g) : w.ownsRow B0 e 1 u t.size (strCells t) := by
 obtain ⟨h0, h1⟩ := ownsRow_of h
 refine ⟨h0, ?_⟩
 rcases h1 with h1 | ⟨g, cap, cur, rfl, h2, h3⟩
 ·exact .inl h1
 ·exact .inr ⟨g, cap, cur, rfl, hb g rfl, h3⟩
section
variable {B : Bs} {s : St'} {o : Oper} {K : St' → Prop}
theorem OpE.bstr {x : Operand} {ts : Array TypeId} {g i j : Nat} {p u : Value} {d : ByteArray} (ho : o.op = .call { callee := .value (.func 68), args := #[x], argTypes := ts }) (hB : B.Ok) (hd : okd B.nt o.dst = true) (hS : ∀ b, ¬ B.S b)
  (hcall : ∀ us w, (callFunc 68 us).run Tryz.prog w = .ok (.enter 68 us) w) (hx : evO s x = some (pt g)) (hi : s.hp[i]? = some (bldE g p u)) (hp : bldOk g p) (hj : s.hp[j]? = some (bufE u d)) (hne : i ≠ j)
  (hK : K ((St'.mk [] [] s.k).put o.dst (avS d))) : OpE Tryz.prog B AllW s o K := by
 intro a w hr next Qx hn
 have hmi := List.mem_of_getElem? hi
 have hmj := List.mem_of_getElem? hj
 have hnew : ∀ q ∈ s.hp, ∀ b, q.blk = some b → B.w0.heap.size ≤ b := fun q hq b hb => by
  have := hr.isNew (fun b h => hS b h) hq hb
  omega
 have hE := hr.blocks _ hmj
 have hown := ownsRow_ofB hE (B0 := B.w0.heap.size) (fun b hb => hnew _ hmj b hb)
 obtain ⟨c, k1, k2, k3, k4⟩ := hr.blocks _ hmi
 obtain ⟨v0, p0, q0⟩ := k4 0 (by simp)
 obtain ⟨v1, p1, q1⟩ := k4 1 (by simp)
 have e0 : v0 = p := (show Rep w _ (.v p) v0 from q0).eq_v
 have e1 : v1 = u := (show Rep w _ (.v u) v1 from q1).eq_v
 subst e0; subst e1
 have hc2 : c.size = 2 := k2
 have hcc : c = #[v0, v1] := by
  apply Array.ext (by simpa using hc2)
  intro n h1 h2
  have h2' : n < 2 := by simpa using h2
  match n, h2' with
  | 0, _ => have := Array.getElem?_eq_some_iff.1 p0; simp; rw [this.2]
  | 1, _ => have := Array.getElem?_eq_some_iff.1 p1; simp; rw [this.2]
 subst hcc
 have hapart : v1.ownBlock ≠ some g := by
  intro e
  have hh := hr.nodup
  unfold Apart at hh
  have hil := (List.getElem?_eq_some_iff.1 hi).1
  have hjl := (List.getElem?_eq_some_iff.1 hj).1
  rw [List.pairwise_iff_getElem] at hh
  have ei := (List.getElem?_eq_some_iff.1 hi).2
  have ej := (List.getElem?_eq_some_iff.1 hj).2
  rcases Nat.lt_or_gt_of_ne hne with h | h
  ·have := hh i j hil hjl h g (by rw [ei]; rfl)
   rw [ej] at this; exact this e
  ·have := hh j i hjl hil h g (by rw [ej]; exact e)
   rw [ei] at this; exact this rfl
 have hbs : Lib.IsBuilder 103 5 B.w0.heap.size g (Lib.byteCells d.data.toList) w := by
  have hb0 := hnew _ hmi g rfl
  have hrow : w.ownsRow B.w0.heap.size 5 1 v1 (Lib.byteCells d.data.toList).length (Lib.byteCells d.data.toList) := by
   have e2 : (Lib.byteCells d.data.toList) = strCells d := rfl
   rw [e2, strCells_length]; exact hown
  rcases hp with rfl | rfl
  ·exact .inl ⟨hb0, v1, k1, hrow, hapart⟩
  ·exact .inr ⟨hb0, v1, k1, hrow, hapart⟩
 have h1 := Tryz.Builder_String_any B.w0.heap.size g d.data.toList w hbs hr.chg.size
 unfold Oper.wp
 have hxv := hr.evv hx
 simp only [execOp, ho, resolve, Act.eval, Deferred.ofValue, Sem.run_bind, Sem.run_pure, Result.andThen_ok, invoke, hcall, Array.empty_append, Array.append_empty]
 simp only [Oper.upon]
 have hargs : (#[x].map a.eval) = #[ptv g] := by simp [hxv]
 rw [hargs]
 refine h1.mono fun e w' ⟨h2, h3⟩ => ?_
 subst h2
 have hchg : Chg (fun b => B.w0.heap.size ≤ b) w w' := ⟨h3.os, h3.tape, h3.output, h3.size, fun k hk hn => h3.block k (Nat.lt_of_not_le hn)⟩
 have hr' : R B ⟨[], [], s.k⟩ a w' := by
  refine ⟨fun t y hy => (by cases hy), hr.size, hr.defs, fun q hq => (by cases hq), List.Pairwise.nil, ?_, fun q hq => (by cases hq), hB.keep hr.res hchg fun b hb h => ?_⟩
  ·obtain ⟨c1, c2, c3, c4, c5⟩ := hr.chg
   exact ⟨h3.os.trans c1, h3.tape.trans c2, h3.output.trans c3, Nat.le_trans c4 h3.size, fun k hk hn => (h3.block k hk).trans (c5 k hk hn)⟩
  ·have := hB.low b hb; omega
 exact hn _ _ _ hK (hr'.put _ hd _ _ (.v _)) ⟨h3.os, h3.tape, h3.output, h3.size, fun k hk hn => (hn (.inr trivial)).elim⟩
end
end Go.Proofs.YtbbgjeiefmiblaaGreatDoor
namespace Go.Proofs.YtbbgjeiefmiblaaGreatDoor
open Go.RowKit
set_option linter.unusedVariables false
set_option linter.unusedSimpArgs false
def Zt (w : World) (A : Nat → Prop) (hp' : List Ent) (w' : World) : Nat → Prop := fun b => b < w'.heap.size ∧ ¬ BlkL hp' b ∧ (b < w.heap.size → A b)
def SpecTO (P : Program) (T : World → Nat → Prop) (str : Nat → Prop) (F : FuncId) (xs : List AV) (c : Nat) (G : AV → List Ent → Prop) : Prop :=
 ∀ (w : World) (A : Nat → Prop) (us : Array Value) (k : Nat), Args w A xs us → T w k → (∀ b, str b → ¬ A b) → k + c ≤ 1000000 →
  Calls P F us w fun e w' => ∃ y v hp', G y hp' ∧ e = .returned v ∧ Apart hp' ∧ Rep w' (Zt w A hp' w') y v ∧ (∀ e ∈ hp', EntR w' (Zt w A hp' w') e) ∧ (∀ b, BlkL hp' b → w.heap.size ≤ b) ∧ Chg str w w' ∧ T w' (k + c)
theorem SpecTO.mono {P : Program} {T : World → Nat → Prop} {str : Nat → Prop} {F : FuncId} {xs : List AV} {c : Nat} {G G' : AV → List Ent → Prop} (h : SpecTO P T str F xs c G) (hg : ∀ y hp', G y hp' → G' y hp') : SpecTO P T str F xs c G' := fun w A us k h1 h2 h3 h4 =>
 (h w A us k h1 h2 h3 h4).mono fun e w' ⟨y, v, hp', k1, k2⟩ => ⟨y, v, hp', hg _ _ k1, k2⟩
theorem SpecTO.of_VC {P : Program} {F : FuncId} {fn : Func} {c : Code} (hf : P.funcs[F]? = some fn) (hb : fn.body = some c) {xs : List AV} {G : AV → List Ent → Prop} {nt n : Nat} (hn : fn.ntmps = nt) (hle : xs.length ≤ nt) {T : World → Nat → Prop} {str low : Nat → Prop}
  (hok : ∀ w A k, T w k → (B1 w A nt str low T).Ok)
  (h : ∀ w A k, k + n ≤ 1000000 → (B1 w A nt str low T).Ok → VC P (B1 w A nt str low T) c (retS P fn fun y s => G y s.hp ∧ s.k ≤ k + n) ⟨slots0 0 xs, [], k⟩) : SpecTO P T str F xs n G := fun w A us k ha hT hSA hk =>
 (calls_of_VC (k := k) hf hb (B := B1 w A nt str low T) rfl hn.symm ha hSA hT (by omega) (h w A k hk (hok w A k hT))).mono fun e w' ⟨y, v, s, a, h1, h2, h3, h4⟩ => by
  have hB := hok w A k hT
  have hZ : ∀ b, Zn (B1 w A nt str low T) s.hp w' b → Zt w A s.hp w' b := fun b hb => ⟨hb.1, fun ⟨p, hp1, hp2⟩ => hb.2.1 p hp1 hp2, fun hl => (hb.2.2 hl).1.resolve_right (hb.2.2 hl).2⟩
  refine ⟨y, v, s.hp, h1.1, h2, h4.nodup, h3.keep fun b hb _ => ⟨rfl, hZ b hb⟩, fun p hp' => (h4.blocks p hp').keep (fun b hb _ => ⟨rfl, hZ b hb⟩) fun g _ => rfl, fun b ⟨p, hp1, hp2⟩ => ?_, h4.chg, hB.up h4.res h1.2⟩
  obtain ⟨q1, q2⟩ := h4.own p hp1 b hp2
  rcases Nat.lt_or_ge b w.heap.size with hl | hl
  ·exact absurd (hB.str b (q2 hl)).1 q1
  ·exact hl
section
variable {P : Program} {B : Bs} {W : Nat → Prop} {s : St'} {o : Oper} {K : St' → Prop} {a : Act} {w w' : World}
end
end Go.Proofs.YtbbgjeiefmiblaaGreatDoor
