/- Part 3 of a proof: the walks and laws that it needs. -/
import Derived.Test.YtcploodfholkkaaGreatDoorZJ2
set_option linter.unusedVariables false
set_option linter.unusedSimpArgs false
namespace Go.Proofs.YtcploodfholkkaaGreatDoor
open Go.RowKit
set_option maxRecDepth 100000
section
def lowK {α : Type} (key : α → ByteArray) (l : List α) (k : ByteArray) : Nat := (l.takeWhile fun x => sLt (key x) k).length
theorem lowK_le {α : Type} {key : α → ByteArray} {l : List α} {k : ByteArray} : lowK key l k ≤ l.length := by
 unfold lowK
 exact (List.takeWhile_sublist _).length_le
section
variable {α : Type} [Inhabited α] (key : α → ByteArray) (l : List α) (k : ByteArray)
def RiseK : Prop := ∀ j, 0 < j → j < l.length → sLe (key (l.getD j default)) (key (l.getD (j - 1) default)) = false
variable {key l k}
theorem takeWhile_at {p : α → Bool} : ∀ (l : List α) (j : Nat), j < (l.takeWhile p).length → p (l.getD j default) = true
 | [], j, h => by simp at h
 | x :: l, j, h => by
  rw [List.takeWhile_cons] at h
  split at h
  ·rename_i hx
   cases j with
   | zero => simpa using hx
   | succ j => simpa using takeWhile_at l j (by simpa using h)
  ·simp at h
theorem takeWhile_end {p : α → Bool} : ∀ (l : List α), (l.takeWhile p).length < l.length → p (l.getD (l.takeWhile p).length default) = false
 | [], h => by simp at h
 | x :: l, h => by
  rw [List.takeWhile_cons] at h ⊢
  split
  ·rename_i hx
   rw [if_pos hx] at h
   simpa using takeWhile_end l (by simpa using h)
  ·rename_i hx
   simpa using hx
theorem lowK_lt {j : Nat} (h : j < lowK key l k) : sLt (key (l.getD j default)) k = true := takeWhile_at (p := fun x => sLt (key x) k) l j h
theorem rise_step {a b : ByteArray} (h : sLe b a = false) : sLt a b = true := by
 unfold sLe at h
 rw [Bool.or_eq_false_iff] at h
 exact sLt_total h.1 fun e => by rw [e, sEq_eq.2 rfl] at h; cases h.2
theorem rise_lt (hr : RiseK key l) : ∀ (i j : Nat), i < j → j < l.length → sLt (key (l.getD i default)) (key (l.getD j default)) = true
 | i, 0, h, _ => by omega
 | i, j + 1, h, hl => by
  have h1 := rise_step (hr (j + 1) (by omega) hl)
  rw [Nat.add_sub_cancel] at h1
  by_cases e : i = j
  ·subst e; exact h1
  ·exact sLt_trans (rise_lt hr i j (by omega) (by omega)) h1
theorem lowK_ge (hr : RiseK key l) {j : Nat} (h : lowK key l k ≤ j) (hj : j < l.length) : sLt (key (l.getD j default)) k = false := by
 have h0 : sLt (key (l.getD (lowK key l k) default)) k = false := takeWhile_end (p := fun x => sLt (key x) k) l (Nat.lt_of_le_of_lt h hj)
 by_cases e : j = lowK key l k
 ·rw [e]; exact h0
 ·have h1 := rise_lt hr (lowK key l k) j (by omega) hj
  cases h2 : sLt (key (l.getD j default)) k with
  | false => rfl
  | true => rw [sLt_trans h1 h2] at h0; cases h0
theorem lowK_any (hr : RiseK key l) : (decide (lowK key l k < l.length) && sEq (key (l.getD (lowK key l k) default)) k) = l.any fun x => sEq (key x) k := by
 cases hb : l.any (fun x => sEq (key x) k) with
 | true =>
  obtain ⟨x, hx, he⟩ := List.any_eq_true.1 hb
  obtain ⟨j, hj, rfl⟩ := List.getElem_of_mem hx
  have hd : l.getD j default = l[j] := by rw [List.getD_eq_getElem?_getD, List.getElem?_eq_getElem hj]; rfl
  have he' : key (l.getD j default) = k := by rw [hd]; exact sEq_eq.1 he
  have h1 : lowK key l k ≤ j := by
   rcases Nat.lt_or_ge j (lowK key l k) with h | h
   ·have := lowK_lt h; rw [he', sLt_irr] at this; cases this
   ·exact h
  have h2 : lowK key l k = j := by
   by_cases e : lowK key l k = j
   ·exact e
   ·have := rise_lt hr (lowK key l k) j (by omega) hj
    rw [he'] at this
    have := lowK_ge hr (k := k) (Nat.le_refl _) (by omega)
    simp_all
  rw [h2, he', decide_eq_true hj, sEq_eq.2 rfl]; rfl
 | false =>
  cases hc : (decide (lowK key l k < l.length) && sEq (key (l.getD (lowK key l k) default)) k) with
  | false => rfl
  | true =>
   rw [Bool.and_eq_true, decide_eq_true_eq] at hc
   rw [List.any_eq_false] at hb
   have := hb _ (List.getElem_mem hc.1)
   have hc1 := hc.1
   have hd : l.getD (lowK key l k) default = l[lowK key l k]'hc1 := by rw [List.getD_eq_getElem?_getD, List.getElem?_eq_getElem hc1]; rfl
   have hc2 := hc.2
   rw [hd] at hc2
   exact absurd hc2 this
theorem find_first {p : α → Bool} : ∀ (l : List α) (j : Nat), j < l.length → p (l.getD j default) = true → (∀ i, i < j → p (l.getD i default) = false) → (l.find? p).getD default = l.getD j default
 | [], j, h, _, _ => by simp at h
 | x :: l, 0, _, h, _ => by simp at h; simp [h]
 | x :: l, j + 1, hj, h, hn => by
  have h0 := hn 0 (by omega)
  simp at h0
  simp only [List.find?_cons, h0]
  rw [find_first l j (by simpa using hj) (by simpa using h) (fun i hi => by simpa using hn (i + 1) (by omega))]
  simp
theorem lowK_find (hr : RiseK key l) (h1 : lowK key l k < l.length) (h2 : sEq (key (l.getD (lowK key l k) default)) k = true) : (l.find? fun x => sEq (key x) k).getD default = l.getD (lowK key l k) default :=
 find_first l _ h1 h2 fun i hi => by
  have := lowK_lt hi
  cases e : sEq (key (l.getD i default)) k with
  | false => rfl
  | true => rw [sEq_eq.1 e, sLt_irr] at this; cases this
theorem find_none' {p : α → Bool} {l : List α} (h : l.any p = false) : (l.find? p).getD default = default := by
 rw [List.find?_eq_none.2 fun x hx => by rw [List.any_eq_false] at h; exact h x hx]; rfl
theorem lowK_cmp (hr : RiseK key l) : (∀ j, j < lowK key l k → cmpB (key (l.getD j default)) k < 0) ∧ (∀ j, lowK key l k ≤ j → j < l.length → 0 ≤ cmpB (key (l.getD j default)) k) := by
 refine ⟨fun j hj => ?_, fun j hj hl => ?_⟩
 ·have := lowK_lt hj
  rw [← cmpB_lt, decide_eq_true_eq] at this; exact this
 ·have := lowK_ge hr hj hl
  rw [← cmpB_lt, decide_eq_false_iff_not] at this; omega
theorem cmp_zero (a b : ByteArray) : decide (cmpB a b = 0) = sEq a b := by
 rw [sEq_dec]
 by_cases h : a = b
 ·rw [decide_eq_true h, decide_eq_true (cmpB_eq.2 h)]
 ·rw [decide_eq_false h, decide_eq_false fun e => h (cmpB_eq.1 e)]
end
theorem bsf_lo {f : Nat → Int} {s0 n h : Nat} (hhi : ∀ j, s0 ≤ j → j < n → 0 ≤ f j) (hn : h < n) (hc : f h < 0) : h + 1 ≤ s0 := by
 rcases Nat.lt_or_ge h s0 with h1 | h1
 ·exact h1
 ·have := hhi h h1 hn; omega
theorem bsf_hi {f : Nat → Int} {s0 h : Nat} (hlo : ∀ j, j < s0 → f j < 0) (hc : 0 ≤ f h) : s0 ≤ h := by
 rcases Nat.lt_or_ge h s0 with h1 | h1
 ·have := hlo h h1; omega
 ·exact h1
end
section
theorem panel_isSize {n : Int}  :
  SpecN Tryz.prog 160 [avI n] (fun y => y = avB (!outR n 1 500000)) := by
 refine SpecN.of_VCN Tryz.func160 rfl Tryz.ntmps160 (Nle rfl) fun w A hB => ?_
 refine VC.sr ?_
 refine VO.ma rfl rfl rfl rfl ?_
 refine VO.nil ?_
 refine VC.sr ?_
 refine VO.mv rfl rfl rfl rfl ?_
 refine VO.op rfl (OpE.call rfl hB rfl Tryz.call161 rfl (SpecN.spec (kit_Outside)) ?_)
 rintro _ rfl
 refine VO.val rfl rfl (OpV.not rfl rfl) ?_
 refine VO.ma rfl rfl rfl rfl ?_
 refine VO.nil ?_
 refine VC.ret ?_
 exact Exists.intro _ (And.intro (RetN.one Tryz.results160 (ResN.v rfl)) (rfl))
theorem panel_placementFault {p : ProdS} {i : Nat} (hs : SmP p) (hi : i < p.places.length) :
  SpecN Tryz.prog 231 [avProd p, avI (i : Int)] (fun y => y = avI (placeE p i)) := by
 refine SpecN.of_VCN Tryz.func231 rfl Tryz.ntmps231 (Nle rfl) fun w A hB => ?_
 refine VC.seq ?_
 have hl := hs.len
 refine VC.region ?_
 refine VO.op rfl (OpE.box rfl hB rfl rfl rfl ?_)
 intro g2
 refine VO.ma rfl rfl rfl rfl ?_
 refine VO.nil ?_
 refine VC.sr ?_
 refine VO.val rfl rfl (OpV.fieldAddrO 3 rfl Tryz.underlying28 rfl rfl Tryz.sizeOf26 rfl) ?_
 refine VO.val rfl rfl (OpV.load_own (i := 0) rfl hB Tryz.isAgg26 rfl rfl rfl (fun h => h)) ?_
 refine VO.mv rfl rfl rfl rfl ?_
 refine VO.val rfl rfl (OpV.indexAddr_E rfl Tryz.underlying26 Tryz.sizeOf152 rfl rfl rfl (by omega)) ?_
 refine VO.val rfl rfl (OpV.loadK_at rfl hB OutW.no Tryz.isAgg152 Tryz.sizeOf152 rfl rfl) ?_
 refine VO.op rfl (OpE.alloc rfl hB rfl Tryz.zeroValue152 rfl ?_)
 intro g5
 refine VO.op rfl (OpE.store (i := 1) rfl hB rfl Tryz.sizeOf152 rfl rfl rfl rfl rfl rfl (Nle rfl) trivial ?_)
 refine VO.nil ?_
 refine VC.seq ?_
 refine VC.block ?_
 refine VC.sr ?_
 refine VO.val rfl rfl (OpV.fieldAddrO 0 rfl Tryz.underlying152 rfl rfl Tryz.sizeOf9 rfl) ?_
 refine VO.val rfl rfl (OpV.load_own (i := 1) rfl hB Tryz.isAgg9 rfl rfl rfl (fun h => h)) ?_
 refine VO.op rfl (OpE.call rfl hB rfl Tryz.call230 rfl (SpecN.spec (kit_IsKey (by have := hs.name i; omega))) ?_)
 rintro _ rfl
 refine VO.val rfl rfl (OpV.not rfl rfl) ?_
 refine VO.mv rfl rfl rfl rfl ?_
 refine VO.opG rfl rfl rfl rfl (fun aK1b => ?_) (fun aK1b => ?_)
 ·replace aK1b : _ = false := aK1b
  have aK1 := aK1b
  try simp only [qq] at aK1
  refine OpE.val (W := NoB) (OpV.fieldAddrO 1 rfl Tryz.underlying152 rfl rfl Tryz.sizeOf9 rfl) rfl ?_
  refine VO.opY rfl rfl rfl rfl aK1b ?_
  refine OpE.val (W := NoB) (OpV.load_own (i := 1) rfl hB Tryz.isAgg9 rfl rfl rfl (fun h => h)) rfl ?_
  refine VO.opY rfl rfl rfl rfl aK1b ?_
  refine OpE.call rfl hB rfl Tryz.call230 rfl (SpecN.spec (kit_IsKey (by have := hs.part i; omega))) ?_
  rintro _ rfl
  refine VO.opY rfl rfl rfl rfl aK1b ?_
  refine OpE.val (W := NoB) (OpV.not rfl rfl) rfl ?_
  refine VO.val rfl rfl (OpV.pickF rfl rfl rfl rfl aK1b) ?_
  refine VO.ma rfl rfl rfl rfl ?_
  refine VO.nil ?_
  refine VC.cond rfl (fun aH2b => ?_) (fun aH2b => ?_)
  ·have aH2 := aH2b
   try simp only [qq] at aH2
   refine VC.sr ?_
   refine VO.ma rfl rfl rfl rfl ?_
   refine VO.nil ?_
   refine VC.ret ?_
   exact Exists.intro _ (And.intro (RetN.one Tryz.results231 (ResN.v rfl)) (by first | rw [placeE_5a (by assumption)] | rw [placeE_5b (by assumption)]))
  ·have aH2 := aH2b
   try simp only [qq] at aH2
   refine VC.seq ?_
   refine VC.draw (fun _ => NoB) hB (by kernel_rfl) ?_
   refine VA.take (i := 0) rfl (by kernel_rfl) (by kernel_rfl) (by kernel_rfl) rfl rfl (OpV.move (.inl rfl) rfl) ?_
   refine VA.take (i := 1) rfl (by kernel_rfl) (by kernel_rfl) (by kernel_rfl) rfl rfl (OpV.gtr rfl rfl rfl) ?_
   refine VA.take (i := 2) rfl (by kernel_rfl) (by kernel_rfl) (by kernel_rfl) rfl rfl (OpV.move (.inl rfl) rfl) ?_
   refine VA.split (t := 25) rfl (fun aK3b => ?_) (fun aK3b => ?_)
   ·have aK3 := aK3b
    try simp only [qq] at aK3
    refine VA.takeY (i := 3) rfl (by kernel_rfl) (by kernel_rfl) (by kernel_rfl) rfl rfl rfl rfl aK3b (OpV.fieldAddrO 0 rfl Tryz.underlying152 rfl rfl Tryz.sizeOf9 rfl) ?_
    refine VA.takeY (i := 4) rfl (by kernel_rfl) (by kernel_rfl) (by kernel_rfl) rfl rfl rfl rfl aK3b (OpV.load_own (i := 1) rfl hB Tryz.isAgg9 rfl rfl rfl Wi.not0) ?_
    refine VA.takeY (i := 5) rfl (by kernel_rfl) (by kernel_rfl) (by kernel_rfl) rfl rfl rfl rfl aK3b (OpV.fieldAddrO 3 rfl Tryz.underlying28 rfl rfl Tryz.sizeOf26 rfl) ?_
    refine VA.takeY (i := 6) rfl (by kernel_rfl) (by kernel_rfl) (by kernel_rfl) rfl rfl rfl rfl aK3b (OpV.load_own (i := 0) rfl hB Tryz.isAgg26 rfl rfl rfl Wi.not0) ?_
    refine VA.takeY (i := 7) rfl (by kernel_rfl) (by kernel_rfl) (by kernel_rfl) rfl rfl rfl rfl aK3b (OpV.move (.inl rfl) rfl) ?_
    refine VA.takeY (i := 8) rfl (by kernel_rfl) (by kernel_rfl) (by kernel_rfl) rfl rfl rfl rfl aK3b (OpV.sub rfl rfl rfl (by unfold fits; omega)) ?_
    refine VA.takeY (i := 9) rfl (by kernel_rfl) (by kernel_rfl) (by kernel_rfl) rfl rfl rfl rfl aK3b (OpV.indexAddr_E rfl Tryz.underlying26 Tryz.sizeOf152 rfl rfl (show ((i : Int) - 1) = ((i - 1 : Nat) : Int) by omega) (by omega)) ?_
    refine VA.takeY (i := 10) rfl (by kernel_rfl) (by kernel_rfl) (by kernel_rfl) rfl rfl rfl rfl aK3b (OpV.fieldAddr_atO 0 rfl Tryz.underlying152 rfl rfl Tryz.sizeOf9 rfl rfl) ?_
    refine VA.takeY (i := 11) rfl (by kernel_rfl) (by kernel_rfl) (by kernel_rfl) rfl rfl rfl rfl aK3b (OpV.load_at rfl hB OutW.wi0 Tryz.isAgg9 rfl rfl) ?_
    refine VA.takeY (i := 12) rfl (by kernel_rfl) (by kernel_rfl) (by kernel_rfl) rfl rfl rfl rfl aK3b (OpV.sleq rfl rfl rfl) ?_
    refine VA.take (i := 13) rfl (by kernel_rfl) (by kernel_rfl) (by kernel_rfl) rfl rfl (OpV.pickT rfl rfl rfl rfl aK3b) ?_
    refine VA.take (i := 14) rfl (by kernel_rfl) (by kernel_rfl) (by kernel_rfl) rfl rfl (OpV.move (.inr rfl) rfl) ?_
    refine VA.done (by kernel_rfl) ?_
    refine VC.cond rfl (fun aH4b => ?_) (fun aH4b => ?_)
    ·have aH4 := aH4b
     try simp only [qq] at aH4
     refine VC.sr ?_
     refine VO.ma rfl rfl rfl rfl ?_
     refine VO.nil ?_
     refine VC.ret ?_
     exact Exists.intro _ (And.intro (RetN.one Tryz.results231 (ResN.v rfl)) (by rw [placeE_7 (by assumption) (by assumption) (by omega) (by assumption)]))
    ·have aH4 := aH4b
     try simp only [qq] at aH4
     refine VC.sr ?_
     refine VO.val rfl rfl (OpV.fieldAddrO 2 rfl Tryz.underlying152 rfl rfl Tryz.sizeOf3 rfl) ?_
     refine VO.val rfl rfl (OpV.load_own (i := 1) rfl hB Tryz.isAgg3 rfl rfl rfl (fun h => h)) ?_
     refine VO.val rfl rfl (OpV.fieldAddrO 1 rfl Tryz.underlying28 rfl rfl Tryz.sizeOf3 rfl) ?_
     refine VO.val rfl rfl (OpV.load_own (i := 0) rfl hB Tryz.isAgg3 rfl rfl rfl (fun h => h)) ?_
     refine VO.op rfl (OpE.call rfl hB rfl Tryz.call161 rfl (SpecN.spec (kit_Outside)) ?_)
     rintro _ rfl
     refine VO.mv rfl rfl rfl rfl ?_
     refine VO.opG rfl rfl rfl rfl (fun aK5b => ?_) (fun aK5b => ?_)
     ·replace aK5b : _ = false := aK5b
      have aK5 := aK5b
      try simp only [qq] at aK5
      refine OpE.val (W := NoB) (OpV.fieldAddrO 3 rfl Tryz.underlying152 rfl rfl Tryz.sizeOf3 rfl) rfl ?_
      refine VO.opY rfl rfl rfl rfl aK5b ?_
      refine OpE.val (W := NoB) (OpV.load_own (i := 1) rfl hB Tryz.isAgg3 rfl rfl rfl (fun h => h)) rfl ?_
      refine VO.opY rfl rfl rfl rfl aK5b ?_
      refine OpE.val (W := NoB) (OpV.fieldAddrO 2 rfl Tryz.underlying28 rfl rfl Tryz.sizeOf3 rfl) rfl ?_
      refine VO.opY rfl rfl rfl rfl aK5b ?_
      refine OpE.val (W := NoB) (OpV.load_own (i := 0) rfl hB Tryz.isAgg3 rfl rfl rfl (fun h => h)) rfl ?_
      refine VO.opY rfl rfl rfl rfl aK5b ?_
      refine OpE.call rfl hB rfl Tryz.call161 rfl (SpecN.spec (kit_Outside)) ?_
      rintro _ rfl
      refine VO.val rfl rfl (OpV.pickF rfl rfl rfl rfl aK5b) ?_
      refine VO.mv rfl rfl rfl rfl ?_
      refine VO.opG rfl rfl rfl rfl (fun aK6b => ?_) (fun aK6b => ?_)
      ·replace aK6b : _ = false := aK6b
       have aK6 := aK6b
       try simp only [qq] at aK6
       refine OpE.val (W := NoB) (OpV.fieldAddrO 4 rfl Tryz.underlying152 rfl rfl Tryz.sizeOf3 rfl) rfl ?_
       refine VO.opY rfl rfl rfl rfl aK6b ?_
       refine OpE.val (W := NoB) (OpV.load_own (i := 1) rfl hB Tryz.isAgg3 rfl rfl rfl (fun h => h)) rfl ?_
       refine VO.opY rfl rfl rfl rfl aK6b ?_
       refine OpE.call rfl hB rfl Tryz.call161 rfl (SpecN.spec (kit_Outside)) ?_
       rintro _ rfl
       refine VO.val rfl rfl (OpV.pickF rfl rfl rfl rfl aK6b) ?_
       refine VO.ma rfl rfl rfl rfl ?_
       refine VO.nil ?_
       refine VC.cond rfl (fun aH7b => ?_) (fun aH7b => ?_)
       ·have aH7 := aH7b
        try simp only [qq] at aH7
        refine VC.sr ?_
        refine VO.ma rfl rfl rfl rfl ?_
        refine VO.nil ?_
        refine VC.ret ?_
        exact Exists.intro _ (And.intro (RetN.one Tryz.results231 (ResN.v rfl)) (by first | rw [placeE_1 (by assumption) (by assumption) (by first | (left; omega) | (right; assumption)) (by first | exact or3a (by assumption) | exact or3b (by assumption) | exact or3c (by assumption))]))
       ·have aH7 := aH7b
        try simp only [qq] at aH7
        refine VC.skip ?_
        refine VC.sr ?_
        refine VO.ma rfl rfl rfl rfl ?_
        refine VO.nil ?_
        refine VC.ret ?_
        exact Exists.intro _ (And.intro (RetN.one Tryz.results231 (ResN.v rfl)) (by rw [placeE_0 (by assumption) (by assumption) (by first | (left; omega) | (right; assumption)) (or3f (by assumption) (by assumption) (by assumption))]))
      ·replace aK6b : _ = true := aK6b
       have aK6 := aK6b
       try simp only [qq] at aK6
       refine VO.opX rfl rfl rfl rfl aK6b ?_
       refine VO.opX rfl rfl rfl rfl aK6b ?_
       refine VO.val rfl rfl (OpV.pickT rfl rfl rfl rfl aK6b) ?_
       refine VO.ma rfl rfl rfl rfl ?_
       refine VO.nil ?_
       refine VC.condT rfl rfl ?_
       refine VC.sr ?_
       refine VO.ma rfl rfl rfl rfl ?_
       refine VO.nil ?_
       refine VC.ret ?_
       exact Exists.intro _ (And.intro (RetN.one Tryz.results231 (ResN.v rfl)) (by first | rw [placeE_1 (by assumption) (by assumption) (by first | (left; omega) | (right; assumption)) (by first | exact or3a (by assumption) | exact or3b (by assumption) | exact or3c (by assumption))]))
     ·replace aK5b : _ = true := aK5b
      have aK5 := aK5b
      try simp only [qq] at aK5
      refine VO.opX rfl rfl rfl rfl aK5b ?_
      refine VO.opX rfl rfl rfl rfl aK5b ?_
      refine VO.opX rfl rfl rfl rfl aK5b ?_
      refine VO.opX rfl rfl rfl rfl aK5b ?_
      refine VO.val rfl rfl (OpV.pickT rfl rfl rfl rfl aK5b) ?_
      refine VO.mv rfl rfl rfl rfl ?_
      refine VO.opX rfl rfl rfl rfl rfl ?_
      refine VO.opX rfl rfl rfl rfl rfl ?_
      refine VO.opX rfl rfl rfl rfl rfl ?_
      refine VO.val rfl rfl (OpV.pickT rfl rfl rfl rfl rfl) ?_
      refine VO.ma rfl rfl rfl rfl ?_
      refine VO.nil ?_
      refine VC.condT rfl rfl ?_
      refine VC.sr ?_
      refine VO.ma rfl rfl rfl rfl ?_
      refine VO.nil ?_
      refine VC.ret ?_
      exact Exists.intro _ (And.intro (RetN.one Tryz.results231 (ResN.v rfl)) (by first | rw [placeE_1 (by assumption) (by assumption) (by first | (left; omega) | (right; assumption)) (by first | exact or3a (by assumption) | exact or3b (by assumption) | exact or3c (by assumption))]))
   ·have aK3 := aK3b
    try simp only [qq] at aK3
    refine VA.takeX (i := 3) rfl (by kernel_rfl) (by kernel_rfl) (by kernel_rfl) rfl rfl rfl rfl aK3b ?_
    refine VA.takeX (i := 4) rfl (by kernel_rfl) (by kernel_rfl) (by kernel_rfl) rfl rfl rfl rfl aK3b ?_
    refine VA.takeX (i := 5) rfl (by kernel_rfl) (by kernel_rfl) (by kernel_rfl) rfl rfl rfl rfl aK3b ?_
    refine VA.takeX (i := 6) rfl (by kernel_rfl) (by kernel_rfl) (by kernel_rfl) rfl rfl rfl rfl aK3b ?_
    refine VA.takeX (i := 7) rfl (by kernel_rfl) (by kernel_rfl) (by kernel_rfl) rfl rfl rfl rfl aK3b ?_
    refine VA.takeX (i := 8) rfl (by kernel_rfl) (by kernel_rfl) (by kernel_rfl) rfl rfl rfl rfl aK3b ?_
    refine VA.takeX (i := 9) rfl (by kernel_rfl) (by kernel_rfl) (by kernel_rfl) rfl rfl rfl rfl aK3b ?_
    refine VA.takeX (i := 10) rfl (by kernel_rfl) (by kernel_rfl) (by kernel_rfl) rfl rfl rfl rfl aK3b ?_
    refine VA.takeX (i := 11) rfl (by kernel_rfl) (by kernel_rfl) (by kernel_rfl) rfl rfl rfl rfl aK3b ?_
    refine VA.takeX (i := 12) rfl (by kernel_rfl) (by kernel_rfl) (by kernel_rfl) rfl rfl rfl rfl aK3b ?_
    refine VA.take (i := 13) rfl (by kernel_rfl) (by kernel_rfl) (by kernel_rfl) rfl rfl (OpV.pickF rfl rfl rfl rfl aK3b) ?_
    refine VA.take (i := 14) rfl (by kernel_rfl) (by kernel_rfl) (by kernel_rfl) rfl rfl (OpV.move (.inr rfl) rfl) ?_
    refine VA.done (by kernel_rfl) ?_
    refine VC.condF rfl rfl ?_
    refine VC.sr ?_
    refine VO.val rfl rfl (OpV.fieldAddrO 2 rfl Tryz.underlying152 rfl rfl Tryz.sizeOf3 rfl) ?_
    refine VO.val rfl rfl (OpV.load_own (i := 1) rfl hB Tryz.isAgg3 rfl rfl rfl (fun h => h)) ?_
    refine VO.val rfl rfl (OpV.fieldAddrO 1 rfl Tryz.underlying28 rfl rfl Tryz.sizeOf3 rfl) ?_
    refine VO.val rfl rfl (OpV.load_own (i := 0) rfl hB Tryz.isAgg3 rfl rfl rfl (fun h => h)) ?_
    refine VO.op rfl (OpE.call rfl hB rfl Tryz.call161 rfl (SpecN.spec (kit_Outside)) ?_)
    rintro _ rfl
    refine VO.mv rfl rfl rfl rfl ?_
    refine VO.opG rfl rfl rfl rfl (fun aK8b => ?_) (fun aK8b => ?_)
    ·replace aK8b : _ = false := aK8b
     have aK8 := aK8b
     try simp only [qq] at aK8
     refine OpE.val (W := NoB) (OpV.fieldAddrO 3 rfl Tryz.underlying152 rfl rfl Tryz.sizeOf3 rfl) rfl ?_
     refine VO.opY rfl rfl rfl rfl aK8b ?_
     refine OpE.val (W := NoB) (OpV.load_own (i := 1) rfl hB Tryz.isAgg3 rfl rfl rfl (fun h => h)) rfl ?_
     refine VO.opY rfl rfl rfl rfl aK8b ?_
     refine OpE.val (W := NoB) (OpV.fieldAddrO 2 rfl Tryz.underlying28 rfl rfl Tryz.sizeOf3 rfl) rfl ?_
     refine VO.opY rfl rfl rfl rfl aK8b ?_
     refine OpE.val (W := NoB) (OpV.load_own (i := 0) rfl hB Tryz.isAgg3 rfl rfl rfl (fun h => h)) rfl ?_
     refine VO.opY rfl rfl rfl rfl aK8b ?_
     refine OpE.call rfl hB rfl Tryz.call161 rfl (SpecN.spec (kit_Outside)) ?_
     rintro _ rfl
     refine VO.val rfl rfl (OpV.pickF rfl rfl rfl rfl aK8b) ?_
     refine VO.mv rfl rfl rfl rfl ?_
     refine VO.opG rfl rfl rfl rfl (fun aK9b => ?_) (fun aK9b => ?_)
     ·replace aK9b : _ = false := aK9b
      have aK9 := aK9b
      try simp only [qq] at aK9
      refine OpE.val (W := NoB) (OpV.fieldAddrO 4 rfl Tryz.underlying152 rfl rfl Tryz.sizeOf3 rfl) rfl ?_
      refine VO.opY rfl rfl rfl rfl aK9b ?_
      refine OpE.val (W := NoB) (OpV.load_own (i := 1) rfl hB Tryz.isAgg3 rfl rfl rfl (fun h => h)) rfl ?_
      refine VO.opY rfl rfl rfl rfl aK9b ?_
      refine OpE.call rfl hB rfl Tryz.call161 rfl (SpecN.spec (kit_Outside)) ?_
      rintro _ rfl
      refine VO.val rfl rfl (OpV.pickF rfl rfl rfl rfl aK9b) ?_
      refine VO.ma rfl rfl rfl rfl ?_
      refine VO.nil ?_
      refine VC.cond rfl (fun aH10b => ?_) (fun aH10b => ?_)
      ·have aH10 := aH10b
       try simp only [qq] at aH10
       refine VC.sr ?_
       refine VO.ma rfl rfl rfl rfl ?_
       refine VO.nil ?_
       refine VC.ret ?_
       exact Exists.intro _ (And.intro (RetN.one Tryz.results231 (ResN.v rfl)) (by first | rw [placeE_1 (by assumption) (by assumption) (by first | (left; omega) | (right; assumption)) (by first | exact or3a (by assumption) | exact or3b (by assumption) | exact or3c (by assumption))]))
      ·have aH10 := aH10b
       try simp only [qq] at aH10
       refine VC.skip ?_
       refine VC.sr ?_
       refine VO.ma rfl rfl rfl rfl ?_
       refine VO.nil ?_
       refine VC.ret ?_
       exact Exists.intro _ (And.intro (RetN.one Tryz.results231 (ResN.v rfl)) (by rw [placeE_0 (by assumption) (by assumption) (by first | (left; omega) | (right; assumption)) (or3f (by assumption) (by assumption) (by assumption))]))
     ·replace aK9b : _ = true := aK9b
      have aK9 := aK9b
      try simp only [qq] at aK9
      refine VO.opX rfl rfl rfl rfl aK9b ?_
      refine VO.opX rfl rfl rfl rfl aK9b ?_
      refine VO.val rfl rfl (OpV.pickT rfl rfl rfl rfl aK9b) ?_
      refine VO.ma rfl rfl rfl rfl ?_
      refine VO.nil ?_
      refine VC.condT rfl rfl ?_
      refine VC.sr ?_
      refine VO.ma rfl rfl rfl rfl ?_
      refine VO.nil ?_
      refine VC.ret ?_
      exact Exists.intro _ (And.intro (RetN.one Tryz.results231 (ResN.v rfl)) (by first | rw [placeE_1 (by assumption) (by assumption) (by first | (left; omega) | (right; assumption)) (by first | exact or3a (by assumption) | exact or3b (by assumption) | exact or3c (by assumption))]))
    ·replace aK8b : _ = true := aK8b
     have aK8 := aK8b
     try simp only [qq] at aK8
     refine VO.opX rfl rfl rfl rfl aK8b ?_
     refine VO.opX rfl rfl rfl rfl aK8b ?_
     refine VO.opX rfl rfl rfl rfl aK8b ?_
     refine VO.opX rfl rfl rfl rfl aK8b ?_
     refine VO.val rfl rfl (OpV.pickT rfl rfl rfl rfl aK8b) ?_
     refine VO.mv rfl rfl rfl rfl ?_
     refine VO.opX rfl rfl rfl rfl rfl ?_
     refine VO.opX rfl rfl rfl rfl rfl ?_
     refine VO.opX rfl rfl rfl rfl rfl ?_
     refine VO.val rfl rfl (OpV.pickT rfl rfl rfl rfl rfl) ?_
     refine VO.ma rfl rfl rfl rfl ?_
     refine VO.nil ?_
     refine VC.condT rfl rfl ?_
     refine VC.sr ?_
     refine VO.ma rfl rfl rfl rfl ?_
     refine VO.nil ?_
     refine VC.ret ?_
     exact Exists.intro _ (And.intro (RetN.one Tryz.results231 (ResN.v rfl)) (by first | rw [placeE_1 (by assumption) (by assumption) (by first | (left; omega) | (right; assumption)) (by first | exact or3a (by assumption) | exact or3b (by assumption) | exact or3c (by assumption))]))
 ·replace aK1b : _ = true := aK1b
  have aK1 := aK1b
  try simp only [qq] at aK1
  refine VO.opX rfl rfl rfl rfl aK1b ?_
  refine VO.opX rfl rfl rfl rfl aK1b ?_
  refine VO.opX rfl rfl rfl rfl aK1b ?_
  refine VO.val rfl rfl (OpV.pickT rfl rfl rfl rfl aK1b) ?_
  refine VO.ma rfl rfl rfl rfl ?_
  refine VO.nil ?_
  refine VC.condT rfl rfl ?_
  refine VC.sr ?_
  refine VO.ma rfl rfl rfl rfl ?_
  refine VO.nil ?_
  refine VC.ret ?_
  exact Exists.intro _ (And.intro (RetN.one Tryz.results231 (ResN.v rfl)) (by first | rw [placeE_5a (by assumption)] | rw [placeE_5b (by assumption)]))
theorem panel_CheckProduct {p : ProdS} (hs : SmP p) :
  SpecN Tryz.prog 159 [avProd p] (fun y => y = avI (prodF p)) := by
 refine SpecN.of_VCN Tryz.func159 rfl Tryz.ntmps159 (Nle rfl) fun w A hB => ?_
 refine VC.seq ?_
 have hl := hs.len
 refine VC.region ?_
 refine VO.op rfl (OpE.box rfl hB rfl rfl rfl ?_)
 intro g1
 refine VO.ma rfl rfl rfl rfl ?_
 refine VO.nil ?_
 refine VC.seq ?_
 refine VC.block ?_
 refine VC.sr ?_
 refine VO.val rfl rfl (OpV.fieldAddrO 0 rfl Tryz.underlying28 rfl rfl Tryz.sizeOf9 rfl) ?_
 refine VO.val rfl rfl (OpV.load_own (i := 0) rfl hB Tryz.isAgg9 rfl rfl rfl (fun h => h)) ?_
 refine VO.op rfl (OpE.call rfl hB rfl Tryz.call230 rfl (SpecN.spec (kit_IsKey (by have := hs.key; omega))) ?_)
 rintro _ rfl
 refine VO.val rfl rfl (OpV.not rfl rfl) ?_
 refine VO.ma rfl rfl rfl rfl ?_
 refine VO.nil ?_
 refine VC.cond rfl (fun k0b => ?_) (fun k0b => ?_)
 ·have k0 := k0b
  try simp only [qq] at k0
  refine VC.sr ?_
  refine VO.ma rfl rfl rfl rfl ?_
  refine VO.nil ?_
  refine VC.ret ?_
  exact Exists.intro _ (And.intro (RetN.one Tryz.results159 (ResN.v rfl)) (by rw [prodF_5 (by assumption)]))
 ·have k0 := k0b
  try simp only [qq] at k0
  refine VC.sr ?_
  refine VO.val rfl rfl (OpV.fieldAddrO 1 rfl Tryz.underlying28 rfl rfl Tryz.sizeOf3 rfl) ?_
  refine VO.val rfl rfl (OpV.load_own (i := 0) rfl hB Tryz.isAgg3 rfl rfl rfl (fun h => h)) ?_
  refine VO.op rfl (OpE.call rfl hB rfl Tryz.call160 rfl (SpecN.spec (panel_isSize)) ?_)
  rintro _ rfl
  refine VO.val rfl rfl (OpV.not rfl rfl) ?_
  refine VO.mv rfl rfl rfl rfl ?_
  refine VO.opG rfl rfl rfl rfl (fun aK1b => ?_) (fun aK1b => ?_)
  ·replace aK1b : _ = false := aK1b
   have aK1 := aK1b
   try simp only [qq] at aK1
   refine OpE.val (W := NoB) (OpV.fieldAddrO 2 rfl Tryz.underlying28 rfl rfl Tryz.sizeOf3 rfl) rfl ?_
   refine VO.opY rfl rfl rfl rfl aK1b ?_
   refine OpE.val (W := NoB) (OpV.load_own (i := 0) rfl hB Tryz.isAgg3 rfl rfl rfl (fun h => h)) rfl ?_
   refine VO.opY rfl rfl rfl rfl aK1b ?_
   refine OpE.call rfl hB rfl Tryz.call160 rfl (SpecN.spec (panel_isSize)) ?_
   rintro _ rfl
   refine VO.opY rfl rfl rfl rfl aK1b ?_
   refine OpE.val (W := NoB) (OpV.not rfl rfl) rfl ?_
   refine VO.val rfl rfl (OpV.pickF rfl rfl rfl rfl aK1b) ?_
   refine VO.ma rfl rfl rfl rfl ?_
   refine VO.nil ?_
   refine VC.cond rfl (fun k1b => ?_) (fun k1b => ?_)
   ·have k1 := k1b
    try simp only [qq] at k1
    refine VC.sr ?_
    refine VO.ma rfl rfl rfl rfl ?_
    refine VO.nil ?_
    refine VC.ret ?_
    exact Exists.intro _ (And.intro (RetN.one Tryz.results159 (ResN.v rfl)) (by first | rw [prodF_1 k0 (or2a (by assumption))] | rw [prodF_1 k0 (or2b (by assumption))]))
   ·have k1 := k1b
    try simp only [qq] at k1
    refine VC.sr ?_
    refine VO.val rfl rfl (OpV.fieldAddrO 3 rfl Tryz.underlying28 rfl rfl Tryz.sizeOf26 rfl) ?_
    refine VO.val rfl rfl (OpV.load_own (i := 0) rfl hB Tryz.isAgg26 rfl rfl rfl (fun h => h)) ?_
    refine VO.val rfl rfl (OpV.len_im rfl Tryz.underlying26 rfl) ?_
    refine VO.val rfl rfl (OpV.gtr rfl rfl rfl) ?_
    refine VO.ma rfl rfl rfl rfl ?_
    refine VO.nil ?_
    refine VC.cond rfl (fun k2b => ?_) (fun k2b => ?_)
    ·have k2 := k2b
     try simp only [qq] at k2
     refine VC.sr ?_
     refine VO.ma rfl rfl rfl rfl ?_
     refine VO.nil ?_
     refine VC.ret ?_
     exact Exists.intro _ (And.intro (RetN.one Tryz.results159 (ResN.v rfl)) (by rw [prodF_2 k0 (or2f (by assumption) (by assumption)) (by omega)]))
    ·have k2 := k2b
     try simp only [qq] at k2
     refine VC.skip ?_
     refine VC.seq ?_
     refine VC.sr ?_
     refine VO.val rfl rfl (OpV.fieldAddrO 3 rfl Tryz.underlying28 rfl rfl Tryz.sizeOf26 rfl) ?_
     refine VO.val rfl rfl (OpV.load_own (i := 0) rfl hB Tryz.isAgg26 rfl rfl rfl (fun h => h)) ?_
     refine VO.val rfl rfl (OpV.len_im rfl Tryz.underlying26 rfl) ?_
     refine VO.mv rfl rfl rfl rfl ?_
     refine VO.nil ?_
     refine VC.block ?_
     refine VC.loopK [(1, _), (28, _)] ⟨rfl, rfl, trivial⟩ ({q : Nat // q ≤ p.places.length ∧ ∀ j, j < q → placeE p j = 0}) (fun (iZ : {q : Nat // q ≤ p.places.length ∧ ∀ j, j < q → placeE p j = 0}) => match iZ with | ⟨q, hq, hn⟩ => [(29, avI (q : Int))]) (fun (iZ : {q : Nat // q ≤ p.places.length ∧ ∀ j, j < q → placeE p j = 0}) => match iZ with | ⟨q, hq, hn⟩ => [boxProd g1 p 28]) (fun (iZ : {q : Nat // q ≤ p.places.length ∧ ∀ j, j < q → placeE p j = 0}) => match iZ with | ⟨q, hq, hn⟩ => 0) (fun (iZ : {q : Nat // q ≤ p.places.length ∧ ∀ j, j < q → placeE p j = 0}) => match iZ with | ⟨q, hq, hn⟩ => p.places.length - q) ⟨0, Nat.zero_le _, fun j hj => absurd hj (Nat.not_lt_zero j)⟩ (Le.mk hB [0] ⟨rfl, rfl, rfl, trivial⟩ rfl rfl (Nat.le_refl _)) ?_
     rintro ⟨q, hq, hn⟩
     show VC _ _ _ _ ⟨[(29, avI (q : Int))] ++ [(1, _), (28, _)], [boxProd g1 p 28], 0⟩
     refine VC.sr ?_
     refine VO.val rfl rfl (OpV.lss rfl rfl rfl) ?_
     refine VO.nil ?_
     refine VC.seq ?_
     refine VC.cond rfl (fun aH2b => ?_) (fun aH2b => ?_)
     ·have aH2 := aH2b
      try simp only [qq] at aH2
      refine VC.skip ?_
      refine VC.seq ?_
      refine VC.block ?_
      refine VC.sr ?_
      refine VO.mv rfl rfl rfl rfl ?_
      refine VO.ma rfl rfl rfl rfl ?_
      refine VO.nil ?_
      refine VC.sr ?_
      refine VO.val rfl rfl (OpV.loadK_own (i := 0) rfl hB Tryz.isAgg28 Tryz.sizeOf28 rfl rfl rfl (fun h => h)) ?_
      refine VO.mv rfl rfl rfl rfl ?_
      refine VO.op rfl (OpE.call rfl hB rfl Tryz.call231 rfl (SpecN.spec (panel_placementFault hs (by omega))) ?_)
      rintro _ rfl
      refine VO.ma rfl rfl rfl rfl ?_
      refine VO.nil ?_
      refine VC.sr ?_
      refine VO.mv rfl rfl rfl rfl ?_
      refine VO.val rfl rfl (OpV.neq rfl rfl rfl) ?_
      refine VO.nil ?_
      refine VC.cond rfl (fun k4b => ?_) (fun k4b => ?_)
      ·have k4 := k4b
       try simp only [qq] at k4
       refine VC.sr ?_
       refine VO.mv rfl rfl rfl rfl ?_
       refine VO.ma rfl rfl rfl rfl ?_
       refine VO.nil ?_
       refine VC.ret ?_
       exact Exists.intro _ (And.intro (RetN.one Tryz.results159 (ResN.v rfl)) (by rw [prodF_at k0 (or2f (by assumption) (by assumption)) (by omega) (by omega) hn rfl k4]))
      ·have k4 := k4b
       try simp only [qq] at k4
       refine VC.skip ?_
       refine VC.region ?_
       refine VO.val rfl rfl (OpV.add rfl rfl rfl (by unfold fits; omega)) ?_
       refine VO.mv rfl rfl rfl rfl ?_
       refine VO.nil ?_
       exact Exists.intro (⟨q + 1, by omega, lt_succ_cases hn ((by omega))⟩) (And.intro (Le.mk hB [0] ⟨rfl, rfl, rfl, trivial⟩ rfl rfl (Nat.le_refl _)) (by first | omega | (show _ < _; omega) | (simp only []; omega)))
     ·have aH2 := aH2b
      try simp only [qq] at aH2
      refine VC.exit ?_
      refine VC.sr ?_
      refine VO.ma rfl rfl rfl rfl ?_
      refine VO.nil ?_
      refine VC.ret ?_
      exact Exists.intro _ (And.intro (RetN.one Tryz.results159 (ResN.v rfl)) (by rw [prodF_ok k0 (or2f (by assumption) (by assumption)) (by omega) (fun j hj => hn j (by omega))]))
  ·replace aK1b : _ = true := aK1b
   have aK1 := aK1b
   try simp only [qq] at aK1
   refine VO.opX rfl rfl rfl rfl aK1b ?_
   refine VO.opX rfl rfl rfl rfl aK1b ?_
   refine VO.opX rfl rfl rfl rfl aK1b ?_
   refine VO.val rfl rfl (OpV.pickT rfl rfl rfl rfl aK1b) ?_
   refine VO.ma rfl rfl rfl rfl ?_
   refine VO.nil ?_
   refine VC.condT rfl rfl ?_
   refine VC.sr ?_
   refine VO.ma rfl rfl rfl rfl ?_
   refine VO.nil ?_
   refine VC.ret ?_
   exact Exists.intro _ (And.intro (RetN.one Tryz.results159 (ResN.v rfl)) (by first | rw [prodF_1 k0 (or2a (by assumption))] | rw [prodF_1 k0 (or2b (by assumption))]))
end
section
abbrev kvS : ByteArray → Value := fun k => Value.string k
abbrev eI : Int → AV := fun n => avI n
theorem flat_need (xs : List NeedS) : FlatA (rowL xs) := flat_rowL (fun x j hj => by
 match j, hj with
 | 0, _ => exact ⟨_, rfl⟩
 | 1, _ => exact ⟨_, rfl⟩) xs
theorem cnt_key_small {p : ProdS} (hs : SmP p) (q : Nat) : ∀ x ∈ cntP (p.places.take q), x.1.size ≤ maxLen := fun x hx => by
 have : x.1 ∈ (cntP (p.places.take q)).map (·.1) := List.mem_map.2 ⟨x, hx, rfl⟩
 obtain ⟨y, hy, e⟩ := cntP_mem.1 this
 obtain ⟨j, hj, rfl⟩ := List.getElem_of_mem hy
 rw [← e]
 have h1 := hs.part j
 simp only [List.length_take] at hj
 rw [List.getElem_take]
 rw [List.getD_eq_getElem?_getD, List.getElem?_eq_getElem (by omega)] at h1
 simp only [maxLen]
 exact Nat.le_trans h1 (by decide)
theorem needs_take {p : ProdS} {r : Nat} (h : r < (sKeys (cntP p.places)).length) : (needsL p).take (r + 1) = (needsL p).take r ++ [⟨(sKeys (cntP p.places)).getD r ByteArray.empty, mgetD (cntP p.places) ((sKeys (cntP p.places)).getD r ByteArray.empty) 0⟩] := by
 rw [take_snocD (by simpa [needsL] using h) default]
 congr 2
 simp [needsL, List.getD_eq_getElem?_getD, h]
set_option maxHeartbeats 4000000 in
theorem panel_Needs {p : ProdS} (hs : SmP p) :
  SpecN Tryz.prog 83 [avProd p] (fun y => y = .tup [avL (needsR p), avI (prodF p)]) := by
 refine SpecN.of_VCN Tryz.func83 rfl Tryz.ntmps83 (Nle rfl) fun w A hB => ?_
 have hnew : True := trivial
 refine VC.seq ?_
 have hl := hs.len
 refine VC.region ?_
 refine VO.op rfl (OpE.box rfl hB rfl rfl rfl ?_)
 intro g1
 refine VO.ma rfl rfl rfl rfl ?_
 refine VO.ma rfl rfl rfl rfl ?_
 refine VO.nil ?_
 refine VC.seq ?_
 refine VC.sr ?_
 refine VO.val rfl rfl (OpV.loadK_own (i := 0) rfl hB Tryz.isAgg28 Tryz.sizeOf28 rfl rfl rfl (fun h => h)) ?_
 refine VO.op rfl (OpE.call rfl hB rfl Tryz.call159 rfl (SpecN.spec (panel_CheckProduct hs)) ?_)
 rintro _ rfl
 refine VO.ma rfl rfl rfl rfl ?_
 refine VO.nil ?_
 refine VC.sr ?_
 refine VO.mv rfl rfl rfl rfl ?_
 refine VO.val rfl rfl (OpV.neq rfl rfl rfl) ?_
 refine VO.nil ?_
 refine VC.cond rfl (fun h0b => ?_) (fun h0b => ?_)
 ·have h0 := h0b
  try simp only [qq] at h0
  refine VC.sr ?_
  refine VO.mv rfl rfl rfl rfl ?_
  refine VO.ma rfl rfl rfl rfl ?_
  refine VO.ma rfl rfl rfl rfl ?_
  refine VO.nil ?_
  refine VC.ret ?_
  exact Exists.intro _ (And.intro (RetN.two Tryz.results83 (ResN.nilE rfl) (ResN.v rfl)) (by first | (rw [needsR, if_neg h0]; rfl) | (rw [needsR, if_pos h00, h00])))
 ·have h0 := h0b
  try simp only [qq] at h0
  have h00 : prodF p = 0 := by omega
  have hok := prodOk h00
  have hlen := hok.len
  refine VC.skip ?_
  refine VC.sr ?_
  refine VO.op rfl (OpE.makeMap (kvS) (eI) rfl hB rfl ?_)
  intro g16
  refine VO.ma rfl rfl rfl rfl ?_
  refine VO.nil ?_
  refine VC.seq ?_
  refine VC.sr ?_
  refine VO.val rfl rfl (OpV.fieldAddrO 3 rfl Tryz.underlying28 rfl rfl Tryz.sizeOf26 rfl) ?_
  refine VO.val rfl rfl (OpV.load_own (i := 0) rfl hB Tryz.isAgg26 rfl rfl rfl (fun h => h)) ?_
  refine VO.val rfl rfl (OpV.len_im rfl Tryz.underlying26 rfl) ?_
  refine VO.mv rfl rfl rfl rfl ?_
  refine VO.nil ?_
  refine VC.block ?_
  refine VC.loopK [(5, _), (18, _), (19, _)] ⟨rfl, rfl, rfl, trivial⟩ ({q : Nat // q ≤ p.places.length}) (fun (iZ : {q : Nat // q ≤ p.places.length}) => match iZ with | ⟨q, hq⟩ => [(20, avI (q : Int))]) (fun (iZ : {q : Nat // q ≤ p.places.length}) => match iZ with | ⟨q, hq⟩ => [boxProd g1 p 28, mapE kvS g16 eI (cntP (p.places.take q))]) (fun (iZ : {q : Nat // q ≤ p.places.length}) => match iZ with | ⟨q, hq⟩ => 0) (fun (iZ : {q : Nat // q ≤ p.places.length}) => match iZ with | ⟨q, hq⟩ => p.places.length - q) ⟨0, Nat.zero_le _⟩ (Le.mk hB [0, 1] ⟨rfl, rfl, rfl, rfl, trivial⟩ rfl rfl (Nat.le_refl _)) ?_
  rintro ⟨q, hq⟩
  show VC _ _ _ _ ⟨[(20, avI (q : Int))] ++ [(5, _), (18, _), (19, _)], [boxProd g1 p 28, mapE kvS g16 eI (cntP (p.places.take q))], 0⟩
  refine VC.sr ?_
  refine VO.val rfl rfl (OpV.lss rfl rfl rfl) ?_
  refine VO.nil ?_
  refine VC.seq ?_
  refine VC.cond rfl (fun aH1b => ?_) (fun aH1b => ?_)
  ·have aH1 := aH1b
   try simp only [qq] at aH1
   refine VC.skip ?_
   refine VC.seq ?_
   refine VC.block ?_
   refine VC.sr ?_
   refine VO.val rfl rfl (OpV.indexAddr_E rfl Tryz.underlying26 Tryz.sizeOf152 rfl rfl rfl (by omega)) ?_
   refine VO.val rfl rfl (OpV.loadK_at rfl hB OutW.no Tryz.isAgg152 Tryz.sizeOf152 rfl rfl) ?_
   refine VO.op rfl (OpE.alloc rfl hB rfl Tryz.zeroValue152 rfl ?_)
   intro g7
   refine VO.op rfl (OpE.store (i := 2) rfl hB rfl Tryz.sizeOf152 rfl rfl rfl rfl rfl rfl (Nle rfl) trivial ?_)
   refine VO.nil ?_
   refine VC.region ?_
   refine VO.mv rfl rfl rfl rfl ?_
   refine VO.val rfl rfl (OpV.fieldAddrO 1 rfl Tryz.underlying152 rfl rfl Tryz.sizeOf9 rfl) ?_
   refine VO.val rfl rfl (OpV.load_own (i := 2) rfl hB Tryz.isAgg9 rfl rfl rfl (fun h => h)) ?_
   refine VO.val rfl rfl (OpV.lookup_own (i := 1) rfl hB Tryz.underlying208 (KeyOk.str Tryz.underlying9) Tryz.zeroValue3 rfl (KeyE.v rfl) rfl (fun h => h)) ?_
   refine VO.le _ (Le.recast (t := 27) (y := avI (mgetD (cntP (p.places.take q)) (p.places.getD q default).part 0)) rfl (fun w Z u h => by unfold mgetD; revert h; cases mget (cntP (p.places.take q)) (p.places.getD q default).part <;> exact id)) ?_
   refine VO.val rfl rfl (OpV.add rfl rfl rfl (by have h := cntP_bd (p.places.take q) (p.places.getD q default).part; have h2 := List.length_take_le q p.places; unfold fits; omega)) ?_
   refine VO.op rfl (OpE.mapUpdate (i := 1) (xx := mgetD (cntP (p.places.take q)) (p.places.getD q default).part 0 + 1) rfl hB rfl Tryz.underlying208 (KeyOk.str Tryz.underlying9) rfl (KeyE.v rfl) rfl rfl trivial ?_)
   refine VO.nil ?_
   refine VC.region ?_
   refine VO.val rfl rfl (OpV.add rfl rfl rfl (by unfold fits; omega)) ?_
   refine VO.mv rfl rfl rfl rfl ?_
   refine VO.nil ?_
   exact Exists.intro (⟨q + 1, by omega⟩) (And.intro (Le.mk hB [0, 1] ⟨rfl, rfl, rfl, rfl, trivial⟩ rfl (by dsimp only; rw [cntP_take (by omega)]; rfl) (Nat.le_refl _)) (by first | omega | (show _ < _; omega) | (simp only []; omega)))
  ·have aH1 := aH1b
   try simp only [qq] at aH1
   refine VC.exit ?_
   refine VC.seq ?_
   have hqe : p.places.take q = p.places := List.take_of_length_le (by omega)
   rw [hqe]
   have hcl := cntP_len p.places
   refine VC.region ?_
   refine VO.ma rfl rfl rfl rfl ?_
   refine VO.nil ?_
   refine VC.seq ?_
   refine VC.sr ?_
   refine VO.mv rfl rfl rfl rfl ?_
   refine VO.op rfl (OpE.callH rfl hB rfl Tryz.call165 rfl rfl (maps_Keys_int (some g16)) (List.Perm.refl _) (fun _ _ => trivial) ?_)
   rintro _ _ ⟨g31, rfl, rfl⟩
   refine VO.op rfl (OpE.callH (rest := [_]) rfl hB rfl Tryz.call140 rfl rfl (slices_Sorted_int (l := cntP p.places) (E := eI) (cntP_nodup _) (by have := cnt_key_small hs p.places.length; rwa [List.take_length] at this) (by omega)) (List.Perm.cons _ (List.Perm.swap _ _ _)) (fun _ _ => trivial) ?_)
   rintro _ _ ⟨u32, rfl, rfl⟩
   refine VO.le _ (Le.rowS (t := 32) (i := 0) hB hnew rfl rfl (sKeys_len _).symm) ?_
   obtain ⟨m, hm⟩ : ∃ m, cntP p.places = m := ⟨_, rfl⟩
   obtain ⟨ks, hks⟩ : ∃ ks, sKeys (cntP p.places) = ks := ⟨_, rfl⟩
   have hkl : ks.length = (cntP p.places).length := by rw [← hks, sKeys_len]
   rw [hks]
   refine VO.val rfl rfl (OpV.len_im rfl Tryz.underlying82 rfl) ?_
   refine VO.mv rfl rfl rfl rfl ?_
   refine VO.nil ?_
   refine VC.block ?_
   refine VC.le _ (Le.nilRow 2 90) ?_
   refine VC.loopK [(5, _), (32, _), (33, _)] ⟨rfl, rfl, rfl, trivial⟩ ({z : Value × Nat // z.2 ≤ ks.length}) (fun (iZ : {z : Value × Nat // z.2 ≤ ks.length}) => match iZ with | ⟨⟨u, r⟩, hr⟩ => [(8, .v u), (34, avI (r : Int))]) (fun (iZ : {z : Value × Nat // z.2 ≤ ks.length}) => match iZ with | ⟨⟨u, r⟩, hr⟩ => [mapE kvS g16 eI (cntP p.places), .row u r 2 (rowL ((needsL p).take r)) 90]) (fun (iZ : {z : Value × Nat // z.2 ≤ ks.length}) => match iZ with | ⟨⟨u, r⟩, hr⟩ => 0) (fun (iZ : {z : Value × Nat // z.2 ≤ ks.length}) => match iZ with | ⟨⟨u, r⟩, hr⟩ => ks.length - r) ⟨(.slice none 0 0, 0), Nat.zero_le _⟩ (Le.mk hB [1, 3] ⟨rfl, rfl, rfl, rfl, rfl, trivial⟩ rfl rfl (Nat.le_refl _)) ?_
   rintro ⟨⟨u, r⟩, hr⟩
   show VC _ _ _ _ ⟨[(8, .v u), (34, avI (r : Int))] ++ [(5, _), (32, _), (33, _)], [mapE kvS g16 eI (cntP p.places), .row u r 2 (rowL ((needsL p).take r)) 90], 0⟩
   simp only at hr
   refine VC.sr ?_
   refine VO.val rfl rfl (OpV.lss rfl rfl rfl) ?_
   refine VO.nil ?_
   refine VC.seq ?_
   refine VC.cond rfl (fun aH2b => ?_) (fun aH2b => ?_)
   ·have aH2 := aH2b
    try simp only [qq] at aH2
    refine VC.skip ?_
    refine VC.seq ?_
    refine VC.block ?_
    refine VC.sr ?_
    refine VO.val rfl rfl (OpV.indexAddr_1 rfl Tryz.underlying82 Tryz.sizeOf9 rfl rfl rfl (by omega)) ?_
    refine VO.val rfl rfl (OpV.load_at rfl hB OutW.no Tryz.isAgg9 rfl rfl) ?_
    refine VO.ma rfl rfl rfl rfl ?_
    refine VO.nil ?_
    refine VC.region ?_
    refine VO.mv rfl rfl rfl rfl ?_
    refine VO.mv rfl rfl rfl rfl ?_
    refine VO.mv rfl rfl rfl rfl ?_
    refine VO.mv rfl rfl rfl rfl ?_
    refine VO.val rfl rfl (OpV.lookup_own (i := 0) rfl hB Tryz.underlying208 (KeyOk.str Tryz.underlying9) Tryz.zeroValue3 rfl (KeyE.v rfl) rfl (fun h => h)) ?_
    refine VO.le _ (Le.recast (t := 42) (y := avI (mgetD (cntP p.places) (ks.getD r ByteArray.empty) 0)) rfl (fun w Z u h => by unfold mgetD; revert h; cases mget (cntP p.places) (ks.getD r ByteArray.empty) <;> exact id)) ?_
    refine VO.val rfl rfl (OpV.build (pls := #[(0, 1), (1, 1)]) rfl Tryz.zeroValue90 Tryz.underlying90 (fun w => by kernel_rfl) rfl rfl) ?_
    refine VO.op rfl (OpE.buildSlice (zc := #[.string ⟨#[]⟩, .int .i64 0]) rfl hB rfl Tryz.underlying68 Tryz.sizeOf90 Tryz.zeroValue90 (by decide) (by decide) (by kernel_rfl) rfl rfl ?_)
    refine VO.op rfl (OpE.append1 (i := 1) rfl hB rfl Tryz.underlying68 (infoOf Tryz.t90 2 (by kernel_rfl) rfl rfl) rfl (by decide) (by decide) rfl rfl rfl rfl (rowL_snoc _ (⟨ks.getD r ByteArray.empty, mgetD (cntP p.places) (ks.getD r ByteArray.empty) 0⟩ : NeedS)) (by omega) (fun _ _ => trivial) ?_)
    intro u2
    refine VO.ma rfl rfl rfl rfl ?_
    refine VO.nil ?_
    refine VC.region ?_
    refine VO.val rfl rfl (OpV.add rfl rfl rfl (by unfold fits; omega)) ?_
    refine VO.mv rfl rfl rfl rfl ?_
    refine VO.nil ?_
    exact Exists.intro (⟨(u2, r + 1), by show r + 1 ≤ _; omega⟩) (And.intro (Le.mk hB [0, 1] ⟨rfl, rfl, rfl, rfl, rfl, trivial⟩ rfl (by dsimp only; rw [needs_take (by rw [hks]; omega), hks]; rfl) (Nat.le_refl _)) (by first | omega | (show _ < _; omega) | (simp only []; omega)))
   ·have aH2 := aH2b
    try simp only [qq] at aH2
    refine VC.exit ?_
    refine VC.seq ?_
    have hre : r = (needsL p).length := by rw [needsL_len]; omega
    have hrt : (needsL p).take r = needsL p := List.take_of_length_le (by omega)
    rw [hrt]
    refine VC.region ?_
    refine VO.mv rfl rfl rfl rfl ?_
    refine VO.ma rfl rfl rfl rfl ?_
    refine VO.ma rfl rfl rfl rfl ?_
    refine VO.nil ?_
    refine VC.ret ?_
    exact Exists.intro _ (And.intro (RetN.two Tryz.results83 (ResN.rowT (i := 1) (xs := needsL p) rfl rfl hre (flat_need _)) (ResN.v rfl)) (by first | (rw [needsR, if_neg h0]; rfl) | (rw [needsR, if_pos h00, h00])))
end
section
abbrev eSh : ShS → AV := fun s => .agg [avI (s.1 : Int), avI (s.2 : Int)]
theorem sh_zero {w : World} {Z : Nat → Prop} : Rep w Z (eSh (0, 0)) (.agg #[.int .i64 0, .int .i64 0]) := .agg _ _ rfl fun j hj => by
 match j, hj with
 | 0, _ => exact .v _
 | 1, _ => exact .v _
theorem sh_next {A : List (ByteArray × Bool)} {ks : List ByteArray} {b : Bool} {r : Nat} (h : r < ks.length) : shM (A ++ (ks.take (r + 1)).map fun k => (k, b)) = mput (shM (A ++ (ks.take r).map fun k => (k, b))) (ks.getD r ByteArray.empty) (shAdd (mgetD (shM (A ++ (ks.take r).map fun k => (k, b))) (ks.getD r ByteArray.empty) (0, 0)) b) := by
 have : ks.take (r + 1) = ks.take r ++ [ks.getD r ByteArray.empty] := by
  rw [List.take_succ_eq_append_getElem h]; simp [h]
 rw [this, List.map_append, ← List.append_assoc]
 exact shM_snoc _ _
theorem kvs_len {f : LookS → List ByteArray} {l : List LookS} (hf : ∀ i, (f (l.getD i default)).length ≤ 2) : ∀ q, q ≤ l.length → (kvs f (l.take q)).length ≤ 2 * q
 | 0, _ => by simp [kvs]
 | q + 1, hq => by
  have ih := kvs_len hf q (by omega)
  have := hf q
  rw [kvs_take (by omega), List.length_append, List.length_map]
  omega
theorem sh_bd {f : LookS → List ByteArray} {l : List LookS} {q r : Nat} {k : ByteArray} (hf : ∀ i, (f (l.getD i default)).length ≤ 2) (hq : q < l.length) (hl : l.length ≤ 1000000) : (mgetD (shM (kvs f (l.take q) ++ ((f (l.getD q default)).take r).map fun k => (k, (l.getD q default).bad))) k (0, 0)).1 ≤ 1000000000 ∧ (mgetD (shM (kvs f (l.take q) ++ ((f (l.getD q default)).take r).map fun k => (k, (l.getD q default).bad))) k (0, 0)).2 ≤ 1000000000 := by
 rw [shM_get]
 have h1 := shCnt_le (kvs f (l.take q) ++ ((f (l.getD q default)).take r).map fun k => (k, (l.getD q default).bad)) k
 have h2 := kvs_len hf q (by omega)
 have h3 := hf q
 have h4 : ((f (l.getD q default)).take r).length ≤ 2 := by rw [List.length_take]; omega
 rw [List.length_append, List.length_map] at h1
 omega
theorem kvs_all {f : LookS → List ByteArray} {l : List LookS} : kvs f (l.take l.length) = kvs f l := by rw [List.take_length]
set_option maxHeartbeats 4000000 in
theorem inspect_shares {l : List LookS} {F : FuncId} {f : LookS → List ByteArray} (hl : l.length ≤ 1000000) (hcall : ∀ us w, (callFunc F us).run Tryz.prog w = .ok (.enter F us) w) (hF : ∀ i, Spec Tryz.prog F ([avT (l.getD i default)] ++ []) (fun y => y = avStrs (f (l.getD i default)))) (hf : ∀ i, (f (l.getD i default)).length ≤ 2) :
  SpecH Tryz.prog 136 [avL l, .v (.func (.func F) #[] #[])] [] (fun y hp' => ∃ g, y = .v (.map (some g)) ∧ hp' = [mapE kvS g eSh (shM (kvs f l))]) := by
 refine SpecH.of_VC Tryz.func136 rfl Tryz.ntmps136 (Nle rfl) fun w A hB => ?_
 refine VC.sr ?_
 refine VO.ma rfl rfl rfl rfl ?_
 refine VO.nil ?_
 refine VC.sr ?_
 refine VO.op rfl (OpE.makeMap (kvS) (eSh) rfl hB rfl ?_)
 intro g11
 refine VO.ma rfl rfl rfl rfl ?_
 refine VO.nil ?_
 refine VC.seq ?_
 refine VC.sr ?_
 refine VO.mv rfl rfl rfl rfl ?_
 refine VO.val rfl rfl (OpV.len_im rfl Tryz.underlying118 rfl) ?_
 refine VO.mv rfl rfl rfl rfl ?_
 refine VO.nil ?_
 refine VC.block ?_
 refine VC.loopK [(1, _), (5, _), (12, _), (13, _)] ⟨rfl, rfl, rfl, rfl, trivial⟩ ({q : Nat // q ≤ l.length}) (fun (iZ : {q : Nat // q ≤ l.length}) => match iZ with | ⟨q, hq⟩ => [(14, avI (q : Int))]) (fun (iZ : {q : Nat // q ≤ l.length}) => match iZ with | ⟨q, hq⟩ => [mapE kvS g11 eSh (shM (kvs f (l.take q)))]) (fun (iZ : {q : Nat // q ≤ l.length}) => match iZ with | ⟨q, hq⟩ => 0) (fun (iZ : {q : Nat // q ≤ l.length}) => match iZ with | ⟨q, hq⟩ => l.length - q) ⟨0, Nat.zero_le _⟩ (Le.mk hB [0] ⟨rfl, rfl, rfl, rfl, rfl, trivial⟩ rfl rfl (Nat.le_refl _)) ?_
 rintro ⟨q, hq⟩
 show VC _ _ _ _ ⟨[(14, avI (q : Int))] ++ [(1, _), (5, _), (12, _), (13, _)], [mapE kvS g11 eSh (shM (kvs f (l.take q)))], 0⟩
 refine VC.sr ?_
 refine VO.val rfl rfl (OpV.lss rfl rfl rfl) ?_
 refine VO.nil ?_
 refine VC.seq ?_
 refine VC.cond rfl (fun aH1b => ?_) (fun aH1b => ?_)
 ·have aH1 := aH1b
  try simp only [qq] at aH1
  refine VC.skip ?_
  refine VC.seq ?_
  refine VC.block ?_
  refine VC.sr ?_
  refine VO.val rfl rfl (OpV.indexAddr_E rfl Tryz.underlying118 Tryz.sizeOf124 rfl rfl rfl (by omega)) ?_
  refine VO.val rfl rfl (OpV.loadK_at rfl hB OutW.no Tryz.isAgg124 Tryz.sizeOf124 rfl rfl) ?_
  refine VO.op rfl (OpE.alloc rfl hB rfl Tryz.zeroValue124 rfl ?_)
  intro g7
  refine VO.op rfl (OpE.store (i := 1) rfl hB rfl Tryz.sizeOf124 rfl rfl rfl rfl rfl rfl (Nle rfl) trivial ?_)
  refine VO.nil ?_
  refine VC.sr ?_
  refine VO.mv rfl rfl rfl rfl ?_
  refine VO.le _ (Le.recast (t := 18) (y := .fn F []) rfl (fun w Z u h => by rw [h.eq_v]; exact .fn F [] #[] rfl fun j hj => by simp at hj)) ?_
  refine VO.val rfl rfl (OpV.loadK_own (i := 1) rfl hB Tryz.isAgg124 Tryz.sizeOf124 rfl rfl rfl (fun h => h)) ?_
  refine VO.op rfl (OpE.callF rfl hB rfl hcall rfl rfl (hF q) ?_)
  rintro _ rfl
  refine VO.val rfl rfl (OpV.len_im rfl Tryz.underlying82 rfl) ?_
  refine VO.mv rfl rfl rfl rfl ?_
  refine VO.nil ?_
  refine VC.block ?_
  refine VC.loopK [(1, _), (5, _), (7, _), (12, _), (13, _), (14, _), (20, _), (21, _)] ⟨rfl, rfl, rfl, rfl, rfl, rfl, rfl, rfl, trivial⟩ ({r : Nat // r ≤ (f (l.getD q default)).length}) (fun (iZ : {r : Nat // r ≤ (f (l.getD q default)).length}) => match iZ with | ⟨r, hq1⟩ => [(22, avI (r : Int))]) (fun (iZ : {r : Nat // r ≤ (f (l.getD q default)).length}) => match iZ with | ⟨r, hq1⟩ => [mapE kvS g11 eSh (shM (kvs f (l.take q) ++ ((f (l.getD q default)).take r).map fun k => (k, (l.getD q default).bad))), boxLk g7 (l.getD q default) 124]) (fun (iZ : {r : Nat // r ≤ (f (l.getD q default)).length}) => match iZ with | ⟨r, hq1⟩ => 0) (fun (iZ : {r : Nat // r ≤ (f (l.getD q default)).length}) => match iZ with | ⟨r, hq1⟩ => (f (l.getD q default)).length - r) ⟨0, Nat.zero_le _⟩ (Le.mk hB [0, 1] ⟨rfl, rfl, rfl, rfl, rfl, rfl, rfl, rfl, rfl, trivial⟩ rfl (by dsimp only; rw [List.take_zero, List.map_nil, List.append_nil]; rfl) (Nat.le_refl _)) ?_
  rintro ⟨r, hq1⟩
  show VC _ _ _ _ ⟨[(22, avI (r : Int))] ++ [(1, _), (5, _), (7, _), (12, _), (13, _), (14, _), (20, _), (21, _)], [mapE kvS g11 eSh (shM (kvs f (l.take q) ++ ((f (l.getD q default)).take r).map fun k => (k, (l.getD q default).bad))), boxLk g7 (l.getD q default) 124], 0⟩
  have hfq := hf q
  refine VC.sr ?_
  refine VO.val rfl rfl (OpV.lss rfl rfl rfl) ?_
  refine VO.nil ?_
  refine VC.seq ?_
  refine VC.cond rfl (fun aH2b => ?_) (fun aH2b => ?_)
  ·have aH2 := aH2b
   try simp only [qq] at aH2
   refine VC.skip ?_
   refine VC.seq ?_
   refine VC.block ?_
   refine VC.sr ?_
   refine VO.val rfl rfl (OpV.indexAddr_1 rfl Tryz.underlying82 Tryz.sizeOf9 rfl rfl rfl (by omega)) ?_
   refine VO.val rfl rfl (OpV.load_at rfl hB OutW.no Tryz.isAgg9 rfl rfl) ?_
   refine VO.ma rfl rfl rfl rfl ?_
   refine VO.nil ?_
   refine VC.sr ?_
   have hbd := sh_bd (f := f) (l := l) (q := q) (r := r) (k := (f (l.getD q default)).getD r ByteArray.empty) hf (by omega) hl
   refine VO.mv rfl rfl rfl rfl ?_
   refine VO.mv rfl rfl rfl rfl ?_
   refine VO.val rfl rfl (OpV.lookup_own (i := 0) rfl hB Tryz.underlying238 (KeyOk.str Tryz.underlying9) Tryz.zeroValue243 rfl (KeyE.v rfl) rfl (fun h => h)) ?_
   refine VO.le _ (Le.recast (t := 28) (y := eSh (mgetD (shM (kvs f (l.take q) ++ ((f (l.getD q default)).take r).map fun k => (k, (l.getD q default).bad))) ((f (l.getD q default)).getD r ByteArray.empty) (0, 0))) rfl (fun w Z u h => by unfold mgetD; revert h; cases mget (shM (kvs f (l.take q) ++ ((f (l.getD q default)).take r).map fun k => (k, (l.getD q default).bad))) ((f (l.getD q default)).getD r ByteArray.empty) with | none => intro h; rw [h.eq_v]; exact sh_zero | some x => exact id)) ?_
   refine VO.op rfl (OpE.alloc rfl hB rfl Tryz.zeroValue243 rfl ?_)
   intro g10
   refine VO.op rfl (OpE.store (i := 2) rfl hB rfl Tryz.sizeOf243 rfl rfl rfl rfl rfl rfl (Nle rfl) trivial ?_)
   refine VO.nil ?_
   refine VC.sr ?_
   refine VO.val rfl rfl (OpV.loadK_own (i := 1) rfl hB Tryz.isAgg124 Tryz.sizeOf124 rfl rfl rfl (fun h => h)) ?_
   refine VO.op rfl (OpE.callH (rest := [_, _]) rfl hB rfl Tryz.call212 rfl rfl (share_add (x := l.getD q default) (b := (mgetD (shM (kvs f (l.take q) ++ ((f (l.getD q default)).take r).map fun k => (k, (l.getD q default).bad))) ((f (l.getD q default)).getD r ByteArray.empty) (0, 0)).1) (a := (mgetD (shM (kvs f (l.take q) ++ ((f (l.getD q default)).take r).map fun k => (k, (l.getD q default).bad))) ((f (l.getD q default)).getD r ByteArray.empty) (0, 0)).2) hbd.2 hbd.1) (List.perm_append_comm (l₁ := [_, _]) (l₂ := [_])) (fun _ _ => trivial) ?_)
   rintro _ _ ⟨rfl, rfl⟩
   refine VO.nil ?_
   refine VC.region ?_
   refine VO.mv rfl rfl rfl rfl ?_
   refine VO.mv rfl rfl rfl rfl ?_
   refine VO.val rfl rfl (OpV.loadK_own (i := 0) rfl hB Tryz.isAgg243 Tryz.sizeOf243 rfl rfl rfl (fun h => h)) ?_
   refine VO.op rfl (OpE.mapUpdate (i := 1) (xx := shAdd (mgetD (shM (kvs f (l.take q) ++ ((f (l.getD q default)).take r).map fun k => (k, (l.getD q default).bad))) ((f (l.getD q default)).getD r ByteArray.empty) (0, 0)) (l.getD q default).bad) rfl hB rfl Tryz.underlying238 (KeyOk.str Tryz.underlying9) rfl (KeyE.v rfl) rfl rfl trivial ?_)
   refine VO.nil ?_
   refine VC.region ?_
   refine VO.val rfl rfl (OpV.add rfl rfl rfl (by unfold fits; omega)) ?_
   refine VO.mv rfl rfl rfl rfl ?_
   refine VO.nil ?_
   exact Exists.intro (⟨r + 1, by omega⟩) (And.intro (Le.mk hB [1, 2] ⟨rfl, rfl, rfl, rfl, rfl, rfl, rfl, rfl, rfl, trivial⟩ rfl (by dsimp only; rw [sh_next (by omega)]; rfl) (Nat.le_refl _)) (by first | omega | (show _ < _; omega) | (simp only []; omega)))
  ·have aH2 := aH2b
   try simp only [qq] at aH2
   obtain rfl : r = (f (l.getD q default)).length := by omega
   rw [List.take_length]
   refine VC.exit ?_
   refine VC.region ?_
   refine VO.val rfl rfl (OpV.add rfl rfl rfl (by unfold fits; omega)) ?_
   refine VO.mv rfl rfl rfl rfl ?_
   refine VO.nil ?_
   exact Exists.intro (⟨q + 1, by omega⟩) (And.intro (Le.mk hB [0] ⟨rfl, rfl, rfl, rfl, rfl, trivial⟩ rfl (by dsimp only; rw [kvs_take (by omega)]; rfl) (Nat.le_refl _)) (by first | omega | (show _ < _; omega) | (simp only []; omega)))
 ·have aH1 := aH1b
  try simp only [qq] at aH1
  obtain rfl : q = l.length := by omega
  rw [kvs_all]
  refine VC.exit ?_
  refine VC.sr ?_
  refine VO.mv rfl rfl rfl rfl ?_
  refine VO.ma rfl rfl rfl rfl ?_
  refine VO.nil ?_
  refine VC.ret ?_
  exact Exists.intro _ (And.intro (RetV.one Tryz.results136 (ResV.tmp rfl)) (⟨_, rfl, rfl⟩))
def leastE (l : List LookS) (n : Int) : Int := if lookF l ≠ 0 then lookF l else if outR n 1 5000 = true then 1 else 0
theorem leastE_1 {l : List LookS} {n : Int} (h : lookF l ≠ 0) : leastE l n = lookF l := by rw [leastE, if_pos h]
theorem leastE_2 {l : List LookS} {n : Int} (h : lookF l = 0) (h2 : outR n 1 5000 = true) : leastE l n = 1 := by rw [leastE, if_neg (by omega), if_pos h2]
theorem leastE_3 {l : List LookS} {n : Int} (h : lookF l = 0) (h2 : outR n 1 5000 = false) : leastE l n = 0 := by rw [leastE, if_neg (by omega), if_neg (by rw [h2]; simp)]
theorem leastE_zero {l : List LookS} {n : Int} (h : leastE l n = 0) : lookF l = 0 ∧ 1 ≤ n ∧ n ≤ 5000 := by
 unfold leastE at h
 split at h
 ·contradiction
 ·rename_i h1
  split at h
  ·cases h
  ·rename_i h2
   refine ⟨by omega, ?_⟩
   unfold outR at h2; simp at h2; omega
theorem inspect_leastFault {l : List LookS} {n : Int} (hs : SmLk l) :
  SpecN Tryz.prog 132 [avL l, avI n] (fun y => y = avI (leastE l n)) := by
 refine SpecN.of_VCN Tryz.func132 rfl Tryz.ntmps132 (Nle rfl) fun w A hB => ?_
 refine VC.sr ?_
 refine VO.ma rfl rfl rfl rfl ?_
 refine VO.nil ?_
 refine VC.seq ?_
 refine VC.sr ?_
 refine VO.mv rfl rfl rfl rfl ?_
 refine VO.op rfl (OpE.call rfl hB rfl Tryz.call128 rfl (SpecN.spec (inspect_CheckLooks hs)) ?_)
 rintro _ rfl
 refine VO.ma rfl rfl rfl rfl ?_
 refine VO.nil ?_
 refine VC.sr ?_
 refine VO.mv rfl rfl rfl rfl ?_
 refine VO.val rfl rfl (OpV.neq rfl rfl rfl) ?_
 refine VO.nil ?_
 refine VC.cond rfl (fun h0b => ?_) (fun h0b => ?_)
 ·have h0 := h0b
  try simp only [qq] at h0
  refine VC.sr ?_
  refine VO.mv rfl rfl rfl rfl ?_
  refine VO.ma rfl rfl rfl rfl ?_
  refine VO.nil ?_
  refine VC.ret ?_
  exact Exists.intro _ (And.intro (RetN.one Tryz.results132 (ResN.v rfl)) (by first | rw [leastE_1 h0] | rw [leastE_2 (by omega) h1] | rw [leastE_3 (by omega) h1]))
 ·have h0 := h0b
  try simp only [qq] at h0
  refine VC.skip ?_
  refine VC.seq ?_
  refine VC.sr ?_
  refine VO.mv rfl rfl rfl rfl ?_
  refine VO.op rfl (OpE.call rfl hB rfl Tryz.call161 rfl (SpecN.spec (kit_Outside)) ?_)
  rintro _ rfl
  refine VO.nil ?_
  refine VC.cond rfl (fun h1b => ?_) (fun h1b => ?_)
  ·have h1 := h1b
   try simp only [qq] at h1
   refine VC.sr ?_
   refine VO.ma rfl rfl rfl rfl ?_
   refine VO.nil ?_
   refine VC.ret ?_
   exact Exists.intro _ (And.intro (RetN.one Tryz.results132 (ResN.v rfl)) (by first | rw [leastE_1 h0] | rw [leastE_2 (by omega) h1] | rw [leastE_3 (by omega) h1]))
  ·have h1 := h1b
   try simp only [qq] at h1
   refine VC.skip ?_
   refine VC.sr ?_
   refine VO.ma rfl rfl rfl rfl ?_
   refine VO.nil ?_
   refine VC.ret ?_
   exact Exists.intro _ (And.intro (RetN.one Tryz.results132 (ResN.v rfl)) (by first | rw [leastE_1 h0] | rw [leastE_2 (by omega) h1] | rw [leastE_3 (by omega) h1]))
end
section
theorem rf_signL {n : Int}  :
  SpecN Tryz.prog 270 [avI n] (fun y => y = avI (cmpI n 0)) := by
 refine SpecN.of_VCN Tryz.func270 rfl Tryz.ntmps270 (Nle rfl) fun w A hB => ?_
 refine VC.sr ?_
 refine VO.ma rfl rfl rfl rfl ?_
 refine VO.nil ?_
 refine VC.seq ?_
 refine VC.block ?_
 refine VC.sr ?_
 refine VO.mv rfl rfl rfl rfl ?_
 refine VO.val rfl rfl (OpV.lss rfl rfl rfl) ?_
 refine VO.ma rfl rfl rfl rfl ?_
 refine VO.nil ?_
 refine VC.cond rfl (fun aH1b => ?_) (fun aH1b => ?_)
 ·have aH1 := aH1b
  try simp only [qq] at aH1
  refine VC.sr ?_
  refine VO.ma rfl rfl rfl rfl ?_
  refine VO.nil ?_
  refine VC.ret ?_
  exact Exists.intro _ (And.intro (RetN.one Tryz.results270 (ResN.v rfl)) (by unfold cmpI; first | rw [if_pos (by omega)] | rw [if_neg (by omega), if_pos (by omega)] | rw [if_neg (by omega), if_neg (by omega)]))
 ·have aH1 := aH1b
  try simp only [qq] at aH1
  refine VC.sr ?_
  refine VO.mv rfl rfl rfl rfl ?_
  refine VO.val rfl rfl (OpV.gtr rfl rfl rfl) ?_
  refine VO.ma rfl rfl rfl rfl ?_
  refine VO.nil ?_
  refine VC.cond rfl (fun aH2b => ?_) (fun aH2b => ?_)
  ·have aH2 := aH2b
   try simp only [qq] at aH2
   refine VC.sr ?_
   refine VO.ma rfl rfl rfl rfl ?_
   refine VO.nil ?_
   refine VC.ret ?_
   exact Exists.intro _ (And.intro (RetN.one Tryz.results270 (ResN.v rfl)) (by unfold cmpI; first | rw [if_pos (by omega)] | rw [if_neg (by omega), if_pos (by omega)] | rw [if_neg (by omega), if_neg (by omega)]))
  ·have aH2 := aH2b
   try simp only [qq] at aH2
   refine VC.skip ?_
   refine VC.sr ?_
   refine VO.ma rfl rfl rfl rfl ?_
   refine VO.nil ?_
   refine VC.ret ?_
   exact Exists.intro _ (And.intro (RetN.one Tryz.results270 (ResN.v rfl)) (by unfold cmpI; first | rw [if_pos (by omega)] | rw [if_neg (by omega), if_pos (by omega)] | rw [if_neg (by omega), if_neg (by omega)]))
theorem rf_MomentL {n : Int}  :
  SpecN Tryz.prog 202 [avI n] (fun y => y = avB (decide (0 ≤ n) && decide (n ≤ 345686399999))) := by
 refine SpecN.of_VCN Tryz.func202 rfl Tryz.ntmps202 (Nle rfl) fun w A hB => ?_
 refine VC.sr ?_
 refine VO.ma rfl rfl rfl rfl ?_
 refine VO.nil ?_
 refine VC.sr ?_
 refine VO.mv rfl rfl rfl rfl ?_
 refine VO.op rfl (OpE.call rfl hB rfl Tryz.call157 rfl (SpecN.spec (rf_in)) ?_)
 rintro _ rfl
 refine VO.ma rfl rfl rfl rfl ?_
 refine VO.nil ?_
 refine VC.ret ?_
 exact Exists.intro _ (And.intro (RetN.one Tryz.results202 (ResN.v rfl)) (rfl))
theorem cmpI_sub (a b : Int) : cmpI (a - b) 0 = cmpI a b := by unfold cmpI; split <;> (try split) <;> (try split) <;> (try split) <;> omega
theorem cmpLk_1 {a b : LookS} (h : a.at_ ≠ b.at_) : cmpI (a.at_ - b.at_) 0 = cmpLk a b := by
 rw [cmpI_sub, cmpLk_eq, if_pos (fun e => h (cmpI_0.1 e))]
theorem cmpLk_2 {a b : LookS} (h : a.at_ = b.at_) (h2 : sEq a.board b.board = false) : cmpB a.board b.board = cmpLk a b := by
 rw [cmpLk_eq, if_neg (fun e => e (cmpI_0.2 h)), if_pos (fun e => by rw [sEq_eq.2 (cmpB_eq.1 e)] at h2; cases h2)]
theorem cmpLk_3 {a b : LookS} (h : a.at_ = b.at_) (h2 : sEq a.board b.board = true) : cmpB a.name b.name = cmpLk a b := by
 rw [cmpLk_eq, if_neg (fun e => e (cmpI_0.2 h)), if_neg (fun e => e (cmpB_eq.2 (sEq_eq.1 h2)))]
theorem rf_lookOrder {a b : LookS} (ha : 0 ≤ a.at_ ∧ a.at_ ≤ 345686399999) (hb : 0 ≤ b.at_ ∧ b.at_ ≤ 345686399999) :
  SpecN Tryz.prog 203 [avT a, avT b] (fun y => y = avI (cmpLk a b)) := by
 refine SpecN.of_VCN Tryz.func203 rfl Tryz.ntmps203 (Nle rfl) fun w A hB => ?_
 refine VC.sr ?_
 refine VO.op rfl (OpE.box rfl hB rfl rfl rfl ?_)
 intro g2
 refine VO.op rfl (OpE.box rfl hB rfl rfl rfl ?_)
 intro g3
 refine VO.ma rfl rfl rfl rfl ?_
 refine VO.nil ?_
 refine VC.seq ?_
 refine VC.block ?_
 refine VC.sr ?_
 refine VO.val rfl rfl (OpV.fieldAddrO 2 rfl Tryz.underlying124 rfl rfl Tryz.sizeOf3 rfl) ?_
 refine VO.val rfl rfl (OpV.load_own (i := 0) rfl hB Tryz.isAgg3 rfl rfl rfl (fun h => h)) ?_
 refine VO.val rfl rfl (OpV.fieldAddrO 2 rfl Tryz.underlying124 rfl rfl Tryz.sizeOf3 rfl) ?_
 refine VO.val rfl rfl (OpV.load_own (i := 1) rfl hB Tryz.isAgg3 rfl rfl rfl (fun h => h)) ?_
 refine VO.val rfl rfl (OpV.neq rfl rfl rfl) ?_
 refine VO.ma rfl rfl rfl rfl ?_
 refine VO.nil ?_
 refine VC.cond rfl (fun aH1b => ?_) (fun aH1b => ?_)
 ·have aH1 := aH1b
  try simp only [qq] at aH1
  refine VC.sr ?_
  refine VO.val rfl rfl (OpV.fieldAddrO 2 rfl Tryz.underlying124 rfl rfl Tryz.sizeOf3 rfl) ?_
  refine VO.val rfl rfl (OpV.load_own (i := 0) rfl hB Tryz.isAgg3 rfl rfl rfl (fun h => h)) ?_
  refine VO.val rfl rfl (OpV.fieldAddrO 2 rfl Tryz.underlying124 rfl rfl Tryz.sizeOf3 rfl) ?_
  refine VO.val rfl rfl (OpV.load_own (i := 1) rfl hB Tryz.isAgg3 rfl rfl rfl (fun h => h)) ?_
  refine VO.val rfl rfl (OpV.sub rfl rfl rfl (by unfold fits; omega)) ?_
  refine VO.op rfl (OpE.call rfl hB rfl Tryz.call270 rfl (SpecN.spec (rf_signL)) ?_)
  rintro _ rfl
  refine VO.ma rfl rfl rfl rfl ?_
  refine VO.nil ?_
  refine VC.ret ?_
  exact Exists.intro _ (And.intro (RetN.one Tryz.results203 (ResN.v rfl)) (by first | rw [cmpLk_1 (by omega)] | rw [cmpLk_2 (by omega) (by first | assumption | (simp_all; done))] | rw [cmpLk_3 (by omega) (by first | assumption | (simp_all; done))]))
 ·have aH1 := aH1b
  try simp only [qq] at aH1
  refine VC.sr ?_
  refine VO.val rfl rfl (OpV.fieldAddrO 0 rfl Tryz.underlying124 rfl rfl Tryz.sizeOf9 rfl) ?_
  refine VO.val rfl rfl (OpV.load_own (i := 0) rfl hB Tryz.isAgg9 rfl rfl rfl (fun h => h)) ?_
  refine VO.val rfl rfl (OpV.fieldAddrO 0 rfl Tryz.underlying124 rfl rfl Tryz.sizeOf9 rfl) ?_
  refine VO.val rfl rfl (OpV.load_own (i := 1) rfl hB Tryz.isAgg9 rfl rfl rfl (fun h => h)) ?_
  refine VO.val rfl rfl (OpV.sneq rfl rfl rfl) ?_
  refine VO.ma rfl rfl rfl rfl ?_
  refine VO.nil ?_
  refine VC.cond rfl (fun aH2b => ?_) (fun aH2b => ?_)
  ·have aH2 := aH2b
   try simp only [qq] at aH2
   refine VC.sr ?_
   refine VO.val rfl rfl (OpV.fieldAddrO 0 rfl Tryz.underlying124 rfl rfl Tryz.sizeOf9 rfl) ?_
   refine VO.val rfl rfl (OpV.load_own (i := 0) rfl hB Tryz.isAgg9 rfl rfl rfl (fun h => h)) ?_
   refine VO.val rfl rfl (OpV.fieldAddrO 0 rfl Tryz.underlying124 rfl rfl Tryz.sizeOf9 rfl) ?_
   refine VO.val rfl rfl (OpV.load_own (i := 1) rfl hB Tryz.isAgg9 rfl rfl rfl (fun h => h)) ?_
   refine VO.op rfl (OpE.call rfl hB rfl Tryz.call95 rfl (SpecN.spec (strings_Compare_S)) ?_)
   rintro _ rfl
   refine VO.ma rfl rfl rfl rfl ?_
   refine VO.nil ?_
   refine VC.ret ?_
   exact Exists.intro _ (And.intro (RetN.one Tryz.results203 (ResN.v rfl)) (by first | rw [cmpLk_1 (by omega)] | rw [cmpLk_2 (by omega) (by first | assumption | (simp_all; done))] | rw [cmpLk_3 (by omega) (by first | assumption | (simp_all; done))]))
  ·have aH2 := aH2b
   try simp only [qq] at aH2
   refine VC.skip ?_
   refine VC.sr ?_
   refine VO.val rfl rfl (OpV.fieldAddrO 1 rfl Tryz.underlying124 rfl rfl Tryz.sizeOf9 rfl) ?_
   refine VO.val rfl rfl (OpV.load_own (i := 0) rfl hB Tryz.isAgg9 rfl rfl rfl (fun h => h)) ?_
   refine VO.val rfl rfl (OpV.fieldAddrO 1 rfl Tryz.underlying124 rfl rfl Tryz.sizeOf9 rfl) ?_
   refine VO.val rfl rfl (OpV.load_own (i := 1) rfl hB Tryz.isAgg9 rfl rfl rfl (fun h => h)) ?_
   refine VO.op rfl (OpE.call rfl hB rfl Tryz.call95 rfl (SpecN.spec (strings_Compare_S)) ?_)
   rintro _ rfl
   refine VO.ma rfl rfl rfl rfl ?_
   refine VO.nil ?_
   refine VC.ret ?_
   exact Exists.intro _ (And.intro (RetN.one Tryz.results203 (ResN.v rfl)) (by first | rw [cmpLk_1 (by omega)] | rw [cmpLk_2 (by omega) (by first | assumption | (simp_all; done))] | rw [cmpLk_3 (by omega) (by first | assumption | (simp_all; done))]))
theorem rf_sameThing {a b : LookS}  :
  SpecN Tryz.prog 206 [avT a, avT b] (fun y => y = avB (sameT a b)) := by
 refine SpecN.of_VCN Tryz.func206 rfl Tryz.ntmps206 (Nle rfl) fun w A hB => ?_
 refine VC.sr ?_
 refine VO.op rfl (OpE.box rfl hB rfl rfl rfl ?_)
 intro g2
 refine VO.op rfl (OpE.box rfl hB rfl rfl rfl ?_)
 intro g3
 refine VO.ma rfl rfl rfl rfl ?_
 refine VO.nil ?_
 refine VC.sr ?_
 refine VO.val rfl rfl (OpV.fieldAddrO 0 rfl Tryz.underlying124 rfl rfl Tryz.sizeOf9 rfl) ?_
 refine VO.val rfl rfl (OpV.load_own (i := 0) rfl hB Tryz.isAgg9 rfl rfl rfl (fun h => h)) ?_
 refine VO.val rfl rfl (OpV.fieldAddrO 0 rfl Tryz.underlying124 rfl rfl Tryz.sizeOf9 rfl) ?_
 refine VO.val rfl rfl (OpV.load_own (i := 1) rfl hB Tryz.isAgg9 rfl rfl rfl (fun h => h)) ?_
 refine VO.val rfl rfl (OpV.seql rfl rfl rfl) ?_
 refine VO.mv rfl rfl rfl rfl ?_
 refine VO.opG rfl rfl rfl rfl (fun aK1b => ?_) (fun aK1b => ?_)
 ·replace aK1b : _ = true := aK1b
  have aK1 := aK1b
  try simp only [qq] at aK1
  refine OpE.val (W := NoB) (OpV.fieldAddrO 1 rfl Tryz.underlying124 rfl rfl Tryz.sizeOf9 rfl) rfl ?_
  refine VO.opY rfl rfl rfl rfl aK1b ?_
  refine OpE.val (W := NoB) (OpV.load_own (i := 0) rfl hB Tryz.isAgg9 rfl rfl rfl (fun h => h)) rfl ?_
  refine VO.opY rfl rfl rfl rfl aK1b ?_
  refine OpE.val (W := NoB) (OpV.fieldAddrO 1 rfl Tryz.underlying124 rfl rfl Tryz.sizeOf9 rfl) rfl ?_
  refine VO.opY rfl rfl rfl rfl aK1b ?_
  refine OpE.val (W := NoB) (OpV.load_own (i := 1) rfl hB Tryz.isAgg9 rfl rfl rfl (fun h => h)) rfl ?_
  refine VO.opY rfl rfl rfl rfl aK1b ?_
  refine OpE.val (W := NoB) (OpV.seql rfl rfl rfl) rfl ?_
  refine VO.val rfl rfl (OpV.pickT rfl rfl rfl rfl aK1b) ?_
  refine VO.ma rfl rfl rfl rfl ?_
  refine VO.nil ?_
  refine VC.ret ?_
  exact Exists.intro _ (And.intro (RetN.one Tryz.results206 (ResN.v rfl)) (by unfold sameT; first | rfl | (simp_all; done)))
 ·replace aK1b : _ = false := aK1b
  have aK1 := aK1b
  try simp only [qq] at aK1
  refine VO.opX rfl rfl rfl rfl aK1b ?_
  refine VO.opX rfl rfl rfl rfl aK1b ?_
  refine VO.opX rfl rfl rfl rfl aK1b ?_
  refine VO.opX rfl rfl rfl rfl aK1b ?_
  refine VO.val rfl rfl (OpV.pickF rfl rfl rfl rfl aK1b) ?_
  refine VO.ma rfl rfl rfl rfl ?_
  refine VO.nil ?_
  refine VC.ret ?_
  exact Exists.intro _ (And.intro (RetN.one Tryz.results206 (ResN.v rfl)) (by unfold sameT; first | rfl | (simp_all; done)))
theorem rf_LooksFault1 {x o : LookS}  :
  SpecN Tryz.prog 205 [avT o, .at_ 8 (Sxc.cell x)] (fun y => y = avB (sameT o x)) := by
 refine SpecN.of_VCN Tryz.func205 rfl Tryz.ntmps205 (Nle rfl) fun w A hB => ?_
 refine VC.sr ?_
 refine VO.op rfl (OpE.box rfl hB rfl rfl rfl ?_)
 intro g2
 refine VO.ma rfl rfl rfl rfl ?_
 refine VO.nil ?_
 refine VC.sr ?_
 refine VO.val rfl rfl (OpV.loadK_own (i := 0) rfl hB Tryz.isAgg124 Tryz.sizeOf124 rfl rfl rfl (fun h => h)) ?_
 refine VO.val rfl rfl (OpV.loadK_at rfl hB OutW.no Tryz.isAgg124 Tryz.sizeOf124 rfl rfl) ?_
 refine VO.op rfl (OpE.call rfl hB rfl Tryz.call206 rfl (SpecN.spec (rf_sameThing)) ?_)
 rintro _ rfl
 refine VO.ma rfl rfl rfl rfl ?_
 refine VO.nil ?_
 refine VC.ret ?_
 exact Exists.intro _ (And.intro (RetN.one Tryz.results205 (ResN.v rfl)) (rfl))
theorem slices_IndexFunc_lk {xs : List LookS} {F : FuncId} {cs : List AV} {p : LookS → Bool} (hl : xs.length ≤ 1000000000) (hcall : ∀ us w, (callFunc F us).run Tryz.prog w = .ok (.enter F us) w) (hF : ∀ x, Spec Tryz.prog F ([avT x] ++ cs) (fun y => y = avB (p x))) :
  SpecN Tryz.prog 271 [avL xs, .fn F cs] (fun y => y = avI (fidx p xs)) := by
 refine SpecN.of_VCN Tryz.func271 rfl Tryz.ntmps271 (Nle rfl) fun w A hB => ?_
 refine VC.sr ?_
 refine VO.ma rfl rfl rfl rfl ?_
 refine VO.nil ?_
 refine VC.seq ?_
 refine VC.sr ?_
 refine VO.mv rfl rfl rfl rfl ?_
 refine VO.val rfl rfl (OpV.len_im rfl Tryz.underlying118 rfl) ?_
 refine VO.mv rfl rfl rfl rfl ?_
 refine VO.nil ?_
 refine VC.block ?_
 refine VC.loopK [(0, _), (1, _), (7, _)] ⟨rfl, rfl, rfl, trivial⟩ ({q : Nat // q ≤ xs.length ∧ ∀ j, j < q → p (xs.getD j default) = false}) (fun (iZ : {q : Nat // q ≤ xs.length ∧ ∀ j, j < q → p (xs.getD j default) = false}) => match iZ with | ⟨q, hq, hn⟩ => [(8, avI (q : Int))]) (fun (iZ : {q : Nat // q ≤ xs.length ∧ ∀ j, j < q → p (xs.getD j default) = false}) => match iZ with | ⟨q, hq, hn⟩ => []) (fun (iZ : {q : Nat // q ≤ xs.length ∧ ∀ j, j < q → p (xs.getD j default) = false}) => match iZ with | ⟨q, hq, hn⟩ => 0) (fun (iZ : {q : Nat // q ≤ xs.length ∧ ∀ j, j < q → p (xs.getD j default) = false}) => match iZ with | ⟨q, hq, hn⟩ => xs.length - q) ⟨0, Nat.zero_le _, fun j hj => absurd hj (Nat.not_lt_zero j)⟩ (Le.mk hB [] ⟨rfl, rfl, rfl, rfl, trivial⟩ rfl rfl (Nat.le_refl _)) ?_
 rintro ⟨q, hq, hn⟩
 show VC _ _ _ _ ⟨[(8, avI (q : Int))] ++ [(0, _), (1, _), (7, _)], [], 0⟩
 refine VC.sr ?_
 refine VO.val rfl rfl (OpV.lss rfl rfl rfl) ?_
 refine VO.nil ?_
 refine VC.seq ?_
 refine VC.cond rfl (fun aH1b => ?_) (fun aH1b => ?_)
 ·have aH1 := aH1b
  try simp only [qq] at aH1
  refine VC.skip ?_
  refine VC.seq ?_
  refine VC.block ?_
  refine VC.sr ?_
  refine VO.mv rfl rfl rfl rfl ?_
  refine VO.ma rfl rfl rfl rfl ?_
  refine VO.nil ?_
  refine VC.sr ?_
  refine VO.mv rfl rfl rfl rfl ?_
  refine VO.mv rfl rfl rfl rfl ?_
  refine VO.mv rfl rfl rfl rfl ?_
  refine VO.val rfl rfl (OpV.indexAddr_E rfl Tryz.underlying118 Tryz.sizeOf124 rfl rfl rfl (by omega)) ?_
  refine VO.val rfl rfl (OpV.loadK_at rfl hB OutW.no Tryz.isAgg124 Tryz.sizeOf124 rfl rfl) ?_
  refine VO.op rfl (OpE.callF rfl hB rfl hcall rfl rfl (hF _) ?_)
  rintro _ rfl
  refine VO.nil ?_
  refine VC.cond rfl (fun aH2b => ?_) (fun aH2b => ?_)
  ·have aH2 := aH2b
   try simp only [qq] at aH2
   refine VC.sr ?_
   refine VO.mv rfl rfl rfl rfl ?_
   refine VO.ma rfl rfl rfl rfl ?_
   refine VO.nil ?_
   refine VC.ret ?_
   exact Exists.intro _ (And.intro (RetN.one Tryz.results271 (ResN.v rfl)) (by first | (rw [fidx_found (d := default) (q := q) (by omega) hn (by assumption)]) | (rw [fidx_none (d := default) (fun j hj => hn j (by omega))])))
  ·have aH2 := aH2b
   try simp only [qq] at aH2
   refine VC.skip ?_
   refine VC.region ?_
   refine VO.val rfl rfl (OpV.add rfl rfl rfl (by unfold fits; omega)) ?_
   refine VO.mv rfl rfl rfl rfl ?_
   refine VO.nil ?_
   exact Exists.intro (⟨q + 1, by omega, lt_succ_cases hn ((by assumption))⟩) (And.intro (Le.mk hB [] ⟨rfl, rfl, rfl, rfl, trivial⟩ rfl rfl (Nat.le_refl _)) (by first | omega | (show _ < _; omega) | (simp only []; omega)))
 ·have aH1 := aH1b
  try simp only [qq] at aH1
  refine VC.exit ?_
  refine VC.sr ?_
  refine VO.ma rfl rfl rfl rfl ?_
  refine VO.nil ?_
  refine VC.ret ?_
  exact Exists.intro _ (And.intro (RetN.one Tryz.results271 (ResN.v rfl)) (by first | (rw [fidx_found (d := default) (q := q) (by omega) hn (by assumption)]) | (rw [fidx_none (d := default) (fun j hj => hn j (by omega))])))
theorem slices_ContainsFunc_lk {xs : List LookS} {F : FuncId} {cs : List AV} {p : LookS → Bool} (hl : xs.length ≤ 1000000000) (hcall : ∀ us w, (callFunc F us).run Tryz.prog w = .ok (.enter F us) w) (hF : ∀ x, Spec Tryz.prog F ([avT x] ++ cs) (fun y => y = avB (p x))) :
  SpecN Tryz.prog 204 [avL xs, .fn F cs] (fun y => y = avB (xs.any p)) := by
 refine SpecN.of_VCN Tryz.func204 rfl Tryz.ntmps204 (Nle rfl) fun w A hB => ?_
 refine VC.sr ?_
 refine VO.ma rfl rfl rfl rfl ?_
 refine VO.nil ?_
 refine VC.sr ?_
 refine VO.mv rfl rfl rfl rfl ?_
 refine VO.mv rfl rfl rfl rfl ?_
 refine VO.op rfl (OpE.call rfl hB rfl Tryz.call271 rfl (SpecN.spec (slices_IndexFunc_lk hl hcall hF)) ?_)
 rintro _ rfl
 refine VO.val rfl rfl (OpV.geq rfl rfl rfl) ?_
 refine VO.ma rfl rfl rfl rfl ?_
 refine VO.nil ?_
 refine VC.ret ?_
 exact Exists.intro _ (And.intro (RetN.one Tryz.results204 (ResN.v rfl)) (by rw [← fidx_any]))
theorem lt8 {f g : Nat → AV} (h0 : f 0 = g 0) (h1 : f 1 = g 1) (h2 : f 2 = g 2) (h3 : f 3 = g 3) (h4 : f 4 = g 4) (h5 : f 5 = g 5) (h6 : f 6 = g 6) (h7 : f 7 = g 7) : ∀ j, j < 8 → f j = g j := fun j hj => by
 match j, hj with
 | 0, _ => exact h0
 | 1, _ => exact h1
 | 2, _ => exact h2
 | 3, _ => exact h3
 | 4, _ => exact h4
 | 5, _ => exact h5
 | 6, _ => exact h6
 | 7, _ => exact h7
theorem lks_all {x : LookS} (h1 : keyF x.board = true) (h2 : keyF x.name = true) (h3 : keyF x.machine = true) (h4 : keyF x.nozzle = true) (h5 : keyF x.reel = true) : (lkStrs x).all keyF = true := by simp [lkStrs, h1, h2, h3, h4, h5]
theorem lks_no {x : LookS} (h : keyF x.board = false ∨ keyF x.name = false ∨ keyF x.machine = false ∨ keyF x.nozzle = false ∨ keyF x.reel = false) : (lkStrs x).all keyF = false := by
 rcases h with h | h | h | h | h <;> simp [lkStrs, h]
theorem mom_f {n : Int} (h : (decide (0 ≤ n) && decide (n ≤ 345686399999)) = false) : outR n 0 345686399999 = true := by unfold outR; simp at h ⊢; omega
theorem mom_t {n : Int} (h : (decide (0 ≤ n) && decide (n ≤ 345686399999)) = true) : outR n 0 345686399999 = false := by unfold outR; simp at h ⊢; omega
theorem in_f {n a b : Int} (h : (decide (a ≤ n) && decide (n ≤ b)) = false) : outR n a b = true := by unfold outR; simp at h ⊢; omega
theorem in_t {n a b : Int} (h : (decide (a ≤ n) && decide (n ≤ b)) = true) : outR n a b = false := by unfold outR; simp at h ⊢; omega
set_option maxHeartbeats 8000000 in
theorem rf_LooksFault {l : List LookS} (hs : SmLk l) :
    SpecN Tryz.prog 127 [avL l] (fun y => y = avI (lookF l)) := by
  refine SpecN.of_VCN Tryz.func127 rfl Tryz.ntmps127 (Nle rfl) fun w A hB => ?_
  refine VC.seq ?_
  have hl := hs.len
  refine VC.region ?_
  refine VO.ma rfl rfl rfl rfl ?_
  refine VO.nil ?_
  refine VC.seq ?_
  refine VC.sr ?_
  refine VO.mv rfl rfl rfl rfl ?_
  refine VO.val rfl rfl (OpV.len_im rfl Tryz.underlying118 rfl) ?_
  refine VO.val rfl rfl (OpV.gtr rfl rfl rfl) ?_
  refine VO.nil ?_
  refine VC.cond rfl (fun aH1b => ?_) (fun aH1b => ?_)
  · have aH1 := aH1b
    try simp only [qq] at aH1
    refine VC.sr ?_
    refine VO.ma rfl rfl rfl rfl ?_
    refine VO.nil ?_
    refine VC.ret ?_
    exact Exists.intro _ (And.intro (RetN.one Tryz.results127 (ResN.v rfl)) (by rw [lookF_2 (by omega)]))
  · have aH1 := aH1b
    try simp only [qq] at aH1
    refine VC.skip ?_
    refine VC.seq ?_
    refine VC.sr ?_
    refine VO.mv rfl rfl rfl rfl ?_
    refine VO.val rfl rfl (OpV.len_im rfl Tryz.underlying118 rfl) ?_
    refine VO.mv rfl rfl rfl rfl ?_
    refine VO.nil ?_
    refine VC.block ?_
    refine VC.loopK [(0, _), (10, _), (11, _)] ⟨rfl, rfl, rfl, trivial⟩ ({q : Nat // q ≤ l.length ∧ ∀ j, j < q → lookE l j = 0}) (fun (iZ : {q : Nat // q ≤ l.length ∧ ∀ j, j < q → lookE l j = 0}) => match iZ with | ⟨q, hq, hn⟩ => [(12, avI (q : Int))]) (fun (iZ : {q : Nat // q ≤ l.length ∧ ∀ j, j < q → lookE l j = 0}) => match iZ with | ⟨q, hq, hn⟩ => []) (fun (iZ : {q : Nat // q ≤ l.length ∧ ∀ j, j < q → lookE l j = 0}) => match iZ with | ⟨q, hq, hn⟩ => 0) (fun (iZ : {q : Nat // q ≤ l.length ∧ ∀ j, j < q → lookE l j = 0}) => match iZ with | ⟨q, hq, hn⟩ => l.length - q) ⟨0, Nat.zero_le _, fun j hj => absurd hj (Nat.not_lt_zero j)⟩ (Le.mk hB [] ⟨rfl, rfl, rfl, rfl, trivial⟩ rfl rfl (Nat.le_refl _)) ?_
    rintro ⟨q, hq, hn⟩
    show VC _ _ _ _ ⟨[(12, avI (q : Int))] ++ [(0, _), (10, _), (11, _)], [], 0⟩
    refine VC.sr ?_
    refine VO.val rfl rfl (OpV.lss rfl rfl rfl) ?_
    refine VO.nil ?_
    refine VC.seq ?_
    refine VC.cond rfl (fun aH2b => ?_) (fun aH2b => ?_)
    · have aH2 := aH2b
      try simp only [qq] at aH2
      refine VC.skip ?_
      refine VC.seq ?_
      refine VC.block ?_
      refine VC.sr ?_
      refine VO.mv rfl rfl rfl rfl ?_
      refine VO.val rfl rfl (OpV.indexAddr_E rfl Tryz.underlying118 Tryz.sizeOf124 rfl rfl rfl (by omega)) ?_
      refine VO.val rfl rfl (OpV.loadK_at rfl hB OutW.no Tryz.isAgg124 Tryz.sizeOf124 rfl rfl) ?_
      refine VO.op rfl (OpE.alloc rfl hB rfl Tryz.zeroValue124 rfl ?_)
      intro g4
      refine VO.ma rfl rfl rfl rfl ?_
      refine VO.op rfl (OpE.store (i := 0) rfl hB rfl Tryz.sizeOf124 rfl rfl rfl rfl rfl rfl (Nle rfl) trivial ?_)
      refine VO.nil ?_
      refine VC.block ?_
      refine VC.sr ?_
      refine VO.val rfl rfl (OpV.fieldAddrO 0 rfl Tryz.underlying124 rfl rfl Tryz.sizeOf9 rfl) ?_
      refine VO.val rfl rfl (OpV.load_own (i := 0) rfl hB Tryz.isAgg9 rfl rfl rfl (fun h => h)) ?_
      refine VO.op rfl (OpE.call rfl hB rfl Tryz.call156 rfl (SpecN.spec (rf_Key (by have := hs.board q; omega))) ?_)
      rintro _ rfl
      refine VO.val rfl rfl (OpV.not rfl rfl) ?_
      refine VO.mv rfl rfl rfl rfl ?_
      refine VO.opG rfl rfl rfl rfl (fun aK3b => ?_) (fun aK3b => ?_)
      · replace aK3b : _ = false := aK3b
        have aK3 := aK3b
        try simp only [qq] at aK3
        refine OpE.val (W := NoB) (OpV.fieldAddrO 1 rfl Tryz.underlying124 rfl rfl Tryz.sizeOf9 rfl) rfl ?_
        refine VO.opY rfl rfl rfl rfl aK3b ?_
        refine OpE.val (W := NoB) (OpV.load_own (i := 0) rfl hB Tryz.isAgg9 rfl rfl rfl (fun h => h)) rfl ?_
        refine VO.opY rfl rfl rfl rfl aK3b ?_
        refine OpE.call rfl hB rfl Tryz.call156 rfl (SpecN.spec (rf_Key (by have := hs.name q; omega))) ?_
        rintro _ rfl
        refine VO.opY rfl rfl rfl rfl aK3b ?_
        refine OpE.val (W := NoB) (OpV.not rfl rfl) rfl ?_
        refine VO.val rfl rfl (OpV.pickF rfl rfl rfl rfl aK3b) ?_
        refine VO.mv rfl rfl rfl rfl ?_
        refine VO.opG rfl rfl rfl rfl (fun aK4b => ?_) (fun aK4b => ?_)
        · replace aK4b : _ = false := aK4b
          have aK4 := aK4b
          try simp only [qq] at aK4
          refine OpE.val (W := NoB) (OpV.fieldAddrO 5 rfl Tryz.underlying124 rfl rfl Tryz.sizeOf9 rfl) rfl ?_
          refine VO.opY rfl rfl rfl rfl aK4b ?_
          refine OpE.val (W := NoB) (OpV.load_own (i := 0) rfl hB Tryz.isAgg9 rfl rfl rfl (fun h => h)) rfl ?_
          refine VO.opY rfl rfl rfl rfl aK4b ?_
          refine OpE.call rfl hB rfl Tryz.call156 rfl (SpecN.spec (rf_Key (by have := hs.machine q; omega))) ?_
          rintro _ rfl
          refine VO.opY rfl rfl rfl rfl aK4b ?_
          refine OpE.val (W := NoB) (OpV.not rfl rfl) rfl ?_
          refine VO.val rfl rfl (OpV.pickF rfl rfl rfl rfl aK4b) ?_
          refine VO.mv rfl rfl rfl rfl ?_
          refine VO.opG rfl rfl rfl rfl (fun aK5b => ?_) (fun aK5b => ?_)
          · replace aK5b : _ = false := aK5b
            have aK5 := aK5b
            try simp only [qq] at aK5
            refine OpE.val (W := NoB) (OpV.fieldAddrO 6 rfl Tryz.underlying124 rfl rfl Tryz.sizeOf9 rfl) rfl ?_
            refine VO.opY rfl rfl rfl rfl aK5b ?_
            refine OpE.val (W := NoB) (OpV.load_own (i := 0) rfl hB Tryz.isAgg9 rfl rfl rfl (fun h => h)) rfl ?_
            refine VO.opY rfl rfl rfl rfl aK5b ?_
            refine OpE.call rfl hB rfl Tryz.call156 rfl (SpecN.spec (rf_Key (by have := hs.nozzle q; omega))) ?_
            rintro _ rfl
            refine VO.opY rfl rfl rfl rfl aK5b ?_
            refine OpE.val (W := NoB) (OpV.not rfl rfl) rfl ?_
            refine VO.val rfl rfl (OpV.pickF rfl rfl rfl rfl aK5b) ?_
            refine VO.mv rfl rfl rfl rfl ?_
            refine VO.opG rfl rfl rfl rfl (fun aK6b => ?_) (fun aK6b => ?_)
            · replace aK6b : _ = false := aK6b
              have aK6 := aK6b
              try simp only [qq] at aK6
              refine OpE.val (W := NoB) (OpV.fieldAddrO 7 rfl Tryz.underlying124 rfl rfl Tryz.sizeOf9 rfl) rfl ?_
              refine VO.opY rfl rfl rfl rfl aK6b ?_
              refine OpE.val (W := NoB) (OpV.load_own (i := 0) rfl hB Tryz.isAgg9 rfl rfl rfl (fun h => h)) rfl ?_
              refine VO.opY rfl rfl rfl rfl aK6b ?_
              refine OpE.call rfl hB rfl Tryz.call156 rfl (SpecN.spec (rf_Key (by have := hs.reel q; omega))) ?_
              rintro _ rfl
              refine VO.opY rfl rfl rfl rfl aK6b ?_
              refine OpE.val (W := NoB) (OpV.not rfl rfl) rfl ?_
              refine VO.val rfl rfl (OpV.pickF rfl rfl rfl rfl aK6b) ?_
              refine VO.ma rfl rfl rfl rfl ?_
              refine VO.nil ?_
              refine VC.cond rfl (fun h2b => ?_) (fun h2b => ?_)
              · have h2 := h2b
                try simp only [qq] at h2
                have k2 : (lkStrs (l.getD q default)).all keyF = false := lks_no (by simp_all)
                refine VC.sr ?_
                refine VO.ma rfl rfl rfl rfl ?_
                refine VO.nil ?_
                refine VC.ret ?_
                exact Exists.intro _ (And.intro (RetN.one Tryz.results127 (ResN.v rfl)) (by rw [lookF_at (by omega) (by omega) hn (by rw [lookE_5 k2]; decide), lookE_5 k2]))
              · have h2 := h2b
                try simp only [qq] at h2
                have k2 : (lkStrs (l.getD q default)).all keyF = true := lks_all (by simp_all) (by simp_all) (by simp_all) (by simp_all) (by simp_all)
                refine VC.sr ?_
                refine VO.val rfl rfl (OpV.fieldAddrO 2 rfl Tryz.underlying124 rfl rfl Tryz.sizeOf3 rfl) ?_
                refine VO.val rfl rfl (OpV.load_own (i := 0) rfl hB Tryz.isAgg3 rfl rfl rfl (fun h => h)) ?_
                refine VO.op rfl (OpE.call rfl hB rfl Tryz.call202 rfl (SpecN.spec (rf_MomentL)) ?_)
                rintro _ rfl
                refine VO.val rfl rfl (OpV.not rfl rfl) ?_
                refine VO.ma rfl rfl rfl rfl ?_
                refine VO.nil ?_
                refine VC.cond rfl (fun h3b => ?_) (fun h3b => ?_)
                · have h3 := h3b
                  try simp only [qq] at h3
                  have k3 : outR (l.getD q default).at_ 0 345686399999 = true := mom_f (not_true_false h3b)
                  refine VC.sr ?_
                  refine VO.ma rfl rfl rfl rfl ?_
                  refine VO.nil ?_
                  refine VC.ret ?_
                  exact Exists.intro _ (And.intro (RetN.one Tryz.results127 (ResN.v rfl)) (by rw [lookF_at (by omega) (by omega) hn (by rw [lookE_1 k2 k3]; decide), lookE_1 k2 k3]))
                · have h3 := h3b
                  try simp only [qq] at h3
                  have k3 : outR (l.getD q default).at_ 0 345686399999 = false := mom_t (not_false_true h3b)
                  have k3' : 0 ≤ (l.getD q default).at_ ∧ (l.getD q default).at_ ≤ 345686399999 := outR_inL (by rw [k3]; simp)
                  refine VC.sr ?_
                  refine VO.val rfl rfl (OpV.fieldAddrO 3 rfl Tryz.underlying124 rfl rfl Tryz.sizeOf3 rfl) ?_
                  refine VO.val rfl rfl (OpV.load_own (i := 0) rfl hB Tryz.isAgg3 rfl rfl rfl (fun h => h)) ?_
                  refine VO.op rfl (OpE.call rfl hB rfl Tryz.call157 rfl (SpecN.spec (rf_in)) ?_)
                  rintro _ rfl
                  refine VO.val rfl rfl (OpV.not rfl rfl) ?_
                  refine VO.ma rfl rfl rfl rfl ?_
                  refine VO.nil ?_
                  refine VC.cond rfl (fun h4b => ?_) (fun h4b => ?_)
                  · have h4 := h4b
                    try simp only [qq] at h4
                    have k4 : outR (l.getD q default).verdict 1 5 = true := in_f (not_true_false h4b)
                    refine VC.sr ?_
                    refine VO.ma rfl rfl rfl rfl ?_
                    refine VO.nil ?_
                    refine VC.ret ?_
                    exact Exists.intro _ (And.intro (RetN.one Tryz.results127 (ResN.v rfl)) (by rw [lookF_at (by omega) (by omega) hn (by rw [lookE_4 k2 k3 k4]; decide), lookE_4 k2 k3 k4]))
                  · have h4 := h4b
                    try simp only [qq] at h4
                    have k4 : outR (l.getD q default).verdict 1 5 = false := in_t (not_false_true h4b)
                    refine VC.seq ?_
                    refine VC.draw (fun _ => NoB) hB (by kernel_rfl) ?_
                    refine VA.take (i := 0) rfl (by kernel_rfl) (by kernel_rfl) (by kernel_rfl) rfl rfl (OpV.move (.inl rfl) rfl) ?_
                    refine VA.take (i := 1) rfl (by kernel_rfl) (by kernel_rfl) (by kernel_rfl) rfl rfl (OpV.gtr rfl rfl rfl) ?_
                    refine VA.take (i := 2) rfl (by kernel_rfl) (by kernel_rfl) (by kernel_rfl) rfl rfl (OpV.move (.inl rfl) rfl) ?_
                    refine VA.split (t := 59) rfl (fun aK7b => ?_) (fun aK7b => ?_)
                    · have aK7 := aK7b
                      try simp only [qq] at aK7
                      refine VA.takeY (i := 3) rfl (by kernel_rfl) (by kernel_rfl) (by kernel_rfl) rfl rfl rfl rfl aK7b (OpV.move (.inl rfl) rfl) ?_
                      refine VA.takeY (i := 4) rfl (by kernel_rfl) (by kernel_rfl) (by kernel_rfl) rfl rfl rfl rfl aK7b (OpV.move (.inl rfl) rfl) ?_
                      refine VA.takeY (i := 5) rfl (by kernel_rfl) (by kernel_rfl) (by kernel_rfl) rfl rfl rfl rfl aK7b (OpV.sub rfl rfl rfl (by unfold fits; omega)) ?_
                      refine VA.takeY (i := 6) rfl (by kernel_rfl) (by kernel_rfl) (by kernel_rfl) rfl rfl rfl rfl aK7b (OpV.indexAddr_E rfl Tryz.underlying118 Tryz.sizeOf124 rfl rfl (show ((q : Int) - 1) = ((q - 1 : Nat) : Int) by omega) (by omega)) ?_
                      refine VA.takeY (i := 7) rfl (by kernel_rfl) (by kernel_rfl) (by kernel_rfl) rfl rfl rfl rfl aK7b (OpV.loadK_at rfl hB OutW.wi0 Tryz.isAgg124 Tryz.sizeOf124 rfl rfl) ?_
                      refine VA.takeY (i := 8) rfl (by kernel_rfl) (by kernel_rfl) (by kernel_rfl) rfl rfl rfl rfl aK7b (OpV.loadK_own (i := 0) rfl hB Tryz.isAgg124 Tryz.sizeOf124 rfl rfl rfl Wi.not0) ?_
                      refine VA.all (rs := [9]) (by kernel_rfl) (by decide) ?_
                      refine ⟨⟨_, rfl, .inr ⟨_, _, _, rfl, rfl, (look_k rfl aK7b)⟩, ?_⟩, trivial⟩
                      refine OpE.call rfl hB rfl Tryz.call203 rfl (SpecN.spec (rf_lookOrder (a := l.getD (q - 1) default) (b := l.getD q default) (lookE_zero (hn (q - 1) (by omega))).at_ k3')) ?_
                      rintro _ rfl
                      refine VA.takeY (i := 10) rfl (by kernel_rfl) (by kernel_rfl) (by kernel_rfl) rfl rfl rfl rfl aK7b (OpV.geq rfl rfl rfl) ?_
                      refine VA.take (i := 11) rfl (by kernel_rfl) (by kernel_rfl) (by kernel_rfl) rfl rfl (OpV.pickT rfl rfl rfl rfl aK7b) ?_
                      refine VA.take (i := 12) rfl (by kernel_rfl) (by kernel_rfl) (by kernel_rfl) rfl rfl (OpV.move (.inr rfl) rfl) ?_
                      refine VA.done (by kernel_rfl) ?_
                      refine VC.cond rfl (fun h5b => ?_) (fun h5b => ?_)
                      · have h5 := h5b
                        try simp only [qq] at h5
                        refine VC.sr ?_
                        refine VO.ma rfl rfl rfl rfl ?_
                        refine VO.nil ?_
                        refine VC.ret ?_
                        exact Exists.intro _ (And.intro (RetN.one Tryz.results127 (ResN.v rfl)) (by rw [lookF_at (by omega) (by omega) hn (by rw [lookE_7 k2 k3 k4 (by omega) (by omega)]; decide), lookE_7 k2 k3 k4 (by omega) (by omega)]))
                      · have h5 := h5b
                        try simp only [qq] at h5
                        refine VC.skip ?_
                        refine VC.region ?_
                        refine VO.val rfl rfl (OpV.add rfl rfl rfl (by unfold fits; omega)) ?_
                        refine VO.mv rfl rfl rfl rfl ?_
                        refine VO.nil ?_
                        exact Exists.intro (⟨q + 1, by omega, lt_succ_cases hn ((lookE_0 k2 k3 k4 (by first | exact .inl (by omega) | exact .inr (by omega))))⟩) (And.intro (Le.mk hB [] ⟨rfl, rfl, rfl, rfl, trivial⟩ rfl rfl (Nat.le_refl _)) (by first | omega | (show _ < _; omega) | (simp only []; omega)))
                    · have aK7 := aK7b
                      try simp only [qq] at aK7
                      refine VA.takeX (i := 3) rfl (by kernel_rfl) (by kernel_rfl) (by kernel_rfl) rfl rfl rfl rfl aK7b ?_
                      refine VA.takeX (i := 4) rfl (by kernel_rfl) (by kernel_rfl) (by kernel_rfl) rfl rfl rfl rfl aK7b ?_
                      refine VA.takeX (i := 5) rfl (by kernel_rfl) (by kernel_rfl) (by kernel_rfl) rfl rfl rfl rfl aK7b ?_
                      refine VA.takeX (i := 6) rfl (by kernel_rfl) (by kernel_rfl) (by kernel_rfl) rfl rfl rfl rfl aK7b ?_
                      refine VA.takeX (i := 7) rfl (by kernel_rfl) (by kernel_rfl) (by kernel_rfl) rfl rfl rfl rfl aK7b ?_
                      refine VA.takeX (i := 8) rfl (by kernel_rfl) (by kernel_rfl) (by kernel_rfl) rfl rfl rfl rfl aK7b ?_
                      refine VA.takeX (i := 9) rfl (by kernel_rfl) (by kernel_rfl) (by kernel_rfl) rfl rfl rfl rfl aK7b ?_
                      refine VA.takeX (i := 10) rfl (by kernel_rfl) (by kernel_rfl) (by kernel_rfl) rfl rfl rfl rfl aK7b ?_
                      refine VA.take (i := 11) rfl (by kernel_rfl) (by kernel_rfl) (by kernel_rfl) rfl rfl (OpV.pickF rfl rfl rfl rfl aK7b) ?_
                      refine VA.take (i := 12) rfl (by kernel_rfl) (by kernel_rfl) (by kernel_rfl) rfl rfl (OpV.move (.inr rfl) rfl) ?_
                      refine VA.done (by kernel_rfl) ?_
                      refine VC.condF rfl rfl ?_
                      refine VC.skip ?_
                      refine VC.region ?_
                      refine VO.val rfl rfl (OpV.add rfl rfl rfl (by unfold fits; omega)) ?_
                      refine VO.mv rfl rfl rfl rfl ?_
                      refine VO.nil ?_
                      exact Exists.intro (⟨q + 1, by omega, lt_succ_cases hn ((lookE_0 k2 k3 k4 (by first | exact .inl (by omega) | exact .inr (by omega))))⟩) (And.intro (Le.mk hB [] ⟨rfl, rfl, rfl, rfl, trivial⟩ rfl rfl (Nat.le_refl _)) (by first | omega | (show _ < _; omega) | (simp only []; omega)))
            · replace aK6b : _ = true := aK6b
              have aK6 := aK6b
              try simp only [qq] at aK6
              refine VO.opX rfl rfl rfl rfl aK6b ?_
              refine VO.opX rfl rfl rfl rfl aK6b ?_
              refine VO.opX rfl rfl rfl rfl aK6b ?_
              refine VO.val rfl rfl (OpV.pickT rfl rfl rfl rfl aK6b) ?_
              refine VO.ma rfl rfl rfl rfl ?_
              refine VO.nil ?_
              refine VC.condT rfl rfl ?_
              have k2 : (lkStrs (l.getD q default)).all keyF = false := lks_no (by simp_all)
              refine VC.sr ?_
              refine VO.ma rfl rfl rfl rfl ?_
              refine VO.nil ?_
              refine VC.ret ?_
              exact Exists.intro _ (And.intro (RetN.one Tryz.results127 (ResN.v rfl)) (by rw [lookF_at (by omega) (by omega) hn (by rw [lookE_5 k2]; decide), lookE_5 k2]))
          · replace aK5b : _ = true := aK5b
            have aK5 := aK5b
            try simp only [qq] at aK5
            refine VO.opX rfl rfl rfl rfl aK5b ?_
            refine VO.opX rfl rfl rfl rfl aK5b ?_
            refine VO.opX rfl rfl rfl rfl aK5b ?_
            refine VO.val rfl rfl (OpV.pickT rfl rfl rfl rfl aK5b) ?_
            refine VO.mv rfl rfl rfl rfl ?_
            refine VO.opX rfl rfl rfl rfl rfl ?_
            refine VO.opX rfl rfl rfl rfl rfl ?_
            refine VO.opX rfl rfl rfl rfl rfl ?_
            refine VO.opX rfl rfl rfl rfl rfl ?_
            refine VO.val rfl rfl (OpV.pickT rfl rfl rfl rfl rfl) ?_
            refine VO.ma rfl rfl rfl rfl ?_
            refine VO.nil ?_
            refine VC.condT rfl rfl ?_
            have k2 : (lkStrs (l.getD q default)).all keyF = false := lks_no (by simp_all)
            refine VC.sr ?_
            refine VO.ma rfl rfl rfl rfl ?_
            refine VO.nil ?_
            refine VC.ret ?_
            exact Exists.intro _ (And.intro (RetN.one Tryz.results127 (ResN.v rfl)) (by rw [lookF_at (by omega) (by omega) hn (by rw [lookE_5 k2]; decide), lookE_5 k2]))
        · replace aK4b : _ = true := aK4b
          have aK4 := aK4b
          try simp only [qq] at aK4
          refine VO.opX rfl rfl rfl rfl aK4b ?_
          refine VO.opX rfl rfl rfl rfl aK4b ?_
          refine VO.opX rfl rfl rfl rfl aK4b ?_
          refine VO.val rfl rfl (OpV.pickT rfl rfl rfl rfl aK4b) ?_
          refine VO.mv rfl rfl rfl rfl ?_
          refine VO.opX rfl rfl rfl rfl rfl ?_
          refine VO.opX rfl rfl rfl rfl rfl ?_
          refine VO.opX rfl rfl rfl rfl rfl ?_
          refine VO.opX rfl rfl rfl rfl rfl ?_
          refine VO.val rfl rfl (OpV.pickT rfl rfl rfl rfl rfl) ?_
          refine VO.mv rfl rfl rfl rfl ?_
          refine VO.opX rfl rfl rfl rfl rfl ?_
          refine VO.opX rfl rfl rfl rfl rfl ?_
          refine VO.opX rfl rfl rfl rfl rfl ?_
          refine VO.opX rfl rfl rfl rfl rfl ?_
          refine VO.val rfl rfl (OpV.pickT rfl rfl rfl rfl rfl) ?_
          refine VO.ma rfl rfl rfl rfl ?_
          refine VO.nil ?_
          refine VC.condT rfl rfl ?_
          have k2 : (lkStrs (l.getD q default)).all keyF = false := lks_no (by simp_all)
          refine VC.sr ?_
          refine VO.ma rfl rfl rfl rfl ?_
          refine VO.nil ?_
          refine VC.ret ?_
          exact Exists.intro _ (And.intro (RetN.one Tryz.results127 (ResN.v rfl)) (by rw [lookF_at (by omega) (by omega) hn (by rw [lookE_5 k2]; decide), lookE_5 k2]))
      · replace aK3b : _ = true := aK3b
        have aK3 := aK3b
        try simp only [qq] at aK3
        refine VO.opX rfl rfl rfl rfl aK3b ?_
        refine VO.opX rfl rfl rfl rfl aK3b ?_
        refine VO.opX rfl rfl rfl rfl aK3b ?_
        refine VO.val rfl rfl (OpV.pickT rfl rfl rfl rfl aK3b) ?_
        refine VO.mv rfl rfl rfl rfl ?_
        refine VO.opX rfl rfl rfl rfl rfl ?_
        refine VO.opX rfl rfl rfl rfl rfl ?_
        refine VO.opX rfl rfl rfl rfl rfl ?_
        refine VO.opX rfl rfl rfl rfl rfl ?_
        refine VO.val rfl rfl (OpV.pickT rfl rfl rfl rfl rfl) ?_
        refine VO.mv rfl rfl rfl rfl ?_
        refine VO.opX rfl rfl rfl rfl rfl ?_
        refine VO.opX rfl rfl rfl rfl rfl ?_
        refine VO.opX rfl rfl rfl rfl rfl ?_
        refine VO.opX rfl rfl rfl rfl rfl ?_
        refine VO.val rfl rfl (OpV.pickT rfl rfl rfl rfl rfl) ?_
        refine VO.mv rfl rfl rfl rfl ?_
        refine VO.opX rfl rfl rfl rfl rfl ?_
        refine VO.opX rfl rfl rfl rfl rfl ?_
        refine VO.opX rfl rfl rfl rfl rfl ?_
        refine VO.opX rfl rfl rfl rfl rfl ?_
        refine VO.val rfl rfl (OpV.pickT rfl rfl rfl rfl rfl) ?_
        refine VO.ma rfl rfl rfl rfl ?_
        refine VO.nil ?_
        refine VC.condT rfl rfl ?_
        have k2 : (lkStrs (l.getD q default)).all keyF = false := lks_no (by simp_all)
        refine VC.sr ?_
        refine VO.ma rfl rfl rfl rfl ?_
        refine VO.nil ?_
        refine VC.ret ?_
        exact Exists.intro _ (And.intro (RetN.one Tryz.results127 (ResN.v rfl)) (by rw [lookF_at (by omega) (by omega) hn (by rw [lookE_5 k2]; decide), lookE_5 k2]))
    · have aH2 := aH2b
      try simp only [qq] at aH2
      refine VC.exit ?_
      refine VC.seq ?_
      refine VC.seq ?_
      have hl0 : ∀ j, j < l.length → lookE l j = 0 := fun j hj => hn j (by omega)
      refine VC.region ?_
      refine VO.mv rfl rfl rfl rfl ?_
      refine VO.val rfl rfl (OpV.len_im rfl Tryz.underlying118 rfl) ?_
      refine VO.mv rfl rfl rfl rfl ?_
      refine VO.nil ?_
      refine VC.block ?_
      refine VC.loopK [(0, _), (70, _), (71, _)] ⟨rfl, rfl, rfl, trivial⟩ ({r : Nat // r ≤ l.length ∧ ∀ j, j < r → twE l j = 0}) (fun (iZ : {r : Nat // r ≤ l.length ∧ ∀ j, j < r → twE l j = 0}) => match iZ with | ⟨r, hq1, hn1⟩ => [(72, avI (r : Int))]) (fun (iZ : {r : Nat // r ≤ l.length ∧ ∀ j, j < r → twE l j = 0}) => match iZ with | ⟨r, hq1, hn1⟩ => []) (fun (iZ : {r : Nat // r ≤ l.length ∧ ∀ j, j < r → twE l j = 0}) => match iZ with | ⟨r, hq1, hn1⟩ => 0) (fun (iZ : {r : Nat // r ≤ l.length ∧ ∀ j, j < r → twE l j = 0}) => match iZ with | ⟨r, hq1, hn1⟩ => l.length - r) ⟨0, Nat.zero_le _, fun j hj => absurd hj (Nat.not_lt_zero j)⟩ (Le.mk hB [] ⟨rfl, rfl, rfl, rfl, trivial⟩ rfl rfl (Nat.le_refl _)) ?_
      rintro ⟨r, hq1, hn1⟩
      show VC _ _ _ _ ⟨[(72, avI (r : Int))] ++ [(0, _), (70, _), (71, _)], [], 0⟩
      refine VC.sr ?_
      refine VO.val rfl rfl (OpV.lss rfl rfl rfl) ?_
      refine VO.nil ?_
      refine VC.seq ?_
      refine VC.cond rfl (fun aH8b => ?_) (fun aH8b => ?_)
      · have aH8 := aH8b
        try simp only [qq] at aH8
        refine VC.skip ?_
        refine VC.seq ?_
        refine VC.block ?_
        refine VC.sr ?_
        refine VO.mv rfl rfl rfl rfl ?_
        refine VO.val rfl rfl (OpV.indexAddr_E rfl Tryz.underlying118 Tryz.sizeOf124 rfl rfl rfl (by omega)) ?_
        refine VO.val rfl rfl (OpV.loadK_at rfl hB OutW.no Tryz.isAgg124 Tryz.sizeOf124 rfl rfl) ?_
        refine VO.op rfl (OpE.alloc rfl hB rfl Tryz.zeroValue124 rfl ?_)
        intro g6
        refine VO.ma rfl rfl rfl rfl ?_
        refine VO.op rfl (OpE.store (i := 0) rfl hB rfl Tryz.sizeOf124 rfl rfl rfl rfl rfl rfl (Nle rfl) trivial ?_)
        refine VO.nil ?_
        refine VC.sr ?_
        refine VO.mv rfl rfl rfl rfl ?_
        refine VO.mv rfl rfl rfl rfl ?_
        refine VO.val rfl rfl (OpV.slice_L (h := r) rfl Tryz.underlying118 Tryz.sizeOf124 rfl rfl ⟨_, _, rfl, rfl⟩ (by omega) (by omega)) ?_
        refine VO.val rfl rfl (OpV.makeFunc1 rfl rfl) ?_
        refine VO.op rfl (OpE.callL rfl hB rfl Tryz.call204 (slices_ContainsFunc_lk (p := fun o => sameT o (l.getD r default)) (by rw [len_cut (by omega)]; omega) Tryz.call205 (fun x => rf_LooksFault1.spec)) (ArgsP.cons (ArgP.ev rfl) (ArgsP.cons (ArgP.fn1 (i := 0) (m := 8) (f := Sxc.cell (l.getD r default)) rfl rfl (Nle rfl) (lt8 rfl rfl rfl rfl rfl rfl rfl rfl)) (ArgsP.nil))) ?_)
        rintro _ rfl
        refine VO.nil ?_
        refine VC.cond rfl (fun h7b => ?_) (fun h7b => ?_)
        · have h7 := h7b
          try simp only [qq] at h7
          refine VC.sr ?_
          refine VO.ma rfl rfl rfl rfl ?_
          refine VO.nil ?_
          refine VC.ret ?_
          exact Exists.intro _ (And.intro (RetN.one Tryz.results127 (ResN.v rfl)) (by rw [lookF_tw (by omega) hl0 (by omega) hn1 (by rw [twE_6 (by first | assumption | (have h := h7b; simpa using h))]; decide), twE_6 (by first | assumption | (have h := h7b; simpa using h))]))
        · have h7 := h7b
          try simp only [qq] at h7
          refine VC.skip ?_
          refine VC.region ?_
          refine VO.val rfl rfl (OpV.add rfl rfl rfl (by unfold fits; omega)) ?_
          refine VO.mv rfl rfl rfl rfl ?_
          refine VO.nil ?_
          exact Exists.intro (⟨r + 1, by omega, lt_succ_cases hn1 ((twE_0 (by first | assumption | (have h := h7b; simpa using h))))⟩) (And.intro (Le.mk hB [] ⟨rfl, rfl, rfl, rfl, trivial⟩ rfl rfl (Nat.le_refl _)) (by first | omega | (show _ < _; omega) | (simp only []; omega)))
      · have aH8 := aH8b
        try simp only [qq] at aH8
        refine VC.exit ?_
        refine VC.sr ?_
        refine VO.ma rfl rfl rfl rfl ?_
        refine VO.nil ?_
        refine VC.ret ?_
        exact Exists.intro _ (And.intro (RetN.one Tryz.results127 (ResN.v rfl)) (by rw [lookF_ok (by omega) hl0 (fun j hj => hn1 j (by omega))]))
end
section
def lkPk : List Int := [0, 1, 3, 10]
def vd7 : List Int := [1, 1, 1, 2, 3, 4, 5]
def mc2 : List ByteArray := [⟨#[109, 49]⟩, ⟨#[109, 50]⟩]
def nz3 : List ByteArray := [⟨#[110, 49]⟩, ⟨#[110, 49]⟩, ⟨#[110, 50]⟩]
def rl3 : List ByteArray := [⟨#[114, 49]⟩, ⟨#[114, 50]⟩, ⟨#[114, 51]⟩]
def lkNew (L : List Int) (q r : Nat) (at' : Int) (j : Nat) : LookS := ⟨bdK q, nm3.getD r ByteArray.empty, at', pickV L (j + 1) vd7, decide (nxt L (j + 2) 3 = 0), someV L (j + 3) mc2, someV L (j + 4) nz3, someV L (j + 5) rl3⟩
def lkIn (L : List Int) (q r : Nat) (at' : Int) (z : List LookS × Nat) : List LookS × Nat := if nxt L z.2 4 = 0 then (z.1, z.2 + 1) else (z.1 ++ [lkNew L q r at' z.2], z.2 + 6)
def lkI (L : List Int) (q : Nat) (at' : Int) (z : List LookS × Nat) : Nat → List LookS × Nat
 | 0 => z
 | r + 1 => lkIn L q r at' (lkI L q at' z r)
def lkS (L : List Int) (q : Nat) (z : (List LookS × Nat) × Int) : (List LookS × Nat) × Int := (lkI L q (z.2 + pickV L z.1.2 lkPk) (z.1.1, z.1.2 + 1) 3, z.2 + pickV L z.1.2 lkPk)
def lkO (L : List Int) (k : Nat) : Nat → (List LookS × Nat) × Int
 | 0 => (([], k), 0)
 | q + 1 => lkS L q (lkO L k q)
def lkTail (L : List Int) (l : List LookS) (j : Nat) : List LookS × Nat :=
 if 0 < l.length then
  if nxt L j 10 = 0 then
   if nxt L (j + 2) 3 = 0 then (l.set (nxt L (j + 1) l.length).toNat {l.getD (nxt L (j + 1) l.length).toNat default with board := someV L (j + 3) [(l.getD (nxt L (j + 1) l.length).toNat default).board, ⟨#[]⟩, ⟨#[98, 49]⟩], name := someV L (j + 4) [(l.getD (nxt L (j + 1) l.length).toNat default).name, ⟨#[99, 49]⟩, ⟨#[65]⟩]}, j + 5)
   else if nxt L (j + 2) 3 = 1 then (l.set (nxt L (j + 1) l.length).toNat {l.getD (nxt L (j + 1) l.length).toNat default with at_ := pickV L (j + 3) [(l.getD (nxt L (j + 1) l.length).toNat default).at_, -1, 345686400000], verdict := oddV L (j + 4) 1 5}, j + 6)
   else (l.set (nxt L (j + 1) l.length).toNat {l.getD (nxt L (j + 1) l.length).toNat default with machine := someV L (j + 3) [(l.getD (nxt L (j + 1) l.length).toNat default).machine, ⟨#[]⟩], nozzle := someV L (j + 4) [(l.getD (nxt L (j + 1) l.length).toNat default).nozzle, ⟨#[65]⟩], reel := someV L (j + 5) [(l.getD (nxt L (j + 1) l.length).toNat default).reel, ⟨#[]⟩]}, j + 6)
  else (l, j + 1)
 else (l, j)
def lkV (L : List Int) (k m : Nat) : List LookS × Nat := lkTail L (lkO L k m).1.1 (lkO L k m).1.2
section
variable {L : List Int} {q r j k m i : Nat} {at' : Int} {l : List LookS}
theorem lkIn_n (h : nxt L j 4 = 0) : lkIn L q r at' (l, j) = (l, j + 1) := if_pos h
theorem lkIn_y (h : nxt L j 4 ≠ 0) : lkIn L q r at' (l, j) = (l ++ [lkNew L q r at' j], j + 6) := if_neg h
theorem lkTail_0 (h : l.length = 0) : lkTail L l j = (l, j) := if_neg (by omega)
theorem lkTail_1 (h : 0 < l.length) (h1 : nxt L j 10 ≠ 0) : lkTail L l j = (l, j + 1) := by rw [lkTail, if_pos h, if_neg h1]
theorem lkTail_2 {r1 r2 : ByteArray} (h : 0 < l.length) (h1 : nxt L j 10 = 0) (hi : nxt L (j + 1) l.length = (i : Int)) (h2 : nxt L (j + 2) 3 = 0) (e1 : someV L (j + 3) [(xL l i).board, ⟨#[]⟩, ⟨#[98, 49]⟩] = r1) (e2 : someV L (j + 4) [(xL l i).name, ⟨#[99, 49]⟩, ⟨#[65]⟩] = r2) :
  lkTail L l j = ((l.set i ({l.getD i default with board := r1} : LookS)).set i ({l.getD i default with board := r1, name := r2} : LookS), j + 5) := by
 rw [lkTail, if_pos h, if_pos h1, if_pos h2, hi, Int.toNat_natCast, e1, e2]
 simp only [List.set_set]
theorem lkTail_3 {r1 r2 : Int} (h : 0 < l.length) (h1 : nxt L j 10 = 0) (hi : nxt L (j + 1) l.length = (i : Int)) (h2 : nxt L (j + 2) 3 ≠ 0) (h3 : nxt L (j + 2) 3 = 1) (e1 : pickV L (j + 3) [(xL l i).at_, -1, 345686400000] = r1) (e2 : oddV L (j + 4) 1 5 = r2) :
  lkTail L l j = ((l.set i ({l.getD i default with at_ := r1} : LookS)).set i ({l.getD i default with at_ := r1, verdict := r2} : LookS), j + 6) := by
 rw [lkTail, if_pos h, if_pos h1, if_neg h2, if_pos h3, hi, Int.toNat_natCast, e1, e2]
 simp only [List.set_set]
theorem lkTail_4 {r1 r2 r3 : ByteArray} (h : 0 < l.length) (h1 : nxt L j 10 = 0) (hi : nxt L (j + 1) l.length = (i : Int)) (h2 : nxt L (j + 2) 3 ≠ 0) (h3 : nxt L (j + 2) 3 ≠ 1) (e1 : someV L (j + 3) [(xL l i).machine, ⟨#[]⟩] = r1) (e2 : someV L (j + 4) [(xL l i).nozzle, ⟨#[65]⟩] = r2) (e3 : someV L (j + 5) [(xL l i).reel, ⟨#[]⟩] = r3) :
  lkTail L l j = (((l.set i ({l.getD i default with machine := r1} : LookS)).set i ({l.getD i default with machine := r1, nozzle := r2} : LookS)).set i ({l.getD i default with machine := r1, nozzle := r2, reel := r3} : LookS), j + 6) := by
 rw [lkTail, if_pos h, if_pos h1, if_neg h2, if_neg h3, hi, Int.toNat_natCast, e1, e2, e3]
 simp only [List.set_set]
theorem lk_out {p cap : Nat} {a0 : Option Addr} {l' : List LookS} {J : Nat} (hT : lkV L k m = (l', J)) : avL l' = avL (lkV L k m).1 ∧ [bxStr p a0 cap L J] = [bxStr p a0 cap L (lkV L k m).2] := by rw [hT]; exact ⟨rfl, rfl⟩
end
section
variable {L : List Int} {q r j k m : Nat} {at' : Int} {z : List LookS × Nat}
theorem sm_2 {x : ByteArray} {a b : ByteArray} (ha : SmG a) (hb : SmG b) (h : x ∈ [a, b]) : SmG x := by
 simp at h; rcases h with rfl | rfl <;> assumption
theorem lkNew_ok (hq : q < m) (h0 : 0 ≤ at') (h1 : at' ≤ 10 * (m : Int)) (hm : m ≤ 6) : LkG m (lkNew L q r at' j) :=
 ⟨BdG.k hq, NmG.k r, ⟨⟨by show -1 ≤ at'; omega, by show at' ≤ 345686400000; omega⟩, fun _ _ => h1⟩, someV_of (P := SmG) (by unfold SmG; decide) (by decide), someV_of (P := SmG) (by unfold SmG; decide) (by decide), someV_of (P := SmG) (by unfold SmG; decide) (by decide)⟩
theorem lkI_ok (hq : q < m) (h0 : 0 ≤ at') (h1 : at' ≤ 10 * (m : Int)) (hm : m ≤ 6) (hz : ∀ x ∈ z.1, LkG m x) : ∀ r, (lkI L q at' z r).1.length ≤ z.1.length + r ∧ (lkI L q at' z r).2 ≤ z.2 + 6 * r ∧ ∀ x ∈ (lkI L q at' z r).1, LkG m x
 | 0 => ⟨Nat.le_refl _, Nat.le_refl _, hz⟩
 | r + 1 => by
  obtain ⟨i1, i2, i3⟩ := lkI_ok hq h0 h1 hm hz r
  rw [lkI, lkIn]
  generalize lkI L q at' z r = y at i1 i2 i3
  split
  ·exact ⟨by show y.1.length ≤ _; omega, by show y.2 + 1 ≤ _; omega, i3⟩
  ·exact ⟨by show (y.1 ++ [_]).length ≤ _; simp; omega, by show y.2 + 6 ≤ _; omega, LkG.snoc i3 (lkNew_ok hq h0 h1 hm)⟩
theorem lkPk_in : 0 ≤ pickV L j lkPk ∧ pickV L j lkPk ≤ 10 := pickV_in (by decide) (by decide)
theorem lkO_ok (hm : m ≤ 6) : ∀ q, q ≤ m → (lkO L k q).1.1.length ≤ 3 * q ∧ (lkO L k q).1.2 ≤ k + 19 * q ∧ (0 ≤ (lkO L k q).2 ∧ (lkO L k q).2 ≤ 10 * (q : Int)) ∧ ∀ x ∈ (lkO L k q).1.1, LkG m x
 | 0, _ => ⟨Nat.zero_le _, Nat.le_refl _, ⟨Int.le_refl _, Int.le_refl _⟩, fun x h => by cases h⟩
 | q + 1, hq => by
  obtain ⟨i1, i2, i3, i4⟩ := lkO_ok hm q (by omega)
  rw [lkO, lkS]
  generalize lkO L k q = y at i1 i2 i3 i4
  have hp := lkPk_in (L := L) (j := y.1.2)
  generalize pickV L y.1.2 lkPk = d at hp
  obtain ⟨j1, j2, j3⟩ := lkI_ok (L := L) (q := q) (m := m) (at' := y.2 + d) (z := (y.1.1, y.1.2 + 1)) (by omega) (by omega) (by omega) hm i4 3
  refine ⟨?_, ?_, ⟨?_, ?_⟩, j3⟩
  ·simp only at j1 ⊢; omega
  ·simp only at j2 ⊢; omega
  ·show 0 ≤ y.2 + d; omega
  ·show y.2 + d ≤ 10 * ((q + 1 : Nat) : Int); omega
theorem lkTail_ok {l : List LookS} (hm : 0 < m) (h : ∀ x ∈ l, LkG m x) : (lkTail L l j).1.length = l.length ∧ (lkTail L l j).2 ≤ j + 6 ∧ ∀ x ∈ (lkTail L l j).1, LkG m x := by
 have hx := LkG.getD h (nxt L (j + 1) l.length).toNat
 unfold lkTail
 split
 ·split
  ·split
   ·refine ⟨List.length_set, by show j + 5 ≤ _; omega, LkG.setD h _ ⟨someV_of (P := BdG m) (fun x hx' => ?_) (by simp), someV_of (P := NmG) (fun x hx' => ?_) (by simp), hx.at_, hx.machine, hx.nozzle, hx.reel⟩⟩
    ·simp at hx'; rcases hx' with rfl | rfl | rfl
     ·exact hx.board
     ·exact BdG.none m
     ·exact BdG.b1 hm
    ·simp at hx'; rcases hx' with rfl | rfl | rfl
     ·exact hx.name
     ·exact NmG.c1
     ·exact NmG.none
   ·split
    ·refine ⟨List.length_set, Nat.le_refl _, LkG.setD h _ ⟨hx.board, hx.name, pickV_of (P := AtG m) (fun x hx' => ?_) (by simp), hx.machine, hx.nozzle, hx.reel⟩⟩
     simp at hx'; rcases hx' with rfl | rfl | rfl
     ·exact hx.at_
     ·exact AtG.neg
     ·exact AtG.end_
    ·exact ⟨List.length_set, Nat.le_refl _, LkG.setD h _ ⟨hx.board, hx.name, hx.at_, someV_of (P := SmG) (fun x hx' => sm_2 hx.machine (by unfold SmG; decide) hx') (by simp), someV_of (P := SmG) (fun x hx' => sm_2 hx.nozzle (by unfold SmG; decide) hx') (by simp), someV_of (P := SmG) (fun x hx' => sm_2 hx.reel (by unfold SmG; decide) hx') (by simp)⟩⟩
  ·exact ⟨rfl, by show j + 1 ≤ _; omega, h⟩
 ·exact ⟨rfl, by show j ≤ _; omega, h⟩
theorem lkV_ok (hm : m ≤ 6) (h0 : 0 < m) : (lkV L k m).1.length ≤ 3 * m ∧ (lkV L k m).2 ≤ k + 19 * m + 6 ∧ ∀ x ∈ (lkV L k m).1, LkG m x := by
 obtain ⟨i1, i2, _, i4⟩ := lkO_ok (L := L) (k := k) hm m (Nat.le_refl _)
 obtain ⟨j1, j2, j3⟩ := lkTail_ok (L := L) (j := (lkO L k m).1.2) h0 i4
 exact ⟨by unfold lkV; omega, by unfold lkV; omega, j3⟩
end
def rlV (L : List Int) (m : Nat) : Nat → Nat → List LookS × Nat
 | 0, k => ([], k)
 | f + 1, k => if lookF (lkV L k m).1 = 0 then lkV L k m else rlV L m f (lkV L k m).2
theorem rlV_ok {L : List Int} {m : Nat} (hm : m ≤ 6) (h0 : 0 < m) : ∀ f k, (rlV L m f k).1.length ≤ 3 * m ∧ lookF (rlV L m f k).1 = 0 ∧ (rlV L m f k).2 ≤ k + f * (19 * m + 6) ∧ ∀ x ∈ (rlV L m f k).1, LkG m x
 | 0, k => ⟨Nat.zero_le _, by show lookF [] = 0; decide, by show k ≤ _; omega, fun x h => by cases h⟩
 | f + 1, k => by
  obtain ⟨i1, i2, i3⟩ := lkV_ok (L := L) (k := k) hm h0
  rw [rlV]
  split
  ·exact ⟨i1, by assumption, by rw [Nat.add_mul]; omega, i3⟩
  ·obtain ⟨j1, j2, j3, j4⟩ := rlV_ok hm h0 f (lkV L k m).2
   exact ⟨j1, j2, by rw [Nat.add_mul]; omega, j4⟩
theorem rlV_y {L : List Int} {m f k : Nat} {l : List LookS} {j : Nat} (e : lkV L k m = (l, j)) (h : lookF l = 0) : rlV L m (f + 1) k = (l, j) := by rw [rlV, e, if_pos h]
theorem rlV_n {L : List Int} {m f k : Nat} {l : List LookS} {j : Nat} (e : lkV L k m = (l, j)) (h : lookF l ≠ 0) : rlV L m (f + 1) k = rlV L m f j := by rw [rlV, e, if_neg h]
end
section
set_option maxHeartbeats 40000000 in
theorem looks_E {p0 cap : Nat} {a0 : Option Addr} {p k m : Nat} {L : List Int} (hk : k ≤ 800000) (hm : m ≤ 6) (hm0 : 0 < m) (hp0 : p0 ≤ p) :
    SpecHX (TXI a0 L p0) Tryz.prog 126 [sp p, avI (m : Int)] [bxStr p a0 cap L k] (fun y hp' => y = avL (lkV L k m).1 ∧ hp' = [bxStr p a0 cap L (lkV L k m).2]) := by
  have e4 : lkPk.length = 4 := rfl
  have e7 : vd7.length = 7 := rfl
  have em2 : mc2.length = 2 := rfl
  have en3 : nz3.length = 3 := rfl
  have er3 : rl3.length = 3 := rfl
  refine SpecHX.of_VC txi_stab Tryz.func126 rfl Tryz.ntmps126 (Nle rfl) fun w A hB hGX => ?_
  have hnew : True := trivial
  refine VC.sr ?_
  refine VO.ma rfl rfl rfl rfl ?_
  refine VO.nil ?_
  refine VC.sr ?_
  refine VO.ma rfl rfl rfl rfl ?_
  refine VO.nil ?_
  refine VC.sr ?_
  refine VO.ma rfl rfl rfl rfl ?_
  refine VO.nil ?_
  refine VC.seq ?_
  refine VC.sr ?_
  refine VO.mv rfl rfl rfl rfl ?_
  refine VO.mv rfl rfl rfl rfl ?_
  refine VO.nil ?_
  refine VC.block ?_
  refine VC.le _ (Le.nilRow 8 124) ?_
  refine VC.loopK [(0, _), (11, _)] ⟨rfl, rfl, trivial⟩ ({t : (Value × Int) × (List LookS × Nat) × Nat // t.2.2 ≤ m ∧ (t.2.1, t.1.2) = lkO L k t.2.2}) (fun (iZ : {t : (Value × Int) × (List LookS × Nat) × Nat // t.2.2 ≤ m ∧ (t.2.1, t.1.2) = lkO L k t.2.2}) => match iZ with | ⟨⟨⟨u, atv⟩, ⟨l, j⟩, q⟩, hq, hlj⟩ => [(5, .v u), (6, avI atv), (12, avI (q : Int))]) (fun (iZ : {t : (Value × Int) × (List LookS × Nat) × Nat // t.2.2 ≤ m ∧ (t.2.1, t.1.2) = lkO L k t.2.2}) => match iZ with | ⟨⟨⟨u, atv⟩, ⟨l, j⟩, q⟩, hq, hlj⟩ => [bxStr p a0 cap L j, .row u l.length 8 (rowL l) 124]) (fun (iZ : {t : (Value × Int) × (List LookS × Nat) × Nat // t.2.2 ≤ m ∧ (t.2.1, t.1.2) = lkO L k t.2.2}) => match iZ with | ⟨⟨⟨u, atv⟩, ⟨l, j⟩, q⟩, hq, hlj⟩ => 0) (fun (iZ : {t : (Value × Int) × (List LookS × Nat) × Nat // t.2.2 ≤ m ∧ (t.2.1, t.1.2) = lkO L k t.2.2}) => match iZ with | ⟨⟨⟨u, atv⟩, ⟨l, j⟩, q⟩, hq, hlj⟩ => m - q) ⟨((.slice none 0 0, 0), ([], k), 0), Nat.zero_le _, rfl⟩ (Le.mk hB [0, 1] ⟨rfl, rfl, rfl, rfl, rfl, trivial⟩ rfl rfl (Nat.le_refl _)) ?_
  rintro ⟨⟨⟨u, atv⟩, ⟨l, j⟩, q⟩, hq, hlj⟩
  show VC _ _ _ _ ⟨[(5, .v u), (6, avI atv), (12, avI (q : Int))] ++ [(0, _), (11, _)], [bxStr p a0 cap L j, .row u l.length 8 (rowL l) 124], 0⟩
  simp only at hq hlj
  have hB0 := lkO_ok (L := L) (k := k) hm q hq
  rw [← hlj] at hB0
  obtain ⟨hl, hj, hat, hok⟩ := hB0
  simp only at hl hj hat hok
  refine VC.sr ?_
  refine VO.val rfl rfl (OpV.lss rfl rfl rfl) ?_
  refine VO.nil ?_
  refine VC.seq ?_
  refine VC.cond rfl (fun aH1b => ?_) (fun aH1b => ?_)
  · have aH1 := aH1b
    try simp only [qq] at aH1
    refine VC.skip ?_
    refine VC.seq ?_
    refine VC.block ?_
    refine VC.sr ?_
    refine VO.mv rfl rfl rfl rfl ?_
    refine VO.ma rfl rfl rfl rfl ?_
    refine VO.nil ?_
    refine VC.sr ?_
    refine VO.mv rfl rfl rfl rfl ?_
    refine VO.mv rfl rfl rfl rfl ?_
    refine VO.op rfl (OpE.buildSlice (zc := #[.int .i64 0, .int .i64 0, .int .i64 0, .int .i64 0]) rfl hB rfl Tryz.underlying22 Tryz.sizeOf3 Tryz.zeroValue3 (by decide) (by decide) (by kernel_rfl) rfl rfl ?_)
    refine VO.le _ (Le.recast (t := 17) (y := avInts lkPk) rfl (fun w Z u h => Rep.ints (xs := lkPk) rfl h)) ?_
    refine VO.op rfl (OpE.callHX (rest := [_]) txi_stab hGX rfl hB rfl Tryz.call77 rfl rfl (pick_E (xs := lkPk) (by omega) (by omega) hp0) (List.Perm.refl _) (fun _ _ => trivial) ?_)
    rintro _ _ ⟨rfl, rfl⟩
    have h18b := lkPk_in (L := L) (j := j)
    obtain ⟨r18, h18⟩ : ∃ z, pickV L j lkPk = z := ⟨_, rfl⟩
    rw [h18] at h18b
    refine VO.le _ (Le.recast (t := 18) (y := avI r18) rfl (fun w Z u h => by rw [← h18]; exact h)) ?_
    refine VO.val rfl rfl (OpV.add rfl rfl rfl (by unfold fits; omega)) ?_
    refine VO.ma rfl rfl rfl rfl ?_
    refine VO.nil ?_
    refine VC.sr ?_
    refine VO.op rfl (OpE.buildSlice (zc := #[.string ⟨#[]⟩, .string ⟨#[]⟩, .string ⟨#[]⟩]) rfl hB rfl Tryz.underlying82 Tryz.sizeOf9 Tryz.zeroValue9 (by decide) (by decide) (by kernel_rfl) rfl rfl ?_)
    refine VO.le _ (Le.recast (t := 20) (y := avStrs nm3) rfl (fun w Z u h => Rep.strs (xs := nm3) rfl h)) ?_
    refine VO.val rfl rfl (OpV.len_im rfl Tryz.underlying82 rfl) ?_
    refine VO.mv rfl rfl rfl rfl ?_
    refine VO.nil ?_
    refine VC.block ?_
    obtain ⟨l0, el0⟩ : ∃ z, l = z := ⟨_, rfl⟩
    obtain ⟨j0, ej0⟩ : ∃ z, j = z := ⟨_, rfl⟩
    have hlj0 : ((l0, j0), atv) = lkO L k q := by rw [← el0, ← ej0]; exact hlj
    rw [ej0] at h18
    rw [el0] at hl hok
    rw [ej0] at hj
    refine VC.loopK [(0, _), (6, _), (7, _), (11, _), (12, _), (20, _), (21, _)] ⟨rfl, rfl, rfl, rfl, rfl, rfl, rfl, trivial⟩ ({t : Value × (List LookS × Nat) × Nat // t.2.2 ≤ 3 ∧ t.2.1 = lkI L q (atv + r18) (l0, j0 + 1) t.2.2}) (fun (iZ : {t : Value × (List LookS × Nat) × Nat // t.2.2 ≤ 3 ∧ t.2.1 = lkI L q (atv + r18) (l0, j0 + 1) t.2.2}) => match iZ with | ⟨⟨u, ⟨l, j⟩, r⟩, hr, hlj1⟩ => [(5, .v u), (22, avI (r : Int))]) (fun (iZ : {t : Value × (List LookS × Nat) × Nat // t.2.2 ≤ 3 ∧ t.2.1 = lkI L q (atv + r18) (l0, j0 + 1) t.2.2}) => match iZ with | ⟨⟨u, ⟨l, j⟩, r⟩, hr, hlj1⟩ => [bxStr p a0 cap L j, .row u l.length 8 (rowL l) 124]) (fun (iZ : {t : Value × (List LookS × Nat) × Nat // t.2.2 ≤ 3 ∧ t.2.1 = lkI L q (atv + r18) (l0, j0 + 1) t.2.2}) => match iZ with | ⟨⟨u, ⟨l, j⟩, r⟩, hr, hlj1⟩ => 0) (fun (iZ : {t : Value × (List LookS × Nat) × Nat // t.2.2 ≤ 3 ∧ t.2.1 = lkI L q (atv + r18) (l0, j0 + 1) t.2.2}) => match iZ with | ⟨⟨u, ⟨l, j⟩, r⟩, hr, hlj1⟩ => 3 - r) ⟨(u, (l, j + 1), 0), Nat.zero_le _, by rw [el0, ej0]; rfl⟩ (Le.mk hB [0, 1] ⟨rfl, rfl, rfl, rfl, rfl, rfl, rfl, rfl, rfl, trivial⟩ rfl rfl (Nat.le_refl _)) ?_
    rintro ⟨⟨u, ⟨l, j⟩, r⟩, hr, hlj1⟩
    show VC _ _ _ _ ⟨[(5, .v u), (22, avI (r : Int))] ++ [(0, _), (6, _), (7, _), (11, _), (12, _), (20, _), (21, _)], [bxStr p a0 cap L j, .row u l.length 8 (rowL l) 124], 0⟩
    simp only at hr hlj1
    have hB1 := lkI_ok (L := L) (q := q) (m := m) (at' := atv + r18) (z := (l0, j0 + 1)) (by omega) (by omega) (by omega) hm hok r
    rw [← hlj1] at hB1
    obtain ⟨hl1, hj1, hok1⟩ := hB1
    simp only at hl1 hj1 hok1
    have hn3 : nm3.length = 3 := rfl
    refine VC.sr ?_
    refine VO.val rfl rfl (OpV.lss rfl rfl rfl) ?_
    refine VO.nil ?_
    refine VC.seq ?_
    refine VC.cond rfl (fun aH2b => ?_) (fun aH2b => ?_)
    · have aH2 := aH2b
      try simp only [qq] at aH2
      refine VC.skip ?_
      refine VC.seq ?_
      refine VC.block ?_
      refine VC.sr ?_
      refine VO.val rfl rfl (OpV.indexAddr_1 rfl Tryz.underlying82 Tryz.sizeOf9 rfl rfl rfl (by show r < 3; omega)) ?_
      refine VO.val rfl rfl (OpV.load_at rfl hB OutW.no Tryz.isAgg9 rfl rfl) ?_
      refine VO.ma rfl rfl rfl rfl ?_
      refine VO.nil ?_
      refine VC.seq ?_
      refine VC.sr ?_
      refine VO.mv rfl rfl rfl rfl ?_
      refine VO.op rfl (OpE.callHX (rest := [_]) txi_stab hGX rfl hB rfl Tryz.call76 rfl rfl (flip_X (by omega) (by omega) hp0) (List.Perm.refl _) (fun _ _ => trivial) ?_)
      rintro _ _ ⟨rfl, rfl⟩
      refine VO.nil ?_
      refine VC.cond rfl (fun h2b => ?_) (fun h2b => ?_)
      · have h2 := h2b
        try simp only [qq] at h2
        refine VC.exit ?_
        refine VC.region ?_
        refine VO.val rfl rfl (OpV.add rfl rfl rfl (by unfold fits; omega)) ?_
        refine VO.mv rfl rfl rfl rfl ?_
        refine VO.nil ?_
        exact Exists.intro (⟨(u, (l, j + 1), r + 1), by show r + 1 ≤ 3; omega, by show _ = lkIn L q r (atv + r18) (lkI L q (atv + r18) (l0, j0 + 1) r); rw [← hlj1]; exact (lkIn_n (by omega)).symm⟩) (And.intro (Le.mk hB [0, 1] ⟨rfl, rfl, rfl, rfl, rfl, rfl, rfl, rfl, rfl, trivial⟩ rfl (by dsimp only; first | rfl | (rw [List.length_append]; rfl)) (Nat.le_refl _)) (by first | omega | (show _ < _; omega) | (simp only []; omega)))
      · have h2 := h2b
        try simp only [qq] at h2
        refine VC.skip ?_
        refine VC.region ?_
        refine VO.mv rfl rfl rfl rfl ?_
        refine VO.mv rfl rfl rfl rfl ?_
        refine VO.val rfl rfl (OpV.add rfl rfl rfl (by unfold fits; omega)) ?_
        refine VO.val rfl rfl (OpV.conv rfl Tryz.underlying3 Tryz.underlying21 rfl (IntWalk.i32_in _ (by omega))) ?_
        refine VO.val rfl rfl (OpV.convStr rfl Tryz.underlying21 Tryz.underlying9 rfl) ?_
        refine VO.val rfl rfl (OpV.sadd rfl rfl rfl (by have := encL_small (49 + (q : Int)); have h1 : (⟨#[98]⟩ : ByteArray).size = 1 := rfl; omega)) ?_
        refine VO.mv rfl rfl rfl rfl ?_
        refine VO.mv rfl rfl rfl rfl ?_
        refine VO.mv rfl rfl rfl rfl ?_
        refine VO.op rfl (OpE.buildSlice (zc := #[.int .i64 0, .int .i64 0, .int .i64 0, .int .i64 0, .int .i64 0, .int .i64 0, .int .i64 0]) rfl hB rfl Tryz.underlying22 Tryz.sizeOf3 Tryz.zeroValue3 (by decide) (by decide) (by kernel_rfl) rfl rfl ?_)
        refine VO.le _ (Le.recast (t := 37) (y := avInts vd7) rfl (fun w Z u h => Rep.ints (xs := vd7) rfl h)) ?_
        refine VO.op rfl (OpE.callHX (rest := [_]) txi_stab hGX rfl hB rfl Tryz.call77 rfl rfl (pick_E (xs := vd7) (by omega) (by omega) hp0) (List.Perm.refl _) (fun _ _ => trivial) ?_)
        rintro _ _ ⟨rfl, rfl⟩
        refine VO.mv rfl rfl rfl rfl ?_
        refine VO.op rfl (OpE.callHX (rest := [_]) txi_stab hGX rfl hB rfl Tryz.call76 rfl rfl (flip_X (by omega) (by omega) hp0) (List.Perm.refl _) (fun _ _ => trivial) ?_)
        rintro _ _ ⟨rfl, rfl⟩
        refine VO.mv rfl rfl rfl rfl ?_
        refine VO.op rfl (OpE.buildSlice (zc := #[.string ⟨#[]⟩, .string ⟨#[]⟩]) rfl hB rfl Tryz.underlying82 Tryz.sizeOf9 Tryz.zeroValue9 (by decide) (by decide) (by kernel_rfl) rfl rfl ?_)
        refine VO.le _ (Le.recast (t := 42) (y := avStrs mc2) rfl (fun w Z u h => Rep.strs (xs := mc2) rfl h)) ?_
        refine VO.op rfl (OpE.callHX (rest := [_]) txi_stab hGX rfl hB rfl Tryz.call79 rfl rfl (some_X (xs := mc2) (by omega) (by omega) hp0) (List.Perm.refl _) (fun _ _ => trivial) ?_)
        rintro _ _ ⟨rfl, rfl⟩
        refine VO.mv rfl rfl rfl rfl ?_
        refine VO.op rfl (OpE.buildSlice (zc := #[.string ⟨#[]⟩, .string ⟨#[]⟩, .string ⟨#[]⟩]) rfl hB rfl Tryz.underlying82 Tryz.sizeOf9 Tryz.zeroValue9 (by decide) (by decide) (by kernel_rfl) rfl rfl ?_)
        refine VO.le _ (Le.recast (t := 45) (y := avStrs nz3) rfl (fun w Z u h => Rep.strs (xs := nz3) rfl h)) ?_
        refine VO.op rfl (OpE.callHX (rest := [_]) txi_stab hGX rfl hB rfl Tryz.call79 rfl rfl (some_X (xs := nz3) (by omega) (by omega) hp0) (List.Perm.refl _) (fun _ _ => trivial) ?_)
        rintro _ _ ⟨rfl, rfl⟩
        refine VO.mv rfl rfl rfl rfl ?_
        refine VO.op rfl (OpE.buildSlice (zc := #[.string ⟨#[]⟩, .string ⟨#[]⟩, .string ⟨#[]⟩]) rfl hB rfl Tryz.underlying82 Tryz.sizeOf9 Tryz.zeroValue9 (by decide) (by decide) (by kernel_rfl) rfl rfl ?_)
        refine VO.le _ (Le.recast (t := 48) (y := avStrs rl3) rfl (fun w Z u h => Rep.strs (xs := rl3) rfl h)) ?_
        refine VO.op rfl (OpE.callHX (rest := [_]) txi_stab hGX rfl hB rfl Tryz.call79 rfl rfl (some_X (xs := rl3) (by omega) (by omega) hp0) (List.Perm.refl _) (fun _ _ => trivial) ?_)
        rintro _ _ ⟨rfl, rfl⟩
        refine VO.val rfl rfl (OpV.build (pls := #[(0, 1), (1, 1), (2, 1), (3, 1), (4, 1), (5, 1), (6, 1), (7, 1)]) rfl Tryz.zeroValue124 Tryz.underlying124 (fun w => by kernel_rfl) rfl rfl) ?_
        refine VO.op rfl (OpE.buildSlice (zc := #[.string ⟨#[]⟩, .string ⟨#[]⟩, .int .i64 0, .int .i64 0, .bool false, .string ⟨#[]⟩, .string ⟨#[]⟩, .string ⟨#[]⟩]) rfl hB rfl Tryz.underlying118 Tryz.sizeOf124 Tryz.zeroValue124 (by decide) (by decide) (by kernel_rfl) rfl rfl ?_)
        refine VO.op rfl (OpE.append1 (i := 1) rfl hB rfl Tryz.underlying118 (infoOf Tryz.t124 8 (by kernel_rfl) rfl rfl) rfl (by decide) (by decide) rfl rfl rfl rfl (rowL_snoc l (lkNew L q r (atv + r18) j)) (by omega) (fun _ _ => trivial) ?_)
        intro u52
        refine VO.ma rfl rfl rfl rfl ?_
        refine VO.nil ?_
        refine VC.region ?_
        refine VO.val rfl rfl (OpV.add rfl rfl rfl (by unfold fits; omega)) ?_
        refine VO.mv rfl rfl rfl rfl ?_
        refine VO.nil ?_
        exact Exists.intro (⟨(u52, (l ++ [lkNew L q r (atv + r18) j], j + 6), r + 1), by show r + 1 ≤ 3; omega, by show _ = lkIn L q r (atv + r18) (lkI L q (atv + r18) (l0, j0 + 1) r); rw [← hlj1]; exact (lkIn_y (by omega)).symm⟩) (And.intro (Le.mk hB [0, 1] ⟨rfl, rfl, rfl, rfl, rfl, rfl, rfl, rfl, rfl, trivial⟩ rfl (by dsimp only; first | rfl | (rw [List.length_append]; rfl)) (Nat.le_refl _)) (by first | omega | (show _ < _; omega) | (simp only []; omega)))
    · have aH2 := aH2b
      try simp only [qq] at aH2
      obtain rfl : r = 3 := by omega
      refine VC.exit ?_
      refine VC.region ?_
      refine VO.val rfl rfl (OpV.add rfl rfl rfl (by unfold fits; omega)) ?_
      refine VO.mv rfl rfl rfl rfl ?_
      refine VO.nil ?_
      exact Exists.intro (⟨((u, atv + r18), (l, j), q + 1), by show q + 1 ≤ m; omega, by show _ = lkS L q (lkO L k q); rw [← hlj0]; show _ = (lkI L q (atv + pickV L j0 lkPk) (l0, j0 + 1) 3, atv + pickV L j0 lkPk); rw [h18, ← hlj1]⟩) (And.intro (Le.mk hB [0, 1] ⟨rfl, rfl, rfl, rfl, rfl, trivial⟩ rfl rfl (Nat.le_refl _)) (by first | omega | (show _ < _; omega) | (simp only []; omega)))
  · have aH1 := aH1b
    try simp only [qq] at aH1
    obtain rfl : q = m := by omega
    have hV : lkV L k q = lkTail L l j := by unfold lkV; rw [← hlj]
    refine VC.exit ?_
    refine VC.seq ?_
    refine VC.sr ?_
    refine VO.mv rfl rfl rfl rfl ?_
    refine VO.val rfl rfl (OpV.len_row (i := 1) rfl Tryz.underlying118 rfl rfl) ?_
    refine VO.val rfl rfl (OpV.gtr rfl rfl rfl) ?_
    refine VO.mv rfl rfl rfl rfl ?_
    refine VO.opG rfl rfl rfl rfl (fun aK3b => ?_) (fun aK3b => ?_)
    · replace aK3b : _ = true := aK3b
      have aK3 := aK3b
      try simp only [qq] at aK3
      refine OpE.val (W := NoB) (OpV.move (.inl rfl) rfl) rfl ?_
      refine VO.opY rfl rfl rfl rfl aK3b ?_
      refine OpE.callHX (rest := [_]) txi_stab hGX rfl hB rfl Tryz.call76 rfl rfl (flip_X (by omega) (by omega) hp0) (List.Perm.refl _) (fun _ _ => trivial) ?_
      rintro _ _ ⟨rfl, rfl⟩
      refine VO.val rfl rfl (OpV.pickT rfl rfl rfl rfl aK3b) ?_
      refine VO.nil ?_
      refine VC.cond rfl (fun h3b => ?_) (fun h3b => ?_)
      · have h3 := h3b
        try simp only [qq] at h3
        refine VC.seq ?_
        refine VC.asBox (i := 1) rfl (by omega) (fun gr capL hu hcap hmx => ?_)
        subst hu
        refine VC.region ?_
        refine VO.mv rfl rfl rfl rfl ?_
        refine VO.mv rfl rfl rfl rfl ?_
        refine VO.mv rfl rfl rfl rfl ?_
        refine VO.val rfl rfl (OpV.len_v rfl Tryz.underlying118 rfl) ?_
        refine VO.op rfl (OpE.callHX (rest := [_]) txi_stab hGX rfl hB rfl Tryz.call78 rfl rfl (next_X hp0 (by omega) (by omega)) (List.Perm.refl _) (fun _ _ => trivial) ?_)
        rintro _ _ ⟨rfl, rfl⟩
        have hx1 := nxt_lo L (j + 1) l.length
        have hx2 := nxt_lt L (j + 1) l.length (by omega)
        obtain ⟨i, hi⟩ : ∃ i : Nat, nxt L (j + 1) l.length = i := ⟨(nxt L (j + 1) l.length).toNat, by omega⟩
        have hil : i < l.length := by omega
        refine VO.le _ (Le.recast (t := 66) (y := avI (i : Int)) rfl (fun w Z u h => by rw [← hi]; exact h)) ?_
        refine VO.val rfl rfl (OpV.indexAddr_q rfl Tryz.underlying118 Tryz.sizeOf124 rfl rfl rfl (by omega)) ?_
        refine VO.ma rfl rfl rfl rfl ?_
        refine VO.nil ?_
        refine VC.sr ?_
        refine VO.mv rfl rfl rfl rfl ?_
        refine VO.op rfl (OpE.callHX (rest := [_]) txi_stab hGX rfl hB rfl Tryz.call78 rfl rfl (next_X hp0 (by omega) (by omega)) (List.Perm.refl _) (fun _ _ => trivial) ?_)
        rintro _ _ ⟨rfl, rfl⟩
        refine VO.nil ?_
        refine VC.block ?_
        refine VC.sr ?_
        refine VO.val rfl rfl (OpV.eql rfl rfl rfl) ?_
        refine VO.ma rfl rfl rfl rfl ?_
        refine VO.nil ?_
        refine VC.cond rfl (fun h4b => ?_) (fun h4b => ?_)
        · have h4 := h4b
          try simp only [qq] at h4
          refine VC.hap (fun hap => ?_)
          have nrp := apart_ne hap (i := 1) (j := 0) rfl rfl (by decide)
          obtain ⟨r110, e110⟩ : ∃ r, someV L (j + 3) [(xL l i).board, ⟨#[]⟩, ⟨#[98, 49]⟩] = r := ⟨_, rfl⟩
          obtain ⟨r117, e117⟩ : ∃ r, someV L (j + 4) [(xL l i).name, ⟨#[99, 49]⟩, ⟨#[65]⟩] = r := ⟨_, rfl⟩
          refine VC.draw (fun jj b => (jj ∈ [18, 21] ∧ b = gr) ∨ (jj ∈ [8, 15] ∧ b = p)) hB (by kernel_rfl) ?_
          refine VA.take (i := 0) rfl (by decide +kernel) (by decide +kernel) (by decide +kernel) rfl rfl (OpV.move (.inl rfl) rfl) ?_
          refine VA.take (i := 1) rfl (by decide +kernel) (by decide +kernel) (by decide +kernel) rfl rfl (OpV.move (.inl rfl) rfl) ?_
          refine VA.take (i := 2) rfl (by decide +kernel) (by decide +kernel) (by decide +kernel) rfl rfl (OpV.move (.inl rfl) rfl) ?_
          refine VA.take (i := 3) rfl (by decide +kernel) (by decide +kernel) (by decide +kernel) rfl rfl (OpV.move (.inl rfl) rfl) ?_
          refine VA.take (i := 4) rfl (by decide +kernel) (by decide +kernel) (by decide +kernel) rfl rfl (OpV.nilCheck rfl rfl) ?_
          refine VA.take (i := 5) rfl (by decide +kernel) (by decide +kernel) (by decide +kernel) rfl rfl (OpV.fieldAddrO 0 rfl Tryz.underlying124 rfl rfl Tryz.sizeOf9 rfl) ?_
          refine VA.take (i := 6) rfl (by decide +kernel) (by decide +kernel) (by decide +kernel) rfl rfl (OpV.load_own (i := 1) rfl hB Tryz.isAgg9 rfl rfl (rowL_at rfl (by omega) (by decide)) (Wi.notSS (.inl (by decide +kernel)) nrp)) ?_
          refine VA.take (i := 9) rfl (by decide +kernel) (by decide +kernel) (by decide +kernel) rfl rfl (OpV.move (.inl rfl) rfl) ?_
          refine VA.take (i := 10) rfl (by decide +kernel) (by decide +kernel) (by decide +kernel) rfl rfl (OpV.move (.inl rfl) rfl) ?_
          refine VA.take (i := 11) rfl (by decide +kernel) (by decide +kernel) (by decide +kernel) rfl rfl (OpV.nilCheck rfl rfl) ?_
          refine VA.take (i := 12) rfl (by decide +kernel) (by decide +kernel) (by decide +kernel) rfl rfl (OpV.fieldAddrO 1 rfl Tryz.underlying124 rfl rfl Tryz.sizeOf9 rfl) ?_
          refine VA.take (i := 13) rfl (by decide +kernel) (by decide +kernel) (by decide +kernel) rfl rfl (OpV.load_own (i := 1) rfl hB Tryz.isAgg9 rfl rfl (rowL_at rfl (by omega) (by decide)) (Wi.notSS (.inl (by decide +kernel)) nrp)) ?_
          refine VA.bind (fun F hF => ?_)
          have hS0 : F 4 (lstB 22 [0, 1, 2, 3, 4, 5, 6, 7, 8, 9, 10, 11, 12, 13, 14, 15, 16, 17]) ⟨[(0, sp p), (104, sp p), (111, sp p), (102, (pL gr (0 + i * 8))), (103, (pL gr (0 + i * 8))), (108, avS (xL l i).board), (115, avS (xL l i).name), (5, .v (.slice (some ⟨gr, 0, none⟩) l.length capL)), (109, (avStrs [(xL l i).board, ⟨#[]⟩, ⟨#[98, 49]⟩])), (110, avS r110), (116, (avStrs [(xL l i).name, ⟨#[99, 49]⟩, ⟨#[65]⟩])), (117, avS r117), (119, (pL gr (0 + i * 8 + 0)))], [bxStr p a0 cap L (j + 3 + 1 + 1), .box gr ⟨rowL l, 124, capL * 8⟩], 0⟩ := by
            rw [hF]
            refine VA.all (rs := [18]) (by decide +kernel) (by decide) ?_
            refine ⟨⟨_, rfl, .inl rfl, ?_⟩, trivial⟩
            refine OpE.store1 (i := 1) rfl hB rfl Tryz.sizeOf9 rfl rfl rfl rfl rfl rfl (rowL_in rfl (by omega) (by decide)) (rowL_set (x := ({l.getD i default with board := r110} : LookS)) rfl (by omega) (by decide) rfl (fun i hi hn => lk_upd (by simp) (by simp) (by simp) (by simp) (by simp) (by simp) (by simp) (by simp) i hi hn)) (by first | exact .inl ⟨by decide, rfl⟩) ?_
            refine VA.take (i := 19) rfl (by decide +kernel) (by decide +kernel) (by decide +kernel) rfl rfl (OpV.nilCheck rfl rfl) ?_
            refine VA.take (i := 20) rfl (by decide +kernel) (by decide +kernel) (by decide +kernel) rfl rfl (OpV.fieldAddrO 1 rfl Tryz.underlying124 rfl rfl Tryz.sizeOf9 rfl) ?_
            refine VA.all (rs := [21]) (by decide +kernel) (by decide) ?_
            refine ⟨⟨_, rfl, .inl rfl, ?_⟩, trivial⟩
            refine OpE.store1 (i := 1) rfl hB rfl Tryz.sizeOf9 rfl rfl rfl rfl rfl rfl (rowL_in rfl (by simp only [List.length_set]; omega) (by decide)) (rowL_set (x := ({l.getD i default with board := r110, name := r117} : LookS)) rfl (by simp only [List.length_set]; omega) (by decide) rfl (fun i hi hn => by rw [getSet_lk (by first | omega | (simp only [List.length_set]; omega))]; exact lk_upd (by simp) (by simp) (by simp) (by simp) (by simp) (by simp) (by simp) (by simp) i hi hn)) (by first | exact .inl ⟨by decide, rfl⟩) ?_
            refine VA.done (by decide +kernel) ?_
            refine VC.sr ?_
            refine VO.mv rfl rfl rfl rfl ?_
            refine VO.ma rfl rfl rfl rfl ?_
            refine VO.nil ?_
            refine VC.le _ (Le.boxT (t := 4) (i := 1) (n := l.length) (xs := ((l.set i ({l.getD i default with board := r110} : LookS)).set i ({l.getD i default with board := r110, name := r117} : LookS))) hB hnew rfl rfl (by simp) hcap hmx) ?_
            refine VC.ret ?_
            exact Exists.intro _ (And.intro (RetV.one Tryz.results126 (ResV.tmp rfl)) (by first | exact lk_out (hV.trans (lkTail_0 (by omega))) | exact lk_out (hV.trans (lkTail_1 (by omega) (by omega))) | exact lk_out (hV.trans (lkTail_2 (by omega) (by omega) hi (by omega) e110 e117)) | exact lk_out (hV.trans (lkTail_3 (by omega) (by omega) hi (by omega) (by omega) e132 e134)) | exact lk_out (hV.trans (lkTail_4 (by omega) (by omega) hi (by omega) (by omega) e79 e86 e93))))
          have hS1 : F 7 (lstB 22 [0, 1, 2, 3, 4, 5, 6, 7, 8, 9, 10, 11, 12, 13, 14]) ⟨[(0, sp p), (104, sp p), (111, sp p), (102, (pL gr (0 + i * 8))), (103, (pL gr (0 + i * 8))), (108, avS (xL l i).board), (115, avS (xL l i).name), (5, .v (.slice (some ⟨gr, 0, none⟩) l.length capL)), (109, (avStrs [(xL l i).board, ⟨#[]⟩, ⟨#[98, 49]⟩])), (110, avS r110), (116, (avStrs [(xL l i).name, ⟨#[99, 49]⟩, ⟨#[65]⟩]))], [bxStr p a0 cap L (j + 3 + 1), .box gr ⟨rowL l, 124, capL * 8⟩], 0⟩ := by
            rw [hF]
            refine VA.all (rs := [15]) (by decide +kernel) (by decide) ?_
            refine ⟨⟨_, rfl, .inl rfl, ?_⟩, trivial⟩
            refine OpE.callHX (rest := [_]) txi_stab hGX rfl hB rfl Tryz.call79 rfl rfl (some_X (xs := [(xL l i).name, ⟨#[99, 49]⟩, ⟨#[65]⟩]) (by omega) (by simp) hp0) (List.Perm.refl _) (fun b h => .inr ⟨by decide, blkStr h⟩) ?_
            rintro _ _ ⟨rfl, rfl⟩
            refine VA.le _ (Le.recast (t := 117) (y := avS r117) rfl (fun w Z u h => by rw [← e117]; exact h)) ?_
            refine VA.take (i := 16) rfl (by decide +kernel) (by decide +kernel) (by decide +kernel) rfl rfl (OpV.nilCheck rfl rfl) ?_
            refine VA.take (i := 17) rfl (by decide +kernel) (by decide +kernel) (by decide +kernel) rfl rfl (OpV.fieldAddrO 0 rfl Tryz.underlying124 rfl rfl Tryz.sizeOf9 rfl) ?_
            have hh := hS0 
            rw [hF] at hh
            exact VA.to hh (by decide +kernel) (Le.mk hB [0, 1] ⟨rfl, rfl, rfl, rfl, rfl, rfl, rfl, rfl, rfl, rfl, rfl, rfl, rfl, trivial⟩ rfl rfl (Nat.le_refl _))
          have hS2 : F 8 (lstB 22 [0, 1, 2, 3, 4, 5, 6, 7, 8, 9, 10, 11, 12, 13]) ⟨[(0, sp p), (104, sp p), (111, sp p), (102, (pL gr (0 + i * 8))), (103, (pL gr (0 + i * 8))), (108, avS (xL l i).board), (115, avS (xL l i).name), (5, .v (.slice (some ⟨gr, 0, none⟩) l.length capL)), (109, (avStrs [(xL l i).board, ⟨#[]⟩, ⟨#[98, 49]⟩])), (110, avS r110)], [bxStr p a0 cap L (j + 3 + 1), .box gr ⟨rowL l, 124, capL * 8⟩], 0⟩ := by
            rw [hF]
            refine VA.all (rs := [14]) (by decide +kernel) (by decide) ?_
            refine ⟨⟨_, rfl, .inl rfl, ?_⟩, trivial⟩
            refine OpE.buildSlice (zc := #[.string ⟨#[]⟩, .string ⟨#[]⟩, .string ⟨#[]⟩]) rfl hB rfl Tryz.underlying82 Tryz.sizeOf9 Tryz.zeroValue9 (by decide) (by decide) (by kernel_rfl) rfl rfl ?_
            refine VA.le _ (Le.recast (t := 116) (y := avStrs [(xL l i).name, ⟨#[99, 49]⟩, ⟨#[65]⟩]) rfl (fun w Z u h => Rep.strs (xs := [(xL l i).name, ⟨#[99, 49]⟩, ⟨#[65]⟩]) rfl h)) ?_
            have hh := hS1 
            rw [hF] at hh
            exact VA.to hh (by decide +kernel) (Le.mk hB [0, 1] ⟨rfl, rfl, rfl, rfl, rfl, rfl, rfl, rfl, rfl, rfl, rfl, trivial⟩ rfl rfl (Nat.le_refl _))
          have hS3 : F 8 (lstB 22 [0, 1, 2, 3, 4, 5, 6, 7, 9, 10, 11, 12, 13, 14]) ⟨[(0, sp p), (104, sp p), (111, sp p), (102, (pL gr (0 + i * 8))), (103, (pL gr (0 + i * 8))), (108, avS (xL l i).board), (115, avS (xL l i).name), (5, .v (.slice (some ⟨gr, 0, none⟩) l.length capL)), (109, (avStrs [(xL l i).board, ⟨#[]⟩, ⟨#[98, 49]⟩])), (116, (avStrs [(xL l i).name, ⟨#[99, 49]⟩, ⟨#[65]⟩]))], [bxStr p a0 cap L (j + 3), .box gr ⟨rowL l, 124, capL * 8⟩], 0⟩ := by
            rw [hF]
            refine VA.all (rs := [8]) (by decide +kernel) (by decide) ?_
            refine ⟨⟨_, rfl, .inl rfl, ?_⟩, trivial⟩
            refine OpE.callHX (rest := [_]) txi_stab hGX rfl hB rfl Tryz.call79 rfl rfl (some_X (xs := [(xL l i).board, ⟨#[]⟩, ⟨#[98, 49]⟩]) (by omega) (by simp) hp0) (List.Perm.refl _) (fun b h => .inr ⟨by decide, blkStr h⟩) ?_
            rintro _ _ ⟨rfl, rfl⟩
            refine VA.le _ (Le.recast (t := 110) (y := avS r110) rfl (fun w Z u h => by rw [← e110]; exact h)) ?_
            have hh := hS1 
            rw [hF] at hh
            exact VA.to hh (by decide +kernel) (Le.mk hB [0, 1] ⟨rfl, rfl, rfl, rfl, rfl, rfl, rfl, rfl, rfl, rfl, rfl, trivial⟩ rfl rfl (Nat.le_refl _))
          have hS4 : F 9 (lstB 22 [0, 1, 2, 3, 4, 5, 6, 7, 9, 10, 11, 12, 13]) ⟨[(0, sp p), (104, sp p), (111, sp p), (102, (pL gr (0 + i * 8))), (103, (pL gr (0 + i * 8))), (108, avS (xL l i).board), (115, avS (xL l i).name), (5, .v (.slice (some ⟨gr, 0, none⟩) l.length capL)), (109, (avStrs [(xL l i).board, ⟨#[]⟩, ⟨#[98, 49]⟩]))], [bxStr p a0 cap L (j + 3), .box gr ⟨rowL l, 124, capL * 8⟩], 0⟩ := by
            rw [hF]
            refine VA.all (rs := [8, 14]) (by decide +kernel) (by decide) ?_
            refine ⟨⟨_, rfl, .inl rfl, ?_⟩, ⟨_, rfl, .inl rfl, ?_⟩, trivial⟩
            ·
              refine OpE.callHX (rest := [_]) txi_stab hGX rfl hB rfl Tryz.call79 rfl rfl (some_X (xs := [(xL l i).board, ⟨#[]⟩, ⟨#[98, 49]⟩]) (by omega) (by simp) hp0) (List.Perm.refl _) (fun b h => .inr ⟨by decide, blkStr h⟩) ?_
              rintro _ _ ⟨rfl, rfl⟩
              refine VA.le _ (Le.recast (t := 110) (y := avS r110) rfl (fun w Z u h => by rw [← e110]; exact h)) ?_
              have hh := hS2 
              rw [hF] at hh
              exact VA.to hh (by decide +kernel) (Le.mk hB [0, 1] ⟨rfl, rfl, rfl, rfl, rfl, rfl, rfl, rfl, rfl, rfl, trivial⟩ rfl rfl (Nat.le_refl _))
            ·
              refine OpE.buildSlice (zc := #[.string ⟨#[]⟩, .string ⟨#[]⟩, .string ⟨#[]⟩]) rfl hB rfl Tryz.underlying82 Tryz.sizeOf9 Tryz.zeroValue9 (by decide) (by decide) (by kernel_rfl) rfl rfl ?_
              refine VA.le _ (Le.recast (t := 116) (y := avStrs [(xL l i).name, ⟨#[99, 49]⟩, ⟨#[65]⟩]) rfl (fun w Z u h => Rep.strs (xs := [(xL l i).name, ⟨#[99, 49]⟩, ⟨#[65]⟩]) rfl h)) ?_
              have hh := hS3 
              rw [hF] at hh
              exact VA.to hh (by decide +kernel) (Le.mk hB [0, 1] ⟨rfl, rfl, rfl, rfl, rfl, rfl, rfl, rfl, rfl, rfl, trivial⟩ rfl rfl (Nat.le_refl _))
          have hS5 : F 9 (lstB 22 [0, 1, 2, 3, 4, 5, 6, 9, 10, 11, 12, 13, 14]) ⟨[(0, sp p), (104, sp p), (111, sp p), (102, (pL gr (0 + i * 8))), (103, (pL gr (0 + i * 8))), (108, avS (xL l i).board), (115, avS (xL l i).name), (5, .v (.slice (some ⟨gr, 0, none⟩) l.length capL)), (116, (avStrs [(xL l i).name, ⟨#[99, 49]⟩, ⟨#[65]⟩]))], [bxStr p a0 cap L (j + 3), .box gr ⟨rowL l, 124, capL * 8⟩], 0⟩ := by
            rw [hF]
            refine VA.all (rs := [7]) (by decide +kernel) (by decide) ?_
            refine ⟨⟨_, rfl, .inl rfl, ?_⟩, trivial⟩
            refine OpE.buildSlice (zc := #[.string ⟨#[]⟩, .string ⟨#[]⟩, .string ⟨#[]⟩]) rfl hB rfl Tryz.underlying82 Tryz.sizeOf9 Tryz.zeroValue9 (by decide) (by decide) (by kernel_rfl) rfl rfl ?_
            refine VA.le _ (Le.recast (t := 109) (y := avStrs [(xL l i).board, ⟨#[]⟩, ⟨#[98, 49]⟩]) rfl (fun w Z u h => Rep.strs (xs := [(xL l i).board, ⟨#[]⟩, ⟨#[98, 49]⟩]) rfl h)) ?_
            have hh := hS3 
            rw [hF] at hh
            exact VA.to hh (by decide +kernel) (Le.mk hB [0, 1] ⟨rfl, rfl, rfl, rfl, rfl, rfl, rfl, rfl, rfl, rfl, trivial⟩ rfl rfl (Nat.le_refl _))
          have hS6 : F 10 (lstB 22 [0, 1, 2, 3, 4, 5, 6, 9, 10, 11, 12, 13]) ⟨[(0, sp p), (104, sp p), (111, sp p), (102, (pL gr (0 + i * 8))), (103, (pL gr (0 + i * 8))), (108, avS (xL l i).board), (115, avS (xL l i).name), (5, .v (.slice (some ⟨gr, 0, none⟩) l.length capL))], [bxStr p a0 cap L (j + 3), .box gr ⟨rowL l, 124, capL * 8⟩], 0⟩ := by
            rw [hF]
            refine VA.all (rs := [7, 14]) (by decide +kernel) (by decide) ?_
            refine ⟨⟨_, rfl, .inl rfl, ?_⟩, ⟨_, rfl, .inl rfl, ?_⟩, trivial⟩
            ·
              refine OpE.buildSlice (zc := #[.string ⟨#[]⟩, .string ⟨#[]⟩, .string ⟨#[]⟩]) rfl hB rfl Tryz.underlying82 Tryz.sizeOf9 Tryz.zeroValue9 (by decide) (by decide) (by kernel_rfl) rfl rfl ?_
              refine VA.le _ (Le.recast (t := 109) (y := avStrs [(xL l i).board, ⟨#[]⟩, ⟨#[98, 49]⟩]) rfl (fun w Z u h => Rep.strs (xs := [(xL l i).board, ⟨#[]⟩, ⟨#[98, 49]⟩]) rfl h)) ?_
              have hh := hS4 
              rw [hF] at hh
              exact VA.to hh (by decide +kernel) (Le.mk hB [0, 1] ⟨rfl, rfl, rfl, rfl, rfl, rfl, rfl, rfl, rfl, trivial⟩ rfl rfl (Nat.le_refl _))
            ·
              refine OpE.buildSlice (zc := #[.string ⟨#[]⟩, .string ⟨#[]⟩, .string ⟨#[]⟩]) rfl hB rfl Tryz.underlying82 Tryz.sizeOf9 Tryz.zeroValue9 (by decide) (by decide) (by kernel_rfl) rfl rfl ?_
              refine VA.le _ (Le.recast (t := 116) (y := avStrs [(xL l i).name, ⟨#[99, 49]⟩, ⟨#[65]⟩]) rfl (fun w Z u h => Rep.strs (xs := [(xL l i).name, ⟨#[99, 49]⟩, ⟨#[65]⟩]) rfl h)) ?_
              have hh := hS5 
              rw [hF] at hh
              exact VA.to hh (by decide +kernel) (Le.mk hB [0, 1] ⟨rfl, rfl, rfl, rfl, rfl, rfl, rfl, rfl, rfl, trivial⟩ rfl rfl (Nat.le_refl _))
          rw [hF]
          have hh := hS6 
          rw [hF] at hh
          exact VA.to hh (by decide +kernel) (Le.mk hB [0, 1] ⟨rfl, rfl, rfl, rfl, rfl, rfl, rfl, rfl, trivial⟩ rfl rfl (Nat.le_refl _))
        · have h4 := h4b
          try simp only [qq] at h4
          refine VC.sr ?_
          refine VO.val rfl rfl (OpV.eql rfl rfl rfl) ?_
          refine VO.ma rfl rfl rfl rfl ?_
          refine VO.nil ?_
          refine VC.cond rfl (fun h5b => ?_) (fun h5b => ?_)
          · have h5 := h5b
            try simp only [qq] at h5
            obtain ⟨r132, e132⟩ : ∃ r, pickV L (j + 3) [(xL l i).at_, -1, 345686400000] = r := ⟨_, rfl⟩
            obtain ⟨r134, e134⟩ : ∃ r, oddV L (j + 4) 1 5 = r := ⟨_, rfl⟩
            refine VC.region ?_
            refine VO.mv rfl rfl rfl rfl ?_
            refine VO.mv rfl rfl rfl rfl ?_
            refine VO.mv rfl rfl rfl rfl ?_
            refine VO.mv rfl rfl rfl rfl ?_
            refine VO.val rfl rfl (OpV.nilCheck rfl rfl) ?_
            refine VO.val rfl rfl (OpV.fieldAddrO 2 rfl Tryz.underlying124 rfl rfl Tryz.sizeOf3 rfl) ?_
            refine VO.val rfl rfl (OpV.load_own (i := 1) rfl hB Tryz.isAgg3 rfl rfl (rowL_at rfl (by omega) (by decide)) (fun h => h)) ?_
            refine VO.op rfl (OpE.buildSlice (zc := #[.int .i64 0, .int .i64 0, .int .i64 0]) rfl hB rfl Tryz.underlying22 Tryz.sizeOf3 Tryz.zeroValue3 (by decide) (by decide) (by kernel_rfl) rfl rfl ?_)
            refine VO.le _ (Le.recast (t := 131) (y := avInts [(xL l i).at_, -1, 345686400000]) rfl (fun w Z u h => Rep.ints (xs := [(xL l i).at_, -1, 345686400000]) rfl h)) ?_
            refine VO.op rfl (OpE.callHX (rest := [_]) txi_stab hGX rfl hB rfl Tryz.call77 rfl rfl (pick_E (xs := [(xL l i).at_, -1, 345686400000]) (by omega) (by simp) hp0) (List.Perm.refl _) (fun _ _ => trivial) ?_)
            rintro _ _ ⟨rfl, rfl⟩
            refine VO.le _ (Le.recast (t := 132) (y := avI r132) rfl (fun w Z u h => by rw [← e132]; exact h)) ?_
            refine VO.mv rfl rfl rfl rfl ?_
            refine VO.op rfl (OpE.callHX (rest := [_]) txi_stab hGX rfl hB rfl Tryz.call201 rfl rfl (odd_E (lo := 1) (hi := 5) (by omega) (by omega) (by omega) (by omega) hp0) (List.Perm.refl _) (fun _ _ => trivial) ?_)
            rintro _ _ ⟨rfl, rfl⟩
            refine VO.le _ (Le.recast (t := 134) (y := avI r134) rfl (fun w Z u h => by rw [← e134]; exact h)) ?_
            refine VO.val rfl rfl (OpV.nilCheck rfl rfl) ?_
            refine VO.val rfl rfl (OpV.fieldAddrO 2 rfl Tryz.underlying124 rfl rfl Tryz.sizeOf3 rfl) ?_
            refine VO.op rfl (OpE.store1 (i := 1) rfl hB rfl Tryz.sizeOf3 rfl rfl rfl rfl rfl rfl (rowL_in rfl (by omega) (by decide)) (rowL_set (x := ({l.getD i default with at_ := r132} : LookS)) rfl (by omega) (by decide) rfl (fun i hi hn => lk_upd (by simp) (by simp) (by simp) (by simp) (by simp) (by simp) (by simp) (by simp) i hi hn)) trivial ?_)
            refine VO.val rfl rfl (OpV.nilCheck rfl rfl) ?_
            refine VO.val rfl rfl (OpV.fieldAddrO 3 rfl Tryz.underlying124 rfl rfl Tryz.sizeOf3 rfl) ?_
            refine VO.op rfl (OpE.store1 (i := 1) rfl hB rfl Tryz.sizeOf3 rfl rfl rfl rfl rfl rfl (rowL_in rfl (by simp only [List.length_set]; omega) (by decide)) (rowL_set (x := ({l.getD i default with at_ := r132, verdict := r134} : LookS)) rfl (by simp only [List.length_set]; omega) (by decide) rfl (fun i hi hn => by rw [getSet_lk (by first | omega | (simp only [List.length_set]; omega))]; exact lk_upd (by simp) (by simp) (by simp) (by simp) (by simp) (by simp) (by simp) (by simp) i hi hn)) trivial ?_)
            refine VO.nil ?_
            refine VC.sr ?_
            refine VO.mv rfl rfl rfl rfl ?_
            refine VO.ma rfl rfl rfl rfl ?_
            refine VO.nil ?_
            refine VC.le _ (Le.boxT (t := 4) (i := 1) (n := l.length) (xs := ((l.set i ({l.getD i default with at_ := r132} : LookS)).set i ({l.getD i default with at_ := r132, verdict := r134} : LookS))) hB hnew rfl rfl (by simp) hcap hmx) ?_
            refine VC.ret ?_
            exact Exists.intro _ (And.intro (RetV.one Tryz.results126 (ResV.tmp rfl)) (by first | exact lk_out (hV.trans (lkTail_0 (by omega))) | exact lk_out (hV.trans (lkTail_1 (by omega) (by omega))) | exact lk_out (hV.trans (lkTail_2 (by omega) (by omega) hi (by omega) e110 e117)) | exact lk_out (hV.trans (lkTail_3 (by omega) (by omega) hi (by omega) (by omega) e132 e134)) | exact lk_out (hV.trans (lkTail_4 (by omega) (by omega) hi (by omega) (by omega) e79 e86 e93))))
          · have h5 := h5b
            try simp only [qq] at h5
            refine VC.hap (fun hap => ?_)
            have nrp := apart_ne hap (i := 1) (j := 0) rfl rfl (by decide)
            obtain ⟨r79, e79⟩ : ∃ r, someV L (j + 3) [(xL l i).machine, ⟨#[]⟩] = r := ⟨_, rfl⟩
            obtain ⟨r86, e86⟩ : ∃ r, someV L (j + 4) [(xL l i).nozzle, ⟨#[65]⟩] = r := ⟨_, rfl⟩
            obtain ⟨r93, e93⟩ : ∃ r, someV L (j + 5) [(xL l i).reel, ⟨#[]⟩] = r := ⟨_, rfl⟩
            refine VC.draw (fun jj b => (jj ∈ [26, 29, 32] ∧ b = gr) ∨ (jj ∈ [9, 16, 23] ∧ b = p)) hB (by kernel_rfl) ?_
            refine VA.take (i := 0) rfl (by decide +kernel) (by decide +kernel) (by decide +kernel) rfl rfl (OpV.move (.inl rfl) rfl) ?_
            refine VA.take (i := 1) rfl (by decide +kernel) (by decide +kernel) (by decide +kernel) rfl rfl (OpV.move (.inl rfl) rfl) ?_
            refine VA.take (i := 2) rfl (by decide +kernel) (by decide +kernel) (by decide +kernel) rfl rfl (OpV.move (.inl rfl) rfl) ?_
            refine VA.take (i := 3) rfl (by decide +kernel) (by decide +kernel) (by decide +kernel) rfl rfl (OpV.move (.inl rfl) rfl) ?_
            refine VA.take (i := 4) rfl (by decide +kernel) (by decide +kernel) (by decide +kernel) rfl rfl (OpV.move (.inl rfl) rfl) ?_
            refine VA.take (i := 5) rfl (by decide +kernel) (by decide +kernel) (by decide +kernel) rfl rfl (OpV.nilCheck rfl rfl) ?_
            refine VA.take (i := 6) rfl (by decide +kernel) (by decide +kernel) (by decide +kernel) rfl rfl (OpV.fieldAddrO 5 rfl Tryz.underlying124 rfl rfl Tryz.sizeOf9 rfl) ?_
            refine VA.take (i := 7) rfl (by decide +kernel) (by decide +kernel) (by decide +kernel) rfl rfl (OpV.load_own (i := 1) rfl hB Tryz.isAgg9 rfl rfl (rowL_at rfl (by omega) (by decide)) (Wi.notSS (.inl (by decide +kernel)) nrp)) ?_
            refine VA.take (i := 10) rfl (by decide +kernel) (by decide +kernel) (by decide +kernel) rfl rfl (OpV.move (.inl rfl) rfl) ?_
            refine VA.take (i := 11) rfl (by decide +kernel) (by decide +kernel) (by decide +kernel) rfl rfl (OpV.move (.inl rfl) rfl) ?_
            refine VA.take (i := 12) rfl (by decide +kernel) (by decide +kernel) (by decide +kernel) rfl rfl (OpV.nilCheck rfl rfl) ?_
            refine VA.take (i := 13) rfl (by decide +kernel) (by decide +kernel) (by decide +kernel) rfl rfl (OpV.fieldAddrO 6 rfl Tryz.underlying124 rfl rfl Tryz.sizeOf9 rfl) ?_
            refine VA.take (i := 14) rfl (by decide +kernel) (by decide +kernel) (by decide +kernel) rfl rfl (OpV.load_own (i := 1) rfl hB Tryz.isAgg9 rfl rfl (rowL_at rfl (by omega) (by decide)) (Wi.notSS (.inl (by decide +kernel)) nrp)) ?_
            refine VA.take (i := 17) rfl (by decide +kernel) (by decide +kernel) (by decide +kernel) rfl rfl (OpV.move (.inl rfl) rfl) ?_
            refine VA.take (i := 18) rfl (by decide +kernel) (by decide +kernel) (by decide +kernel) rfl rfl (OpV.move (.inl rfl) rfl) ?_
            refine VA.take (i := 19) rfl (by decide +kernel) (by decide +kernel) (by decide +kernel) rfl rfl (OpV.nilCheck rfl rfl) ?_
            refine VA.take (i := 20) rfl (by decide +kernel) (by decide +kernel) (by decide +kernel) rfl rfl (OpV.fieldAddrO 7 rfl Tryz.underlying124 rfl rfl Tryz.sizeOf9 rfl) ?_
            refine VA.take (i := 21) rfl (by decide +kernel) (by decide +kernel) (by decide +kernel) rfl rfl (OpV.load_own (i := 1) rfl hB Tryz.isAgg9 rfl rfl (rowL_at rfl (by omega) (by decide)) (Wi.notSS (.inl (by decide +kernel)) nrp)) ?_
            refine VA.bind (fun F hF => ?_)
            have hS0 : F 7 (lstB 33 [0, 1, 2, 3, 4, 5, 6, 7, 8, 9, 10, 11, 12, 13, 14, 15, 16, 17, 18, 19, 20, 21, 22, 23, 24, 25]) ⟨[(0, sp p), (73, sp p), (80, sp p), (87, sp p), (70, (pL gr (0 + i * 8))), (71, (pL gr (0 + i * 8))), (72, (pL gr (0 + i * 8))), (77, avS (xL l i).machine), (84, avS (xL l i).nozzle), (91, avS (xL l i).reel), (5, .v (.slice (some ⟨gr, 0, none⟩) l.length capL)), (78, (avStrs [(xL l i).machine, ⟨#[]⟩])), (79, avS r79), (85, (avStrs [(xL l i).nozzle, ⟨#[65]⟩])), (86, avS r86), (92, (avStrs [(xL l i).reel, ⟨#[]⟩])), (93, avS r93), (95, (pL gr (0 + i * 8 + 5)))], [bxStr p a0 cap L (j + 3 + 1 + 1 + 1), .box gr ⟨rowL l, 124, capL * 8⟩], 0⟩ := by
              rw [hF]
              refine VA.all (rs := [26]) (by decide +kernel) (by decide) ?_
              refine ⟨⟨_, rfl, .inl rfl, ?_⟩, trivial⟩
              refine OpE.store1 (i := 1) rfl hB rfl Tryz.sizeOf9 rfl rfl rfl rfl rfl rfl (rowL_in rfl (by omega) (by decide)) (rowL_set (x := ({l.getD i default with machine := r79} : LookS)) rfl (by omega) (by decide) rfl (fun i hi hn => lk_upd (by simp) (by simp) (by simp) (by simp) (by simp) (by simp) (by simp) (by simp) i hi hn)) (by first | exact .inl ⟨by decide, rfl⟩) ?_
              refine VA.take (i := 27) rfl (by decide +kernel) (by decide +kernel) (by decide +kernel) rfl rfl (OpV.nilCheck rfl rfl) ?_
              refine VA.take (i := 28) rfl (by decide +kernel) (by decide +kernel) (by decide +kernel) rfl rfl (OpV.fieldAddrO 6 rfl Tryz.underlying124 rfl rfl Tryz.sizeOf9 rfl) ?_
              refine VA.all (rs := [29]) (by decide +kernel) (by decide) ?_
              refine ⟨⟨_, rfl, .inl rfl, ?_⟩, trivial⟩
              refine OpE.store1 (i := 1) rfl hB rfl Tryz.sizeOf9 rfl rfl rfl rfl rfl rfl (rowL_in rfl (by simp only [List.length_set]; omega) (by decide)) (rowL_set (x := ({l.getD i default with machine := r79, nozzle := r86} : LookS)) rfl (by simp only [List.length_set]; omega) (by decide) rfl (fun i hi hn => by rw [getSet_lk (by first | omega | (simp only [List.length_set]; omega))]; exact lk_upd (by simp) (by simp) (by simp) (by simp) (by simp) (by simp) (by simp) (by simp) i hi hn)) (by first | exact .inl ⟨by decide, rfl⟩) ?_
              refine VA.take (i := 30) rfl (by decide +kernel) (by decide +kernel) (by decide +kernel) rfl rfl (OpV.nilCheck rfl rfl) ?_
              refine VA.take (i := 31) rfl (by decide +kernel) (by decide +kernel) (by decide +kernel) rfl rfl (OpV.fieldAddrO 7 rfl Tryz.underlying124 rfl rfl Tryz.sizeOf9 rfl) ?_
              refine VA.all (rs := [32]) (by decide +kernel) (by decide) ?_
              refine ⟨⟨_, rfl, .inl rfl, ?_⟩, trivial⟩
              refine OpE.store1 (i := 1) rfl hB rfl Tryz.sizeOf9 rfl rfl rfl rfl rfl rfl (rowL_in rfl (by simp only [List.length_set]; omega) (by decide)) (rowL_set (x := ({l.getD i default with machine := r79, nozzle := r86, reel := r93} : LookS)) rfl (by simp only [List.length_set]; omega) (by decide) rfl (fun i hi hn => by rw [getSet_lk (by first | omega | (simp only [List.length_set]; omega))]; exact lk_upd (by simp) (by simp) (by simp) (by simp) (by simp) (by simp) (by simp) (by simp) i hi hn)) (by first | exact .inl ⟨by decide, rfl⟩) ?_
              refine VA.done (by decide +kernel) ?_
              refine VC.sr ?_
              refine VO.mv rfl rfl rfl rfl ?_
              refine VO.ma rfl rfl rfl rfl ?_
              refine VO.nil ?_
              refine VC.le _ (Le.boxT (t := 4) (i := 1) (n := l.length) (xs := (((l.set i ({l.getD i default with machine := r79} : LookS)).set i ({l.getD i default with machine := r79, nozzle := r86} : LookS)).set i ({l.getD i default with machine := r79, nozzle := r86, reel := r93} : LookS))) hB hnew rfl rfl (by simp) hcap hmx) ?_
              refine VC.ret ?_
              exact Exists.intro _ (And.intro (RetV.one Tryz.results126 (ResV.tmp rfl)) (by first | exact lk_out (hV.trans (lkTail_0 (by omega))) | exact lk_out (hV.trans (lkTail_1 (by omega) (by omega))) | exact lk_out (hV.trans (lkTail_2 (by omega) (by omega) hi (by omega) e110 e117)) | exact lk_out (hV.trans (lkTail_3 (by omega) (by omega) hi (by omega) (by omega) e132 e134)) | exact lk_out (hV.trans (lkTail_4 (by omega) (by omega) hi (by omega) (by omega) e79 e86 e93))))
            have hS1 : F 10 (lstB 33 [0, 1, 2, 3, 4, 5, 6, 7, 8, 9, 10, 11, 12, 13, 14, 15, 16, 17, 18, 19, 20, 21, 22]) ⟨[(0, sp p), (73, sp p), (80, sp p), (87, sp p), (70, (pL gr (0 + i * 8))), (71, (pL gr (0 + i * 8))), (72, (pL gr (0 + i * 8))), (77, avS (xL l i).machine), (84, avS (xL l i).nozzle), (91, avS (xL l i).reel), (5, .v (.slice (some ⟨gr, 0, none⟩) l.length capL)), (78, (avStrs [(xL l i).machine, ⟨#[]⟩])), (79, avS r79), (85, (avStrs [(xL l i).nozzle, ⟨#[65]⟩])), (86, avS r86), (92, (avStrs [(xL l i).reel, ⟨#[]⟩]))], [bxStr p a0 cap L (j + 3 + 1 + 1), .box gr ⟨rowL l, 124, capL * 8⟩], 0⟩ := by
              rw [hF]
              refine VA.all (rs := [23]) (by decide +kernel) (by decide) ?_
              refine ⟨⟨_, rfl, .inl rfl, ?_⟩, trivial⟩
              refine OpE.callHX (rest := [_]) txi_stab hGX rfl hB rfl Tryz.call79 rfl rfl (some_X (xs := [(xL l i).reel, ⟨#[]⟩]) (by omega) (by simp) hp0) (List.Perm.refl _) (fun b h => .inr ⟨by decide, blkStr h⟩) ?_
              rintro _ _ ⟨rfl, rfl⟩
              refine VA.le _ (Le.recast (t := 93) (y := avS r93) rfl (fun w Z u h => by rw [← e93]; exact h)) ?_
              refine VA.take (i := 24) rfl (by decide +kernel) (by decide +kernel) (by decide +kernel) rfl rfl (OpV.nilCheck rfl rfl) ?_
              refine VA.take (i := 25) rfl (by decide +kernel) (by decide +kernel) (by decide +kernel) rfl rfl (OpV.fieldAddrO 5 rfl Tryz.underlying124 rfl rfl Tryz.sizeOf9 rfl) ?_
              have hh := hS0 
              rw [hF] at hh
              exact VA.to hh (by decide +kernel) (Le.mk hB [0, 1] ⟨rfl, rfl, rfl, rfl, rfl, rfl, rfl, rfl, rfl, rfl, rfl, rfl, rfl, rfl, rfl, rfl, rfl, rfl, trivial⟩ rfl rfl (Nat.le_refl _))
            have hS2 : F 11 (lstB 33 [0, 1, 2, 3, 4, 5, 6, 7, 8, 9, 10, 11, 12, 13, 14, 15, 16, 17, 18, 19, 20, 21]) ⟨[(0, sp p), (73, sp p), (80, sp p), (87, sp p), (70, (pL gr (0 + i * 8))), (71, (pL gr (0 + i * 8))), (72, (pL gr (0 + i * 8))), (77, avS (xL l i).machine), (84, avS (xL l i).nozzle), (91, avS (xL l i).reel), (5, .v (.slice (some ⟨gr, 0, none⟩) l.length capL)), (78, (avStrs [(xL l i).machine, ⟨#[]⟩])), (79, avS r79), (85, (avStrs [(xL l i).nozzle, ⟨#[65]⟩])), (86, avS r86)], [bxStr p a0 cap L (j + 3 + 1 + 1), .box gr ⟨rowL l, 124, capL * 8⟩], 0⟩ := by
              rw [hF]
              refine VA.all (rs := [22]) (by decide +kernel) (by decide) ?_
              refine ⟨⟨_, rfl, .inl rfl, ?_⟩, trivial⟩
              refine OpE.buildSlice (zc := #[.string ⟨#[]⟩, .string ⟨#[]⟩]) rfl hB rfl Tryz.underlying82 Tryz.sizeOf9 Tryz.zeroValue9 (by decide) (by decide) (by kernel_rfl) rfl rfl ?_
              refine VA.le _ (Le.recast (t := 92) (y := avStrs [(xL l i).reel, ⟨#[]⟩]) rfl (fun w Z u h => Rep.strs (xs := [(xL l i).reel, ⟨#[]⟩]) rfl h)) ?_
              have hh := hS1 
              rw [hF] at hh
              exact VA.to hh (by decide +kernel) (Le.mk hB [0, 1] ⟨rfl, rfl, rfl, rfl, rfl, rfl, rfl, rfl, rfl, rfl, rfl, rfl, rfl, rfl, rfl, rfl, trivial⟩ rfl rfl (Nat.le_refl _))
            have hS3 : F 11 (lstB 33 [0, 1, 2, 3, 4, 5, 6, 7, 8, 9, 10, 11, 12, 13, 14, 15, 17, 18, 19, 20, 21, 22]) ⟨[(0, sp p), (73, sp p), (80, sp p), (87, sp p), (70, (pL gr (0 + i * 8))), (71, (pL gr (0 + i * 8))), (72, (pL gr (0 + i * 8))), (77, avS (xL l i).machine), (84, avS (xL l i).nozzle), (91, avS (xL l i).reel), (5, .v (.slice (some ⟨gr, 0, none⟩) l.length capL)), (78, (avStrs [(xL l i).machine, ⟨#[]⟩])), (79, avS r79), (85, (avStrs [(xL l i).nozzle, ⟨#[65]⟩])), (92, (avStrs [(xL l i).reel, ⟨#[]⟩]))], [bxStr p a0 cap L (j + 3 + 1), .box gr ⟨rowL l, 124, capL * 8⟩], 0⟩ := by
              rw [hF]
              refine VA.all (rs := [16]) (by decide +kernel) (by decide) ?_
              refine ⟨⟨_, rfl, .inl rfl, ?_⟩, trivial⟩
              refine OpE.callHX (rest := [_]) txi_stab hGX rfl hB rfl Tryz.call79 rfl rfl (some_X (xs := [(xL l i).nozzle, ⟨#[65]⟩]) (by omega) (by simp) hp0) (List.Perm.refl _) (fun b h => .inr ⟨by decide, blkStr h⟩) ?_
              rintro _ _ ⟨rfl, rfl⟩
              refine VA.le _ (Le.recast (t := 86) (y := avS r86) rfl (fun w Z u h => by rw [← e86]; exact h)) ?_
              have hh := hS1 
              rw [hF] at hh
              exact VA.to hh (by decide +kernel) (Le.mk hB [0, 1] ⟨rfl, rfl, rfl, rfl, rfl, rfl, rfl, rfl, rfl, rfl, rfl, rfl, rfl, rfl, rfl, rfl, trivial⟩ rfl rfl (Nat.le_refl _))
            have hS4 : F 12 (lstB 33 [0, 1, 2, 3, 4, 5, 6, 7, 8, 9, 10, 11, 12, 13, 14, 15, 17, 18, 19, 20, 21]) ⟨[(0, sp p), (73, sp p), (80, sp p), (87, sp p), (70, (pL gr (0 + i * 8))), (71, (pL gr (0 + i * 8))), (72, (pL gr (0 + i * 8))), (77, avS (xL l i).machine), (84, avS (xL l i).nozzle), (91, avS (xL l i).reel), (5, .v (.slice (some ⟨gr, 0, none⟩) l.length capL)), (78, (avStrs [(xL l i).machine, ⟨#[]⟩])), (79, avS r79), (85, (avStrs [(xL l i).nozzle, ⟨#[65]⟩]))], [bxStr p a0 cap L (j + 3 + 1), .box gr ⟨rowL l, 124, capL * 8⟩], 0⟩ := by
              rw [hF]
              refine VA.all (rs := [16, 22]) (by decide +kernel) (by decide) ?_
              refine ⟨⟨_, rfl, .inl rfl, ?_⟩, ⟨_, rfl, .inl rfl, ?_⟩, trivial⟩
              ·
                refine OpE.callHX (rest := [_]) txi_stab hGX rfl hB rfl Tryz.call79 rfl rfl (some_X (xs := [(xL l i).nozzle, ⟨#[65]⟩]) (by omega) (by simp) hp0) (List.Perm.refl _) (fun b h => .inr ⟨by decide, blkStr h⟩) ?_
                rintro _ _ ⟨rfl, rfl⟩
                refine VA.le _ (Le.recast (t := 86) (y := avS r86) rfl (fun w Z u h => by rw [← e86]; exact h)) ?_
                have hh := hS2 
                rw [hF] at hh
                exact VA.to hh (by decide +kernel) (Le.mk hB [0, 1] ⟨rfl, rfl, rfl, rfl, rfl, rfl, rfl, rfl, rfl, rfl, rfl, rfl, rfl, rfl, rfl, trivial⟩ rfl rfl (Nat.le_refl _))
              ·
                refine OpE.buildSlice (zc := #[.string ⟨#[]⟩, .string ⟨#[]⟩]) rfl hB rfl Tryz.underlying82 Tryz.sizeOf9 Tryz.zeroValue9 (by decide) (by decide) (by kernel_rfl) rfl rfl ?_
                refine VA.le _ (Le.recast (t := 92) (y := avStrs [(xL l i).reel, ⟨#[]⟩]) rfl (fun w Z u h => Rep.strs (xs := [(xL l i).reel, ⟨#[]⟩]) rfl h)) ?_
                have hh := hS3 
                rw [hF] at hh
                exact VA.to hh (by decide +kernel) (Le.mk hB [0, 1] ⟨rfl, rfl, rfl, rfl, rfl, rfl, rfl, rfl, rfl, rfl, rfl, rfl, rfl, rfl, rfl, trivial⟩ rfl rfl (Nat.le_refl _))
            have hS5 : F 12 (lstB 33 [0, 1, 2, 3, 4, 5, 6, 7, 8, 9, 10, 11, 12, 13, 14, 17, 18, 19, 20, 21, 22]) ⟨[(0, sp p), (73, sp p), (80, sp p), (87, sp p), (70, (pL gr (0 + i * 8))), (71, (pL gr (0 + i * 8))), (72, (pL gr (0 + i * 8))), (77, avS (xL l i).machine), (84, avS (xL l i).nozzle), (91, avS (xL l i).reel), (5, .v (.slice (some ⟨gr, 0, none⟩) l.length capL)), (78, (avStrs [(xL l i).machine, ⟨#[]⟩])), (79, avS r79), (92, (avStrs [(xL l i).reel, ⟨#[]⟩]))], [bxStr p a0 cap L (j + 3 + 1), .box gr ⟨rowL l, 124, capL * 8⟩], 0⟩ := by
              rw [hF]
              refine VA.all (rs := [15]) (by decide +kernel) (by decide) ?_
              refine ⟨⟨_, rfl, .inl rfl, ?_⟩, trivial⟩
              refine OpE.buildSlice (zc := #[.string ⟨#[]⟩, .string ⟨#[]⟩]) rfl hB rfl Tryz.underlying82 Tryz.sizeOf9 Tryz.zeroValue9 (by decide) (by decide) (by kernel_rfl) rfl rfl ?_
              refine VA.le _ (Le.recast (t := 85) (y := avStrs [(xL l i).nozzle, ⟨#[65]⟩]) rfl (fun w Z u h => Rep.strs (xs := [(xL l i).nozzle, ⟨#[65]⟩]) rfl h)) ?_
              have hh := hS3 
              rw [hF] at hh
              exact VA.to hh (by decide +kernel) (Le.mk hB [0, 1] ⟨rfl, rfl, rfl, rfl, rfl, rfl, rfl, rfl, rfl, rfl, rfl, rfl, rfl, rfl, rfl, trivial⟩ rfl rfl (Nat.le_refl _))
            have hS6 : F 12 (lstB 33 [0, 1, 2, 3, 4, 5, 6, 7, 8, 10, 11, 12, 13, 14, 15, 17, 18, 19, 20, 21, 22]) ⟨[(0, sp p), (73, sp p), (80, sp p), (87, sp p), (70, (pL gr (0 + i * 8))), (71, (pL gr (0 + i * 8))), (72, (pL gr (0 + i * 8))), (77, avS (xL l i).machine), (84, avS (xL l i).nozzle), (91, avS (xL l i).reel), (5, .v (.slice (some ⟨gr, 0, none⟩) l.length capL)), (78, (avStrs [(xL l i).machine, ⟨#[]⟩])), (85, (avStrs [(xL l i).nozzle, ⟨#[65]⟩])), (92, (avStrs [(xL l i).reel, ⟨#[]⟩]))], [bxStr p a0 cap L (j + 3), .box gr ⟨rowL l, 124, capL * 8⟩], 0⟩ := by
              rw [hF]
              refine VA.all (rs := [9]) (by decide +kernel) (by decide) ?_
              refine ⟨⟨_, rfl, .inl rfl, ?_⟩, trivial⟩
              refine OpE.callHX (rest := [_]) txi_stab hGX rfl hB rfl Tryz.call79 rfl rfl (some_X (xs := [(xL l i).machine, ⟨#[]⟩]) (by omega) (by simp) hp0) (List.Perm.refl _) (fun b h => .inr ⟨by decide, blkStr h⟩) ?_
              rintro _ _ ⟨rfl, rfl⟩
              refine VA.le _ (Le.recast (t := 79) (y := avS r79) rfl (fun w Z u h => by rw [← e79]; exact h)) ?_
              have hh := hS3 
              rw [hF] at hh
              exact VA.to hh (by decide +kernel) (Le.mk hB [0, 1] ⟨rfl, rfl, rfl, rfl, rfl, rfl, rfl, rfl, rfl, rfl, rfl, rfl, rfl, rfl, rfl, trivial⟩ rfl rfl (Nat.le_refl _))
            have hS7 : F 13 (lstB 33 [0, 1, 2, 3, 4, 5, 6, 7, 8, 9, 10, 11, 12, 13, 14, 17, 18, 19, 20, 21]) ⟨[(0, sp p), (73, sp p), (80, sp p), (87, sp p), (70, (pL gr (0 + i * 8))), (71, (pL gr (0 + i * 8))), (72, (pL gr (0 + i * 8))), (77, avS (xL l i).machine), (84, avS (xL l i).nozzle), (91, avS (xL l i).reel), (5, .v (.slice (some ⟨gr, 0, none⟩) l.length capL)), (78, (avStrs [(xL l i).machine, ⟨#[]⟩])), (79, avS r79)], [bxStr p a0 cap L (j + 3 + 1), .box gr ⟨rowL l, 124, capL * 8⟩], 0⟩ := by
              rw [hF]
              refine VA.all (rs := [15, 22]) (by decide +kernel) (by decide) ?_
              refine ⟨⟨_, rfl, .inl rfl, ?_⟩, ⟨_, rfl, .inl rfl, ?_⟩, trivial⟩
              ·
                refine OpE.buildSlice (zc := #[.string ⟨#[]⟩, .string ⟨#[]⟩]) rfl hB rfl Tryz.underlying82 Tryz.sizeOf9 Tryz.zeroValue9 (by decide) (by decide) (by kernel_rfl) rfl rfl ?_
                refine VA.le _ (Le.recast (t := 85) (y := avStrs [(xL l i).nozzle, ⟨#[65]⟩]) rfl (fun w Z u h => Rep.strs (xs := [(xL l i).nozzle, ⟨#[65]⟩]) rfl h)) ?_
                have hh := hS4 
                rw [hF] at hh
                exact VA.to hh (by decide +kernel) (Le.mk hB [0, 1] ⟨rfl, rfl, rfl, rfl, rfl, rfl, rfl, rfl, rfl, rfl, rfl, rfl, rfl, rfl, trivial⟩ rfl rfl (Nat.le_refl _))
              ·
                refine OpE.buildSlice (zc := #[.string ⟨#[]⟩, .string ⟨#[]⟩]) rfl hB rfl Tryz.underlying82 Tryz.sizeOf9 Tryz.zeroValue9 (by decide) (by decide) (by kernel_rfl) rfl rfl ?_
                refine VA.le _ (Le.recast (t := 92) (y := avStrs [(xL l i).reel, ⟨#[]⟩]) rfl (fun w Z u h => Rep.strs (xs := [(xL l i).reel, ⟨#[]⟩]) rfl h)) ?_
                have hh := hS5 
                rw [hF] at hh
                exact VA.to hh (by decide +kernel) (Le.mk hB [0, 1] ⟨rfl, rfl, rfl, rfl, rfl, rfl, rfl, rfl, rfl, rfl, rfl, rfl, rfl, rfl, trivial⟩ rfl rfl (Nat.le_refl _))
            have hS8 : F 13 (lstB 33 [0, 1, 2, 3, 4, 5, 6, 7, 8, 10, 11, 12, 13, 14, 15, 17, 18, 19, 20, 21]) ⟨[(0, sp p), (73, sp p), (80, sp p), (87, sp p), (70, (pL gr (0 + i * 8))), (71, (pL gr (0 + i * 8))), (72, (pL gr (0 + i * 8))), (77, avS (xL l i).machine), (84, avS (xL l i).nozzle), (91, avS (xL l i).reel), (5, .v (.slice (some ⟨gr, 0, none⟩) l.length capL)), (78, (avStrs [(xL l i).machine, ⟨#[]⟩])), (85, (avStrs [(xL l i).nozzle, ⟨#[65]⟩]))], [bxStr p a0 cap L (j + 3), .box gr ⟨rowL l, 124, capL * 8⟩], 0⟩ := by
              rw [hF]
              refine VA.all (rs := [9, 22]) (by decide +kernel) (by decide) ?_
              refine ⟨⟨_, rfl, .inl rfl, ?_⟩, ⟨_, rfl, .inl rfl, ?_⟩, trivial⟩
              ·
                refine OpE.callHX (rest := [_]) txi_stab hGX rfl hB rfl Tryz.call79 rfl rfl (some_X (xs := [(xL l i).machine, ⟨#[]⟩]) (by omega) (by simp) hp0) (List.Perm.refl _) (fun b h => .inr ⟨by decide, blkStr h⟩) ?_
                rintro _ _ ⟨rfl, rfl⟩
                refine VA.le _ (Le.recast (t := 79) (y := avS r79) rfl (fun w Z u h => by rw [← e79]; exact h)) ?_
                have hh := hS4 
                rw [hF] at hh
                exact VA.to hh (by decide +kernel) (Le.mk hB [0, 1] ⟨rfl, rfl, rfl, rfl, rfl, rfl, rfl, rfl, rfl, rfl, rfl, rfl, rfl, rfl, trivial⟩ rfl rfl (Nat.le_refl _))
              ·
                refine OpE.buildSlice (zc := #[.string ⟨#[]⟩, .string ⟨#[]⟩]) rfl hB rfl Tryz.underlying82 Tryz.sizeOf9 Tryz.zeroValue9 (by decide) (by decide) (by kernel_rfl) rfl rfl ?_
                refine VA.le _ (Le.recast (t := 92) (y := avStrs [(xL l i).reel, ⟨#[]⟩]) rfl (fun w Z u h => Rep.strs (xs := [(xL l i).reel, ⟨#[]⟩]) rfl h)) ?_
                have hh := hS6 
                rw [hF] at hh
                exact VA.to hh (by decide +kernel) (Le.mk hB [0, 1] ⟨rfl, rfl, rfl, rfl, rfl, rfl, rfl, rfl, rfl, rfl, rfl, rfl, rfl, rfl, trivial⟩ rfl rfl (Nat.le_refl _))
            have hS9 : F 13 (lstB 33 [0, 1, 2, 3, 4, 5, 6, 7, 8, 10, 11, 12, 13, 14, 17, 18, 19, 20, 21, 22]) ⟨[(0, sp p), (73, sp p), (80, sp p), (87, sp p), (70, (pL gr (0 + i * 8))), (71, (pL gr (0 + i * 8))), (72, (pL gr (0 + i * 8))), (77, avS (xL l i).machine), (84, avS (xL l i).nozzle), (91, avS (xL l i).reel), (5, .v (.slice (some ⟨gr, 0, none⟩) l.length capL)), (78, (avStrs [(xL l i).machine, ⟨#[]⟩])), (92, (avStrs [(xL l i).reel, ⟨#[]⟩]))], [bxStr p a0 cap L (j + 3), .box gr ⟨rowL l, 124, capL * 8⟩], 0⟩ := by
              rw [hF]
              refine VA.all (rs := [9, 15]) (by decide +kernel) (by decide) ?_
              refine ⟨⟨_, rfl, .inl rfl, ?_⟩, ⟨_, rfl, .inl rfl, ?_⟩, trivial⟩
              ·
                refine OpE.callHX (rest := [_]) txi_stab hGX rfl hB rfl Tryz.call79 rfl rfl (some_X (xs := [(xL l i).machine, ⟨#[]⟩]) (by omega) (by simp) hp0) (List.Perm.refl _) (fun b h => .inr ⟨by decide, blkStr h⟩) ?_
                rintro _ _ ⟨rfl, rfl⟩
                refine VA.le _ (Le.recast (t := 79) (y := avS r79) rfl (fun w Z u h => by rw [← e79]; exact h)) ?_
                have hh := hS5 
                rw [hF] at hh
                exact VA.to hh (by decide +kernel) (Le.mk hB [0, 1] ⟨rfl, rfl, rfl, rfl, rfl, rfl, rfl, rfl, rfl, rfl, rfl, rfl, rfl, rfl, trivial⟩ rfl rfl (Nat.le_refl _))
              ·
                refine OpE.buildSlice (zc := #[.string ⟨#[]⟩, .string ⟨#[]⟩]) rfl hB rfl Tryz.underlying82 Tryz.sizeOf9 Tryz.zeroValue9 (by decide) (by decide) (by kernel_rfl) rfl rfl ?_
                refine VA.le _ (Le.recast (t := 85) (y := avStrs [(xL l i).nozzle, ⟨#[65]⟩]) rfl (fun w Z u h => Rep.strs (xs := [(xL l i).nozzle, ⟨#[65]⟩]) rfl h)) ?_
                have hh := hS6 
                rw [hF] at hh
                exact VA.to hh (by decide +kernel) (Le.mk hB [0, 1] ⟨rfl, rfl, rfl, rfl, rfl, rfl, rfl, rfl, rfl, rfl, rfl, rfl, rfl, rfl, trivial⟩ rfl rfl (Nat.le_refl _))
            have hS10 : F 13 (lstB 33 [0, 1, 2, 3, 4, 5, 6, 7, 10, 11, 12, 13, 14, 15, 17, 18, 19, 20, 21, 22]) ⟨[(0, sp p), (73, sp p), (80, sp p), (87, sp p), (70, (pL gr (0 + i * 8))), (71, (pL gr (0 + i * 8))), (72, (pL gr (0 + i * 8))), (77, avS (xL l i).machine), (84, avS (xL l i).nozzle), (91, avS (xL l i).reel), (5, .v (.slice (some ⟨gr, 0, none⟩) l.length capL)), (85, (avStrs [(xL l i).nozzle, ⟨#[65]⟩])), (92, (avStrs [(xL l i).reel, ⟨#[]⟩]))], [bxStr p a0 cap L (j + 3), .box gr ⟨rowL l, 124, capL * 8⟩], 0⟩ := by
              rw [hF]
              refine VA.all (rs := [8]) (by decide +kernel) (by decide) ?_
              refine ⟨⟨_, rfl, .inl rfl, ?_⟩, trivial⟩
              refine OpE.buildSlice (zc := #[.string ⟨#[]⟩, .string ⟨#[]⟩]) rfl hB rfl Tryz.underlying82 Tryz.sizeOf9 Tryz.zeroValue9 (by decide) (by decide) (by kernel_rfl) rfl rfl ?_
              refine VA.le _ (Le.recast (t := 78) (y := avStrs [(xL l i).machine, ⟨#[]⟩]) rfl (fun w Z u h => Rep.strs (xs := [(xL l i).machine, ⟨#[]⟩]) rfl h)) ?_
              have hh := hS6 
              rw [hF] at hh
              exact VA.to hh (by decide +kernel) (Le.mk hB [0, 1] ⟨rfl, rfl, rfl, rfl, rfl, rfl, rfl, rfl, rfl, rfl, rfl, rfl, rfl, rfl, trivial⟩ rfl rfl (Nat.le_refl _))
            have hS11 : F 14 (lstB 33 [0, 1, 2, 3, 4, 5, 6, 7, 8, 10, 11, 12, 13, 14, 17, 18, 19, 20, 21]) ⟨[(0, sp p), (73, sp p), (80, sp p), (87, sp p), (70, (pL gr (0 + i * 8))), (71, (pL gr (0 + i * 8))), (72, (pL gr (0 + i * 8))), (77, avS (xL l i).machine), (84, avS (xL l i).nozzle), (91, avS (xL l i).reel), (5, .v (.slice (some ⟨gr, 0, none⟩) l.length capL)), (78, (avStrs [(xL l i).machine, ⟨#[]⟩]))], [bxStr p a0 cap L (j + 3), .box gr ⟨rowL l, 124, capL * 8⟩], 0⟩ := by
              rw [hF]
              refine VA.all (rs := [9, 15, 22]) (by decide +kernel) (by decide) ?_
              refine ⟨⟨_, rfl, .inl rfl, ?_⟩, ⟨_, rfl, .inl rfl, ?_⟩, ⟨_, rfl, .inl rfl, ?_⟩, trivial⟩
              ·
                refine OpE.callHX (rest := [_]) txi_stab hGX rfl hB rfl Tryz.call79 rfl rfl (some_X (xs := [(xL l i).machine, ⟨#[]⟩]) (by omega) (by simp) hp0) (List.Perm.refl _) (fun b h => .inr ⟨by decide, blkStr h⟩) ?_
                rintro _ _ ⟨rfl, rfl⟩
                refine VA.le _ (Le.recast (t := 79) (y := avS r79) rfl (fun w Z u h => by rw [← e79]; exact h)) ?_
                have hh := hS7 
                rw [hF] at hh
                exact VA.to hh (by decide +kernel) (Le.mk hB [0, 1] ⟨rfl, rfl, rfl, rfl, rfl, rfl, rfl, rfl, rfl, rfl, rfl, rfl, rfl, trivial⟩ rfl rfl (Nat.le_refl _))
              ·
                refine OpE.buildSlice (zc := #[.string ⟨#[]⟩, .string ⟨#[]⟩]) rfl hB rfl Tryz.underlying82 Tryz.sizeOf9 Tryz.zeroValue9 (by decide) (by decide) (by kernel_rfl) rfl rfl ?_
                refine VA.le _ (Le.recast (t := 85) (y := avStrs [(xL l i).nozzle, ⟨#[65]⟩]) rfl (fun w Z u h => Rep.strs (xs := [(xL l i).nozzle, ⟨#[65]⟩]) rfl h)) ?_
                have hh := hS8 
                rw [hF] at hh
                exact VA.to hh (by decide +kernel) (Le.mk hB [0, 1] ⟨rfl, rfl, rfl, rfl, rfl, rfl, rfl, rfl, rfl, rfl, rfl, rfl, rfl, trivial⟩ rfl rfl (Nat.le_refl _))
              ·
                refine OpE.buildSlice (zc := #[.string ⟨#[]⟩, .string ⟨#[]⟩]) rfl hB rfl Tryz.underlying82 Tryz.sizeOf9 Tryz.zeroValue9 (by decide) (by decide) (by kernel_rfl) rfl rfl ?_
                refine VA.le _ (Le.recast (t := 92) (y := avStrs [(xL l i).reel, ⟨#[]⟩]) rfl (fun w Z u h => Rep.strs (xs := [(xL l i).reel, ⟨#[]⟩]) rfl h)) ?_
                have hh := hS9 
                rw [hF] at hh
                exact VA.to hh (by decide +kernel) (Le.mk hB [0, 1] ⟨rfl, rfl, rfl, rfl, rfl, rfl, rfl, rfl, rfl, rfl, rfl, rfl, rfl, trivial⟩ rfl rfl (Nat.le_refl _))
            have hS12 : F 14 (lstB 33 [0, 1, 2, 3, 4, 5, 6, 7, 10, 11, 12, 13, 14, 15, 17, 18, 19, 20, 21]) ⟨[(0, sp p), (73, sp p), (80, sp p), (87, sp p), (70, (pL gr (0 + i * 8))), (71, (pL gr (0 + i * 8))), (72, (pL gr (0 + i * 8))), (77, avS (xL l i).machine), (84, avS (xL l i).nozzle), (91, avS (xL l i).reel), (5, .v (.slice (some ⟨gr, 0, none⟩) l.length capL)), (85, (avStrs [(xL l i).nozzle, ⟨#[65]⟩]))], [bxStr p a0 cap L (j + 3), .box gr ⟨rowL l, 124, capL * 8⟩], 0⟩ := by
              rw [hF]
              refine VA.all (rs := [8, 22]) (by decide +kernel) (by decide) ?_
              refine ⟨⟨_, rfl, .inl rfl, ?_⟩, ⟨_, rfl, .inl rfl, ?_⟩, trivial⟩
              ·
                refine OpE.buildSlice (zc := #[.string ⟨#[]⟩, .string ⟨#[]⟩]) rfl hB rfl Tryz.underlying82 Tryz.sizeOf9 Tryz.zeroValue9 (by decide) (by decide) (by kernel_rfl) rfl rfl ?_
                refine VA.le _ (Le.recast (t := 78) (y := avStrs [(xL l i).machine, ⟨#[]⟩]) rfl (fun w Z u h => Rep.strs (xs := [(xL l i).machine, ⟨#[]⟩]) rfl h)) ?_
                have hh := hS8 
                rw [hF] at hh
                exact VA.to hh (by decide +kernel) (Le.mk hB [0, 1] ⟨rfl, rfl, rfl, rfl, rfl, rfl, rfl, rfl, rfl, rfl, rfl, rfl, rfl, trivial⟩ rfl rfl (Nat.le_refl _))
              ·
                refine OpE.buildSlice (zc := #[.string ⟨#[]⟩, .string ⟨#[]⟩]) rfl hB rfl Tryz.underlying82 Tryz.sizeOf9 Tryz.zeroValue9 (by decide) (by decide) (by kernel_rfl) rfl rfl ?_
                refine VA.le _ (Le.recast (t := 92) (y := avStrs [(xL l i).reel, ⟨#[]⟩]) rfl (fun w Z u h => Rep.strs (xs := [(xL l i).reel, ⟨#[]⟩]) rfl h)) ?_
                have hh := hS10 
                rw [hF] at hh
                exact VA.to hh (by decide +kernel) (Le.mk hB [0, 1] ⟨rfl, rfl, rfl, rfl, rfl, rfl, rfl, rfl, rfl, rfl, rfl, rfl, rfl, trivial⟩ rfl rfl (Nat.le_refl _))
            have hS13 : F 14 (lstB 33 [0, 1, 2, 3, 4, 5, 6, 7, 10, 11, 12, 13, 14, 17, 18, 19, 20, 21, 22]) ⟨[(0, sp p), (73, sp p), (80, sp p), (87, sp p), (70, (pL gr (0 + i * 8))), (71, (pL gr (0 + i * 8))), (72, (pL gr (0 + i * 8))), (77, avS (xL l i).machine), (84, avS (xL l i).nozzle), (91, avS (xL l i).reel), (5, .v (.slice (some ⟨gr, 0, none⟩) l.length capL)), (92, (avStrs [(xL l i).reel, ⟨#[]⟩]))], [bxStr p a0 cap L (j + 3), .box gr ⟨rowL l, 124, capL * 8⟩], 0⟩ := by
              rw [hF]
              refine VA.all (rs := [8, 15]) (by decide +kernel) (by decide) ?_
              refine ⟨⟨_, rfl, .inl rfl, ?_⟩, ⟨_, rfl, .inl rfl, ?_⟩, trivial⟩
              ·
                refine OpE.buildSlice (zc := #[.string ⟨#[]⟩, .string ⟨#[]⟩]) rfl hB rfl Tryz.underlying82 Tryz.sizeOf9 Tryz.zeroValue9 (by decide) (by decide) (by kernel_rfl) rfl rfl ?_
                refine VA.le _ (Le.recast (t := 78) (y := avStrs [(xL l i).machine, ⟨#[]⟩]) rfl (fun w Z u h => Rep.strs (xs := [(xL l i).machine, ⟨#[]⟩]) rfl h)) ?_
                have hh := hS9 
                rw [hF] at hh
                exact VA.to hh (by decide +kernel) (Le.mk hB [0, 1] ⟨rfl, rfl, rfl, rfl, rfl, rfl, rfl, rfl, rfl, rfl, rfl, rfl, rfl, trivial⟩ rfl rfl (Nat.le_refl _))
              ·
                refine OpE.buildSlice (zc := #[.string ⟨#[]⟩, .string ⟨#[]⟩]) rfl hB rfl Tryz.underlying82 Tryz.sizeOf9 Tryz.zeroValue9 (by decide) (by decide) (by kernel_rfl) rfl rfl ?_
                refine VA.le _ (Le.recast (t := 85) (y := avStrs [(xL l i).nozzle, ⟨#[65]⟩]) rfl (fun w Z u h => Rep.strs (xs := [(xL l i).nozzle, ⟨#[65]⟩]) rfl h)) ?_
                have hh := hS10 
                rw [hF] at hh
                exact VA.to hh (by decide +kernel) (Le.mk hB [0, 1] ⟨rfl, rfl, rfl, rfl, rfl, rfl, rfl, rfl, rfl, rfl, rfl, rfl, rfl, trivial⟩ rfl rfl (Nat.le_refl _))
            have hS14 : F 15 (lstB 33 [0, 1, 2, 3, 4, 5, 6, 7, 10, 11, 12, 13, 14, 17, 18, 19, 20, 21]) ⟨[(0, sp p), (73, sp p), (80, sp p), (87, sp p), (70, (pL gr (0 + i * 8))), (71, (pL gr (0 + i * 8))), (72, (pL gr (0 + i * 8))), (77, avS (xL l i).machine), (84, avS (xL l i).nozzle), (91, avS (xL l i).reel), (5, .v (.slice (some ⟨gr, 0, none⟩) l.length capL))], [bxStr p a0 cap L (j + 3), .box gr ⟨rowL l, 124, capL * 8⟩], 0⟩ := by
              rw [hF]
              refine VA.all (rs := [8, 15, 22]) (by decide +kernel) (by decide) ?_
              refine ⟨⟨_, rfl, .inl rfl, ?_⟩, ⟨_, rfl, .inl rfl, ?_⟩, ⟨_, rfl, .inl rfl, ?_⟩, trivial⟩
              ·
                refine OpE.buildSlice (zc := #[.string ⟨#[]⟩, .string ⟨#[]⟩]) rfl hB rfl Tryz.underlying82 Tryz.sizeOf9 Tryz.zeroValue9 (by decide) (by decide) (by kernel_rfl) rfl rfl ?_
                refine VA.le _ (Le.recast (t := 78) (y := avStrs [(xL l i).machine, ⟨#[]⟩]) rfl (fun w Z u h => Rep.strs (xs := [(xL l i).machine, ⟨#[]⟩]) rfl h)) ?_
                have hh := hS11 
                rw [hF] at hh
                exact VA.to hh (by decide +kernel) (Le.mk hB [0, 1] ⟨rfl, rfl, rfl, rfl, rfl, rfl, rfl, rfl, rfl, rfl, rfl, rfl, trivial⟩ rfl rfl (Nat.le_refl _))
              ·
                refine OpE.buildSlice (zc := #[.string ⟨#[]⟩, .string ⟨#[]⟩]) rfl hB rfl Tryz.underlying82 Tryz.sizeOf9 Tryz.zeroValue9 (by decide) (by decide) (by kernel_rfl) rfl rfl ?_
                refine VA.le _ (Le.recast (t := 85) (y := avStrs [(xL l i).nozzle, ⟨#[65]⟩]) rfl (fun w Z u h => Rep.strs (xs := [(xL l i).nozzle, ⟨#[65]⟩]) rfl h)) ?_
                have hh := hS12 
                rw [hF] at hh
                exact VA.to hh (by decide +kernel) (Le.mk hB [0, 1] ⟨rfl, rfl, rfl, rfl, rfl, rfl, rfl, rfl, rfl, rfl, rfl, rfl, trivial⟩ rfl rfl (Nat.le_refl _))
              ·
                refine OpE.buildSlice (zc := #[.string ⟨#[]⟩, .string ⟨#[]⟩]) rfl hB rfl Tryz.underlying82 Tryz.sizeOf9 Tryz.zeroValue9 (by decide) (by decide) (by kernel_rfl) rfl rfl ?_
                refine VA.le _ (Le.recast (t := 92) (y := avStrs [(xL l i).reel, ⟨#[]⟩]) rfl (fun w Z u h => Rep.strs (xs := [(xL l i).reel, ⟨#[]⟩]) rfl h)) ?_
                have hh := hS13 
                rw [hF] at hh
                exact VA.to hh (by decide +kernel) (Le.mk hB [0, 1] ⟨rfl, rfl, rfl, rfl, rfl, rfl, rfl, rfl, rfl, rfl, rfl, rfl, trivial⟩ rfl rfl (Nat.le_refl _))
            rw [hF]
            have hh := hS14 
            rw [hF] at hh
            exact VA.to hh (by decide +kernel) (Le.mk hB [0, 1] ⟨rfl, rfl, rfl, rfl, rfl, rfl, rfl, rfl, rfl, rfl, rfl, trivial⟩ rfl rfl (Nat.le_refl _))
      · have h3 := h3b
        try simp only [qq] at h3
        refine VC.skip ?_
        refine VC.sr ?_
        refine VO.mv rfl rfl rfl rfl ?_
        refine VO.ma rfl rfl rfl rfl ?_
        refine VO.nil ?_
        refine VC.le _ (Le.rowT (t := 4) (i := 1) (n := l.length) (xs := l) hB hnew rfl rfl rfl) ?_
        refine VC.ret ?_
        exact Exists.intro _ (And.intro (RetV.one Tryz.results126 (ResV.tmp rfl)) (by first | exact lk_out (hV.trans (lkTail_0 (by omega))) | exact lk_out (hV.trans (lkTail_1 (by omega) (by omega))) | exact lk_out (hV.trans (lkTail_2 (by omega) (by omega) hi (by omega) e110 e117)) | exact lk_out (hV.trans (lkTail_3 (by omega) (by omega) hi (by omega) (by omega) e132 e134)) | exact lk_out (hV.trans (lkTail_4 (by omega) (by omega) hi (by omega) (by omega) e79 e86 e93))))
    · replace aK3b : _ = false := aK3b
      have aK3 := aK3b
      try simp only [qq] at aK3
      refine VO.opX rfl rfl rfl rfl aK3b ?_
      refine VO.val rfl rfl (OpV.pickF rfl rfl rfl rfl aK3b) ?_
      refine VO.nil ?_
      refine VC.condF rfl rfl ?_
      refine VC.skip ?_
      refine VC.sr ?_
      refine VO.mv rfl rfl rfl rfl ?_
      refine VO.ma rfl rfl rfl rfl ?_
      refine VO.nil ?_
      refine VC.le _ (Le.rowT (t := 4) (i := 1) (n := l.length) (xs := l) hB hnew rfl rfl rfl) ?_
      refine VC.ret ?_
      exact Exists.intro _ (And.intro (RetV.one Tryz.results126 (ResV.tmp rfl)) (by first | exact lk_out (hV.trans (lkTail_0 (by omega))) | exact lk_out (hV.trans (lkTail_1 (by omega) (by omega))) | exact lk_out (hV.trans (lkTail_2 (by omega) (by omega) hi (by omega) e110 e117)) | exact lk_out (hV.trans (lkTail_3 (by omega) (by omega) hi (by omega) (by omega) e132 e134)) | exact lk_out (hV.trans (lkTail_4 (by omega) (by omega) hi (by omega) (by omega) e79 e86 e93))))
end
section
set_option maxHeartbeats 4000000 in
theorem rightLooks_E {p0 cap : Nat} {a0 : Option Addr} {p k m : Nat} {L : List Int} (hk : k ≤ 700000) (hm : m ≤ 6) (hm0 : 0 < m) (hp0 : p0 ≤ p) :
  SpecHX (TXI a0 L p0) Tryz.prog 51 [sp p, avI (m : Int)] [bxStr p a0 cap L k] (fun y hp' => y = avL (rlV L m 6 k).1 ∧ hp' = [bxStr p a0 cap L (rlV L m 6 k).2]) := by
 refine SpecHX.of_VC txi_stab Tryz.func51 rfl Tryz.ntmps51 (Nle rfl) fun w A hB hGX => ?_
 refine VC.sr ?_
 refine VO.ma rfl rfl rfl rfl ?_
 refine VO.nil ?_
 refine VC.seq ?_
 refine VC.sr ?_
 refine VO.mv rfl rfl rfl rfl ?_
 refine VO.nil ?_
 refine VC.block ?_
 refine VC.loopK [(0, _), (1, _)] ⟨rfl, rfl, trivial⟩ ({t : Nat × Nat // t.2 ≤ 6 ∧ t.1 ≤ k + 200 * t.2 ∧ rlV L m (6 - t.2) t.1 = rlV L m 6 k}) (fun (iZ : {t : Nat × Nat // t.2 ≤ 6 ∧ t.1 ≤ k + 200 * t.2 ∧ rlV L m (6 - t.2) t.1 = rlV L m 6 k}) => match iZ with | ⟨⟨j, q⟩, hq, hj, hE⟩ => [(6, avI (q : Int))]) (fun (iZ : {t : Nat × Nat // t.2 ≤ 6 ∧ t.1 ≤ k + 200 * t.2 ∧ rlV L m (6 - t.2) t.1 = rlV L m 6 k}) => match iZ with | ⟨⟨j, q⟩, hq, hj, hE⟩ => [bxStr p a0 cap L j]) (fun (iZ : {t : Nat × Nat // t.2 ≤ 6 ∧ t.1 ≤ k + 200 * t.2 ∧ rlV L m (6 - t.2) t.1 = rlV L m 6 k}) => match iZ with | ⟨⟨j, q⟩, hq, hj, hE⟩ => 0) (fun (iZ : {t : Nat × Nat // t.2 ≤ 6 ∧ t.1 ≤ k + 200 * t.2 ∧ rlV L m (6 - t.2) t.1 = rlV L m 6 k}) => match iZ with | ⟨⟨j, q⟩, hq, hj, hE⟩ => 6 - q) ⟨(k, 0), Nat.zero_le _, Nat.le_refl _, rfl⟩ (Le.mk hB [0] ⟨rfl, rfl, rfl, trivial⟩ rfl rfl (Nat.le_refl _)) ?_
 rintro ⟨⟨j, q⟩, hq, hj, hE⟩
 show VC _ _ _ _ ⟨[(6, avI (q : Int))] ++ [(0, _), (1, _)], [bxStr p a0 cap L j], 0⟩
 simp only at hq hj hE
 refine VC.sr ?_
 refine VO.val rfl rfl (OpV.lss rfl rfl rfl) ?_
 refine VO.nil ?_
 refine VC.seq ?_
 refine VC.cond rfl (fun aH1b => ?_) (fun aH1b => ?_)
 ·have aH1 := aH1b
  try simp only [qq] at aH1
  refine VC.skip ?_
  refine VC.seq ?_
  refine VC.block ?_
  refine VC.sr ?_
  refine VO.mv rfl rfl rfl rfl ?_
  refine VO.mv rfl rfl rfl rfl ?_
  refine VO.op rfl (OpE.callHX (rest := []) txi_stab hGX rfl hB rfl Tryz.call126 rfl rfl (looks_E (by omega) hm hm0 hp0) (List.Perm.refl _) (fun _ _ => trivial) ?_)
  rintro _ _ ⟨rfl, rfl⟩
  obtain ⟨h3, hJ, hok⟩ := lkV_ok (L := L) (k := j) hm hm0
  obtain ⟨⟨l, J⟩, hV⟩ : ∃ z, lkV L j m = z := ⟨_, rfl⟩
  rw [hV] at h3 hJ hok
  simp only at h3 hJ hok
  have h6 : 6 - q = (6 - (q + 1)) + 1 := by omega
  refine VO.le _ (Le.recast (t := 10) (y := avL l) rfl (fun w Z u h => by rw [hV] at h; exact h)) ?_
  refine VO.le _ (Le.perm (hp := [bxStr p a0 cap L J]) (by have e : (lkV L j m).2 = J := by { rw [hV] }; show [bxStr p a0 cap L (lkV L j m).2].Perm _; rw [e])) ?_
  refine VO.ma rfl rfl rfl rfl ?_
  refine VO.nil ?_
  refine VC.sr ?_
  refine VO.mv rfl rfl rfl rfl ?_
  refine VO.op rfl (OpE.call rfl hB rfl Tryz.call127 rfl (SpecN.spec (rf_LooksFault (LkG.sm hok (by omega)))) ?_)
  rintro _ rfl
  refine VO.val rfl rfl (OpV.eql rfl rfl rfl) ?_
  refine VO.nil ?_
  refine VC.cond rfl (fun h1b => ?_) (fun h1b => ?_)
  ·have h1 := h1b
   try simp only [qq] at h1
   refine VC.sr ?_
   refine VO.mv rfl rfl rfl rfl ?_
   refine VO.ma rfl rfl rfl rfl ?_
   refine VO.nil ?_
   refine VC.ret ?_
   exact Exists.intro _ (And.intro (RetV.one Tryz.results51 (ResV.tmp rfl)) (by have e : rlV L m 6 k = (l, J) := by { rw [← hE, h6]; exact rlV_y hV (by omega) }; rw [e]; exact ⟨rfl, rfl⟩))
  ·have h1 := h1b
   try simp only [qq] at h1
   refine VC.skip ?_
   refine VC.region ?_
   refine VO.val rfl rfl (OpV.add rfl rfl rfl (by unfold fits; omega)) ?_
   refine VO.mv rfl rfl rfl rfl ?_
   refine VO.nil ?_
   exact Exists.intro (⟨(J, q + 1), by show q + 1 ≤ 6; omega, by show J ≤ k + 200 * (q + 1); omega, by show rlV L m (6 - (q + 1)) J = _; rw [← hE, h6, rlV_n hV (by omega)]⟩) (And.intro (Le.mk hB [0] ⟨rfl, rfl, rfl, trivial⟩ rfl rfl (Nat.le_refl _)) (by first | omega | (show _ < _; omega) | (simp only []; omega)))
 ·have aH1 := aH1b
  try simp only [qq] at aH1
  obtain rfl : q = 6 := by omega
  refine VC.exit ?_
  refine VC.sr ?_
  refine VO.ma rfl rfl rfl rfl ?_
  refine VO.nil ?_
  refine VC.le _ (Le.recast (t := 4) (y := avL ([] : List LookS)) rfl (fun w Z u h => by rw [h.eq_v]; exact .nil _ _)) ?_
  refine VC.ret ?_
  exact Exists.intro _ (And.intro (RetV.one Tryz.results51 (ResV.tmp rfl)) (by rw [← hE]; exact ⟨rfl, rfl⟩))
end
section
structure BodyS where
 part : ByteArray
 wide : Int
 high : Int
instance : Inhabited BodyS := ⟨⟨ByteArray.empty, 0, 0⟩⟩
instance : Sxc BodyS where
 k := 3
 pos := by decide
 cell m j := match j with
  | 0 => avS m.part
  | 1 => avI m.wide
  | 2 => avI m.high
  | _ => .any
structure PairS where
 name : ByteArray
 value : ByteArray
instance : Inhabited PairS := ⟨⟨ByteArray.empty, ByteArray.empty⟩⟩
instance : Sxc PairS where
 k := 2
 pos := by decide
 cell m j := match j with
  | 0 => avS m.name
  | 1 => avS m.value
  | _ => .any
section
variable {l : List BodyS} {i : Nat}
end
end
section
def decB (i : Nat) : ByteArray := ⟨(Lib.decDigits i).toArray⟩
theorem itoa_100 {i : Nat} (hi : i < 100) : SpecN Tryz.prog 135 [avI (i : Int)] (fun y => y = avS (decB i)) := by
 intro w us ha
 rw [args1 ha]
 refine (Tryz.strconv_Itoa_small i hi w).mono ?_
 rintro e w' ⟨rfl, rfl⟩
 exact ⟨_, _, rfl, rfl, .v _, Chg.refl _ _, trivial⟩
section
variable {l : List LookS} {q : Nat} (hq : q < l.length)
include hq
end
end
section
section
variable {P : Program} {ops : Array Oper} {Q : Act → World → Prop} {md : Region.Mode} {E : Nat → World → World → Prop}
theorem wpAnyE_firstT {S : Nat → Bool} {F : World → World → Prop} (htr : ∀ x y z, F x y → F y z → F x z) (hrf : ∀ x, F x x) {i : Nat} (hEr : ∀ x, E i x x)
  (hEF : ∀ j oj, ops[j]? = some oj → S j = false → ∀ w w', E j w w' → F w w') (hcl : ∀ k, S k = true → k ≠ i → ∃ ok, ops[k]? = some ok ∧ ∃ e ∈ ok.after, Region.binds md e = true ∧ S e.on = true)
  {oi : Oper} {v : Value} (hi : ops[i]? = some oi) (hsel : ∀ (j : Nat) (o : Oper) cs b, ops[j]? = some o → o.op ≠ .select cs b) :
  ∀ (fuel : Nat) (listed : Array Bool) (a : Act) (w : World), (∀ k, S k = true → listed.getD k true = false) →
   (∀ j oj, ops[j]? = some oj → j ≠ i → listed.getD j true = false → (∀ e ∈ oj.after, Region.binds md e = true → e.on ≠ i) → oi.apart ops oj = true) →
   i ∈ Region.ready md ops listed → YieldsE P ops F oi v a w →
   wpAnyE P md ops Q E fuel (listed.setIfInBounds i true) (a.put oi.dst v) w → wpAnyE P md ops Q E (fuel + 1) listed a w := by
 intro fuel
 induction fuel with
 | zero =>
  intro listed a w _ _ hr hy H
  refine ⟨fun h => (by rw [h] at hr; cases hr), fun j hj => ?_⟩
  by_cases hji : j = i
  ·subst hji; exact YieldsIf.wpOp hi hy.iff (hrf w) ⟨hEr w, H⟩
  ·have := ready_mono hj hji
   rw [H.1] at this
   cases this
 | succ fuel ih =>
  intro listed a w hS hfree hr hy H
  refine ⟨fun h => (by rw [h] at hr; cases hr), fun j hj => ?_⟩
  by_cases hji : j = i
  ·subst hji; exact YieldsIf.wpOp hi hy.iff (hrf w) ⟨hEr w, H⟩
  ·have h1 := H.2 j (ready_mono hj hji)
   obtain ⟨hjun, oj, hoj, hall⟩ := mem_ready.1 hj
   have hnot : ∀ e ∈ oj.after, Region.binds md e = true → e.on ≠ i := fun e he hb heq => by
    have h1 := hall e he hb
    have h0 := (mem_ready.1 hr).1
    rw [heq] at h1
    rcases Nat.lt_or_ge i listed.size with h' | h'
    ·simp [h'] at h0 h1; rw [h0] at h1; cases h1
    ·simp [Array.getElem?_eq_none h'] at h1
   have hjS : S j = false := by
    cases hc : S j with
    | false => rfl
    | true =>
     obtain ⟨ok, k1, e, he, hb, k2⟩ := hcl j hc hji
     obtain rfl : oj = ok := Option.some.inj (hoj.symm.trans k1)
     have h1 := hall e he hb
     have h0 := hS e.on k2
     rcases Nat.lt_or_ge e.on listed.size with h' | h'
     ·simp [h'] at h0 h1; rw [h0] at h1; cases h1
     ·simp [Array.getElem?_eq_none h'] at h1
   have h2 := wpOp_putIf (S := F w) hoj (hfree j oj hoj hji hjun hnot) (fun cs b => hsel i oi cs b hi) (fun cs b => hsel j oj cs b hoj) (fun c a w h => h.elim) hy.iff h1
   have hfree' : ∀ k ok, ops[k]? = some ok → k ≠ i → (listed.setIfInBounds j true).getD k true = false →
     (∀ e ∈ ok.after, Region.binds md e = true → e.on ≠ i) → oi.apart ops ok = true := fun k ok hk hki hun hno => by
    refine hfree k ok hk hki ?_ hno
    by_cases hjk : j = k
    ·subst hjk; exact hjun
    ·rw [Go.getD_set_ne true hjk] at hun; exact hun
   have hS' : ∀ k, S k = true → (listed.setIfInBounds j true).getD k true = false := fun k hk => by
    have hjk : j ≠ k := fun e => by rw [e, hk] at hjS; cases hjS
    rw [Go.getD_set_ne true hjk]; exact hS k hk
   refine wpOp_mono (fun a' w' h3 => ⟨h3.2.1, ih (listed.setIfInBounds j true) a' w' hS' hfree' (ready_mono hr (Ne.symm hji)) ?_ ?_⟩) h2
   ·rcases h3.1 with ⟨k1, k2⟩ | k
    ·exact .inl ⟨k1, fun w'' hw'' => k2 w'' (htr _ _ _ (hEF j oj hoj hjS _ _ h3.2.1) hw'')⟩
    ·exact .inr k
   rw [Array.setIfInBounds_comm _ _ hji]
   exact h3.2.2
end
section
variable {P : Program} {B : Bs} {V : Nat → Nat → Prop} {ops : Array Oper} {s : St'} {Q : Exit → St' → Prop} {n : Nat} {L : Array Bool}
def WS (V : Nat → Nat → Prop) (S : List Nat) : Nat → Prop := fun b => ∃ j, S.contains j = false ∧ V j b
def hangB (ops : Array Oper) (S : List Nat) (i : Nat) : Bool := S.all fun k => k == i || match ops[k]? with
 | some o => o.after.any fun e => Region.binds .any e && S.contains e.on
 | none => false
theorem VA.takeT (S : List Nat) {i : Nat} {o : Oper} {x : AV} (hS : hangB ops S i = true) (hL : (S.all fun k => !(L.getD k true)) = true) (hi : ops[i]? = some o) (hs : Region.noSelect ops = true) (hf : Region.free .any ops L i = true) (hr : (Region.ready .any ops L).contains i = true) (hg : o.guard = none) (hd : okd B.nt o.dst = true)
  (hv : OpV P B (WS V S) s o x) (h : VA P B V ops Q n (L.setIfInBounds i true) (s.put o.dst x)) : VA P B V ops Q (n + 1) L s := fun a w hR => by
 obtain ⟨v, h1, h2⟩ := hv a w hR
 refine wpAnyE_firstT (S := fun k => S.contains k) (F := Ew B (WS V S)) Ew.tr Ew.rf (fun x => Ew.rf x) (fun j oj hj hjS w w' h => h.mono fun b _ hb => hb.imp id fun hv => ⟨j, hjS, hv⟩) (fun k hk hki => ?_) hi (Region.noSelect_spec hs) n L a w (fun k hk => ?_) (Region.free_spec hi hf) (by simpa using hr) (.inl ⟨by simp [Region.wanted, hg], h1⟩) (h _ _ (hR.put _ hd _ _ h2))
 ·have hk' : k ∈ S := by simpa using hk
  have := List.all_eq_true.1 hS k hk'
  simp only [Bool.or_eq_true, beq_iff_eq] at this
  have := this.resolve_left hki
  cases ho : ops[k]? with
  | none => rw [ho] at this; cases this
  | some ok =>
   rw [ho] at this
   obtain ⟨e, he, h3⟩ := Array.any_eq_true'.1 this
   simp only [Bool.and_eq_true] at h3
   exact ⟨ok, rfl, e, he, h3.1, h3.2⟩
 ·have hk' : k ∈ S := by simpa using hk
  have := List.all_eq_true.1 hL k hk'
  simpa using this
end
end
section
abbrev avNd (x : NeedS) : AV := .agg (tab 2 (Sxc.cell x))
end
section
set_option maxHeartbeats 2000000 in
theorem insSort_rw {l0 : List NeedS} {u : Value} {ty : TypeId} {F : FuncId} {cs : List AV} {c : NeedS → NeedS → Int} (hl : l0.length ≤ 1000000) (hcall : ∀ us w, (callFunc F us).run Tryz.prog w = .ok (.enter F us) w) (hF : ∀ x y, Spec Tryz.prog F ([avNd x, avNd y] ++ cs) (fun z => z = avI (c x y))) (ht : ∀ {a b d : NeedS}, decide (c a b < 0) = true → decide (c b d < 0) = true → decide (c a d < 0) = true) (ha : ∀ {a b : NeedS}, decide (c a b < 0) = true → decide (c b a < 0) = false) (hn : ∀ {a b d : NeedS}, decide (c b a < 0) = false → decide (c d b < 0) = false → decide (c d a < 0) = false) :
  SpecH Tryz.prog 280 [.v u, avI 0, avI l0.length, .fn F cs] [.row u l0.length 2 (rowL l0) ty] (fun y hp' => ∃ l, (l.Perm l0 ∧ OrdL (fun x y => decide (c x y < 0)) l) ∧ y = .tup [] ∧ hp' = [.row u l0.length 2 (rowL l) ty]) := by
 refine SpecH.of_VC Tryz.func280 rfl Tryz.ntmps280 (Nle rfl) fun w A hB => ?_
 refine VC.sr ?_
 refine VO.mv rfl rfl rfl rfl ?_
 refine VO.val rfl rfl (OpV.add rfl rfl rfl (by unfold fits; omega)) ?_
 refine VO.ma rfl rfl rfl rfl ?_
 refine VO.nil ?_
 refine VC.block ?_
 refine VC.loopK [(0, _), (1, _), (2, _), (3, _)] ⟨rfl, rfl, rfl, rfl, trivial⟩ ({z : Nat × List NeedS // InvO (fun x y => decide (c x y < 0)) l0 z.1 z.2 ∧ 0 < z.1 ∧ z.1 ≤ max 1 l0.length}) (fun (iZ : {z : Nat × List NeedS // InvO (fun x y => decide (c x y < 0)) l0 z.1 z.2 ∧ 0 < z.1 ∧ z.1 ≤ max 1 l0.length}) => match iZ with | ⟨⟨i, l⟩, hi, hi0, hin⟩ => [(8, avI (i : Int))]) (fun (iZ : {z : Nat × List NeedS // InvO (fun x y => decide (c x y < 0)) l0 z.1 z.2 ∧ 0 < z.1 ∧ z.1 ≤ max 1 l0.length}) => match iZ with | ⟨⟨i, l⟩, hi, hi0, hin⟩ => [.row u l0.length 2 (rowL l) ty]) (fun (iZ : {z : Nat × List NeedS // InvO (fun x y => decide (c x y < 0)) l0 z.1 z.2 ∧ 0 < z.1 ∧ z.1 ≤ max 1 l0.length}) => match iZ with | ⟨⟨i, l⟩, hi, hi0, hin⟩ => 0) (fun (iZ : {z : Nat × List NeedS // InvO (fun x y => decide (c x y < 0)) l0 z.1 z.2 ∧ 0 < z.1 ∧ z.1 ≤ max 1 l0.length}) => match iZ with | ⟨⟨i, l⟩, hi, hi0, hin⟩ => l0.length - i) ⟨(1, l0), InvO.one l0, Nat.one_pos, by show 1 ≤ _; omega⟩ (Le.mk hB [0] ⟨rfl, rfl, rfl, rfl, rfl, trivial⟩ rfl rfl (Nat.le_refl _)) ?_
 rintro ⟨⟨i, l⟩, hi, hi0, hin⟩
 show VC _ _ _ _ ⟨[(8, avI (i : Int))] ++ [(0, _), (1, _), (2, _), (3, _)], [.row u l0.length 2 (rowL l) ty], 0⟩
 simp only at hi hi0 hin
 have hll := hi.len
 refine VC.seq ?_
 refine VC.sr ?_
 refine VO.mv rfl rfl rfl rfl ?_
 refine VO.mv rfl rfl rfl rfl ?_
 refine VO.val rfl rfl (OpV.lss rfl rfl rfl) ?_
 refine VO.nil ?_
 refine VC.cond rfl (fun aH1b => ?_) (fun aH1b => ?_)
 ·have aH1 := aH1b
  try simp only [qq] at aH1
  refine VC.skip ?_
  refine VC.seq ?_
  refine VC.block ?_
  refine VC.sr ?_
  refine VO.mv rfl rfl rfl rfl ?_
  refine VO.ma rfl rfl rfl rfl ?_
  refine VO.nil ?_
  refine VC.block ?_
  refine VC.asBox (i := 0) rfl (by omega) (fun g cap hu hcap hmx => ?_)
  subst hu
  refine VC.loopK [(0, _), (1, _), (2, _), (3, _), (8, _)] ⟨rfl, rfl, rfl, rfl, rfl, trivial⟩ ({z : Nat × List NeedS // InvI (fun x y => decide (c x y < 0)) l0 i z.1 z.2}) (fun (iZ : {z : Nat × List NeedS // InvI (fun x y => decide (c x y < 0)) l0 i z.1 z.2}) => match iZ with | ⟨⟨j, l2⟩, hI⟩ => [(9, avI (j : Int))]) (fun (iZ : {z : Nat × List NeedS // InvI (fun x y => decide (c x y < 0)) l0 i z.1 z.2}) => match iZ with | ⟨⟨j, l2⟩, hI⟩ => [.box g ⟨rowL l2, ty, cap * 2⟩]) (fun (iZ : {z : Nat × List NeedS // InvI (fun x y => decide (c x y < 0)) l0 i z.1 z.2}) => match iZ with | ⟨⟨j, l2⟩, hI⟩ => 0) (fun (iZ : {z : Nat × List NeedS // InvI (fun x y => decide (c x y < 0)) l0 i z.1 z.2}) => match iZ with | ⟨⟨j, l2⟩, hI⟩ => j) ⟨(i, l), hi.start (by omega)⟩ (Le.mk hB [0] ⟨rfl, rfl, rfl, rfl, rfl, rfl, trivial⟩ rfl rfl (Nat.le_refl _)) ?_
  rintro ⟨⟨j, l2⟩, hI⟩
  show VC _ _ _ _ ⟨[(9, avI (j : Int))] ++ [(0, _), (1, _), (2, _), (3, _), (8, _)], [.box g ⟨rowL l2, ty, cap * 2⟩], 0⟩
  simp only at hI
  obtain ⟨hlen2, hil, hji⟩ := hI.len
  refine VC.seq ?_
  refine VC.seq ?_
  refine VC.draw (fun _ => NoB) hB (by kernel_rfl) ?_
  refine VA.take (i := 0) rfl (by kernel_rfl) (by kernel_rfl) (by kernel_rfl) rfl rfl (OpV.move (.inl rfl) rfl) ?_
  refine VA.take (i := 1) rfl (by kernel_rfl) (by kernel_rfl) (by kernel_rfl) rfl rfl (OpV.move (.inl rfl) rfl) ?_
  refine VA.take (i := 2) rfl (by kernel_rfl) (by kernel_rfl) (by kernel_rfl) rfl rfl (OpV.gtr rfl rfl rfl) ?_
  refine VA.take (i := 3) rfl (by kernel_rfl) (by kernel_rfl) (by kernel_rfl) rfl rfl (OpV.move (.inl rfl) rfl) ?_
  refine VA.split (t := 21) rfl (fun aK2b => ?_) (fun aK2b => ?_)
  ·have aK2 := aK2b
   try simp only [qq] at aK2
   refine VA.takeY (i := 4) rfl (by kernel_rfl) (by kernel_rfl) (by kernel_rfl) rfl rfl rfl rfl aK2b (OpV.move (.inl rfl) rfl) ?_
   refine VA.takeY (i := 5) rfl (by kernel_rfl) (by kernel_rfl) (by kernel_rfl) rfl rfl rfl rfl aK2b (OpV.move (.inl rfl) rfl) ?_
   refine VA.takeY (i := 6) rfl (by kernel_rfl) (by kernel_rfl) (by kernel_rfl) rfl rfl rfl rfl aK2b (OpV.move (.inl rfl) rfl) ?_
   refine VA.takeY (i := 7) rfl (by kernel_rfl) (by kernel_rfl) (by kernel_rfl) rfl rfl rfl rfl aK2b (OpV.indexAddr_q rfl Tryz.underlying232 Tryz.sizeOf234 rfl rfl rfl (by omega)) ?_
   refine VA.takeY (i := 8) rfl (by kernel_rfl) (by kernel_rfl) (by kernel_rfl) rfl rfl rfl rfl aK2b (OpV.loadK_own (i := 0) rfl hB Tryz.isAgg234 Tryz.sizeOf234 rfl rfl (rowL_cut rfl (by omega)) Wi.not0) ?_
   refine VA.takeY (i := 9) rfl (by kernel_rfl) (by kernel_rfl) (by kernel_rfl) rfl rfl rfl rfl aK2b (OpV.move (.inl rfl) rfl) ?_
   refine VA.takeY (i := 10) rfl (by kernel_rfl) (by kernel_rfl) (by kernel_rfl) rfl rfl rfl rfl aK2b (OpV.move (.inl rfl) rfl) ?_
   refine VA.takeY (i := 11) rfl (by kernel_rfl) (by kernel_rfl) (by kernel_rfl) rfl rfl rfl rfl aK2b (OpV.sub rfl rfl rfl (by unfold fits; omega)) ?_
   refine VA.takeY (i := 12) rfl (by kernel_rfl) (by kernel_rfl) (by kernel_rfl) rfl rfl rfl rfl aK2b (OpV.indexAddr_q rfl Tryz.underlying232 Tryz.sizeOf234 rfl rfl (show (j : Int) - 1 = ((j - 1 : Nat) : Int) by omega) (by omega)) ?_
   refine VA.takeY (i := 13) rfl (by kernel_rfl) (by kernel_rfl) (by kernel_rfl) rfl rfl rfl rfl aK2b (OpV.loadK_own (i := 0) rfl hB Tryz.isAgg234 Tryz.sizeOf234 rfl rfl (rowL_cut rfl (by omega)) Wi.not0) ?_
   refine VA.all (rs := [14]) (by kernel_rfl) (by decide) ?_
   refine ⟨⟨_, rfl, .inr ⟨_, _, _, rfl, rfl, (look_k rfl aK2b)⟩, ?_⟩, trivial⟩
   refine OpE.callF rfl hB rfl hcall rfl rfl (hF _ _) ?_
   rintro _ rfl
   refine VA.takeY (i := 15) rfl (by kernel_rfl) (by kernel_rfl) (by kernel_rfl) rfl rfl rfl rfl aK2b (OpV.lss rfl rfl rfl) ?_
   refine VA.take (i := 16) rfl (by kernel_rfl) (by kernel_rfl) (by kernel_rfl) rfl rfl (OpV.pickT rfl rfl rfl rfl aK2b) ?_
   refine VA.done (by kernel_rfl) ?_
   refine VC.cond rfl (fun hcb => ?_) (fun hcb => ?_)
   ·have hc := hcb
    try simp only [qq] at hc
    refine VC.skip ?_
    refine VC.seq ?_
    refine VC.block ?_
    refine VC.draw (fun j b => j ∈ [15, 17] ∧ b = g) hB (by kernel_rfl) ?_
    refine VA.take (i := 0) rfl (by kernel_rfl) (by kernel_rfl) (by kernel_rfl) rfl rfl (OpV.move (.inl rfl) rfl) ?_
    refine VA.take (i := 1) rfl (by kernel_rfl) (by kernel_rfl) (by kernel_rfl) rfl rfl (OpV.move (.inl rfl) rfl) ?_
    refine VA.take (i := 2) rfl (by kernel_rfl) (by kernel_rfl) (by kernel_rfl) rfl rfl (OpV.move (.inl rfl) rfl) ?_
    refine VA.take (i := 3) rfl (by kernel_rfl) (by kernel_rfl) (by kernel_rfl) rfl rfl (OpV.move (.inl rfl) rfl) ?_
    refine VA.take (i := 4) rfl (by kernel_rfl) (by kernel_rfl) (by kernel_rfl) rfl rfl (OpV.sub rfl rfl rfl (by unfold fits; omega)) ?_
    refine VA.take (i := 5) rfl (by kernel_rfl) (by kernel_rfl) (by kernel_rfl) rfl rfl (OpV.move (.inl rfl) rfl) ?_
    refine VA.take (i := 6) rfl (by kernel_rfl) (by kernel_rfl) (by kernel_rfl) rfl rfl (OpV.move (.inl rfl) rfl) ?_
    refine VA.take (i := 7) rfl (by kernel_rfl) (by kernel_rfl) (by kernel_rfl) rfl rfl (OpV.sub rfl rfl rfl (by unfold fits; omega)) ?_
    refine VA.take (i := 8) rfl (by kernel_rfl) (by kernel_rfl) (by kernel_rfl) rfl rfl (OpV.indexAddr_q rfl Tryz.underlying232 Tryz.sizeOf234 rfl rfl (show (j : Int) - 1 = ((j - 1 : Nat) : Int) by omega) (by omega)) ?_
    refine VA.take (i := 9) rfl (by kernel_rfl) (by kernel_rfl) (by kernel_rfl) rfl rfl (OpV.loadK_own (i := 0) rfl hB Tryz.isAgg234 Tryz.sizeOf234 rfl rfl (rowL_cut rfl (by omega)) (Wi.notD (by kernel_rfl))) ?_
    refine VA.take (i := 10) rfl (by kernel_rfl) (by kernel_rfl) (by kernel_rfl) rfl rfl (OpV.move (.inl rfl) rfl) ?_
    refine VA.take (i := 11) rfl (by kernel_rfl) (by kernel_rfl) (by kernel_rfl) rfl rfl (OpV.move (.inl rfl) rfl) ?_
    refine VA.take (i := 12) rfl (by kernel_rfl) (by kernel_rfl) (by kernel_rfl) rfl rfl (OpV.indexAddr_q rfl Tryz.underlying232 Tryz.sizeOf234 rfl rfl rfl (by omega)) ?_
    refine VA.take (i := 13) rfl (by kernel_rfl) (by kernel_rfl) (by kernel_rfl) rfl rfl (OpV.loadK_own (i := 0) rfl hB Tryz.isAgg234 Tryz.sizeOf234 rfl rfl (rowL_cut rfl (by omega)) (Wi.notD (by kernel_rfl))) ?_
    refine VA.take (i := 14) rfl (by kernel_rfl) (by kernel_rfl) (by kernel_rfl) rfl rfl (OpV.indexAddr_q rfl Tryz.underlying232 Tryz.sizeOf234 rfl rfl rfl (by omega)) ?_
    refine VA.all (rs := [15]) (by kernel_rfl) (by decide) ?_
    refine ⟨⟨_, rfl, .inl rfl, ?_⟩, trivial⟩
    refine OpE.storeE (i := 0) rfl hB rfl Tryz.sizeOf234 rfl rfl rfl rfl rfl rfl (rowL_inE rfl (by omega)) (rowL_setAll (x := l2.getD (j - 1) default) rfl (by omega)) (by first | exact ⟨rfl, rfl⟩ | exact .inl ⟨rfl, rfl⟩ | exact .inr ⟨rfl, rfl⟩ | exact ⟨rfl, trivial⟩ | exact .inl ⟨rfl, trivial⟩ | exact .inr ⟨rfl, trivial⟩ | exact ⟨by decide, rfl⟩) ?_
    refine VA.take (i := 16) rfl (by kernel_rfl) (by kernel_rfl) (by kernel_rfl) rfl rfl (OpV.indexAddr_q rfl Tryz.underlying232 Tryz.sizeOf234 rfl rfl (show (j : Int) - 1 = ((j - 1 : Nat) : Int) by omega) (by omega)) ?_
    refine VA.all (rs := [17]) (by kernel_rfl) (by decide) ?_
    refine ⟨⟨_, rfl, .inl rfl, ?_⟩, trivial⟩
    refine OpE.storeE (i := 0) rfl hB rfl Tryz.sizeOf234 rfl rfl rfl rfl rfl rfl (rowL_inE rfl (by rw [List.length_set]; omega)) (rowL_setAll (x := l2.getD j default) rfl (by rw [List.length_set]; omega)) (by first | exact ⟨rfl, rfl⟩ | exact .inl ⟨rfl, rfl⟩ | exact .inr ⟨rfl, rfl⟩ | exact ⟨rfl, trivial⟩ | exact .inl ⟨rfl, trivial⟩ | exact .inr ⟨rfl, trivial⟩ | exact ⟨by decide, rfl⟩) ?_
    refine VA.done (by kernel_rfl) ?_
    refine VC.region ?_
    refine VO.mv rfl rfl rfl rfl ?_
    refine VO.val rfl rfl (OpV.sub rfl rfl rfl (by unfold fits; omega)) ?_
    refine VO.ma rfl rfl rfl rfl ?_
    refine VO.nil ?_
    exact Exists.intro (⟨(j - 1, (l2.set j (l2.getD (j - 1) default)).set (j - 1) (l2.getD j default)), hI.next ht (by omega) (decide_eq_true hc)⟩) (And.intro (Le.mk hB [0] ⟨(by rw [show ((j - 1 : Nat) : Int) = (j : Int) - 1 by omega]; rfl), rfl, rfl, rfl, rfl, rfl, trivial⟩ rfl rfl (Nat.le_refl _)) (by first | omega | (show _ < _; omega) | (simp only []; omega)))
   ·have hc := hcb
    try simp only [qq] at hc
    have hex : j = 0 ∨ decide (c (l2.getD j default) (l2.getD (j - 1) default) < 0) = false := by first | exact .inl (by omega) | exact .inr (decide_eq_false (by omega))
    refine VC.le _ (Le.boxRow (i := 0) (n := l0.length) rfl (by rw [rowL_len, hlen2]; rfl) hcap hmx) ?_
    refine VC.exit ?_
    refine VC.region ?_
    refine VO.mv rfl rfl rfl rfl ?_
    refine VO.val rfl rfl (OpV.add rfl rfl rfl (by unfold fits; omega)) ?_
    refine VO.ma rfl rfl rfl rfl ?_
    refine VO.nil ?_
    exact Exists.intro (⟨(i + 1, l2), hI.done ha hn hex, Nat.succ_pos _, by show i + 1 ≤ _; omega⟩) (And.intro (Le.mk hB [0] ⟨rfl, rfl, rfl, rfl, rfl, trivial⟩ rfl (by first | rfl | assumption) (Nat.le_refl _)) (by first | omega | (show _ < _; omega) | (simp only []; omega)))
  ·have aK2 := aK2b
   try simp only [qq] at aK2
   refine VA.takeX (i := 4) rfl (by kernel_rfl) (by kernel_rfl) (by kernel_rfl) rfl rfl rfl rfl aK2b ?_
   refine VA.takeX (i := 5) rfl (by kernel_rfl) (by kernel_rfl) (by kernel_rfl) rfl rfl rfl rfl aK2b ?_
   refine VA.takeX (i := 6) rfl (by kernel_rfl) (by kernel_rfl) (by kernel_rfl) rfl rfl rfl rfl aK2b ?_
   refine VA.takeX (i := 7) rfl (by kernel_rfl) (by kernel_rfl) (by kernel_rfl) rfl rfl rfl rfl aK2b ?_
   refine VA.takeX (i := 8) rfl (by kernel_rfl) (by kernel_rfl) (by kernel_rfl) rfl rfl rfl rfl aK2b ?_
   refine VA.takeX (i := 9) rfl (by kernel_rfl) (by kernel_rfl) (by kernel_rfl) rfl rfl rfl rfl aK2b ?_
   refine VA.takeX (i := 10) rfl (by kernel_rfl) (by kernel_rfl) (by kernel_rfl) rfl rfl rfl rfl aK2b ?_
   refine VA.takeX (i := 11) rfl (by kernel_rfl) (by kernel_rfl) (by kernel_rfl) rfl rfl rfl rfl aK2b ?_
   refine VA.takeX (i := 12) rfl (by kernel_rfl) (by kernel_rfl) (by kernel_rfl) rfl rfl rfl rfl aK2b ?_
   refine VA.takeX (i := 13) rfl (by kernel_rfl) (by kernel_rfl) (by kernel_rfl) rfl rfl rfl rfl aK2b ?_
   refine VA.takeX (i := 14) rfl (by kernel_rfl) (by kernel_rfl) (by kernel_rfl) rfl rfl rfl rfl aK2b ?_
   refine VA.takeX (i := 15) rfl (by kernel_rfl) (by kernel_rfl) (by kernel_rfl) rfl rfl rfl rfl aK2b ?_
   refine VA.take (i := 16) rfl (by kernel_rfl) (by kernel_rfl) (by kernel_rfl) rfl rfl (OpV.pickF rfl rfl rfl rfl aK2b) ?_
   refine VA.done (by kernel_rfl) ?_
   refine VC.condF rfl rfl ?_
   have hex : j = 0 ∨ decide (c (l2.getD j default) (l2.getD (j - 1) default) < 0) = false := by first | exact .inl (by omega) | exact .inr (decide_eq_false (by omega))
   refine VC.le _ (Le.boxRow (i := 0) (n := l0.length) rfl (by rw [rowL_len, hlen2]; rfl) hcap hmx) ?_
   refine VC.exit ?_
   refine VC.region ?_
   refine VO.mv rfl rfl rfl rfl ?_
   refine VO.val rfl rfl (OpV.add rfl rfl rfl (by unfold fits; omega)) ?_
   refine VO.ma rfl rfl rfl rfl ?_
   refine VO.nil ?_
   exact Exists.intro (⟨(i + 1, l2), hI.done ha hn hex, Nat.succ_pos _, by show i + 1 ≤ _; omega⟩) (And.intro (Le.mk hB [0] ⟨rfl, rfl, rfl, rfl, rfl, trivial⟩ rfl (by first | rfl | assumption) (Nat.le_refl _)) (by first | omega | (show _ < _; omega) | (simp only []; omega)))
 ·have aH1 := aH1b
  try simp only [qq] at aH1
  refine VC.exit ?_
  exact Exists.intro _ (And.intro (RetV.none Tryz.results280) (⟨l, hi.all (by omega), rfl, rfl⟩))
theorem pdqSort_rw {l0 : List NeedS} {u : Value} {ty : TypeId} {F : FuncId} {cs : List AV} {c : NeedS → NeedS → Int} {k : Int} (hl : l0.length ≤ 12) (hcall : ∀ us w, (callFunc F us).run Tryz.prog w = .ok (.enter F us) w) (hF : ∀ x y, Spec Tryz.prog F ([avNd x, avNd y] ++ cs) (fun z => z = avI (c x y))) (ht : ∀ {a b d : NeedS}, decide (c a b < 0) = true → decide (c b d < 0) = true → decide (c a d < 0) = true) (ha : ∀ {a b : NeedS}, decide (c a b < 0) = true → decide (c b a < 0) = false) (hn : ∀ {a b d : NeedS}, decide (c b a < 0) = false → decide (c d b < 0) = false → decide (c d a < 0) = false) :
  SpecH Tryz.prog 210 [.v u, avI 0, avI l0.length, avI k, .fn F cs] [.row u l0.length 2 (rowL l0) ty] (fun y hp' => ∃ l, (l.Perm l0 ∧ OrdL (fun x y => decide (c x y < 0)) l) ∧ y = .tup [] ∧ hp' = [.row u l0.length 2 (rowL l) ty]) := by
 refine SpecH.of_VC Tryz.func210 rfl Tryz.ntmps210 (Nle rfl) fun w A hB => ?_
 refine VC.sr ?_
 refine VO.ma rfl rfl rfl rfl ?_
 refine VO.nil ?_
 refine VC.sr ?_
 refine VO.ma rfl rfl rfl rfl ?_
 refine VO.nil ?_
 refine VC.block ?_
 refine VC.loopK [(0, _), (4, _)] ⟨rfl, rfl, trivial⟩ ({z : Nat // z = 0}) (fun (iZ : {z : Nat // z = 0}) => match iZ with | ⟨z, hz⟩ => [(1, avI 0), (2, avI l0.length), (3, avI k), (10, avB true), (11, avB true)]) (fun (iZ : {z : Nat // z = 0}) => match iZ with | ⟨z, hz⟩ => [.row u l0.length 2 (rowL l0) ty]) (fun (iZ : {z : Nat // z = 0}) => match iZ with | ⟨z, hz⟩ => 0) (fun (iZ : {z : Nat // z = 0}) => match iZ with | ⟨z, hz⟩ => z) ⟨0, rfl⟩ (Le.mk hB [0] ⟨rfl, rfl, rfl, rfl, rfl, rfl, rfl, trivial⟩ rfl rfl (Nat.le_refl _)) ?_
 rintro ⟨z, hz⟩
 show VC _ _ _ _ ⟨[(1, avI 0), (2, avI l0.length), (3, avI k), (10, avB true), (11, avB true)] ++ [(0, _), (4, _)], [.row u l0.length 2 (rowL l0) ty], 0⟩
 refine VC.block ?_
 refine VC.sr ?_
 refine VO.mv rfl rfl rfl rfl ?_
 refine VO.mv rfl rfl rfl rfl ?_
 refine VO.val rfl rfl (OpV.sub rfl rfl rfl (by unfold fits; omega)) ?_
 refine VO.ma rfl rfl rfl rfl ?_
 refine VO.nil ?_
 refine VC.seq ?_
 refine VC.sr ?_
 refine VO.mv rfl rfl rfl rfl ?_
 refine VO.val rfl rfl (OpV.leq rfl rfl rfl) ?_
 refine VO.nil ?_
 refine VC.cond rfl (fun aH1b => ?_) (fun aH1b => ?_)
 ·have aH1 := aH1b
  try simp only [qq] at aH1
  refine VC.sr ?_
  refine VO.mv rfl rfl rfl rfl ?_
  refine VO.mv rfl rfl rfl rfl ?_
  refine VO.mv rfl rfl rfl rfl ?_
  refine VO.mv rfl rfl rfl rfl ?_
  refine VO.op rfl (OpE.callH0 rfl hB rfl Tryz.call280 rfl rfl (insSort_rw (by omega) hcall hF ht ha hn) (List.Perm.refl _) (fun _ _ => trivial) ?_)
  rintro _ _ ⟨l, hpl, rfl, rfl⟩
  refine VO.nil ?_
  refine VC.ret ?_
  exact Exists.intro _ (And.intro (RetV.none Tryz.results210) (⟨l, hpl, rfl, rfl⟩))
 ·have aH1 := aH1b
  try simp only [qq] at aH1
  exact VC.absurd (by omega)
theorem sortFunc_rw {l0 : List NeedS} {u : Value} {ty : TypeId} {F : FuncId} {cs : List AV} {c : NeedS → NeedS → Int} (hl : l0.length ≤ 12) (hcall : ∀ us w, (callFunc F us).run Tryz.prog w = .ok (.enter F us) w) (hF : ∀ x y, Spec Tryz.prog F ([avNd x, avNd y] ++ cs) (fun z => z = avI (c x y))) (ht : ∀ {a b d : NeedS}, decide (c a b < 0) = true → decide (c b d < 0) = true → decide (c a d < 0) = true) (ha : ∀ {a b : NeedS}, decide (c a b < 0) = true → decide (c b a < 0) = false) (hn : ∀ {a b d : NeedS}, decide (c b a < 0) = false → decide (c d b < 0) = false → decide (c d a < 0) = false) :
  SpecH Tryz.prog 133 [.v u, .fn F cs] [.row u l0.length 2 (rowL l0) ty] (fun y hp' => ∃ l, (l.Perm l0 ∧ OrdL (fun x y => decide (c x y < 0)) l) ∧ y = .tup [] ∧ hp' = [.row u l0.length 2 (rowL l) ty]) := by
 refine SpecH.of_VC Tryz.func133 rfl Tryz.ntmps133 (Nle rfl) fun w A hB => ?_
 refine VC.sr ?_
 refine VO.mv rfl rfl rfl rfl ?_
 refine VO.val rfl rfl (OpV.len_row (i := 0) rfl Tryz.underlying232 rfl rfl) ?_
 refine VO.ma rfl rfl rfl rfl ?_
 refine VO.nil ?_
 refine VC.region ?_
 refine VO.mv rfl rfl rfl rfl ?_
 refine VO.mv rfl rfl rfl rfl ?_
 refine VO.mv rfl rfl rfl rfl ?_
 refine VO.val rfl rfl (OpV.conv rfl Tryz.underlying3 Tryz.underlying282 rfl (IntWalk.u64_in _ (by omega))) ?_
 refine VO.op rfl (OpE.call rfl hB rfl Tryz.call176 rfl (SpecN.spec (bits_Len_S (x := (l0.length : Int)) (by omega) (by omega))) ?_)
 rintro _ ⟨k, rfl⟩
 refine VO.mv rfl rfl rfl rfl ?_
 refine VO.op rfl (OpE.callH0 rfl hB rfl Tryz.call210 rfl rfl (pdqSort_rw hl hcall hF ht ha hn) (List.Perm.refl _) (fun _ _ => trivial) ?_)
 rintro _ _ ⟨l, hpl, rfl, rfl⟩
 refine VO.nil ?_
 exact Exists.intro _ (And.intro (RetV.none Tryz.results133) (⟨l, hpl, rfl, rfl⟩))
end
section
abbrev RwM := List (ByteArray × Int)
def rwNow (n : RwM) (x : LookS) : RwM := mput n x.name (if x.bad = true then mgetD n x.name 0 + 1 else 0)
def rwMost (n m : RwM) (x : LookS) : RwM := if x.bad = true then mput m x.name (max (mgetD m x.name 0) (mgetD n x.name 0 + 1)) else m
def rwS (l : List LookS) : RwM × RwM := l.foldl (fun s x => (rwNow s.1 x, rwMost s.1 s.2 x)) ([], [])
theorem rwS_take {l : List LookS} {q : Nat} (h : q < l.length) : rwS (l.take (q + 1)) = (rwNow (rwS (l.take q)).1 (l.getD q default), rwMost (rwS (l.take q)).1 (rwS (l.take q)).2 (l.getD q default)) := by
 have : l.take (q + 1) = l.take q ++ [l.getD q default] := by
  rw [List.take_succ_eq_append_getElem h]; simp [List.getD_eq_getElem?_getD, h]
 rw [this]; unfold rwS; rw [List.foldl_append]; rfl
theorem mgetD_nil {k : ByteArray} : mgetD ([] : RwM) k 0 = 0 := rfl
theorem rwS_bd {l : List LookS} : ∀ q, q ≤ l.length → ∀ k, (0 ≤ mgetD (rwS (l.take q)).1 k 0 ∧ mgetD (rwS (l.take q)).1 k 0 ≤ q) ∧ (0 ≤ mgetD (rwS (l.take q)).2 k 0 ∧ mgetD (rwS (l.take q)).2 k 0 ≤ q)
 | 0, _, k => by
  rw [List.take_zero]
  have : rwS [] = ([], []) := rfl
  rw [this]
  simp only [mgetD_nil]
  omega
 | q + 1, h, k => by
  have ih := rwS_bd (l := l) q (by omega)
  have hk := ih k
  have hx := ih (l.getD q default).name
  rw [rwS_take (by omega)]
  simp only
  constructor
  ·unfold rwNow
   rw [mgetD_mput]
   split
   ·split <;> omega
   ·omega
  ·unfold rwMost
   split
   ·rw [mgetD_mput]
    split
    ·omega
    ·omega
   ·omega
theorem rwS_nd : ∀ (l : List LookS) (s : RwM × RwM), (s.1.map (·.1)).Nodup → (s.2.map (·.1)).Nodup → ((l.foldl (fun s x => (rwNow s.1 x, rwMost s.1 s.2 x)) s).2.map (·.1)).Nodup
 | [], s, _, h => h
 | x :: l, s, h1, h2 => rwS_nd l _ (mput_nodup h1 _ _) (by
   show ((rwMost s.1 s.2 x).map (·.1)).Nodup
   unfold rwMost
   split
   ·exact mput_nodup h2 _ _
   ·exact h2)
theorem rwS_nodup (l : List LookS) : ((rwS l).2.map (·.1)).Nodup := rwS_nd l ([], []) List.nodup_nil List.nodup_nil
theorem rwS_sub : ∀ (l : List LookS) (s : RwM × RwM) (k : ByteArray), k ∈ (l.foldl (fun s x => (rwNow s.1 x, rwMost s.1 s.2 x)) s).2.map (·.1) → k ∈ s.2.map (·.1) ∨ k ∈ l.map (·.name)
 | [], s, k, h => .inl h
 | x :: l, s, k, h => by
  rcases rwS_sub l _ k h with h | h
  ·have h : k ∈ (rwMost s.1 s.2 x).map (·.1) := h
   unfold rwMost at h
   split at h
   ·rcases mput_mem.1 h with h | h
    ·exact .inl h
    ·exact .inr (by rw [h]; exact List.mem_cons_self ..)
   ·exact .inl h
  ·exact .inr (List.mem_cons_of_mem _ h)
theorem rwS_len {l : List LookS} {N : Nat} (h : (uK (l.map (·.name))).length ≤ N) : (rwS l).2.length ≤ N := by
 have h1 : ((rwS l).2.map (·.1)).length ≤ (uK (l.map (·.name))).length := (rwS_nodup l).length_le_of_subset fun k hk => by
  rw [uK_mem]
  rcases rwS_sub l ([], []) k hk with h | h
  ·cases h
  ·exact h
 rw [List.length_map] at h1; omega
def cRw (x y : NeedS) : Int := errsF [cmpI y.count x.count, cmpB x.key y.key]
abbrev ltRw (x y : NeedS) : Bool := decide (cRw x y < 0)
theorem cRw_lt (x y : NeedS) : cRw x y < 0 ↔ (y.count < x.count ∨ (y.count = x.count ∧ sLt x.key y.key = true)) := by
  have hb := cmpB_lt x.key y.key
  unfold cRw
  by_cases hc : cmpI y.count x.count = 0
  · have e : errsF [cmpI y.count x.count, cmpB x.key y.key] = cmpB x.key y.key := by
      by_cases h2 : cmpB x.key y.key = 0
      · rw [h2]
        exact errsF_none fun j hj => by
          match j, hj with
          | 0, _ => exact hc
          | 1, _ => rfl
      · exact errsF_at (q := 1) (by simp) (fun j hj => by obtain rfl : j = 0 := by omega
                                                          exact hc) h2
    rw [e, ← hb, decide_eq_true_eq]
    unfold cmpI at hc
    constructor
    · intro h; exact .inr ⟨by revert hc; split <;> (try split) <;> omega, h⟩
    · rintro (h | h)
      · exfalso; revert hc; rw [if_pos h]; omega
      · exact h.2
  · have e : errsF [cmpI y.count x.count, cmpB x.key y.key] = cmpI y.count x.count := errsF_at (q := 0) (by simp) (fun j hj => absurd hj (by omega)) hc
    rw [e]
    unfold cmpI at hc ⊢
    constructor
    · intro h; exact .inl (by revert h; split <;> (try split) <;> omega)
    · rintro (h | h)
      · rw [if_pos h]; omega
      · exfalso; apply hc; rw [if_neg (by omega), if_neg (by omega)]
theorem ltRw_iff {x y : NeedS} : ltRw x y = true ↔ (y.count < x.count ∨ (y.count = x.count ∧ sLt x.key y.key = true)) := by rw [decide_eq_true_eq]; exact cRw_lt x y
theorem ltRw_trans {a b d : NeedS} (h1 : ltRw a b = true) (h2 : ltRw b d = true) : ltRw a d = true := by
 rw [ltRw_iff] at *
 rcases h1 with h1 | ⟨h1, k1⟩ <;> rcases h2 with h2 | ⟨h2, k2⟩
 ·exact .inl (by omega)
 ·exact .inl (by omega)
 ·exact .inl (by omega)
 ·exact .inr ⟨by omega, sLt_trans k1 k2⟩
theorem ltRw_as {a b : NeedS} (h : ltRw a b = true) : ltRw b a = false := by
 rw [Bool.eq_false_iff]
 intro h2
 have h3 := ltRw_iff.1 (ltRw_trans h h2)
 rcases h3 with h3 | ⟨_, h3⟩
 ·omega
 ·rw [sLt_irr] at h3; cases h3
theorem ltRw_tot {a b : NeedS} (hne : a ≠ b) (h : ltRw a b = false) : ltRw b a = true := by
 rw [Bool.eq_false_iff] at h
 rw [ltRw_iff]
 have h1 : ¬ _ := fun e => h (ltRw_iff.2 e)
 rcases Int.lt_trichotomy a.count b.count with k | k | k
 ·exact .inl k
 ·refine .inr ⟨k, ?_⟩
  have h2 : sLt a.key b.key = false := Bool.eq_false_iff.2 fun e => h1 (.inr ⟨k.symm, e⟩)
  refine sLt_total h2 fun e => hne ?_
  cases a; cases b
  simp only at e k
  subst e; subst k; rfl
 ·exact absurd (.inl k) h1
theorem ltRw_neg {a b d : NeedS} (h1 : ltRw b a = false) (h2 : ltRw d b = false) : ltRw d a = false := by
 by_cases e1 : a = b
 ·subst e1; exact h2
 ·by_cases e2 : b = d
  ·subst e2; exact h1
  ·exact ltRw_as (ltRw_trans (ltRw_tot (Ne.symm e1) h1) (ltRw_tot (Ne.symm e2) h2))
def rowsU (m : RwM) (n : Int) : List NeedS := (m.map ndOf).filter fun x => decide (n ≤ x.count)
def rowsR (m : RwM) (n : Int) : List NeedS := (rowsU m n).mergeSort fun x y => !ltRw y x
theorem rowsR_perm (m : RwM) (n : Int) : (rowsR m n).Perm (rowsU m n) := List.mergeSort_perm _ _
theorem rowsR_ord (m : RwM) (n : Int) : OrdL ltRw (rowsR m n) := by
 have h := List.pairwise_mergeSort (le := fun x y => !ltRw y x) (fun a b c h1 h2 => by
  simp only [Bool.not_eq_true'] at *
  exact ltRw_neg h1 h2) (fun a b => by
  cases h : ltRw b a
  ·rfl
  ·rw [ltRw_as h]; rfl) (rowsU m n)
 exact h.imp fun {a b} hab => by simpa using hab
theorem rowsU_nodup {m : RwM} {n : Int} (h : (m.map (·.1)).Nodup) : (rowsU m n).Nodup := by
 have : (m.map ndOf).Nodup := by
  have h2 : ((m.map ndOf).map (·.key)).Nodup := by rw [List.map_map]; exact h
  exact (List.pairwise_map.1 h2).imp fun hne e => hne (congrArg _ e)
 exact this.sublist List.filter_sublist
def pickR (m : RwM) (n : Int) (seen : List Nat) : List NeedS := (pickN m seen).filter fun x => decide (n ≤ x.count)
theorem pickR_yes {m : RwM} {n : Int} {j : Nat} {seen : List Nat} (h : n ≤ (m.getD j default).2) : pickR m n (j :: seen) = pickR m n seen ++ [ndOf (m.getD j default)] := by
 unfold pickR; rw [pickN_cons, List.filter_append, List.filter_cons, if_pos (by exact decide_eq_true h)]; rfl
theorem pickR_no {m : RwM} {n : Int} {j : Nat} {seen : List Nat} (h : ¬ n ≤ (m.getD j default).2) : pickR m n (j :: seen) = pickR m n seen := by
 unfold pickR; rw [pickN_cons, List.filter_append, List.filter_cons, if_neg (by intro e; exact h (of_decide_eq_true e)), List.filter_nil, List.append_nil]
theorem pickR_len (m : RwM) (n : Int) (seen : List Nat) : (pickR m n seen).length ≤ seen.length := by
 have := List.length_filter_le (fun x : NeedS => decide (n ≤ x.count)) (pickN m seen)
 rw [pickN_len] at this; exact this
theorem rowsR_one {m : RwM} {n : Int} {seen : List Nat} {r : List NeedS} (h : (m.map (·.1)).Nodup) (hd : seen.Nodup) (hs : ∀ j ∈ seen, j < m.length) (ha : ∀ j, j < m.length → j ∈ seen) (hr : r.Perm (pickR m n seen)) (ho : OrdL ltRw r) : rowsR m n = r := by
 have hp : (pickR m n seen).Perm (rowsU m n) := (pickN_perm hd hs ha).filter _
 exact ord_unique ((rowsR_perm m n).trans (hp.symm.trans hr.symm)) ((rowsR_perm m n).nodup_iff.2 (rowsU_nodup h)) (fun a _ b _ hne h => ltRw_tot hne h) (rowsR_ord m n) ho
def rwOut (r : List NeedS) : List PairS := r.map fun x => ⟨x.key, decB x.count.toNat⟩
end
section
section
variable {κ α : Type}
abbrev mapX (kv : κ → Value) (g : Nat) (E : α → AV) (l : List (κ × α × Nat)) (clk : Nat) : Ent := .mp g (l.map fun p => (kv p.1, E p.2.1, p.2.2)) clk
def stampL : List (κ × α) → Nat → List (κ × α × Nat)
 | [], _ => []
 | p :: r, i => (p.1, p.2, i) :: stampL r (i + 1)
theorem mE_stamp {kv : κ → Value} {E : α → AV} : ∀ (l : List (κ × α)) (i : Nat), mE kv E l i = (stampL l i).map fun p => (kv p.1, E p.2.1, p.2.2)
 | [], _ => rfl
 | p :: r, i => by simp only [mE, stampL, List.map_cons, mE_stamp r (i + 1)]
theorem mapE_X {kv : κ → Value} {E : α → AV} {g : Nat} (l : List (κ × α)) : mapE kv g E l = mapX kv g E (stampL l 0) l.length := by
 unfold mapE mapX; rw [mE_stamp]
theorem stampL_born : ∀ (l : List (κ × α)) (i : Nat), (stampL l i).map (·.2.2) = List.range' i l.length
 | [], _ => rfl
 | p :: r, i => by simp [stampL, stampL_born r (i + 1), List.range'_succ]
theorem stampL_keys : ∀ (l : List (κ × α)) (i : Nat), (stampL l i).map (·.1) = l.map (·.1)
 | [], _ => rfl
 | p :: r, i => by simp [stampL, stampL_keys r (i + 1)]
theorem stampL_filter (q : κ → α → Bool) : ∀ (l : List (κ × α)) (i : Nat), ((stampL l i).filter fun p => q p.1 p.2.1).map (fun p => (p.1, p.2.1)) = l.filter fun p => q p.1 p.2
 | [], _ => rfl
 | p :: r, i => by
  rw [stampL, List.filter_cons, List.filter_cons]
  cases h : q p.1 p.2 <;> simp [stampL_filter q r (i + 1)]
end
section
variable {κ α : Type} {P : Program} {B : Bs} {W : Nat → Prop} {s : St'} {o : Oper} {K : St' → Prop} {kv : κ → Value} {E : α → AV} {w : World} {a : Act}
theorem EntR.toX {g clk : Nat} {l : List (κ × α × Nat)} {Z : Nat → Prop} (h : EntR w Z (mapX kv g E l clk)) : ∃ c : Array MapEntry, w.heap[g]? = some (.map c clk) ∧ c.size = l.length ∧ (l.map (·.2.2)).Nodup ∧ ∀ j (hj : j < l.length), (c[j]!).key = kv (l[j]).1 ∧ (c[j]!).born = (l[j]).2.2 ∧ (l[j]).2.2 < clk ∧ Rep w Z (E (l[j]).2.1) (c[j]!).val := by
 obtain ⟨c, h1, h2, h3, h4⟩ := h
 refine ⟨c, h1, by simpa using h2, by simpa [Function.comp_def] using h3, fun j hj => ?_⟩
 have := h4 j (by simpa using hj)
 simpa using this
theorem EntR.ofX {g clk : Nat} {l : List (κ × α × Nat)} {Z : Nat → Prop} {c : Array MapEntry} (h1 : w.heap[g]? = some (.map c clk)) (h2 : c.size = l.length) (h3 : (l.map (·.2.2)).Nodup) (h4 : ∀ j (hj : j < l.length), (c[j]!).key = kv (l[j]).1 ∧ (c[j]!).born = (l[j]).2.2 ∧ (l[j]).2.2 < clk ∧ Rep w Z (E (l[j]).2.1) (c[j]!).val) : EntR w Z (mapX kv g E l clk) := by
 refine ⟨c, h1, by simpa using h2, by simpa [Function.comp_def] using h3, fun j hj => ?_⟩
 have := h4 j (by simpa using hj)
 simpa using this
theorem OpE.rangeO {t kt e : TypeId} {x : Operand} {m i clk : Nat} {l : List (κ × α × Nat)} (ho : o.op = .range t x) (hB : B.Ok) (hd : okd B.nt o.dst = true) (hu : P.underlying t = some (.map kt e)) (hx : evO s x = some (.v (.map (some m)))) (hi : s.hp[i]? = some (mapX kv m E l clk))
  (hK : ∀ g, K ((St'.mk s.sl (s.hp ++ [.ob g (.mapIter (some m) clk #[] clk)]) s.k).put o.dst (.v (.pointer (some ⟨g, 0, none⟩))))) : OpE P B W s o K := by
 intro a w hr next Qx hn
 have hm := List.mem_of_getElem? hi
 obtain ⟨c, h1, _⟩ := EntR.toX (hr.blocks _ hm)
 have h2 := hr.new hB (.mapIter (some m) clk #[] clk) (.ob w.heap.size (.mapIter (some m) clk #[] clk)) rfl (heap_alloc_new w _)
 have hrun : (execOp a.eval o).run P w = .ok (.value (.pointer (some ⟨w.heap.size, 0, none⟩))) (w.alloc (.mapIter (some m) clk #[] clk)) := by
  have hxe : a.eval x = _ := (hr.ev hx).eq_v
  simp [execOp, ho, hxe, run_range_map w t kt e m c clk hu h1]
 unfold Oper.wp
 rw [hrun]
 exact hn _ _ _ (hK _) (h2.put _ hd _ _ (.v _)) (.ofN ((Chg.refl _ _).alloc _))
theorem OpE.rangeE {t kt e : TypeId} {x : Operand} {m i : Nat} {l : List (κ × α)} (ho : o.op = .range t x) (hB : B.Ok) (hd : okd B.nt o.dst = true) (hu : P.underlying t = some (.map kt e)) (hx : evO s x = some (.v (.map (some m)))) (hi : s.hp[i]? = some (mapE kv m E l))
  (hK : ∀ g, K ((St'.mk s.sl (s.hp ++ [.ob g (.mapIter (some m) l.length #[] l.length)]) s.k).put o.dst (.v (.pointer (some ⟨g, 0, none⟩))))) : OpE P B W s o K :=
 OpE.rangeO ho hB hd hu hx (by rw [← mapE_X]; exact hi) hK
theorem OpE.nextO {x : Operand} {g m i k clk : Nat} {sb : Array Nat} {l : List (κ × α × Nat)} (ho : o.op = .next x false) (hB : B.Ok) (hd : okd B.nt o.dst = true) (hx : evO s x = some (.v (.pointer (some ⟨g, 0, none⟩)))) (hi : s.hp[i]? = some (.ob g (.mapIter (some m) clk sb clk))) (hk : s.hp[k]? = some (mapX kv m E l clk)) (hW : W g)
  (h0 : (∀ j (h : j < l.length), sb.contains (l[j]).2.2 = true) → K (s.put o.dst (.tup [avB false])))
  (h1 : ∀ j (h : j < l.length), sb.contains (l[j]).2.2 = false → K ((St'.mk s.sl (s.hp.set i (.ob g (.mapIter (some m) clk (sb.push (l[j]).2.2) clk))) s.k).put o.dst (.tup [avB true, .v (kv (l[j]).1), E (l[j]).2.1]))) : OpE P B W s o K := by
 intro a w hr next Qx hn
 have hm := List.mem_of_getElem? hi
 have hmk := List.mem_of_getElem? hk
 have hg : w.heap[g]? = _ := hr.blocks _ hm
 obtain ⟨c, hc, hcs, hnd, hce⟩ := EntR.toX (hr.blocks _ hmk)
 have hxe : a.eval x = _ := (hr.ev hx).eq_v
 have hold : ∀ x ∈ c.toList, x.born < clk := fun x hx => by
  obtain ⟨j, hj, rfl⟩ := List.getElem_of_mem hx
  have hj' : j < c.size := by simpa using hj
  have := hce j (by omega)
  rw [getElem!_pos c j hj'] at this
  have h2 : (c.toList[j]).born = _ := this.2.1
  rw [h2]; exact this.2.2.1
 unfold Oper.wp
 rcases run_next_it (P := P) w o.type m g clk sb c hg hc hold with ⟨hz, hrun⟩ | ⟨e, he, w1, hw1, hrun⟩
 ·have hex : (execOp a.eval o).run P w = .ok (.value (.tuple #[.bool false])) w := by simp [execOp, ho, hxe, hrun]
  rw [hex]
  refine hn _ _ _ (h0 fun j hj => ?_) (hr.put _ hd _ _ (.tup _ _ rfl fun q hq => ?_)) (.ofN (Chg.refl _ _))
  ·by_cases hb : sb.contains (l[j]).2.2 = true
   ·exact hb
   ·exfalso
    have hjc : j < c.size := by omega
    have : c[j]! ∈ leftOf c sb := by
     unfold leftOf
     rw [Array.mem_filter]
     refine ⟨by rw [getElem!_pos c j hjc]; exact Array.getElem_mem hjc, by rw [(hce j hj).2.1]; rw [Bool.not_eq_true] at hb; rw [hb]; rfl⟩
    have := Array.size_pos_of_mem this
    omega
  ·simp at hq; subst hq; exact .v _
 ·obtain ⟨he1, he2⟩ := mem_left he
  obtain ⟨j, hj, rfl⟩ := List.getElem_of_mem he1
  have hjc : j < c.size := by simpa using hj
  have hjn : j < l.length := by omega
  have hej : c.toList[j] = c[j]! := by rw [getElem!_pos c j hjc]; simp
  rw [hej, (hce j hjn).2.1] at hrun he2
  have hgl : g < w.heap.size := hr.lt _ hm g rfl
  generalize hw2 : ({ w1 with heap := w1.heap.setIfInBounds g (.mapIter (some m) clk (sb.push (l[j]).2.2) clk) } : World) = w2 at hrun
  have hch : Chg (fun b => b = g) w w2 := by
   subst hw2
   rcases hw1 with rfl | rfl
   ·exact ⟨rfl, rfl, rfl, by simp, fun b hb hne => by simp [Array.getElem?_setIfInBounds]; intro e; exact absurd e.symm hne⟩
   ·exact ⟨rfl, rfl, rfl, by show w.heap.size ≤ (w.heap.setIfInBounds g _).size; simp, fun b hb hne => by show (w.heap.setIfInBounds g _)[b]? = w.heap[b]?; rw [Array.getElem?_setIfInBounds_ne (Ne.symm hne)]⟩
  have hg2 : w2.heap[g]? = some (.mapIter (some m) clk (sb.push (l[j]).2.2) clk) := by
   subst hw2
   rcases hw1 with rfl | rfl
   ·simp [hgl]
   ·show (w.heap.setIfInBounds g _)[g]? = _
    simp [hgl]
  have hz : ∀ b, Zn B s.hp w b → w2.heap[b]? = w.heap[b]? ∧ Zn B (s.hp.set i (.ob g (.mapIter (some m) clk (sb.push (l[j]).2.2) clk))) w2 b := fun b hb => by
   have hbg : b ≠ g := fun e => by subst e; exact hb.2.1 _ hm rfl
   refine ⟨hch.block b hb.1 hbg, Nat.lt_of_lt_of_le hb.1 hch.size, fun p hp hpb => ?_, hb.2.2⟩
   rcases List.mem_or_eq_of_mem_set hp with h | h
   ·exact hb.2.1 p h hpb
   ·subst h; exact hb.2.1 _ hm hpb
  have hex : (execOp a.eval o).run P w = .ok (.value (.tuple #[.bool true, (c[j]!).key, (c[j]!).val])) w2 := by simp [execOp, ho, hxe, hrun]
  rw [hex]
  have h2 := hr.set hB (e' := .ob g (.mapIter (some m) clk (sb.push (l[j]).2.2) clk)) hi (hch.mono fun b _ hb => by subst hb; rfl) (.inl rfl) hg2
  refine hn _ _ _ (h1 j hjn he2) (h2.put _ hd _ _ (.tup _ _ rfl fun q hq => ?_)) (hch.mono fun b _ hb => by subst hb; exact .inr hW)
  match q, hq with
  | 0, _ => exact .v _
  | 1, _ => show Rep _ _ (.v (kv (l[j]).1)) (c[j]!).key; rw [(hce j hjn).1]; exact .v _
  | 2, _ => exact (hce j hjn).2.2.2.keep fun b hb _ => hz b hb
theorem OpV.entryO {x : Operand} {g m i k clk j : Nat} {sb : Array Nat} {l : List (κ × α × Nat)} (ho : o.op = .entry x) (hB : B.Ok) (hx : evO s x = some (.v (.pointer (some ⟨g, 0, none⟩)))) (hj : j < l.length) (hi : s.hp[i]? = some (.ob g (.mapIter (some m) clk (sb.push (l[j]).2.2) clk))) (hk : s.hp[k]? = some (mapX kv m E l clk)) (hW : ¬ W g) (hW2 : ¬ W m) : OpV P B W s o (.tup [.v (kv (l[j]).1), E (l[j]).2.1]) := by
 intro a w hr
 have hm := List.mem_of_getElem? hi
 have hmk := List.mem_of_getElem? hk
 have hg : w.heap[g]? = _ := hr.blocks _ hm
 obtain ⟨c, hc, hcs, hnd, hce⟩ := EntR.toX (hr.blocks _ hmk)
 have hxe : a.eval x = _ := (hr.ev hx).eq_v
 have hjc : j < c.size := by omega
 refine ⟨.tuple #[(c[j]!).key, (c[j]!).val], fun w' hcw => ?_, .tup _ _ rfl fun q hq => ?_⟩
 ·have hg' : w'.heap[g]? = _ := (hcw.block g (hr.lt _ hm g rfl) fun h => h.elim (hr.notStr hB hm rfl) hW).trans hg
  have hm' : w'.heap[m]? = _ := (hcw.block m (hr.lt _ hmk m rfl) fun h => h.elim (hr.notStr hB hmk rfl) hW2).trans hc
  have hbn : (c.toList.map (·.born)).Nodup := by
   have : c.toList.map (·.born) = l.map (·.2.2) := by
    apply List.ext_getElem (by simp [hcs])
    intro q h1 h2
    have hq : q < l.length := by simpa using h2
    have := (hce q hq).2.1
    rw [getElem!_pos c q (by omega)] at this
    simpa using this
   rw [this]; exact hnd
  have := run_entry_it (P := P) w' m g clk (sb.push (l[j]).2.2) c (c[j]!) hg' hm' (by rw [getElem!_pos c j hjc]; simp) hbn (by rw [(hce j hj).2.1]; simp)
  simp [execOp, ho, hxe, this]
 ·match q, hq with
  | 0, _ => show Rep _ _ (.v (kv (l[j]).1)) (c[j]!).key; rw [(hce j hj).1]; exact .v _
  | 1, _ => exact (hce j hj).2.2.2
theorem OpE.deleteO [DecidableEq κ] {x y : Operand} {T T2 kt e m i clk : Nat} {k : κ} {l : List (κ × α × Nat)} (ho : o.op = .call { callee := .builtin .delete, args := #[x, y], argTypes := #[T, T2] }) (hB : B.Ok) (hd : okd B.nt o.dst = true) (hu : P.underlying T = some (.map kt e)) (hko : KeyOk P kt kv)
  (hx : evO s x = some (.v (.map (some m)))) (hy : evO s y = some (.v (kv k))) (hi : s.hp[i]? = some (mapX kv m E l clk)) (hp : mpos l k < l.length) (hW : W m)
  (hK : K ((St'.mk s.sl (s.hp.set i (mapX kv m E (l.eraseIdx (mpos l k)) clk)) s.k).put o.dst (.v (.tuple #[])))) : OpE P B W s o K := by
 intro a w hr next Qx hn
 have hm := List.mem_of_getElem? hi
 obtain ⟨c, hc, hcs, hnd, hce⟩ := EntR.toX (hr.blocks _ hm)
 have hf := hko.find l c.toList k w (by simpa using hcs) (fun j hj => ⟨c[j]!, by rw [Array.getElem?_toList, getElem!_pos c j (by omega)]; exact Array.getElem?_eq_getElem _, (hce j hj).1⟩)
 rw [if_pos hp, Array.getElem?_toList, Array.getElem?_eq_getElem (by omega)] at hf
 have hgl : m < w.heap.size := (Array.getElem?_eq_some_iff.1 hc).1
 have hrun : (execOp a.eval o).run P w = .ok (.value (.tuple #[])) (w.setMp m (c.eraseIdxIfInBounds (mpos l k)) clk) := by
  simp [execOp, ho, resolve, invoke, builtin, Builtin.delete_, run_underlying hu, hr.evv hx, hr.evv hy, getMap hc, hko.check, hf, putMap _ _ hc, World.setMp]
 have hel : ∀ j, j < (l.eraseIdx (mpos l k)).length → ∃ q, ∃ hq : q < l.length, (l.eraseIdx (mpos l k))[j]? = some l[q] ∧ (c.eraseIdxIfInBounds (mpos l k))[j]! = c[q]! := fun j hj => by
  rw [List.length_eraseIdx_of_lt hp] at hj
  refine ⟨if j < mpos l k then j else j + 1, by split <;> omega, ?_, ?_⟩
  ·rw [List.getElem?_eraseIdx]
   split
   ·exact List.getElem?_eq_getElem (by omega)
   ·exact List.getElem?_eq_getElem (by omega)
  ·have hpc : mpos l k < c.size := by omega
   rw [Array.eraseIdxIfInBounds_eq, dif_pos hpc, getElem!_pos _ j (by simp; omega), getElem!_pos c _ (by split <;> omega), Array.getElem_eraseIdx]
   split <;> rfl
 have hr' := hr.set hB (e' := mapX kv m E (l.eraseIdx (mpos l k)) clk) hi (chg_setMp w m (c.eraseIdxIfInBounds (mpos l k)) clk) (.inl rfl) (EntR.ofX (setMp_heap w m c _ _ _ hc) (by
   rw [List.length_eraseIdx_of_lt hp, Array.eraseIdxIfInBounds_eq, dif_pos (by omega)]; simp [hcs]) (hnd.sublist ((List.eraseIdx_sublist _ _).map _)) fun j hj => by
  obtain ⟨q, hq, e1, e2⟩ := hel j hj
  have e3 : (l.eraseIdx (mpos l k))[j] = l[q] := by
   rw [List.getElem?_eq_getElem hj] at e1; exact Option.some.inj e1
  rw [e2, e3]
  obtain ⟨k1, k2, k3, k4⟩ := hce q hq
  refine ⟨k1, k2, k3, k4.keep fun b hb hbl => ⟨setMp_other w m b _ _ fun e => hb.2.1 _ hm (by rw [e]; rfl), by simp [World.setMp]; exact hbl, fun p hp => ?_, hb.2.2⟩⟩
  rcases List.mem_or_eq_of_mem_set hp with hp | hp
  ·exact hb.2.1 p hp
  ·subst hp; exact hb.2.1 (mapX kv m E l clk) hm)
 unfold Oper.wp
 rw [hrun]
 exact hn _ _ _ hK (hr'.put _ hd _ _ (.v _)) ((chg_setMp w m _ _).mono fun b _ h => .inr (by cases h; exact hW))
end
end
section
section
variable {κ α : Type} {pd : κ → α → Bool} {l : List (κ × α)} {sb : Array Nat}
def delX (pd : κ → α → Bool) (l : List (κ × α)) (sb : Array Nat) : List (κ × α × Nat) := (stampL l 0).filter fun p => !(sb.contains p.2.2 && pd p.1 p.2.1)
def delN (l : List (κ × α)) (sb : Array Nat) : Nat := ((stampL l 0).filter fun p => !sb.contains p.2.2).length
theorem stampL_mem : ∀ (l : List (κ × α)) (i : Nat) {p : κ × α × Nat}, p ∈ stampL l i → (p.1, p.2.1) ∈ l
 | [], _, p, h => by simp [stampL] at h
 | q :: r, i, p, h => by
  rw [stampL, List.mem_cons] at h
  rcases h with rfl | h
  ·exact List.mem_cons_self ..
  ·exact List.mem_cons_of_mem _ (stampL_mem r (i + 1) h)
theorem nodup_inj {β γ : Type} {f : β → γ} {x : List β} (h : (x.map f).Nodup) {a b : β} (ha : a ∈ x) (hb : b ∈ x) (e : f a = f b) : a = b := by
 obtain ⟨i, hi, rfl⟩ := List.getElem_of_mem ha
 obtain ⟨j, hj, rfl⟩ := List.getElem_of_mem hb
 have n := List.pairwise_iff_getElem.1 h
 rcases Nat.lt_trichotomy i j with k | k | k
 ·exact absurd (by rw [List.getElem_map, List.getElem_map]; exact e) (n i j (by simpa using hi) (by simpa using hj) k)
 ·subst k; rfl
 ·exact absurd (by rw [List.getElem_map, List.getElem_map]; exact e.symm) (n j i (by simpa using hj) (by simpa using hi) k)
theorem stampL_bnd : ((stampL l 0).map (·.2.2)).Nodup := by rw [stampL_born]; exact List.nodup_range'
theorem delX_0 : delX pd l #[] = stampL l 0 := List.filter_eq_self.2 fun p _ => by simp
theorem delX_in {p : κ × α × Nat} (h : p ∈ delX pd l sb) : p ∈ stampL l 0 := (List.mem_filter.1 h).1
theorem push_has (sb : Array Nat) (b x : Nat) : (sb.push b).contains x = (sb.contains x || x == b) := by
 rw [Bool.eq_iff_iff]; simp
theorem delX_no {p : κ × α × Nat} (h : p ∈ delX pd l sb) (hp : pd p.1 p.2.1 = false) : delX pd l (sb.push p.2.2) = delX pd l sb := List.filter_congr fun q hq => by
 rw [push_has]
 by_cases e : q.2.2 = p.2.2
 ·have : q = p := nodup_inj stampL_bnd hq (delX_in h) e
  subst this; simp [hp]
 ·have : (q.2.2 == p.2.2) = false := by simpa using e
  rw [this, Bool.or_false]
theorem erase_filter {β γ : Type} [DecidableEq γ] {f : β → γ} : ∀ (x : List β) (h : (x.map f).Nodup) (j : Nat) (hj : j < x.length), x.eraseIdx j = x.filter fun q => !decide (f q = f x[j])
 | [], _, j, hj => by simp at hj
 | a :: x, h, 0, _ => by
  rw [List.map_cons, List.nodup_cons] at h
  rw [List.eraseIdx_cons_zero, List.filter_cons]
  simp only [List.getElem_cons_zero, decide_true, Bool.not_true, Bool.false_eq_true, if_false]
  exact (List.filter_eq_self.2 fun q hq => by
   have : f q ≠ f a := fun e => h.1 (e ▸ List.mem_map_of_mem hq)
   simp [this]).symm
 | a :: x, h, j + 1, hj => by
  rw [List.map_cons, List.nodup_cons] at h
  have hj' : j < x.length := by simpa using hj
  have : f a ≠ f x[j] := fun e => h.1 (e ▸ List.mem_map_of_mem (List.getElem_mem hj'))
  rw [List.eraseIdx_cons_succ, List.filter_cons, erase_filter x h.2 j hj']
  simp [this]
theorem delX_yes {j : Nat} (hj : j < (delX pd l sb).length) (hp : pd ((delX pd l sb)[j]).1 ((delX pd l sb)[j]).2.1 = true) : delX pd l (sb.push ((delX pd l sb)[j]).2.2) = (delX pd l sb).eraseIdx j := by
 have hm := List.getElem_mem hj
 have hnd : ((delX pd l sb).map (·.2.2)).Nodup := stampL_bnd.sublist (List.filter_sublist.map _)
 rw [erase_filter (f := fun p => p.2.2) _ hnd j hj]
 generalize (delX pd l sb)[j] = p at hm hp
 conv => rhs; unfold delX
 rw [List.filter_filter]
 refine List.filter_congr fun q hq => ?_
 rw [push_has]
 by_cases e : q.2.2 = p.2.2
 ·have : q = p := nodup_inj stampL_bnd hq (delX_in hm) e
  subst this; simp [hp]
 ·have : (q.2.2 == p.2.2) = false := by simpa using e
  rw [this, Bool.or_false]; simp [e]
theorem mpos_nodup [DecidableEq κ] {β : Type} : ∀ (x : List (κ × β)) (h : (x.map (·.1)).Nodup) (j : Nat) (hj : j < x.length), mpos x (x[j]).1 = j
 | [], _, j, hj => by simp at hj
 | a :: x, h, 0, _ => by simp [mpos]
 | a :: x, h, j + 1, hj => by
  rw [List.map_cons, List.nodup_cons] at h
  have hj' : j < x.length := by simpa using hj
  have : (x[j]).1 ≠ a.1 := fun e => h.1 (e ▸ List.mem_map_of_mem (List.getElem_mem hj'))
  simp only [List.getElem_cons_succ, mpos, if_neg this]
  rw [mpos_nodup x h.2 j hj']
theorem delX_keys (h : (l.map (·.1)).Nodup) : ((delX pd l sb).map (·.1)).Nodup := by
 rw [← stampL_keys l 0] at h
 exact h.sublist (List.filter_sublist.map _)
theorem delX_end (h : ∀ j (hj : j < (delX pd l sb).length), sb.contains ((delX pd l sb)[j]).2.2 = true) : ((delX pd l sb).map fun p => (p.1, p.2.1)) = l.filter fun p => !pd p.1 p.2 := by
 rw [← stampL_filter (fun k x => !pd k x) l 0]
 congr 1
 refine List.filter_congr fun q hq => ?_
 cases hp : pd q.1 q.2.1
 ·simp
 ·cases hc : sb.contains q.2.2
  ·have hm : q ∈ delX pd l sb := List.mem_filter.2 ⟨hq, by rw [hc]; rfl⟩
   obtain ⟨j, hj, e⟩ := List.getElem_of_mem hm
   have := h j hj
   rw [e, hc] at this; cases this
  ·rfl
theorem delN_lt {p : κ × α × Nat} (h : p ∈ stampL l 0) (hc : sb.contains p.2.2 = false) : delN l (sb.push p.2.2) < delN l sb := by
 unfold delN
 have e : ((stampL l 0).filter fun q => !(sb.push p.2.2).contains q.2.2) = ((stampL l 0).filter fun q => !sb.contains q.2.2).filter fun q => !decide (q.2.2 = p.2.2) := by
  rw [List.filter_filter]
  refine List.filter_congr fun q _ => ?_
  rw [push_has]
  by_cases e : q.2.2 = p.2.2 <;> simp [e]
 rw [e]
 have hm : p ∈ (stampL l 0).filter fun q => !sb.contains q.2.2 := List.mem_filter.2 ⟨h, by rw [hc]; rfl⟩
 exact List.length_filter_lt_length_iff_exists.2 ⟨p, hm, by simp⟩
end
theorem maps_DeleteFunc_sh {l : List (ByteArray × ShS)} {g : Nat} {F : FuncId} {cs : List AV} {pd : ByteArray → ShS → Bool} (hk : (l.map (·.1)).Nodup) (hcall : ∀ us w, (callFunc F us).run Tryz.prog w = .ok (.enter F us) w) (hF : ∀ p ∈ l, Spec Tryz.prog F ([avS p.1, eSh p.2] ++ cs) (fun y => y = avB (pd p.1 p.2))) :
  SpecH Tryz.prog 138 [.v (.map (some g)), .fn F cs] [mapE kvS g eSh l] (fun y hp' => y = .tup [] ∧ ∃ l', (l'.map fun p => (p.1, p.2.1)) = l.filter (fun p => !pd p.1 p.2) ∧ hp' = [mapX kvS g eSh l' l.length]) := by
 refine SpecH.of_VC Tryz.func138 rfl Tryz.ntmps138 (Nle rfl) fun w A hB => ?_
 refine VC.sr ?_
 refine VO.mv rfl rfl rfl rfl ?_
 refine VO.op rfl (OpE.rangeE (i := 0) rfl hB rfl Tryz.underlying238 rfl rfl ?_)
 intro g7
 refine VO.nil ?_
 refine VC.block ?_
 refine VC.loopK [(0, _), (1, _), (7, _)] ⟨rfl, rfl, rfl, trivial⟩ ({sb : Array Nat // True}) (fun (iZ : {sb : Array Nat // True}) => match iZ with | ⟨sb, hsb⟩ => []) (fun (iZ : {sb : Array Nat // True}) => match iZ with | ⟨sb, hsb⟩ => [mapX kvS g eSh (delX pd l sb) l.length, .ob g7 (.mapIter (some g) l.length sb l.length)]) (fun (iZ : {sb : Array Nat // True}) => match iZ with | ⟨sb, hsb⟩ => 0) (fun (iZ : {sb : Array Nat // True}) => match iZ with | ⟨sb, hsb⟩ => delN l sb) ⟨#[], trivial⟩ (Le.mk hB [0, 1] ⟨rfl, rfl, rfl, trivial⟩ rfl (by dsimp only; rw [mapE_X, ← delX_0 (pd := pd)]; rfl) (Nat.le_refl _)) ?_
 rintro ⟨sb, hsb⟩
 show VC _ _ _ _ ⟨[] ++ [(0, _), (1, _), (7, _)], [mapX kvS g eSh (delX pd l sb) l.length, .ob g7 (.mapIter (some g) l.length sb l.length)], 0⟩
 have hkx := delX_keys (pd := pd) (sb := sb) hk
 refine VC.sr ?_
 refine VO.op rfl (OpE.nextO (i := 1) (k := 0) rfl hB rfl rfl rfl rfl trivial ?_ ?_)
 ·intro hall8
  refine VO.le _ (Le.pickH [0] rfl rfl) ?_
  refine VO.val rfl rfl (OpV.extract rfl rfl rfl) ?_
  refine VO.nil ?_
  refine VC.seq ?_
  refine VC.condF rfl rfl ?_
  refine VC.exit ?_
  exact Exists.intro _ (And.intro (RetV.none Tryz.results138) (⟨rfl, _, delX_end hall8, rfl⟩))
 ·intro j8 hj8 hn8
  have hm8 := List.getElem_mem hj8
  have hlt8 := delN_lt (delX_in hm8) hn8
  have hmp := mpos_nodup _ hkx j8 hj8
  refine VO.val rfl rfl (OpV.extract rfl rfl rfl) ?_
  refine VO.nil ?_
  refine VC.seq ?_
  refine VC.condT rfl rfl ?_
  refine VC.skip ?_
  refine VC.block ?_
  refine VC.sr ?_
  refine VO.val rfl rfl (OpV.entryO (i := 1) (k := 0) rfl hB rfl hj8 rfl rfl (fun h => h) (fun h => h)) ?_
  refine VO.val rfl rfl (OpV.extract rfl rfl rfl) ?_
  refine VO.val rfl rfl (OpV.extract rfl rfl rfl) ?_
  refine VO.op rfl (OpE.alloc rfl hB rfl Tryz.zeroValue243 rfl ?_)
  intro g5
  refine VO.ma rfl rfl rfl rfl ?_
  refine VO.op rfl (OpE.store (i := 2) rfl hB rfl Tryz.sizeOf243 rfl rfl rfl rfl rfl rfl (Nle rfl) trivial ?_)
  refine VO.nil ?_
  refine VC.sr ?_
  refine VO.mv rfl rfl rfl rfl ?_
  refine VO.mv rfl rfl rfl rfl ?_
  refine VO.val rfl rfl (OpV.loadK_own (i := 2) rfl hB Tryz.isAgg243 Tryz.sizeOf243 rfl rfl rfl (fun h => h)) ?_
  refine VO.op rfl (OpE.callF rfl hB rfl hcall rfl rfl (hF _ (stampL_mem l 0 (delX_in hm8))) ?_)
  rintro _ rfl
  refine VO.nil ?_
  refine VC.cond rfl (fun h1b => ?_) (fun h1b => ?_)
  ·have h1 := h1b
   try simp only [qq] at h1
   refine VC.region ?_
   refine VO.mv rfl rfl rfl rfl ?_
   refine VO.mv rfl rfl rfl rfl ?_
   refine VO.op rfl (OpE.deleteO (i := 0) rfl hB rfl Tryz.underlying238 (KeyOk.str Tryz.underlying9) rfl rfl rfl (by rw [hmp]; exact hj8) trivial ?_)
   refine VO.nil ?_
   exact Exists.intro (⟨sb.push ((delX pd l sb)[j8]).2.2, trivial⟩) (And.intro (Le.mk hB [0, 1] ⟨rfl, rfl, rfl, trivial⟩ rfl (by dsimp only; first | (rw [delX_yes hj8 h1, hmp]; rfl) | (rw [delX_no hm8 h1]; rfl)) (Nat.le_refl _)) (by first | omega | (show _ < _; omega) | (simp only []; omega)))
  ·have h1 := h1b
   try simp only [qq] at h1
   refine VC.skip ?_
   exact Exists.intro (⟨sb.push ((delX pd l sb)[j8]).2.2, trivial⟩) (And.intro (Le.mk hB [0, 1] ⟨rfl, rfl, rfl, trivial⟩ rfl (by dsimp only; first | (rw [delX_yes hj8 h1, hmp]; rfl) | (rw [delX_no hm8 h1]; rfl)) (Nat.le_refl _)) (by first | omega | (show _ < _; omega) | (simp only []; omega)))
end
end Go.Proofs.YtcploodfholkkaaGreatDoor
namespace Go.Proofs.YtcploodfholkkaaGreatDoor
open Go.RowKit
set_option maxRecDepth 100000
section
open Go.RowKit Go.Maps Go.Sort Go.Shelf
section
variable {P : Program} {w : World} {kt : TypeId}
theorem own_of_mapX {α : Type} {E : α → AV} {g clk : Nat} {l : List (ByteArray × α × Nat)} {Z : Nat → Prop} (hk : P.underlying kt = some .string) (h : EntR w Z (mapX (fun k : ByteArray => Value.string k) g E l clk)) (hnd : (l.map (·.1)).Nodup) (hs : ∀ p ∈ l, p.1.size ≤ maxLen) (hl : l.length ≤ maxLen) :
  ∃ D : DataW Unit, w.ownsMap P kt (fun _ => some (.nil, [])) g l.length D ∧ Maps.size D = l.length ∧ (strKeys D).Perm (l.map fun p => p.1.data.toList) := by
 obtain ⟨c, h1, h2, hbn, h3⟩ := h.toX
 have hmem : ∀ x ∈ c.toList, ∃ j, ∃ hj : j < l.length, x = c[j]! := fun x hx => by
  obtain ⟨j, hj, rfl⟩ := List.getElem_of_mem hx
  simp at hj
  exact ⟨j, by omega, by rw [getElem!_pos c j hj]; simp⟩
 have hrd : ∀ x ∈ c.toList, ∀ j (hj : j < l.length), x = c[j]! → WideElems.rd (H := Unit) P kt (fun _ => some (.nil, [])) x = some (.string (l[j]).1.data.toList, .nil) := fun x hx j hj e => by
  have hk1 := (h3 j hj).1
  obtain ⟨key, val, born⟩ := x
  have : key = .string (l[j]).1 := by rw [← hk1, ← e]
  subst this
  exact WideElems.rd_mk (R := fun _ => some (.nil, [])) (yv := (.nil, [])) (Go.WideMaps.keyOf_string_mk hk (hs _ (List.getElem_mem hj))) rfl
 have hF : WideElems.Fit (H := Unit) P kt (fun _ => some (.nil, [])) c clk := ⟨by omega, (MapKept.stamped_iff _ _).2 ⟨fun x hx => by
   obtain ⟨j, hj, rfl⟩ := hmem x hx
   rw [(h3 j hj).2.1]; exact (h3 j hj).2.2.1, by
   have : c.toList.map (·.born) = l.map (·.2.2) := by
    refine List.ext_getElem (by simp [h2]) fun i k1 k2 => ?_
    simp at k1
    have := (h3 i (by omega)).2.1
    rw [getElem!_pos c i k1] at this
    simp [this]
   rw [this]; exact hbn, by
   rw [List.pairwise_iff_getElem]
   intro i j hi hj hij e
   simp at hi hj
   have k1 := (h3 i (by omega)).1
   have k2 := (h3 j (by omega)).1
   rw [getElem!_pos c i hi] at k1
   rw [getElem!_pos c j hj] at k2
   simp only [Array.getElem_toList] at e
   rw [k1, k2] at e
   have e' : (l[i]'(by omega)).1 = (l[j]'(by omega)).1 := by injection e
   have := (List.pairwise_iff_getElem.1 hnd) i j (by simp; omega) (by simp; omega) hij
   simp at this
   exact this e'⟩, fun x hx => by
   obtain ⟨j, hj, e⟩ := hmem x hx
   exact ⟨_, hrd x hx j hj e⟩⟩
 refine ⟨_, ⟨c, clk, h1, hF, by omega, rfl⟩, ?_, ?_⟩
 ·simp [Maps.size, (WideShapes.sorted_perm _).length_eq, h2]
 ·have hp := (WideShapes.sorted_perm (c.toList.map (WideElems.rg (H := Unit) P kt fun _ => some (.nil, []))))
  refine (hp.map (fun p => Go.strOf p.1)).trans (.of_eq ?_)
  refine List.ext_getElem (by simp [h2]) fun i k1 k2 => ?_
  simp at k1 k2
  have := hrd (c[i]!) (by rw [getElem!_pos c i (by omega)]; simp) i (by omega) rfl
  rw [getElem!_pos c i (by omega)] at this
  simp [WideElems.rg_of this]
  rfl
end
section
set_option maxHeartbeats 1000000 in
theorem slices_Sorted_shX {α : Type} {E : α → AV} {g mg clk : Nat} {l : List (ByteArray × α × Nat)} (hnd : (l.map (·.1)).Nodup) (hs : ∀ p ∈ l, p.1.size ≤ maxLen) (hl : l.length ≤ 1000000) :
    SpecH Tryz.prog 140 [.v (.func (.func 215) #[] #[.pointer (some ⟨g, 0, none⟩)])] [.box g ⟨[.v (.map (some mg))], 238, 1⟩, mapX (fun k : ByteArray => Value.string k) mg E l clk]
      (fun y hp' => ∃ u, y = .v u ∧ hp' = [.row u l.length 1 (strsL (sKeys l)) 9, .box g ⟨[.v (.map (some mg))], 238, 1⟩, mapX (fun k : ByteArray => Value.string k) mg E l clk]) := fun w A us ha hap hA hE => by
  have hu : us = #[.func (.func 215) #[] #[.pointer (some ⟨g, 0, none⟩)]] := by
    have h0 := ha.2 0 (by simp)
    have h1 : us.size = 1 := ha.1
    have h2 := h0.eq_v
    apply Array.ext (by simp [h1])
    intro i hi1 hi2
    obtain rfl : i = 0 := by omega
    rw [Array.getD_eq_getD_getElem?, Array.getElem?_eq_getElem (by omega)] at h2
    simpa using h2
  subst hu
  have hB := hE _ (List.mem_cons_self ..)
  have hM := hE _ (List.mem_cons_of_mem _ (List.mem_cons_self ..))
  obtain ⟨c, b1, b2, b3, b4⟩ := hB
  have hc : c = #[.map (some mg)] := by
    obtain ⟨u, q1, q2⟩ := b4 0 (by simp)
    have := q2.eq_v
    simp at b2 this
    apply Array.ext (by simp [b2])
    intro i hi1 hi2
    obtain rfl : i = 0 := by omega
    rw [Array.getElem?_eq_getElem (by omega)] at q1
    cases q1
    simpa using this
  subst hc
  have hlen : l.length ≤ maxLen := by simp only [maxLen]; omega
  obtain ⟨D, d1, d2, d3⟩ := own_of_mapX (kt := 9) Tryz.underlying9 hM hnd hs hlen
  have hgl : g < w.heap.size := (Array.getElem?_eq_some_iff.1 b1).1
  have hcell : w.cell? ⟨g, 0, none⟩ = some (.map (some mg)) := by simp [World.cell?, b1]
  have hseq : SeqGives Fence.wide 2 Tryz.prog 215 #[.pointer (some ⟨g, 0, none⟩)] encStr (fun ss => ss.Perm (strKeys D)) (Maps.size D) w :=
    AnyZ.keys_gives (ρ := Tryz.keys141_ren) { Tryz.keys141 with } Fence.wide _ trivial rfl (by omega) g mg l.length D _ hgl hcell d1
  have hsz : Maps.size D ≤ maxLen := by rw [d2]; exact hlen
  have hby : Maps.size D * 16 ≤ 140737488355328 := by rw [d2]; omega
  refine ((callsIn_wide (n := 5)).1 (AnyZ.sorted_in Tryz.sorted140 Fence.wide 5 trivial trivial trivial trivial rfl (by omega) (sortsK _) (enters_of Tryz.func214 (by kernel_rfl) rfl) 215 #[.pointer (some ⟨g, 0, none⟩)] trivial (enters_of Tryz.func215 (by kernel_rfl) rfl) _ _ hsz hby _ hseq)).mono ?_
  rintro e w' ⟨v, ss, rfl, hS, hrow, hnil, hb⟩
  have hS' : ss.Perm (l.map fun p => p.1.data.toList) := hS.trans d3
  have hssl : ss.length = l.length := by simpa using hS'.length_eq
  have hkeys : (ss.mergeSort (fun x y => decide (x ≤ y))).map encStr = (sKeys l).map fun k => Value.string k := by
    have := mergeSort_of_perm hS'
    unfold leB at this
    rw [this, sKeys, List.map_map]
    rfl
  rw [hkeys] at hrow
  have hchg : Chg NoB w w' := (Chg.ofBelow hb).mono fun k h1 h2 => absurd h1 (Nat.not_lt.2 h2)
  obtain ⟨r1, r2⟩ := hrow
  have hZ : ∀ b, b < w.heap.size ∧ A b → Zh w A [.box g ⟨[.v (.map (some mg))], 238, 1⟩, mapX (fun k : ByteArray => Value.string k) mg E l clk] [.row v l.length 1 (strsL (sKeys l)) 9, .box g ⟨[.v (.map (some mg))], 238, 1⟩, mapX (fun k : ByteArray => Value.string k) mg E l clk] w' b := fun b ⟨hb1, hb2⟩ => by
    refine ⟨Nat.lt_of_lt_of_le hb1 hchg.size, fun ⟨e, he, heb⟩ => ?_, fun _ => .inl hb2⟩
    rcases List.mem_cons.1 he with rfl | he
    · rcases r2 with ⟨rfl, _⟩ | ⟨g2, cap, cur, rfl, hge, _⟩
      · simp [Ent.blk, Value.ownBlock] at heb
      · simp [Ent.blk, Value.ownBlock] at heb; omega
    · exact hA b ⟨e, he, heb⟩ hb2
  have hold : ∀ e ∈ [Ent.box g ⟨[.v (.map (some mg))], 238, 1⟩, mapX (fun k : ByteArray => Value.string k) mg E l clk], ∀ b, e.blk = some b → b < w.heap.size := fun e he b heb => by
    rcases List.mem_cons.1 he with rfl | he
    · simp [Ent.blk] at heb; omega
    · simp at he; subst he
      simp [Ent.blk] at heb
      obtain ⟨c2, k1, _⟩ := hM
      have := (Array.getElem?_eq_some_iff.1 k1).1
      omega
  refine ⟨_, _, _, ⟨v, rfl, rfl⟩, rfl, ?_, .v _, fun e he => ?_, fun b ⟨e, he, heb⟩ hl => ?_, hchg.any⟩
  · refine List.pairwise_cons.2 ⟨fun q hq b h1 h2 => ?_, hap⟩
    rcases r2 with ⟨rfl, _⟩ | ⟨g2, cap, cur, rfl, hge, _⟩
    · simp [Ent.blk, Value.ownBlock] at h1
    · simp [Ent.blk, Value.ownBlock] at h1
      have := hold q hq b h2
      omega
  · rcases List.mem_cons.1 he with rfl | he
    · refine ⟨by simp [strsL, sKeys_len], ?_⟩
      rcases r2 with ⟨rfl, hz⟩ | ⟨g2, cap, cur, rfl, hge, k1, k2, k3, k4, k5⟩
      · exact .inl ⟨rfl, by omega⟩
      · refine .inr ⟨g2, cap, cur, by rw [hssl], by omega, k3, k1, k4, fun j hj => ?_⟩
        have hj' : j < (sKeys l).length := by simpa [strsL] using hj
        have hcur : cur[j]? = some (.string ((sKeys l)[j])) := by
          have := congrArg (fun z => z[j]?) k5
          simp only [List.getElem?_map, List.getElem?_eq_getElem hj', Option.map_some] at this
          rw [List.getElem?_take] at this
          split at this
          · simpa using this
          · cases this
        exact ⟨_, hcur, by simp only [strsL, List.getElem_map]; exact .v _⟩
    · exact (hE e he).keep (fun b hb _ => ⟨hchg.block b hb.1 (fun h => h), hZ b hb⟩) fun b hb => hchg.block b (hold e he b hb) (fun h => h)
  · rcases List.mem_cons.1 he with rfl | he
    · rcases r2 with ⟨rfl, _⟩ | ⟨g2, cap, cur, rfl, hge, _⟩
      · simp [Ent.blk, Value.ownBlock] at heb
      · simp [Ent.blk, Value.ownBlock] at heb; omega
    · exact ⟨e, he, heb⟩
end
end
section
theorem specH_fnv {P : Program} {F G : FuncId} {x : AV} {hp : List Ent} {Q : AV → List Ent → Prop} (h : SpecH P F [x, .fn G []] hp Q) : SpecH P F [x, .v (.func (.func G) #[] #[])] hp Q := fun w A us ha h2 h3 h4 => by
 refine h w A us ⟨ha.1, fun j hj => ?_⟩ h2 h3 h4
 match j, hj with
 | 0, hj => exact ha.2 0 (by simp)
 | 1, hj =>
  have h1 := ha.2 1 (by simp)
  have e : us.getD 1 undef = .func (.func G) #[] #[] := h1.eq_v
  show Rep w _ (.fn G []) (us.getD 1 undef)
  rw [e]
  exact .fn G [] #[] rfl fun j hj => by simp at hj
abbrev shV (f : LookS → ByteArray) (l : List LookS) : List (ByteArray × ShS) := shM (kvs (fun x => [f x]) l)
theorem shV_len (f : LookS → ByteArray) (l : List LookS) : (shV f l).length ≤ l.length := by
 have h := shM_len (kvs (fun x => [f x]) l)
 have h2 : (kvs (fun x => [f x]) l).length = l.length := by have := congrArg List.length (kvs_one_keys f l); simpa using this
 show (shM _).length ≤ _
 omega
section
variable {f : LookS → ByteArray} {l : List LookS} {q : Nat → Bool} {l' : List (ByteArray × ShS × Nat)}
theorem selK_keys (h : (l'.map fun p => (p.1, p.2.1)) = (shV f l).filter fun p => !q p.2.1) : l'.map (·.1) = ((shV f l).filter fun p => !q p.2.1).map (·.1) := by
 rw [← h, List.map_map]; rfl
theorem selK_nd (h : (l'.map fun p => (p.1, p.2.1)) = (shV f l).filter fun p => !q p.2.1) : (l'.map (·.1)).Nodup := by
 rw [selK_keys h]; exact (shM_nodup _).sublist (List.filter_sublist.map _)
theorem selK_len (h : (l'.map fun p => (p.1, p.2.1)) = (shV f l).filter fun p => !q p.2.1) : l'.length ≤ l.length := by
 have h1 := congrArg List.length h
 rw [List.length_map] at h1
 have h2 := List.length_filter_le (fun p : ByteArray × ShS => !q p.2.1) (shV f l)
 have h3 := shV_len f l
 omega
theorem selK_sz (hz : ∀ i, (f (l.getD i default)).size ≤ 1000000) (h : (l'.map fun p => (p.1, p.2.1)) = (shV f l).filter fun p => !q p.2.1) : ∀ p ∈ l', p.1.size ≤ maxLen := fun p hp => by
 have h1 : p.1 ∈ l'.map (·.1) := List.mem_map_of_mem hp
 rw [selK_keys h] at h1
 have h2 : p.1 ∈ (shV f l).map (·.1) := (List.filter_sublist.map _).subset h1
 rw [shM_mem, kvs_one_keys] at h2
 obtain ⟨y, hy, e⟩ := List.mem_map.1 h2
 obtain ⟨i, hi, rfl⟩ := List.getElem_of_mem hy
 have h3 := hz i
 rw [List.getD_eq_getElem?_getD, List.getElem?_eq_getElem hi] at h3
 have h4 : (f l[i]).size ≤ 1000000 := h3
 rw [← e]; unfold maxLen; omega
end
theorem inspect_GoodBoards1 {x : LookS}  :
  Spec Tryz.prog 137 [avT x] (fun y => y = avStrs [x.board]) := by
 refine Spec.of_VC Tryz.func137 rfl Tryz.ntmps137 (Nle rfl) fun w A hB => ?_
 refine VC.sr ?_
 refine VO.op rfl (OpE.box rfl hB rfl rfl rfl ?_)
 intro g1
 refine VO.ma rfl rfl rfl rfl ?_
 refine VO.nil ?_
 refine VC.sr ?_
 refine VO.val rfl rfl (OpV.fieldAddrO 0 rfl Tryz.underlying124 rfl rfl Tryz.sizeOf9 rfl) ?_
 refine VO.val rfl rfl (OpV.load_own (i := 0) rfl hB Tryz.isAgg9 rfl rfl rfl (fun h => h)) ?_
 refine VO.op rfl (OpE.buildSlice (zc := #[.string ⟨#[]⟩]) rfl hB rfl Tryz.underlying82 Tryz.sizeOf9 Tryz.zeroValue9 (by decide) (by decide) (by kernel_rfl) rfl rfl ?_)
 refine VO.le _ (Le.litsS (t := 5) (xs := [x.board]) rfl rfl) ?_
 refine VO.ma rfl rfl rfl rfl ?_
 refine VO.nil ?_
 refine VC.ret ?_
 exact Exists.intro _ (And.intro (RetV.one Tryz.results137 (ResV.tmp rfl)) (rfl))
theorem inspect_GoodBoards2 {k : ByteArray} {s : ShS}  :
  Spec Tryz.prog 139 [avS k, eSh s] (fun y => y = avB (decide ((0 : Int) < (s.1 : Int)))) := by
 refine Spec.of_VC Tryz.func139 rfl Tryz.ntmps139 (Nle rfl) fun w A hB => ?_
 refine VC.sr ?_
 refine VO.op rfl (OpE.box rfl hB rfl rfl rfl ?_)
 intro g3
 refine VO.ma rfl rfl rfl rfl ?_
 refine VO.nil ?_
 refine VC.sr ?_
 refine VO.val rfl rfl (OpV.fieldAddrO 0 rfl Tryz.underlying243 rfl rfl Tryz.sizeOf3 rfl) ?_
 refine VO.val rfl rfl (OpV.load_own (i := 0) rfl hB Tryz.isAgg3 rfl rfl rfl (fun h => h)) ?_
 refine VO.val rfl rfl (OpV.gtr rfl rfl rfl) ?_
 refine VO.ma rfl rfl rfl rfl ?_
 refine VO.nil ?_
 refine VC.ret ?_
 exact Exists.intro _ (And.intro (RetV.one Tryz.results139 (ResV.tmp rfl)) (rfl))
end
section
theorem rowsU_mem {m : RwM} {n : Int} {x : NeedS} (hnd : (m.map (·.1)).Nodup) (h : x ∈ rowsU m n) : x.count = mgetD m x.key 0 := by
 obtain ⟨h1, _⟩ := List.mem_filter.1 h
 obtain ⟨p, hp, rfl⟩ := List.mem_map.1 h1
 obtain ⟨j, hj, rfl⟩ := List.getElem_of_mem hp
 show (m[j]).2 = mgetD m (m[j]).1 0
 rw [mgetD, mget_pos, mpos_nodup m hnd j hj, List.getElem?_eq_getElem hj]; rfl
theorem uK_few {l N : List ByteArray} (h : ∀ x ∈ l, x ∈ N) : (uK l).length ≤ N.length := (uK_srt l).nd.length_le_of_subset fun x hx => h x (uK_mem.1 hx)
theorem rwOut_len (r : List NeedS) : (rwOut r).length = r.length := by simp [rwOut]
theorem rwOut_take {r : List NeedS} {k : Nat} (h : k < r.length) : (rwOut r).take (k + 1) = (rwOut r).take k ++ [⟨(r.getD k default).key, decB (r.getD k default).count.toNat⟩] := by
 rw [List.take_succ_eq_append_getElem (by rw [rwOut_len]; exact h)]
 simp [rwOut, List.getD_eq_getElem?_getD, h]
theorem rwOut_all (r : List NeedS) : (rwOut r).take r.length = rwOut r := List.take_of_length_le (by rw [rwOut_len]; exact Nat.le_refl _)
theorem inspect_Rows1 {x z : NeedS}  :
  Spec Tryz.prog 134 [avNd x, avNd z] (fun y => y = avI (cRw x z)) := by
 refine Spec.of_VC Tryz.func134 rfl Tryz.ntmps134 (Nle rfl) fun w A hB => ?_
 refine VC.sr ?_
 refine VO.op rfl (OpE.box rfl hB rfl rfl rfl ?_)
 intro g2
 refine VO.op rfl (OpE.box rfl hB rfl rfl rfl ?_)
 intro g3
 refine VO.ma rfl rfl rfl rfl ?_
 refine VO.nil ?_
 refine VC.seq ?_
 refine VC.draw (fun _ => NoB) hB (by kernel_rfl) ?_
 refine VA.take (i := 0) rfl (by kernel_rfl) (by kernel_rfl) (by kernel_rfl) rfl rfl (OpV.fieldAddrO 1 rfl Tryz.underlying234 rfl rfl Tryz.sizeOf3 rfl) ?_
 refine VA.take (i := 1) rfl (by kernel_rfl) (by kernel_rfl) (by kernel_rfl) rfl rfl (OpV.load_own (i := 1) rfl hB Tryz.isAgg3 rfl rfl rfl Wi.not0) ?_
 refine VA.take (i := 2) rfl (by kernel_rfl) (by kernel_rfl) (by kernel_rfl) rfl rfl (OpV.fieldAddrO 1 rfl Tryz.underlying234 rfl rfl Tryz.sizeOf3 rfl) ?_
 refine VA.take (i := 3) rfl (by kernel_rfl) (by kernel_rfl) (by kernel_rfl) rfl rfl (OpV.load_own (i := 0) rfl hB Tryz.isAgg3 rfl rfl rfl Wi.not0) ?_
 refine VA.take (i := 5) rfl (by kernel_rfl) (by kernel_rfl) (by kernel_rfl) rfl rfl (OpV.fieldAddrO 0 rfl Tryz.underlying234 rfl rfl Tryz.sizeOf9 rfl) ?_
 refine VA.take (i := 6) rfl (by kernel_rfl) (by kernel_rfl) (by kernel_rfl) rfl rfl (OpV.load_own (i := 0) rfl hB Tryz.isAgg9 rfl rfl rfl Wi.not0) ?_
 refine VA.take (i := 7) rfl (by kernel_rfl) (by kernel_rfl) (by kernel_rfl) rfl rfl (OpV.fieldAddrO 0 rfl Tryz.underlying234 rfl rfl Tryz.sizeOf9 rfl) ?_
 refine VA.take (i := 8) rfl (by kernel_rfl) (by kernel_rfl) (by kernel_rfl) rfl rfl (OpV.load_own (i := 1) rfl hB Tryz.isAgg9 rfl rfl rfl Wi.not0) ?_
 refine VA.all (rs := [4]) (by kernel_rfl) (by decide) ?_
 refine ⟨⟨_, rfl, .inl rfl, ?_⟩, trivial⟩
 refine OpE.call rfl hB rfl Tryz.call94 rfl (SpecN.spec (cmp_Compare_int)) ?_
 rintro _ rfl
 refine VA.all (rs := [9]) (by kernel_rfl) (by decide) ?_
 refine ⟨⟨_, rfl, .inl rfl, ?_⟩, trivial⟩
 refine OpE.call rfl hB rfl Tryz.call95 rfl (SpecN.spec (strings_Compare_S)) ?_
 rintro _ rfl
 refine VA.all (rs := [10]) (by kernel_rfl) (by decide) ?_
 refine ⟨⟨_, rfl, .inl rfl, ?_⟩, trivial⟩
 refine OpE.buildSlice (zc := #[.int .i64 0, .int .i64 0]) rfl hB rfl Tryz.underlying22 Tryz.sizeOf3 Tryz.zeroValue3 (by decide) (by decide) (by kernel_rfl) rfl rfl ?_
 refine VA.le _ (Le.lits (t := 15) (xs := [cmpI z.count x.count, cmpB x.key z.key]) rfl rfl) ?_
 refine VA.all (rs := [11]) (by kernel_rfl) (by decide) ?_
 refine ⟨⟨_, rfl, .inl rfl, ?_⟩, trivial⟩
 refine OpE.call rfl hB rfl Tryz.call93 rfl (SpecN.spec (cmp_Or_int (by simp))) ?_
 rintro _ rfl
 refine VA.take (i := 12) rfl (by kernel_rfl) (by kernel_rfl) (by kernel_rfl) rfl rfl (OpV.move (.inr rfl) rfl) ?_
 refine VA.done (by kernel_rfl) ?_
 refine VC.ret ?_
 exact Exists.intro _ (And.intro (RetV.one Tryz.results134 (ResV.tmp rfl)) (rfl))
end
end Go.Proofs.YtcploodfholkkaaGreatDoor
