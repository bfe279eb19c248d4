/- Part 1 of a proof: the walks and laws that it needs. -/
import Derived.Shelf.Strings.Trim
import Derived.Shelf.Small.Utf8
import Derived.Shelf.Small.Bits
import Derived.Shelf.Small.Strs
import Derived.Shelf.Strconv.Itoa0
import Derived.Shelf.Strconv.Itoa1
import Derived.Shelf.LaysM
import Derived.Shelf.Strconv.Itoa2
import Derived.Shelf.Strconv.Itoa3
import Derived.Shelf.Strings.Search1
import Derived.Shelf.Strings.Runes
import Derived.Shelf.Strings.AsciiSet
import Derived.Shelf.Bits.Mul64
import Derived.Shelf.Unicode.DecodeSlow
import Derived.Ground.SlgmProg
import Derived.Shelf.SortM.Plain
import Derived.Shelf.SortM.SortNone
import Derived.Test.YtplphabekhaoaaaGreatDoorProg
import Derived.Test.YtplphabekhaoaaaGreatDoorZC4
namespace Go.Proofs.YtplphabekhaoaaaGreatDoor
open Go.RowKit
set_option linter.unusedVariables false
set_option linter.unusedSimpArgs false
section
variable {s parts : List ByteArray} {later : List (List ByteArray)}
theorem nextF_old (hf : Fits s parts) {j : Nat} (hj : j < s.length) : (nextF s parts later).getD j ByteArray.empty = s.getD j ByteArray.empty ∨ (nextF s parts later).getD j ByteArray.empty ∈ parts := by
 have := nextL_old (s := s) (l := missF s parts) (parts := parts) (later := later) (fun x hx => (missF_mem.1 hx).1) (missF s parts).length j (Nat.le_refl _) hj
 rwa [List.take_length] at this
end
theorem nextF_setup {s parts : List ByteArray} {later : List (List ByteArray)} (hs : setupF s = 0) (hp : RightP s.length parts) : setupF (nextF s parts later) = 0 := by
 have hg := (Good'.of hs).nextF hp later
 have hl := nextF_len s parts later
 refine setupF_ok hg.pos hg.len fun j hj => ?_
 cases he : sEq ((nextF s parts later).getD j ByteArray.empty) ε with
 | true => exact setupE_e he
 | false =>
  have hne : (nextF s parts later).getD j ByteArray.empty ≠ ε := fun e => by rw [e, sEq_refl] at he; cases he
  refine setupE_0 he ?_ ?_
  ·rcases nextF_old (later := later) (hp.fits (setup_once hs)) (j := j) (by omega) with h | h
   ·rw [h] at he ⊢
    have h0 := setupF_zero hs j (by omega)
    cases hk : keyF (s.getD j ByteArray.empty) with
    | true => rfl
    | false => rw [setupE_5 he hk] at h0; cases h0
   ·obtain ⟨i, hi, e⟩ := getD_mem h
    rw [← e]; exact canE_key (hp.can i hi)
  ·rw [has_not]
   intro hc
   obtain ⟨i, hi, e⟩ := List.mem_iff_getElem.1 hc
   have hi' : i < j := by simp at hi; omega
   rw [List.getElem_take] at e
   refine hne (hg.once i j hi' hj ?_)
   rw [← e]
   simp [show i < (nextF s parts later).length by omega]
end Go.Proofs.YtplphabekhaoaaaGreatDoor
namespace Go.Proofs.YtplphabekhaoaaaGreatDoor
open Go.RowKit
set_option linter.unusedVariables false
set_option linter.unusedSimpArgs false
section
variable {p : List PaceS} {o : List OrdrS} {l : List Int} {start each : Int} (h : SchOk p o l start each)
include h
end
section
variable {p : List PaceS} {o : List OrdrS} {l : List Int} {start each : Int} (h : SchOk p o l start each)
include h
theorem SchOk.up : ∀ q, q + 1 < l.length → endP p o l start each q ≤ fromP p o l start each (q + 1) ∧ endP p o l start each q ≤ endP p o l start each (q + 1) := fun q hq => by
 have h1 := h.at_ (q := q + 1) hq
 have h6 := h.turn (i := (l.getD q 0).toNat) h1.2
 have hb := h.bd (q + 1) hq
 have : fromP p o l start each (q + 1) = max (endP p o l start each q + turnO p each (orA o (l.getD q 0)) (orA o (l.getD (q + 1) 0))) (orA o (l.getD (q + 1) 0)).ready := rfl
 have h7 : 0 ≤ turnO p each (orA o (l.getD q 0)) (orA o (l.getD (q + 1) 0)) := h6.1
 omega
theorem SchOk.mono {a : Nat} : ∀ b, a ≤ b → b < l.length → endP p o l start each a ≤ endP p o l start each b
 | 0, hab, _ => by rw [show a = 0 by omega]; exact Int.le_refl _
 | b + 1, hab, hb => by
  by_cases e : a = b + 1
  ·rw [e]; exact Int.le_refl _
  ·exact Int.le_trans (SchOk.mono b (by omega) (by omega)) (h.up b hb).2
end
section
variable {p : List PaceS} {o : List OrdrS} {l : List Int} {start each : Int} (h : SchOk p o l start each)
include h
end
end Go.Proofs.YtplphabekhaoaaaGreatDoor
namespace Go.Proofs.YtplphabekhaoaaaGreatDoor
open Go.RowKit
set_option linter.unusedVariables false
set_option linter.unusedSimpArgs false
def missN (a b : List NeedS) : List NeedS := b.filter fun x => !(a.any fun y => sEq y.key x.key)
theorem missN_len (a b : List NeedS) : chgN a b b.length = (missN a b).length := by rw [chgN, List.take_length]; rfl
section
variable {p : List PaceS} {o : List OrdrS} {l : List Int} {start each : Int} {x : OrdrS} (h : SchOk p o l start each) (hx : hasP p x.product = true) (hxb : (1 ≤ x.count ∧ x.count ≤ 100000) ∧ (0 ≤ x.ready ∧ x.ready ≤ 345686399999) ∧ (0 ≤ x.due ∧ x.due ≤ 345686399999)) (ho : o.length ≤ 200)
include h hx hxb ho
end
end Go.Proofs.YtplphabekhaoaaaGreatDoor
namespace Go.Proofs.YtplphabekhaoaaaGreatDoor
open Go.RowKit
set_option linter.unusedVariables false
set_option linter.unusedSimpArgs false
def pad4 (l : List ByteArray) : List ByteArray := l ++ List.replicate (4 - l.length) ε
theorem pad4_len {l : List ByteArray} (h : l.length ≤ 4) : (pad4 l).length = 4 := by simp [pad4]; omega
theorem pad4_mem {l : List ByteArray} {x : ByteArray} (h : x ∈ pad4 l) : x ∈ l ∨ x = ε := by
 rcases List.mem_append.1 h with h | h
 ·exact .inl h
 ·exact .inr (List.eq_of_mem_replicate h)
theorem pad4_lo {l : List ByteArray} {j : Nat} (h : j < l.length) : (pad4 l).getD j ByteArray.empty = l.getD j ByteArray.empty := by
 simp only [pad4, List.getD_eq_getElem?_getD]
 rw [List.getElem?_append_left h]
theorem pad4_hi {l : List ByteArray} {j : Nat} (h : l.length ≤ j) : (pad4 l).getD j ByteArray.empty = ε := by
 simp only [pad4, List.getD_eq_getElem?_getD]
 rw [List.getElem?_append_right h, List.getElem?_replicate]
 split <;> rfl
theorem pad4_setup {l : List ByteArray} (h : RightP 4 l) : setupF (pad4 l) = 0 := by
 have hl := pad4_len h.len
 refine setupF_ok (by omega) (by omega) fun j hj => ?_
 by_cases hjl : j < l.length
 ·have hk := canE_key (h.can j hjl)
  have he : sEq ((pad4 l).getD j ByteArray.empty) ε = false := by
   rw [pad4_lo hjl]
   cases hs : sEq (l.getD j ByteArray.empty) ε with
   | false => rfl
   | true => rw [sEq_eq.1 hs] at hk; exact absurd (keyF_size hk).1 (by decide)
  refine setupE_0 he (by rw [pad4_lo hjl]; exact hk) ?_
  rw [has_not, pad4_lo hjl]
  intro hc
  obtain ⟨i, hi, e⟩ := List.mem_iff_getElem.1 hc
  have hi' : i < j := by simp at hi; omega
  rw [List.getElem_take] at e
  have e2 : (pad4 l).getD i ByteArray.empty = l.getD j ByteArray.empty := by rw [← e]; simp [show i < (pad4 l).length by omega]
  rw [pad4_lo (by omega)] at e2
  have := can_sort h.can i j hi' hjl
  rw [e2, sLt_irr] at this; cases this
 ·exact setupE_e (by rw [pad4_hi (by omega)]; exact sEq_refl _)
theorem pad4_miss {l r : List ByteArray} (h : RightP 4 r) : missF (pad4 l) r = missF l r := by
 unfold missF
 refine List.filter_congr fun x hx => ?_
 have hne : x ≠ ε := fun e => by have := h.keys x hx; rw [e] at this; exact absurd this.1 (by decide)
 have : has (pad4 l) x = has l x := by
  rw [Bool.eq_iff_iff, has_iff, has_iff]
  exact ⟨fun hx => (pad4_mem hx).resolve_right hne, fun hx => List.mem_append.2 (.inl hx)⟩
 rw [this]
def ones (l : List ByteArray) : List NeedS := l.map fun k => ⟨k, 1⟩
theorem ones_len (l : List ByteArray) : (ones l).length = l.length := by simp [ones]
theorem ones_get {l : List ByteArray} {j : Nat} (h : j < l.length) : (ones l).getD j default = ⟨l.getD j ByteArray.empty, 1⟩ := by simp [ones, h]
theorem ones_miss (a b : List ByteArray) : chgN (ones a) (ones b) (ones b).length = (missF a b).length := by
 rw [missN_len]
 unfold missN ones missF
 rw [List.filter_map, List.length_map]
 refine congrArg List.length (List.filter_congr fun x _ => ?_)
 simp only [Function.comp, List.any_map]
 unfold has
 congr 1
 rw [Bool.eq_iff_iff, List.any_eq_true, List.any_eq_true]
 constructor
 ·rintro ⟨y, h1, h2⟩; exact ⟨y, h1, by rw [sEq_comm]; exact h2⟩
 ·rintro ⟨y, h1, h2⟩; exact ⟨y, h1, by rw [sEq_comm] at h2; exact h2⟩
theorem ones_needs {l : List ByteArray} (h : RightP 4 l) : needsF (ones l) 1 1000 = 0 := by
 have hl := h.len
 refine needsF_ok (by rw [ones_len]; omega) fun j hj => ?_
 rw [ones_len] at hj
 have hk : keyF ((ones l).getD j default).key = true := by rw [ones_get hj]; exact canE_key (h.can j hj)
 refine needE_0 hk ?_ (by rw [ones_get hj]; show outR 1 1 1000 = false; decide)
 by_cases h0 : j = 0
 ·exact .inl h0
 ·refine .inr ?_
  rw [ones_get hj, ones_get (by omega)]
  have h7 := h.can j hj
  cases hs : sLe (l.getD j ByteArray.empty) (l.getD (j - 1) ByteArray.empty) with
  | false => rfl
  | true => rw [canE_7 (canE_key h7) (by omega) hs] at h7; cases h7
def pNm (i : Nat) : ByteArray := ⟨#[112, (48 + i).toUInt8]⟩
theorem pNm_key : ∀ i, i < 5 → keyF (pNm i) = true := by decide +kernel
theorem pNm_rise : ∀ i, i < 5 → 0 < i → sLe (pNm i) (pNm (i - 1)) = false := by decide +kernel
theorem pNm_inj : ∀ i, i < 5 → ∀ j, j < 5 → sEq (pNm i) (pNm j) = true → i = j := by decide +kernel
def pcs (p : List (List ByteArray)) (q : Nat) : List PaceS := (List.range q).map fun i => ⟨pNm i, 1, ones (p.getD i default)⟩
theorem pcs_len (p : List (List ByteArray)) (q : Nat) : (pcs p q).length = q := by simp [pcs]
theorem pcs_get {p : List (List ByteArray)} {q i : Nat} (h : i < q) : (pcs p q).getD i default = ⟨pNm i, 1, ones (p.getD i default)⟩ := by simp [pcs, h]
theorem pcs_succ (p : List (List ByteArray)) (q : Nat) : pcs p (q + 1) = pcs p q ++ [⟨pNm q, 1, ones (p.getD q default)⟩] := by simp [pcs, List.range_succ]
theorem pcs_ok {p : List (List ByteArray)} (h5 : p.length ≤ 5) (hp : ∀ q, q < p.length → RightP 4 (p.getD q default)) : paceF (pcs p p.length) = 0 := by
 refine paceF_ok (by rw [pcs_len]; omega) fun j hj => ?_
 rw [pcs_len] at hj
 rw [paceE_n (by rw [pcs_get hj]; exact pNm_key j (by omega)) ?_ (by rw [pcs_get hj]; show outR 1 1 10000000 = false; decide), pcs_get hj]
 ·exact ones_needs (hp j hj)
 ·by_cases h0 : j = 0
  ·exact .inl h0
  ·refine .inr ?_
   rw [pcs_get hj, pcs_get (by omega)]
   exact pNm_rise j (by omega) (by omega)
theorem pcs_has {p : List (List ByteArray)} {i : Nat} (hi : i < p.length) : hasP (pcs p p.length) (pNm i) = true := by
 unfold hasP
 refine List.any_eq_true.2 ⟨_, List.mem_map.2 ⟨i, List.mem_range.2 hi, rfl⟩, sEq_refl _⟩
theorem pcs_of {p : List (List ByteArray)} (h5 : p.length ≤ 5) {i : Nat} (hi : i < p.length) : paceO (pcs p p.length) (pNm i) = ⟨pNm i, 1, ones (p.getD i default)⟩ := by
 obtain ⟨j, hj, e⟩ := paceO_in (pcs_has hi)
 have hf : ∃ x, (pcs p p.length).find? (fun x => sEq x.product (pNm i)) = some x := by
  cases hf : (pcs p p.length).find? (fun x => sEq x.product (pNm i)) with
  | some x => exact ⟨x, rfl⟩
  | none =>
   rw [List.find?_eq_none] at hf
   have := hf _ (List.mem_map.2 ⟨i, List.mem_range.2 hi, rfl⟩)
   simp [sEq_refl] at this
 obtain ⟨x, hx⟩ := hf
 have h1 := List.find?_some hx
 have h2 : paceO (pcs p p.length) (pNm i) = x := by rw [paceO, hx]; rfl
 obtain ⟨k, hk, rfl⟩ := List.mem_map.1 (List.mem_of_find?_eq_some hx)
 have hk := List.mem_range.1 hk
 have := pNm_inj k (by omega) i (by omega) h1
 subst this
 exact h2
theorem ones_take {l : List ByteArray} {r : Nat} (h : r < l.length) : ones (l.take (r + 1)) = ones (l.take r) ++ [⟨l.getD r ByteArray.empty, 1⟩] := by
 rw [take_succ_getD (d := ByteArray.empty) h, ones, ones, List.map_append]; rfl
def topT (p : List (List ByteArray)) : Nat → Int
 | 0 => 0
 | i + 1 => topT p i + if i = 0 then 0 else ((missF (p.getD (i - 1) default) (p.getD i default)).length : Int)
theorem topT_one (p : List (List ByteArray)) : topT p 1 = 0 := by simp [topT]
theorem topT_succ {p : List (List ByteArray)} {i : Nat} (h : 1 ≤ i) : topT p (i + 1) = topT p i + ((missF (p.getD (i - 1) default) (p.getD i default)).length : Int) := by rw [topT, if_neg (by omega)]
theorem topT_in {p : List (List ByteArray)} (hp : ∀ q, q < p.length → RightP 4 (p.getD q default)) : ∀ i, i ≤ p.length → 0 ≤ topT p i ∧ topT p i ≤ 4 * i
 | 0, _ => by simp [topT]
 | i + 1, hi => by
  have ih := topT_in hp i (by omega)
  have h1 := missF_len (p.getD (i - 1) default) (p.getD i default)
  have h2 := (hp i (by omega)).len
  rw [topT]
  split <;> omega
theorem pad_copy {l : List ByteArray} {c : Nat} (hc : c = l.length) : (List.replicate 4 (AV.v (.string ⟨#[]⟩))).take 0 ++ tab (c * 1) (fun j => avS (l.getD j ByteArray.empty)) ++ (List.replicate 4 (AV.v (.string ⟨#[]⟩))).drop (0 + c * 1) = strsL (pad4 l) := by
 subst hc
 rw [tab_strs, pad4, List.take_zero, List.nil_append, Nat.zero_add, Nat.mul_one, List.drop_replicate, strsL, strsL, List.map_append, List.map_replicate]
theorem pcs_sm {p : List (List ByteArray)} (h5 : p.length ≤ 5) (hp : ∀ q, q < p.length → RightP 4 (p.getD q default)) : SmPc (pcs p p.length) := by
 have key : ∀ i, i < p.length ∨ (pcs p p.length).getD i default = default := fun i => by
  by_cases h : i < p.length
  ·exact .inl h
  ·exact .inr (by rw [List.getD_eq_getElem?_getD, List.getElem?_eq_none (by rw [pcs_len]; omega)]; rfl)
 refine ⟨by rw [pcs_len]; omega, fun i => ?_, fun i => ?_, fun i j => ?_⟩
 ·rcases key i with h | h
  ·rw [pcs_get h]; show (pNm i).size ≤ _; exact Nat.le_trans (show (pNm i).size ≤ 2 from Nat.le_refl _) (by decide)
  ·rw [h]; decide
 ·rcases key i with h | h
  ·rw [pcs_get h]
   show (ones _).length ≤ _
   rw [ones_len]
   have := (hp i h).len
   omega
  ·rw [h]; decide
 ·rcases key i with h | h
  ·rw [pcs_get h]
   show ((ones (p.getD i default)).getD j default).key.size ≤ _
   by_cases hj : j < (p.getD i default).length
   ·rw [ones_get hj]
    have := (hp i h).keys _ (by rw [List.getD_eq_getElem?_getD (i := j), List.getElem?_eq_getElem hj]; exact List.getElem_mem hj : (p.getD i default).getD j ByteArray.empty ∈ p.getD i default)
    show ((p.getD i default).getD j ByteArray.empty).size ≤ _
    omega
   ·rw [List.getD_eq_getElem?_getD, List.getElem?_eq_none (by rw [ones_len]; omega)]; decide
  ·rw [h]
   show (([] : List NeedS).getD j default).key.size ≤ _
   simp; decide
theorem pad4_next {l r : List ByteArray} (hr : RightP 4 r) (hl : RightP 4 l) : nextE (pad4 l) r [] = 0 := by
 rw [nextE, if_neg (by rw [pad4_setup hl]; simp), pad4_len hl.len]
 refine partsF_ok (by decide) (by simp) fun j hj => ?_
 simp at hj
 subst hj
 show partE ((4 : Nat) : Int) r = 0
 have := hr.len
 exact partE_ok (by omega) hr.can
end Go.Proofs.YtplphabekhaoaaaGreatDoor
namespace Go.Proofs.YtplphabekhaoaaaGreatDoor
open Go.RowKit
set_option linter.unusedVariables false
set_option linter.unusedSimpArgs false
def chgE (p : List PaceS) (a b : ByteArray) (each : Int) : Int := if paceF p ≠ 0 then paceF p else if outR each 0 10000000 = true then 1 else if (hasP p a && hasP p b) = true then 0 else 8
def chgV (p : List PaceS) (a b : ByteArray) (each : Int) : Int := if chgE p a b each = 0 then chgI (paceO p a) (paceO p b) each else 0
section
variable {p : List PaceS} {a b : ByteArray} {each : Int}
theorem chgE_1 (h : paceF p ≠ 0) : chgE p a b each = paceF p := by rw [chgE, if_pos h]
theorem chgE_2 (h : paceF p = 0) (h2 : outR each 0 10000000 = true) : chgE p a b each = 1 := by rw [chgE, if_neg (by omega), if_pos h2]
theorem chgE_8 (h : paceF p = 0) (h2 : outR each 0 10000000 = false) (h3 : (hasP p a && hasP p b) = false) : chgE p a b each = 8 := by rw [chgE, if_neg (by omega), if_neg (by rw [h2]; simp), if_neg (by rw [h3]; simp)]
theorem chgE_0 (h : paceF p = 0) (h2 : outR each 0 10000000 = false) (h3 : (hasP p a && hasP p b) = true) : chgE p a b each = 0 := by rw [chgE, if_neg (by omega), if_neg (by rw [h2]; simp), if_pos h3]
theorem chgV_no (h : chgE p a b each ≠ 0) : chgV p a b each = 0 := by rw [chgV, if_neg h]
theorem chgV_ok (h : chgE p a b each = 0) : chgV p a b each = chgI (paceO p a) (paceO p b) each := by rw [chgV, if_pos h]
end
theorem outR_f {x lo hi : Int} (h : outR x lo hi = false) : lo ≤ x ∧ x ≤ hi := by
 unfold outR at h
 simp at h
 omega
set_option maxRecDepth 100000 in
set_option maxHeartbeats 4000000 in
theorem plan_Changeover {p : List PaceS} {a b : ByteArray} {each : Int} (hp : SmPc p) :
  SpecN Tryz.prog 32 [avL p, avS a, avS b, avI each] (fun y => y = .tup [avI (chgV p a b each), avI (chgE p a b each)]) := by
 refine SpecN.of_VCN Tryz.func32 rfl Tryz.ntmps32 (Nle rfl) fun w A hB => ?_
 have hnew : True := trivial
 refine VC.seq ?_
 have hl := hp.len
 refine VC.region ?_
 refine VO.ma rfl rfl rfl rfl ?_
 refine VO.ma rfl rfl rfl rfl ?_
 refine VO.nil ?_
 refine VC.seq ?_
 refine VC.sr ?_
 refine VO.mv rfl rfl rfl rfl ?_
 refine VO.op rfl (OpE.call rfl hB rfl Tryz.call100 rfl (SpecN.spec (plan_CheckPaces hp)) ?_)
 rintro _ rfl
 refine VO.ma rfl rfl rfl rfl ?_
 refine VO.nil ?_
 refine VC.sr ?_
 refine VO.mv rfl rfl rfl rfl ?_
 refine VO.val rfl rfl (OpV.neq rfl rfl rfl) ?_
 refine VO.nil ?_
 refine VC.cond rfl (fun h0b => ?_) (fun h0b => ?_)
 ·have h0 := h0b
  try simp only [qqT, qqF, qqN, qqM, qqL, qqE] at h0
  refine VC.sr ?_
  refine VO.mv rfl rfl rfl rfl ?_
  refine VO.ma rfl rfl rfl rfl ?_
  refine VO.ma rfl rfl rfl rfl ?_
  refine VO.nil ?_
  refine VC.ret ?_
  exact Exists.intro _ (And.intro (RetN.two Tryz.results32 (ResN.v rfl) (ResN.v rfl)) (by rw [chgV_no (by rw [chgE_1 h0]; exact h0), chgE_1 h0]))
 ·have h0 := h0b
  try simp only [qqT, qqF, qqN, qqM, qqL, qqE] at h0
  refine VC.skip ?_
  refine VC.seq ?_
  refine VC.sr ?_
  refine VO.mv rfl rfl rfl rfl ?_
  refine VO.op rfl (OpE.call rfl hB rfl Tryz.call101 rfl (SpecN.spec (kit_Outside)) ?_)
  rintro _ rfl
  refine VO.nil ?_
  refine VC.cond rfl (fun h1b => ?_) (fun h1b => ?_)
  ·have h1 := h1b
   try simp only [qqT, qqF, qqN, qqM, qqL, qqE] at h1
   have h1' : outR each 0 10000000 = true := by unfold outR; exact h1b
   refine VC.sr ?_
   refine VO.ma rfl rfl rfl rfl ?_
   refine VO.ma rfl rfl rfl rfl ?_
   refine VO.nil ?_
   refine VC.ret ?_
   exact Exists.intro _ (And.intro (RetN.two Tryz.results32 (ResN.v rfl) (ResN.v rfl)) (by rw [chgV_no (by rw [chgE_2 (by omega) h1']; decide), chgE_2 (by omega) h1']))
  ·have h1 := h1b
   try simp only [qqT, qqF, qqN, qqM, qqL, qqE] at h1
   have h1' : outR each 0 10000000 = false := by unfold outR; exact h1b
   refine VC.skip ?_
   refine VC.sr ?_
   refine VO.mv rfl rfl rfl rfl ?_
   refine VO.mv rfl rfl rfl rfl ?_
   refine VO.op rfl (OpE.call rfl hB rfl Tryz.call102 rfl (plan_paceOf (by omega) (pace_rise (pacesOk (by omega)))) ?_)
   rintro _ rfl
   refine VO.mv rfl rfl rfl rfl ?_
   refine VO.val rfl rfl (OpV.extract rfl rfl rfl) ?_
   refine VO.val rfl rfl (OpV.extract rfl rfl rfl) ?_
   refine VO.op rfl (OpE.alloc rfl hB rfl Tryz.zeroValue60 rfl ?_)
   intro g11
   refine VO.op rfl (OpE.store (i := 0) rfl hB rfl Tryz.sizeOf60 rfl rfl rfl rfl rfl rfl (Nle rfl) trivial ?_)
   refine VO.ma rfl rfl rfl rfl ?_
   refine VO.nil ?_
   refine VC.sr ?_
   refine VO.mv rfl rfl rfl rfl ?_
   refine VO.mv rfl rfl rfl rfl ?_
   refine VO.op rfl (OpE.call rfl hB rfl Tryz.call102 rfl (plan_paceOf (by omega) (pace_rise (pacesOk (by omega)))) ?_)
   rintro _ rfl
   refine VO.mv rfl rfl rfl rfl ?_
   refine VO.val rfl rfl (OpV.extract rfl rfl rfl) ?_
   refine VO.val rfl rfl (OpV.extract rfl rfl rfl) ?_
   refine VO.op rfl (OpE.alloc rfl hB rfl Tryz.zeroValue60 rfl ?_)
   intro g13
   refine VO.op rfl (OpE.store (i := 1) rfl hB rfl Tryz.sizeOf60 rfl rfl rfl rfl rfl rfl (Nle rfl) trivial ?_)
   refine VO.ma rfl rfl rfl rfl ?_
   refine VO.nil ?_
   refine VC.seq ?_
   refine VC.sr ?_
   refine VO.mv rfl rfl rfl rfl ?_
   refine VO.val rfl rfl (OpV.not rfl rfl) ?_
   refine VO.mv rfl rfl rfl rfl ?_
   refine VO.opG rfl rfl rfl rfl (fun aK1b => ?_) (fun aK1b => ?_)
   ·replace aK1b : _ = false := aK1b
    have aK1 := aK1b
    try simp only [qqT, qqF, qqN, qqM, qqL, qqE] at aK1
    refine OpE.val (W := NoB) (OpV.move (.inl rfl) rfl) rfl ?_
    refine VO.opY rfl rfl rfl rfl aK1b ?_
    refine OpE.val (W := NoB) (OpV.not rfl rfl) rfl ?_
    refine VO.val rfl rfl (OpV.pickF rfl rfl rfl rfl aK1b) ?_
    refine VO.nil ?_
    refine VC.cond rfl (fun aH2b => ?_) (fun aH2b => ?_)
    ·have aH2 := aH2b
     try simp only [qqT, qqF, qqN, qqM, qqL, qqE] at aH2
     refine VC.sr ?_
     refine VO.ma rfl rfl rfl rfl ?_
     refine VO.ma rfl rfl rfl rfl ?_
     refine VO.nil ?_
     refine VC.ret ?_
     exact Exists.intro _ (And.intro (RetN.two Tryz.results32 (ResN.v rfl) (ResN.v rfl)) (by first | rw [chgV_no (by rw [chgE_8 (by omega) h1' (by simp_all)]; decide), chgE_8 (by omega) h1' (by simp_all)]))
    ·have aH2 := aH2b
     try simp only [qqT, qqF, qqN, qqM, qqL, qqE] at aH2
     refine VC.skip ?_
     refine VC.sr ?_
     refine VO.val rfl rfl (OpV.loadK_own (i := 0) rfl hB Tryz.isAgg60 Tryz.sizeOf60 rfl rfl rfl (fun h => h)) ?_
     refine VO.val rfl rfl (OpV.loadK_own (i := 1) rfl hB Tryz.isAgg60 Tryz.sizeOf60 rfl rfl rfl (fun h => h)) ?_
     refine VO.mv rfl rfl rfl rfl ?_
     refine VO.op rfl (OpE.call rfl hB rfl Tryz.call103 rfl (SpecN.spec (plan_changeover (paceO_sm hp _).1 (paceO_sm hp _).1 (outR_f h1'))) ?_)
     rintro _ rfl
     refine VO.ma rfl rfl rfl rfl ?_
     refine VO.ma rfl rfl rfl rfl ?_
     refine VO.nil ?_
     refine VC.ret ?_
     exact Exists.intro _ (And.intro (RetN.two Tryz.results32 (ResN.v rfl) (ResN.v rfl)) (by rw [chgV_ok (chgE_0 (by omega) h1' (by simp_all)), chgE_0 (by omega) h1' (by simp_all)]))
   ·replace aK1b : _ = true := aK1b
    have aK1 := aK1b
    try simp only [qqT, qqF, qqN, qqM, qqL, qqE] at aK1
    refine VO.opX rfl rfl rfl rfl aK1b ?_
    refine VO.val rfl rfl (OpV.pickT rfl rfl rfl rfl aK1b) ?_
    refine VO.nil ?_
    refine VC.condT rfl rfl ?_
    refine VC.sr ?_
    refine VO.ma rfl rfl rfl rfl ?_
    refine VO.ma rfl rfl rfl rfl ?_
    refine VO.nil ?_
    refine VC.ret ?_
    exact Exists.intro _ (And.intro (RetN.two Tryz.results32 (ResN.v rfl) (ResN.v rfl)) (by first | rw [chgV_no (by rw [chgE_8 (by omega) h1' (by simp_all)]; decide), chgE_8 (by omega) h1' (by simp_all)]))
end Go.Proofs.YtplphabekhaoaaaGreatDoor
namespace Go.Proofs
open Go.Shelf
def Tryz.lays171_ren : Go.Shelf.Ren := ⟨fun | 171 => 61 | 243 => 131 | 246 => 184 | 283 => 226 | 284 => 227 | 285 => 228 | 286 => 229 | 129 => 202 | 317 => 256 | 318 => 257 | 319 => 258 | 320 => 259 | 337 => 271 | 338 => 272 | n => n, fun | 3 => 3 | 9 => 9 | 2 => 2 | 4 => 4 | 171 => 253 | 0 => 0 | 53 => 224 | 37 => 255 | 5 => 5 | 173 => 256 | 212 => 280 | 51 => 221 | 20 => 20 | 213 => 281 | 46 => 179 | 232 => 293 | 233 => 294 | n => n, fun | 17 => 1 | 18 => 2 | 19 => 3 | n => n⟩
theorem Tryz.lays171 : Go.Proofs.Lays.n171 Tryz.prog Tryz.lays171_ren := {
 mixed := by kernel_rfl
 f129 := Tryz.func202.trans (congrArg some (by kernel_rfl))
 f171 := Tryz.func61.trans (congrArg some (by kernel_rfl))
 f243 := Tryz.func131.trans (congrArg some (by kernel_rfl))
 f246 := Tryz.func184.trans (congrArg some (by kernel_rfl))
 f283 := Tryz.func226.trans (congrArg some (by kernel_rfl))
 f284 := Tryz.func227.trans (congrArg some (by kernel_rfl))
 f285 := Tryz.func228.trans (congrArg some (by kernel_rfl))
 f286 := Tryz.func229.trans (congrArg some (by kernel_rfl))
 f317 := Tryz.func256.trans (congrArg some (by kernel_rfl))
 f318 := Tryz.func257.trans (congrArg some (by kernel_rfl))
 f319 := Tryz.func258.trans (congrArg some (by kernel_rfl))
 f320 := Tryz.func259.trans (congrArg some (by kernel_rfl))
 f337 := Tryz.func271.trans (congrArg some (by kernel_rfl))
 f338 := Tryz.func272.trans (congrArg some (by kernel_rfl))
 t0 := Tryz.underlying0
 a0 := Tryz.isAgg0
 z0 := Tryz.sizeOf0
 v0 := Tryz.zeroValue0
 t2 := Tryz.underlying2
 a2 := Tryz.isAgg2
 z2 := Tryz.sizeOf2
 v2 := Tryz.zeroValue2
 t3 := Tryz.underlying3
 a3 := Tryz.isAgg3
 z3 := Tryz.sizeOf3
 v3 := Tryz.zeroValue3
 t4 := Tryz.underlying4
 a4 := Tryz.isAgg4
 z4 := Tryz.sizeOf4
 v4 := Tryz.zeroValue4
 t5 := Tryz.underlying5
 a5 := Tryz.isAgg5
 z5 := Tryz.sizeOf5
 v5 := Tryz.zeroValue5
 t9 := Tryz.underlying9
 a9 := Tryz.isAgg9
 z9 := Tryz.sizeOf9
 v9 := Tryz.zeroValue9
 t20 := Tryz.underlying20
 a20 := Tryz.isAgg20
 z20 := Tryz.sizeOf20
 v20 := Tryz.zeroValue20
 t37 := Tryz.underlying255
 a37 := Tryz.isAgg255
 z37 := Tryz.sizeOf255
 v37 := Tryz.zeroValue255
 t46 := Tryz.underlying179
 a46 := Tryz.isAgg179
 z46 := Tryz.sizeOf179
 v46 := Tryz.zeroValue179
 t51 := Tryz.underlying221
 a51 := Tryz.isAgg221
 z51 := Tryz.sizeOf221
 v51 := Tryz.zeroValue221
 t53 := Tryz.underlying224
 a53 := Tryz.isAgg224
 z53 := Tryz.sizeOf224
 v53 := Tryz.zeroValue224
 t171 := Tryz.underlying253
 a171 := Tryz.isAgg253
 z171 := Tryz.sizeOf253
 v171 := Tryz.zeroValue253
 t173 := Tryz.underlying256
 a173 := Tryz.isAgg256
 z173 := Tryz.sizeOf256
 v173 := Tryz.zeroValue256
 t212 := Tryz.underlying280
 a212 := Tryz.isAgg280
 z212 := Tryz.sizeOf280
 v212 := Tryz.zeroValue280
 t213 := Tryz.underlying281
 a213 := Tryz.isAgg281
 z213 := Tryz.sizeOf281
 t232 := Tryz.underlying293
 a232 := Tryz.isAgg293
 z232 := Tryz.sizeOf293
 v232 := Tryz.zeroValue293
 t233 := Tryz.underlying294
 a233 := Tryz.isAgg294
 z233 := Tryz.sizeOf294
 v233 := Tryz.zeroValue294
 g17 := by kernel_rfl
 g18 := by kernel_rfl
 g19 := by kernel_rfl }
open Go.RowKit Go.Sort Go.Lib in
theorem Tryz.strconv_Itoa_small (i : Nat) (hi : i < 100) (w : World) :
  Calls Tryz.prog 61 #[.int .i64 i] w fun e w' => e = .returned (.string ⟨(Lib.decDigits i).toArray⟩) ∧ w' = w := Any.strconv_Itoa_small Tryz.lays171 i hi w
end Go.Proofs
namespace Go.Proofs.YtplphabekhaoaaaGreatDoor
open Go.RowKit
set_option linter.unusedVariables false
set_option linter.unusedSimpArgs false
def dig (i : Nat) : ByteArray := ⟨#[(48 + i).toUInt8]⟩
theorem dec_dig : ∀ i, i < 10 → (⟨(Lib.decDigits i).toArray⟩ : ByteArray) = dig i := by decide +kernel
theorem itoa_small {i : Nat} (hi : i < 10) : SpecN Tryz.prog 61 [avI (i : Int)] (fun y => y = avS (dig i)) := by
 intro w us ha
 obtain ⟨v1, rfl, q1⟩ := argsL ha
 rw [q1.eq_v]
 refine (Tryz.strconv_Itoa_small i (by omega) w).mono ?_
 rintro e w' ⟨rfl, rfl⟩
 rw [dec_dig i hi]
 exact ⟨_, _, rfl, rfl, .v _, Chg.refl _ _, trivial⟩

set_option maxRecDepth 100000 in
set_option maxHeartbeats 4000000 in
theorem rt_facts   :
  SpecN Tryz.prog 60 [] (fun y => y = avB true) := by
 refine SpecN.of_VCN Tryz.func60 rfl Tryz.ntmps60 (Nle rfl) fun w A hB => ?_
 have hnew : True := trivial
 refine VC.sr ?_
 refine VO.ma rfl rfl rfl rfl ?_
 refine VO.nil ?_
 refine VC.sr ?_
 refine VO.val rfl rfl (OpV.build (pls := #[(0, 1), (1, 1), (2, 1), (3, 1), (4, 1)]) rfl Tryz.zeroValue154 Tryz.underlying154 (fun w => by kernel_rfl) rfl rfl) ?_
 refine VO.op rfl (OpE.buildSlice (zc := #[.string ⟨#[]⟩, .string ⟨#[]⟩, .int .i64 0, .int .i64 0, .int .i64 0]) rfl hB rfl Tryz.underlying155 Tryz.sizeOf154 Tryz.zeroValue154 (by decide) (by decide) (by kernel_rfl) rfl rfl ?_)
 refine VO.le _ (Le.recast (t := 11) (y := avL panL) rfl (fun w Z u h => Rep.rowL (xs := panL) rfl h)) ?_
 refine VO.val rfl rfl (OpV.build (pls := #[(0, 1), (1, 1), (2, 1), (3, 1)]) rfl Tryz.zeroValue157 Tryz.underlying157 (fun w => by kernel_rfl) rfl rfl) ?_
 refine VO.op rfl (OpE.call rfl hB rfl Tryz.call125 rfl (SpecN.spec (panel_Needs (p := panP) panP_sm)) ?_)
 rintro _ rfl
 refine VO.le _ (Le.recast (t := 13) (y := .tup [avL ([⟨⟨#[99, 97, 112]⟩, 1⟩] : List NeedS), avI 0]) rfl (fun w Z u h => by rw [← panP_needs, ← panP_ok]; exact h)) ?_
 refine VO.mv rfl rfl rfl rfl ?_
 refine VO.val rfl rfl (OpV.extract rfl rfl rfl) ?_
 refine VO.val rfl rfl (OpV.extract rfl rfl rfl) ?_
 refine VO.ma rfl rfl rfl rfl ?_
 refine VO.ma rfl rfl rfl rfl ?_
 refine VO.nil ?_
 refine VC.sr ?_
 refine VO.op rfl (OpE.buildSlice (zc := #[.string ⟨#[]⟩]) rfl hB rfl Tryz.underlying94 Tryz.sizeOf9 Tryz.zeroValue9 (by decide) (by decide) (by kernel_rfl) rfl rfl ?_)
 refine VO.le _ (Le.recast (t := 17) (y := avStrs loadS) rfl (fun w Z u h => Rep.strs (xs := loadS) rfl h)) ?_
 refine VO.op rfl (OpE.buildSlice (zc := #[.string ⟨#[]⟩]) rfl hB rfl Tryz.underlying94 Tryz.sizeOf9 Tryz.zeroValue9 (by decide) (by decide) (by kernel_rfl) rfl rfl ?_)
 refine VO.le _ (Le.recast (t := 18) (y := avStrs [⟨#[97]⟩]) rfl (fun w Z u h => Rep.strs (xs := [⟨#[97]⟩]) rfl h)) ?_
 refine VO.op rfl (OpE.buildSlice (zc := #[.string ⟨#[]⟩]) rfl hB rfl Tryz.underlying94 Tryz.sizeOf9 Tryz.zeroValue9 (by decide) (by decide) (by kernel_rfl) rfl rfl ?_)
 refine VO.le _ (Le.recast (t := 19) (y := avStrs [⟨#[98]⟩]) rfl (fun w Z u h => Rep.strs (xs := [⟨#[98]⟩]) rfl h)) ?_
 refine VO.op rfl (OpE.buildSlice (zc := #[.slice none 0 0, .slice none 0 0]) rfl hB rfl Tryz.underlying91 Tryz.sizeOf94 Tryz.zeroValue94 (by decide) (by decide) (by kernel_rfl) rfl rfl ?_)
 refine VO.le _ (Le.recast (t := 20) (y := avM loadP) rfl (fun w Z u h => Rep.listM (xs := loadP) rfl h)) ?_
 refine VO.op rfl (OpE.call rfl hB rfl Tryz.call76 rfl (SpecN.spec (setup_Total load_sms load_smss)) ?_)
 rintro _ rfl
 refine VO.le _ (Le.recast (t := 21) (y := .tup [avI 2, avI 0]) rfl (fun w Z u h => by rw [load_two, load_ok] at h; exact h)) ?_
 refine VO.mv rfl rfl rfl rfl ?_
 refine VO.val rfl rfl (OpV.extract rfl rfl rfl) ?_
 refine VO.val rfl rfl (OpV.extract rfl rfl rfl) ?_
 refine VO.ma rfl rfl rfl rfl ?_
 refine VO.ma rfl rfl rfl rfl ?_
 refine VO.nil ?_
 refine VC.sr ?_
 refine VO.op rfl (OpE.buildSlice (zc := #[.int .i64 0, .int .i64 0]) rfl hB rfl Tryz.underlying22 Tryz.sizeOf3 Tryz.zeroValue3 (by decide) (by decide) (by kernel_rfl) rfl rfl ?_)
 refine VO.le _ (Le.lits (t := 25) (xs := [10, 30]) rfl rfl) ?_
 refine VO.op rfl (OpE.buildSlice (zc := #[.int .i64 0]) rfl hB rfl Tryz.underlying22 Tryz.sizeOf3 Tryz.zeroValue3 (by decide) (by decide) (by kernel_rfl) rfl rfl ?_)
 refine VO.le _ (Le.lits (t := 26) (xs := [0]) rfl rfl) ?_
 refine VO.op rfl (OpE.call rfl hB rfl Tryz.call52 rfl (SpecN.spec (line_Leave_S)) ?_)
 rintro _ rfl
 refine VO.le _ (Le.recast (t := 27) (y := .tup [avInts [40, 70], avI 0]) rfl (fun w Z u h => by rw [lined_leaves, lined_flow] at h; exact h)) ?_
 refine VO.mv rfl rfl rfl rfl ?_
 refine VO.val rfl rfl (OpV.extract rfl rfl rfl) ?_
 refine VO.val rfl rfl (OpV.extract rfl rfl rfl) ?_
 refine VO.ma rfl rfl rfl rfl ?_
 refine VO.ma rfl rfl rfl rfl ?_
 refine VO.nil ?_
 refine VC.sr ?_
 refine VO.val rfl rfl (OpV.build (pls := #[(0, 1), (1, 1), (2, 1), (3, 1), (4, 1), (5, 1), (6, 1), (7, 1)]) rfl Tryz.zeroValue163 Tryz.underlying163 (fun w => by kernel_rfl) rfl rfl) ?_
 refine VO.op rfl (OpE.buildSlice (zc := #[.string ⟨#[]⟩, .string ⟨#[]⟩, .int .i64 0, .int .i64 0, .bool false, .string ⟨#[]⟩, .string ⟨#[]⟩, .string ⟨#[]⟩]) rfl hB rfl Tryz.underlying164 Tryz.sizeOf163 Tryz.zeroValue163 (by decide) (by decide) (by kernel_rfl) rfl rfl ?_)
 refine VO.le _ (Le.recast (t := 32) (y := avL rdL) rfl (fun w Z u h => Rep.rowL (xs := rdL) rfl h)) ?_
 refine VO.op rfl (OpE.call rfl hB rfl Tryz.call126 rfl (SpecN.spec (inspect_Million rdL_sm)) ?_)
 rintro _ rfl
 refine VO.le _ (Le.recast (t := 33) (y := .tup [.agg [avI 1000000, avI ((millN rdL).2 : Int)], avI 0]) rfl (fun w Z u h => by rw [rdL_n, rdL_ok] at h; exact h)) ?_
 refine VO.mv rfl rfl rfl rfl ?_
 refine VO.val rfl rfl (OpV.extract rfl rfl rfl) ?_
 refine VO.val rfl rfl (OpV.extract rfl rfl rfl) ?_
 refine VO.op rfl (OpE.alloc rfl hB rfl Tryz.zeroValue159 rfl ?_)
 intro g7
 refine VO.op rfl (OpE.store (i := 0) rfl hB rfl Tryz.sizeOf159 rfl rfl rfl rfl rfl rfl (Nle rfl) trivial ?_)
 refine VO.ma rfl rfl rfl rfl ?_
 refine VO.nil ?_
 refine VC.sr ?_
 refine VO.mv rfl rfl rfl rfl ?_
 refine VO.val rfl rfl (OpV.eql rfl rfl rfl) ?_
 refine VO.le _ (Le.boolT (t := 37) rfl (decide_eq_true rfl)) ?_
 refine VO.mv rfl rfl rfl rfl ?_
 refine VO.opY rfl rfl rfl rfl rfl ?_
 refine OpE.val (W := NoB) (OpV.move (.inl rfl) rfl) rfl ?_
 refine VO.opY rfl rfl rfl rfl rfl ?_
 refine OpE.val (W := NoB) (OpV.eql rfl rfl rfl) rfl ?_
 refine VO.le _ (Le.boolT (t := 40) rfl (decide_eq_true rfl)) ?_
 refine VO.val rfl rfl (OpV.pickT rfl rfl rfl rfl rfl) ?_
 refine VO.mv rfl rfl rfl rfl ?_
 refine VO.opY rfl rfl rfl rfl rfl ?_
 refine OpE.val (W := NoB) (OpV.move (.inl rfl) rfl) rfl ?_
 refine VO.opY rfl rfl rfl rfl rfl ?_
 refine OpE.val (W := NoB) (OpV.eql rfl rfl rfl) rfl ?_
 refine VO.le _ (Le.boolT (t := 44) rfl (decide_eq_true rfl)) ?_
 refine VO.val rfl rfl (OpV.pickT rfl rfl rfl rfl rfl) ?_
 refine VO.mv rfl rfl rfl rfl ?_
 refine VO.opY rfl rfl rfl rfl rfl ?_
 refine OpE.val (W := NoB) (OpV.move (.inl rfl) rfl) rfl ?_
 refine VO.opY rfl rfl rfl rfl rfl ?_
 refine OpE.val (W := NoB) (OpV.eql rfl rfl rfl) rfl ?_
 refine VO.le _ (Le.boolT (t := 48) rfl (decide_eq_true rfl)) ?_
 refine VO.val rfl rfl (OpV.pickT rfl rfl rfl rfl rfl) ?_
 refine VO.mv rfl rfl rfl rfl ?_
 refine VO.opY rfl rfl rfl rfl rfl ?_
 refine OpE.val (W := NoB) (OpV.move (.inl rfl) rfl) rfl ?_
 refine VO.opY rfl rfl rfl rfl rfl ?_
 refine OpE.val (W := NoB) (OpV.len_im rfl Tryz.underlying58 rfl) rfl ?_
 refine VO.opY rfl rfl rfl rfl rfl ?_
 refine OpE.val (W := NoB) (OpV.eql rfl rfl rfl) rfl ?_
 refine VO.le _ (Le.boolT (t := 53) rfl (decide_eq_true rfl)) ?_
 refine VO.val rfl rfl (OpV.pickT rfl rfl rfl rfl rfl) ?_
 refine VO.mv rfl rfl rfl rfl ?_
 refine VO.opY rfl rfl rfl rfl rfl ?_
 refine OpE.val (W := NoB) (OpV.move (.inl rfl) rfl) rfl ?_
 refine VO.opY rfl rfl rfl rfl rfl ?_
 refine OpE.val (W := NoB) (OpV.eql rfl rfl rfl) rfl ?_
 refine VO.le _ (Le.boolT (t := 57) rfl (decide_eq_true rfl)) ?_
 refine VO.val rfl rfl (OpV.pickT rfl rfl rfl rfl rfl) ?_
 refine VO.mv rfl rfl rfl rfl ?_
 refine VO.opY rfl rfl rfl rfl rfl ?_
 refine OpE.val (W := NoB) (OpV.move (.inl rfl) rfl) rfl ?_
 refine VO.opY rfl rfl rfl rfl rfl ?_
 refine OpE.val (W := NoB) (OpV.len_im rfl Tryz.underlying22 rfl) rfl ?_
 refine VO.opY rfl rfl rfl rfl rfl ?_
 refine OpE.val (W := NoB) (OpV.eql rfl rfl rfl) rfl ?_
 refine VO.le _ (Le.boolT (t := 62) rfl (decide_eq_true rfl)) ?_
 refine VO.val rfl rfl (OpV.pickT rfl rfl rfl rfl rfl) ?_
 refine VO.mv rfl rfl rfl rfl ?_
 refine VO.opY rfl rfl rfl rfl rfl ?_
 refine OpE.val (W := NoB) (OpV.fieldAddrO 0 rfl Tryz.underlying159 rfl rfl Tryz.sizeOf3 rfl) rfl ?_
 refine VO.opY rfl rfl rfl rfl rfl ?_
 refine OpE.val (W := NoB) (OpV.load_own (i := 0) rfl hB Tryz.isAgg3 rfl rfl rfl (fun h => h)) rfl ?_
 refine VO.opY rfl rfl rfl rfl rfl ?_
 refine OpE.val (W := NoB) (OpV.eql rfl rfl rfl) rfl ?_
 refine VO.le _ (Le.boolT (t := 67) rfl (decide_eq_true rfl)) ?_
 refine VO.val rfl rfl (OpV.pickT rfl rfl rfl rfl rfl) ?_
 refine VO.ma rfl rfl rfl rfl ?_
 refine VO.nil ?_
 refine VC.ret ?_
 exact Exists.intro _ (And.intro (RetN.one Tryz.results60 (ResN.v rfl)) (rfl))
end Go.Proofs.YtplphabekhaoaaaGreatDoor
namespace Go.Proofs.YtplphabekhaoaaaGreatDoor
open Go.RowKit
set_option linter.unusedVariables false
set_option linter.unusedSimpArgs false
theorem pNm_cat : ∀ i, i < 10 → (⟨#[112]⟩ : ByteArray) ++ dig i = pNm i := by decide +kernel
set_option maxRecDepth 100000 in
set_option maxHeartbeats 1000000 in
theorem topSetups_any (a0 : Option Addr) (cap0 : Nat) (L : List Int) (w : World) (hin : Inp w a0 L) :
  Calls Tryz.prog 7 #[.slice a0 L.length cap0] w fun e w' => e = .returned (.bool true) ∧ Chg NoB w w' := by
 refine law_calls Tryz.func7 rfl Tryz.ntmps7 (Nle rfl) Tryz.results7 ?_
 have hB := B0.ok w (fun _ => True) 137
 have hnew : True := trivial
 refine VC.sr ?_
 refine VO.ma rfl rfl rfl rfl ?_
 refine VO.nil ?_
 refine VC.sr ?_
 refine VO.mv rfl rfl rfl rfl ?_
 refine VO.val rfl rfl (OpV.build (pls := #[(0, 1), (1, 1)]) rfl Tryz.zeroValue25 Tryz.underlying25 (fun w => by kernel_rfl) rfl rfl) ?_
 refine VO.op rfl (OpE.box rfl hB rfl rfl rfl ?_)
 intro g
 refine VO.ma rfl rfl rfl rfl ?_
 refine VO.nil ?_
 refine VC.stream (i := 0) (sl := [(3, sp g)]) (by exact rfl) (by exact rfl) hin (by exact ⟨rfl, trivial⟩) (fun p hp => by simp at hp; subst hp; exact ⟨_, rfl⟩) (fun w1 hge hB => ?_)
 refine VC.sr ?_
 refine VO.mv rfl rfl rfl rfl ?_
 refine VO.op rfl (OpE.callT' (0) rfl rfl hB rfl Tryz.call58 rfl (partLists_M (by decide) (by decide)) (by omega) ?_)
 rintro _ ⟨p, hp, rfl⟩
 refine VO.ma rfl rfl rfl rfl ?_
 refine VO.nil ?_
 refine VC.seq ?_
 refine VC.seq ?_
 have hps := hp.1.smss
 have hpl := hp.1.1
 have hp5 := hp.2
 refine VC.region ?_
 refine VO.mv rfl rfl rfl rfl ?_
 refine VO.op rfl (OpE.call rfl hB rfl Tryz.call59 rfl (SpecN.spec (rf_PartsFault hps)) ?_)
 rintro _ rfl
 refine VO.val rfl rfl (OpV.neq rfl rfl rfl) ?_
 refine VO.mv rfl rfl rfl rfl ?_
 refine VO.opG rfl rfl rfl rfl (fun aK1b => ?_) (fun aK1b => ?_)
 ·replace aK1b : _ = false := aK1b
  have aK1 := aK1b
  try simp only [qqT, qqF, qqN, qqM, qqL, qqE] at aK1
  refine OpE.val (W := NoB) (OpV.move (.inl rfl) rfl) rfl ?_
  refine VO.opY rfl rfl rfl rfl aK1b ?_
  refine OpE.val (W := NoB) (OpV.len_im rfl Tryz.underlying91 rfl) rfl ?_
  refine VO.opY rfl rfl rfl rfl aK1b ?_
  refine OpE.val (W := NoB) (OpV.eql rfl rfl rfl) rfl ?_
  refine VO.val rfl rfl (OpV.pickF rfl rfl rfl rfl aK1b) ?_
  refine VO.nil ?_
  refine VC.cond rfl (fun aH2b => ?_) (fun aH2b => ?_)
  ·have aH2 := aH2b
   try simp only [qqT, qqF, qqN, qqM, qqL, qqE] at aH2
   refine VC.sr ?_
   refine VO.op rfl (OpE.call rfl hB rfl Tryz.call60 rfl (SpecN.spec (rt_facts)) ?_)
   rintro _ rfl
   refine VO.ma rfl rfl rfl rfl ?_
   refine VO.nil ?_
   refine VC.ret ?_
   exact And.intro rfl rfl
  ·have aH2 := aH2b
   try simp only [qqT, qqF, qqN, qqM, qqL, qqE] at aH2
   refine VC.skip ?_
   refine VC.seq ?_
   have hpf : partsF (4 : Int) p = 0 := by omega
   have hall : ∀ q, q < p.length → RightP 4 (p.getD q default) := fun q hq => RightP.of (m := 4) rfl hpf hq
   have hp0 : 0 < p.length := by omega
   refine VC.region ?_
   refine VO.ma rfl rfl rfl rfl ?_
   refine VO.nil ?_
   refine VC.seq ?_
   refine VC.sr ?_
   refine VO.mv rfl rfl rfl rfl ?_
   refine VO.val rfl rfl (OpV.len_im rfl Tryz.underlying91 rfl) ?_
   refine VO.mv rfl rfl rfl rfl ?_
   refine VO.nil ?_
   refine VC.block ?_
   refine VC.le _ (Le.nilRow 3 60) ?_
   refine VC.loopK [(4, _), (36, _), (37, _)] ⟨rfl, rfl, rfl, trivial⟩ ({zz : Value × Nat // zz.2 ≤ p.length}) (fun (iZ : {zz : Value × Nat // zz.2 ≤ p.length}) => match iZ with | ⟨⟨u, q⟩, hq⟩ => [(5, .v u), (38, avI (q : Int))]) (fun (iZ : {zz : Value × Nat // zz.2 ≤ p.length}) => match iZ with | ⟨⟨u, q⟩, hq⟩ => [.row u q 3 (rowL (pcs p q)) 60]) (fun (iZ : {zz : Value × Nat // zz.2 ≤ p.length}) => match iZ with | ⟨⟨u, q⟩, hq⟩ => 200000) (fun (iZ : {zz : Value × Nat // zz.2 ≤ p.length}) => match iZ with | ⟨⟨u, q⟩, hq⟩ => p.length - q) ⟨(.slice none 0 0, 0), Nat.zero_le _⟩ (Le.mk hB [0] ⟨rfl, rfl, rfl, rfl, rfl, trivial⟩ rfl rfl (Nle rfl)) ?_
   rintro ⟨⟨u, q⟩, hq⟩
   show VC _ _ _ _ ⟨[(5, .v u), (38, avI (q : Int))] ++ [(4, _), (36, _), (37, _)], [.row u q 3 (rowL (pcs p q)) 60], 200000⟩
   simp only at hq
   refine VC.sr ?_
   refine VO.val rfl rfl (OpV.lss rfl rfl rfl) ?_
   refine VO.nil ?_
   refine VC.seq ?_
   refine VC.cond rfl (fun aH3b => ?_) (fun aH3b => ?_)
   ·have aH3 := aH3b
    try simp only [qqT, qqF, qqN, qqM, qqL, qqE] at aH3
    refine VC.skip ?_
    refine VC.seq ?_
    refine VC.block ?_
    refine VC.seq ?_
    obtain ⟨l, hle⟩ : ∃ l, p.getD q default = l := ⟨_, rfl⟩
    have hr : RightP 4 l := by rw [← hle]; exact hall q (by omega)
    have hrl := hr.len
    refine VC.region ?_
    refine VO.mv rfl rfl rfl rfl ?_
    refine VO.val rfl rfl (OpV.indexAddr_1 rfl Tryz.underlying91 Tryz.sizeOf94 rfl rfl rfl (by omega)) ?_
    refine VO.val rfl rfl (OpV.load_at rfl hB OutW.no Tryz.isAgg94 rfl rfl) ?_
    refine VO.le _ (Le.recast (t := 42) (y := avStrs l) rfl (fun w Z u h => by rw [← hle]; exact h)) ?_
    refine VO.ma rfl rfl rfl rfl ?_
    refine VO.ma rfl rfl rfl rfl ?_
    refine VO.nil ?_
    refine VC.sr ?_
    refine VO.mv rfl rfl rfl rfl ?_
    refine VO.op rfl (OpE.call rfl hB rfl Tryz.call61 rfl (SpecN.spec (itoa_small (by omega))) ?_)
    rintro _ rfl
    refine VO.val rfl rfl (OpV.sadd rfl rfl rfl (by have h1 : (⟨#[112]⟩ : ByteArray).size = 1 := rfl; have h2 : (dig q).size = 1 := rfl; omega)) ?_
    refine VO.le _ (Le.recast (t := 45) (y := avS (pNm q)) rfl (fun w Z u h => by rw [← pNm_cat q (by omega)]; exact h)) ?_
    refine VO.val rfl rfl (OpV.build (pls := #[(0, 1), (1, 1), (2, 1)]) rfl Tryz.zeroValue60 Tryz.underlying60 (fun w => by kernel_rfl) rfl rfl) ?_
    refine VO.op rfl (OpE.alloc rfl hB rfl Tryz.zeroValue60 rfl ?_)
    intro g8
    refine VO.op rfl (OpE.store (i := 1) rfl hB rfl Tryz.sizeOf60 rfl rfl rfl rfl rfl rfl (Nle rfl) trivial ?_)
    refine VO.nil ?_
    refine VC.seq ?_
    refine VC.sr ?_
    refine VO.mv rfl rfl rfl rfl ?_
    refine VO.val rfl rfl (OpV.len_im rfl Tryz.underlying94 rfl) ?_
    refine VO.mv rfl rfl rfl rfl ?_
    refine VO.nil ?_
    refine VC.block ?_
    refine VC.le _ (Le.nilRow 2 97) ?_
    refine VC.loopK [(4, _), (5, _), (8, _), (36, _), (37, _), (38, _), (47, _), (48, _)] ⟨rfl, rfl, rfl, rfl, rfl, rfl, rfl, rfl, trivial⟩ ({z : (Option Addr × Nat) × Nat // z.2 ≤ l.length}) (fun (iZ : {z : (Option Addr × Nat) × Nat // z.2 ≤ l.length}) => match iZ with | ⟨⟨⟨b, c⟩, r⟩, hr1⟩ => [(49, avI (r : Int))]) (fun (iZ : {z : (Option Addr × Nat) × Nat // z.2 ≤ l.length}) => match iZ with | ⟨⟨⟨b, c⟩, r⟩, hr1⟩ => [.row u q 3 (rowL (pcs p q)) 60, .box g8 ⟨[avS (pNm q), avI 1, .v (.slice b r c)], 60, 3⟩, .row (.slice b r c) r 2 (rowL (ones (l.take r))) 97]) (fun (iZ : {z : (Option Addr × Nat) × Nat // z.2 ≤ l.length}) => match iZ with | ⟨⟨⟨b, c⟩, r⟩, hr1⟩ => 200000) (fun (iZ : {z : (Option Addr × Nat) × Nat // z.2 ≤ l.length}) => match iZ with | ⟨⟨⟨b, c⟩, r⟩, hr1⟩ => l.length - r) ⟨((none, 0), 0), Nat.zero_le _⟩ (Le.mk hB [0, 1, 2] ⟨rfl, rfl, rfl, rfl, rfl, rfl, rfl, rfl, rfl, trivial⟩ rfl rfl (Nle rfl)) ?_
    rintro ⟨⟨⟨b, c⟩, r⟩, hr1⟩
    show VC _ _ _ _ ⟨[(49, avI (r : Int))] ++ [(4, _), (5, _), (8, _), (36, _), (37, _), (38, _), (47, _), (48, _)], [.row u q 3 (rowL (pcs p q)) 60, .box g8 ⟨[avS (pNm q), avI 1, .v (.slice b r c)], 60, 3⟩, .row (.slice b r c) r 2 (rowL (ones (l.take r))) 97], 200000⟩
    simp only at hr1
    refine VC.sr ?_
    refine VO.val rfl rfl (OpV.lss rfl rfl rfl) ?_
    refine VO.nil ?_
    refine VC.seq ?_
    refine VC.cond rfl (fun aH4b => ?_) (fun aH4b => ?_)
    ·have aH4 := aH4b
     try simp only [qqT, qqF, qqN, qqM, qqL, qqE] at aH4
     refine VC.skip ?_
     refine VC.seq ?_
     refine VC.block ?_
     refine VC.sr ?_
     refine VO.val rfl rfl (OpV.indexAddr_1 rfl Tryz.underlying94 Tryz.sizeOf9 rfl rfl rfl (by omega)) ?_
     refine VO.val rfl rfl (OpV.load_at rfl hB OutW.no Tryz.isAgg9 rfl rfl) ?_
     refine VO.ma rfl rfl rfl rfl ?_
     refine VO.nil ?_
     refine VC.region ?_
     refine VO.val rfl rfl (OpV.fieldAddrO 2 rfl Tryz.underlying60 rfl rfl Tryz.sizeOf58 rfl) ?_
     refine VO.val rfl rfl (OpV.load_own (i := 1) rfl hB Tryz.isAgg58 rfl rfl rfl (fun h => h)) ?_
     refine VO.mv rfl rfl rfl rfl ?_
     refine VO.val rfl rfl (OpV.build (pls := #[(0, 1), (1, 1)]) rfl Tryz.zeroValue97 Tryz.underlying97 (fun w => by kernel_rfl) rfl rfl) ?_
     refine VO.op rfl (OpE.buildSlice (zc := #[.string ⟨#[]⟩, .int .i64 0]) rfl hB rfl Tryz.underlying58 Tryz.sizeOf97 Tryz.zeroValue97 (by decide) (by decide) (by kernel_rfl) rfl rfl ?_)
     refine VO.op rfl (OpE.append1S (i := 2) rfl hB rfl Tryz.underlying58 (infoOf Tryz.t97 2 (by kernel_rfl) rfl rfl) rfl (by decide) (by decide) rfl rfl rfl rfl (rowL_snoc (ones (l.take r)) (⟨l.getD r ByteArray.empty, 1⟩ : NeedS)) (by omega) (fun _ _ => trivial) ?_)
     intro b58 c58
     refine VO.val rfl rfl (OpV.fieldAddrO 2 rfl Tryz.underlying60 rfl rfl Tryz.sizeOf58 rfl) ?_
     refine VO.op rfl (OpE.store (i := 1) rfl hB rfl Tryz.sizeOf58 rfl rfl rfl rfl rfl rfl (Nle rfl) trivial ?_)
     refine VO.nil ?_
     refine VC.region ?_
     refine VO.val rfl rfl (OpV.add rfl rfl rfl (by unfold fits; omega)) ?_
     refine VO.mv rfl rfl rfl rfl ?_
     refine VO.nil ?_
     exact Exists.intro (⟨((b58, c58), r + 1), by show r + 1 ≤ _; omega⟩) (And.intro (Le.mk hB [0, 1, 2] ⟨rfl, rfl, rfl, rfl, rfl, rfl, rfl, rfl, rfl, trivial⟩ rfl (by dsimp only; rw [ones_take (by omega)]; rfl) (Nle rfl)) (by first | omega | (show _ < _; omega) | (simp only []; omega)))
    ·have aH4 := aH4b
     try simp only [qqT, qqF, qqN, qqM, qqL, qqE] at aH4
     refine VC.exit ?_
     obtain rfl : r = l.length := by omega
     rw [List.take_length]
     refine VC.le _ (Le.cellRow (i := 1) (k := 2) (j := 2) (y := avL (ones l)) hB rfl rfl rfl (by omega) (fun w Z u h => Rep.rowL (xs := ones l) (ones_len l).symm h)) ?_
     refine VC.region ?_
     refine VO.mv rfl rfl rfl rfl ?_
     refine VO.val rfl rfl (OpV.loadK_own (i := 1) rfl hB Tryz.isAgg60 Tryz.sizeOf60 rfl rfl rfl (fun h => h)) ?_
     refine VO.op rfl (OpE.buildSlice (zc := #[.string ⟨#[]⟩, .int .i64 0, .slice none 0 0]) rfl hB rfl Tryz.underlying26 Tryz.sizeOf60 Tryz.zeroValue60 (by decide) (by decide) (by kernel_rfl) rfl rfl ?_)
     refine VO.op rfl (OpE.append1 (i := 0) rfl hB rfl Tryz.underlying26 (infoOf Tryz.t60 3 (by kernel_rfl) rfl rfl) rfl (by decide) (by decide) rfl rfl rfl rfl (rowL_snoc (pcs p q) (⟨pNm q, 1, ones l⟩ : PaceS)) (by omega) (fun _ _ => trivial) ?_)
     intro u2
     refine VO.ma rfl rfl rfl rfl ?_
     refine VO.nil ?_
     refine VC.region ?_
     refine VO.val rfl rfl (OpV.add rfl rfl rfl (by unfold fits; omega)) ?_
     refine VO.mv rfl rfl rfl rfl ?_
     refine VO.nil ?_
     exact Exists.intro (⟨(u2, q + 1), by show _ ≤ _; omega⟩) (And.intro (Le.mk hB [0] ⟨rfl, rfl, rfl, rfl, rfl, trivial⟩ rfl (by dsimp only; rw [pcs_succ, hle]; rfl) (Nle rfl)) (by first | omega | (show _ < _; omega) | (simp only []; omega)))
   ·have aH3 := aH3b
    try simp only [qqT, qqF, qqN, qqM, qqL, qqE] at aH3
    refine VC.exit ?_
    refine VC.seq ?_
    obtain rfl : q = p.length := by omega
    refine VC.le _ (Le.rowT (t := 5) (i := 0) (xs := pcs p p.length) hB hnew rfl rfl (pcs_len _ _).symm) ?_
    have hsm := pcs_sm (by omega) hall
    have hpz := pcs_ok (by omega) hall
    refine VC.region ?_
    refine VO.ma rfl rfl rfl rfl ?_
    refine VO.nil ?_
    refine VC.sr ?_
    refine VO.mv rfl rfl rfl rfl ?_
    refine VO.val rfl rfl (OpV.indexAddr_1 rfl Tryz.underlying91 Tryz.sizeOf94 rfl rfl rfl (by omega)) ?_
    refine VO.val rfl rfl (OpV.load_at rfl hB OutW.no Tryz.isAgg94 rfl rfl) ?_
    refine VO.ma rfl rfl rfl rfl ?_
    refine VO.nil ?_
    refine VC.sr ?_
    refine VO.ma rfl rfl rfl rfl ?_
    refine VO.nil ?_
    refine VC.seq ?_
    refine VC.sr ?_
    refine VO.ma rfl rfl rfl rfl ?_
    refine VO.nil ?_
    refine VC.block ?_
    refine VC.loopK [(4, _), (5, _)] ⟨rfl, rfl, trivial⟩ ({i : Nat // 1 ≤ i ∧ i ≤ p.length}) (fun (iZ : {i : Nat // 1 ≤ i ∧ i ≤ p.length}) => match iZ with | ⟨i, hi1, hi⟩ => [(11, avI (topT p i)), (12, avStrs (p.getD (i - 1) default)), (13, avI (topT p i)), (14, avI (i : Int))]) (fun (iZ : {i : Nat // 1 ≤ i ∧ i ≤ p.length}) => match iZ with | ⟨i, hi1, hi⟩ => []) (fun (iZ : {i : Nat // 1 ≤ i ∧ i ≤ p.length}) => match iZ with | ⟨i, hi1, hi⟩ => 200000) (fun (iZ : {i : Nat // 1 ≤ i ∧ i ≤ p.length}) => match iZ with | ⟨i, hi1, hi⟩ => p.length - i) ⟨1, Nat.le_refl _, by omega⟩ (Le.mk hB [] ⟨(by dsimp only; rw [topT_one]; rfl), rfl, (by dsimp only; rw [topT_one]; rfl), rfl, rfl, rfl, trivial⟩ rfl rfl (Nle rfl)) ?_
    rintro ⟨i, hi1, hi⟩
    show VC _ _ _ _ ⟨[(11, avI (topT p i)), (12, avStrs (p.getD (i - 1) default)), (13, avI (topT p i)), (14, avI (i : Int))] ++ [(4, _), (5, _)], [], 200000⟩
    refine VC.seq ?_
    refine VC.sr ?_
    refine VO.mv rfl rfl rfl rfl ?_
    refine VO.mv rfl rfl rfl rfl ?_
    refine VO.val rfl rfl (OpV.len_im rfl Tryz.underlying91 rfl) ?_
    refine VO.val rfl rfl (OpV.lss rfl rfl rfl) ?_
    refine VO.nil ?_
    refine VC.cond rfl (fun aH5b => ?_) (fun aH5b => ?_)
    ·have aH5 := aH5b
     try simp only [qqT, qqF, qqN, qqM, qqL, qqE] at aH5
     refine VC.skip ?_
     refine VC.seq ?_
     refine VC.block ?_
     refine VC.seq ?_
     have htt := topT_in hall i (by omega)
     have hra : RightP 4 (p.getD (i - 1) default) := hall (i - 1) (by omega)
     have hrb : RightP 4 (p.getD i default) := hall i (by omega)
     have hCh := plan_Changeover (p := pcs p p.length) (a := pNm (i - 1)) (b := pNm i) (each := 1) hsm
     have hcE : chgE (pcs p p.length) (pNm (i - 1)) (pNm i) 1 = 0 := chgE_0 hpz (by decide) (by rw [pcs_has (by omega), pcs_has (by omega)]; rfl)
     rw [chgV_ok hcE, hcE, pcs_of (by omega) (by omega : i - 1 < p.length), pcs_of (by omega) (by omega : i < p.length), chgI] at hCh
     simp only [ones_miss, Int.one_mul] at hCh
     obtain ⟨a, hae⟩ : ∃ a, p.getD (i - 1) default = a := ⟨_, rfl⟩
     obtain ⟨b, hbe⟩ : ∃ b, p.getD i default = b := ⟨_, rfl⟩
     refine VC.le _ (Le.recast (t := 12) (y := avStrs a) rfl (fun w Z u h => by rw [← hae]; exact h)) ?_
     rw [hae, hbe] at hCh
     rw [hae] at hra
     rw [hbe] at hrb
     have hal := hra.len
     have hbl := hrb.len
     have has := hra.sms (by decide)
     have hbs := hrb.sms (by decide)
     have hpad := pad4_len hal
     have hpset := pad4_setup hra
     have hpds : SmS (pad4 a) := (Good'.of hpset).sms
     have hnE := pad4_next hrb hra
     have hfit : Fits (pad4 a) b := (by rw [hpad]; exact hrb : RightP (pad4 a).length b).fits (setup_once hpset)
     have hN := (setup_Next (later := []) hpds (SmSS.one hbs) smss_nil).nil3
     rw [nextR, if_pos hnE, hnE] at hN
     have hxl : (nextF (pad4 a) b []).length = (pad4 a).length := nextF_len _ _ _
     have hxf : setupF (nextF (pad4 a) b []) = 0 := nextF_setup hpset (by rw [hpad]; exact hrb)
     have hxs := (Good'.of hxf).sms
     have hce : changesE (pad4 a) (nextF (pad4 a) b []) = 0 := by rw [changesE, if_neg (by omega), if_neg (by omega), if_neg (by omega)]
     have hL := setup_Loads hpds hxs
     rw [changesF, if_pos hce, hce, nextF_loads hfit, pad4_miss hrb] at hL
     have hml := missF_len a b
     refine VC.region ?_
     refine VO.mv rfl rfl rfl rfl ?_
     refine VO.mv rfl rfl rfl rfl ?_
     refine VO.val rfl rfl (OpV.sub rfl rfl rfl (by unfold fits; omega)) ?_
     refine VO.le _ (Le.recast (t := 78) (y := avI ((i - 1 : Nat) : Int)) rfl (fun w Z u h => by rw [show ((i - 1 : Nat) : Int) = (i : Int) - 1 by omega]; exact h)) ?_
     refine VO.op rfl (OpE.call rfl hB rfl Tryz.call61 rfl (SpecN.spec (itoa_small (i := i - 1) (by omega))) ?_)
     rintro _ rfl
     refine VO.val rfl rfl (OpV.sadd rfl rfl rfl (by have h1 : (⟨#[112]⟩ : ByteArray).size = 1 := rfl; have h2 : (dig (i - 1)).size = 1 := rfl; omega)) ?_
     refine VO.le _ (Le.recast (t := 80) (y := avS (pNm (i - 1))) rfl (fun w Z u h => by rw [← pNm_cat (i - 1) (by omega)]; exact h)) ?_
     refine VO.mv rfl rfl rfl rfl ?_
     refine VO.op rfl (OpE.call rfl hB rfl Tryz.call61 rfl (SpecN.spec (itoa_small (i := i) (by omega))) ?_)
     rintro _ rfl
     refine VO.val rfl rfl (OpV.sadd rfl rfl rfl (by have h1 : (⟨#[112]⟩ : ByteArray).size = 1 := rfl; have h2 : (dig i).size = 1 := rfl; omega)) ?_
     refine VO.le _ (Le.recast (t := 83) (y := avS (pNm i)) rfl (fun w Z u h => by rw [← pNm_cat i (by omega)]; exact h)) ?_
     refine VO.op rfl (OpE.call rfl hB rfl Tryz.call32 rfl (SpecN.spec (hCh)) ?_)
     rintro _ rfl
     refine VO.mv rfl rfl rfl rfl ?_
     refine VO.val rfl rfl (OpV.extract rfl rfl rfl) ?_
     refine VO.val rfl rfl (OpV.extract rfl rfl rfl) ?_
     refine VO.ma rfl rfl rfl rfl ?_
     refine VO.ma rfl rfl rfl rfl ?_
     refine VO.nil ?_
     refine VC.sr ?_
     refine VO.op rfl (OpE.make rfl hB rfl Tryz.underlying94 (infoOf Tryz.t9 1 (by kernel_rfl) rfl rfl) (by decide) rfl rfl (n := 4) rfl rfl (by decide) (made_rep rfl rfl) ?_)
     intro g87
     refine VO.ma rfl rfl rfl rfl ?_
     refine VO.nil ?_
     refine VC.sr ?_
     refine VO.mv rfl rfl rfl rfl ?_
     refine VO.mv rfl rfl rfl rfl ?_
     refine VO.op rfl (OpE.copy (i := 0) rfl hB rfl Tryz.underlying94 Tryz.sizeOf9 rfl rfl (SrcP.im rfl) (c := a.length) (by omega) (fun _ _ => rfl) (by simp; omega) (pad_copy rfl) trivial ?_)
     refine VO.nil ?_
     refine VC.seq ?_
     refine VC.le _ (Le.boxS (t := 17) (i := 0) (n := 4) (xs := pad4 a) hB hnew rfl rfl hpad.symm (Nat.le_refl _) (by simp only [maxLen]; omega)) ?_
     refine VC.region ?_
     refine VO.mv rfl rfl rfl rfl ?_
     refine VO.mv rfl rfl rfl rfl ?_
     refine VO.mv rfl rfl rfl rfl ?_
     refine VO.val rfl rfl (OpV.indexAddr_1 rfl Tryz.underlying91 Tryz.sizeOf94 rfl rfl rfl (by omega)) ?_
     refine VO.val rfl rfl (OpV.load_at rfl hB OutW.no Tryz.isAgg94 rfl rfl) ?_
     refine VO.le _ (Le.recast (t := 96) (y := avStrs b) rfl (fun w Z u h => by rw [← hbe]; exact h)) ?_
     refine VO.op rfl (OpE.callH (hp := []) (rest := _) rfl hB rfl Tryz.call62 rfl rfl (hN) (List.Perm.refl _) (fun _ h => by obtain ⟨e, he, _⟩ := h; cases he) ?_)
     rintro _ _ ⟨u97, rfl, rfl⟩
     refine VO.mv rfl rfl rfl rfl ?_
     refine VO.val rfl rfl (OpV.extract rfl rfl rfl) ?_
     refine VO.le _ (Le.rowS (t := 98) (i := 0) hB hnew rfl rfl (by first | rfl | simp)) ?_
     refine VO.val rfl rfl (OpV.extract rfl rfl rfl) ?_
     refine VO.ma rfl rfl rfl rfl ?_
     refine VO.ma rfl rfl rfl rfl ?_
     refine VO.nil ?_
     refine VC.sr ?_
     refine VO.mv rfl rfl rfl rfl ?_
     refine VO.mv rfl rfl rfl rfl ?_
     refine VO.op rfl (OpE.call rfl hB rfl Tryz.call63 rfl (SpecN.spec (hL)) ?_)
     rintro _ rfl
     refine VO.mv rfl rfl rfl rfl ?_
     refine VO.val rfl rfl (OpV.extract rfl rfl rfl) ?_
     refine VO.val rfl rfl (OpV.extract rfl rfl rfl) ?_
     refine VO.ma rfl rfl rfl rfl ?_
     refine VO.ma rfl rfl rfl rfl ?_
     refine VO.nil ?_
     refine VC.seq ?_
     refine VC.sr ?_
     refine VO.mv rfl rfl rfl rfl ?_
     refine VO.val rfl rfl (OpV.neq rfl rfl rfl) ?_
     refine VO.le _ (Le.boolF (t := 107) rfl rfl) ?_
     refine VO.mv rfl rfl rfl rfl ?_
     refine VO.opY rfl rfl rfl rfl rfl ?_
     refine OpE.val (W := NoB) (OpV.move (.inl rfl) rfl) rfl ?_
     refine VO.opY rfl rfl rfl rfl rfl ?_
     refine OpE.val (W := NoB) (OpV.neq rfl rfl rfl) rfl ?_
     refine VO.le _ (Le.boolF (t := 110) rfl rfl) ?_
     refine VO.val rfl rfl (OpV.pickF rfl rfl rfl rfl rfl) ?_
     refine VO.mv rfl rfl rfl rfl ?_
     refine VO.opY rfl rfl rfl rfl rfl ?_
     refine OpE.val (W := NoB) (OpV.move (.inl rfl) rfl) rfl ?_
     refine VO.opY rfl rfl rfl rfl rfl ?_
     refine OpE.val (W := NoB) (OpV.neq rfl rfl rfl) rfl ?_
     refine VO.le _ (Le.boolF (t := 114) rfl rfl) ?_
     refine VO.val rfl rfl (OpV.pickF rfl rfl rfl rfl rfl) ?_
     refine VO.mv rfl rfl rfl rfl ?_
     refine VO.opY rfl rfl rfl rfl rfl ?_
     refine OpE.val (W := NoB) (OpV.move (.inl rfl) rfl) rfl ?_
     refine VO.opY rfl rfl rfl rfl rfl ?_
     refine OpE.val (W := NoB) (OpV.move (.inl rfl) rfl) rfl ?_
     refine VO.opY rfl rfl rfl rfl rfl ?_
     refine OpE.val (W := NoB) (OpV.neq rfl rfl rfl) rfl ?_
     refine VO.le _ (Le.boolF (t := 119) rfl (by simp)) ?_
     refine VO.val rfl rfl (OpV.pickF rfl rfl rfl rfl rfl) ?_
     refine VO.nil ?_
     refine VC.condF rfl rfl ?_
     refine VC.skip ?_
     refine VC.le ⟨[(4, _), (5, _), (11, _), (13, _), (14, _), (15, _), (20, _)], [], 200000⟩ (Le.mk hB [] ⟨rfl, rfl, rfl, rfl, rfl, rfl, rfl, trivial⟩ rfl rfl (Nat.le_refl _)) ?_
     refine VC.draw (fun _ => NoB) hB (by kernel_rfl) ?_
     refine VA.take (i := 0) rfl (by kernel_rfl) (by kernel_rfl) (by kernel_rfl) rfl rfl (OpV.move (.inl rfl) rfl) ?_
     refine VA.take (i := 1) rfl (by kernel_rfl) (by kernel_rfl) (by kernel_rfl) rfl rfl (OpV.move (.inl rfl) rfl) ?_
     refine VA.take (i := 2) rfl (by kernel_rfl) (by kernel_rfl) (by kernel_rfl) rfl rfl (OpV.add rfl rfl rfl (by unfold fits; omega)) ?_
     refine VA.le _ (Le.recast (t := 123) (y := avI (topT p (i + 1))) rfl (fun w Z u h => by rw [topT_succ hi1, hae, hbe]; exact h)) ?_
     refine VA.take (i := 3) rfl (by kernel_rfl) (by kernel_rfl) (by kernel_rfl) rfl rfl (OpV.move (.inl rfl) rfl) ?_
     refine VA.take (i := 4) rfl (by kernel_rfl) (by kernel_rfl) (by kernel_rfl) rfl rfl (OpV.move (.inl rfl) rfl) ?_
     refine VA.take (i := 5) rfl (by kernel_rfl) (by kernel_rfl) (by kernel_rfl) rfl rfl (OpV.add rfl rfl rfl (by unfold fits; omega)) ?_
     refine VA.le _ (Le.recast (t := 126) (y := avI (topT p (i + 1))) rfl (fun w Z u h => by rw [topT_succ hi1, hae, hbe]; exact h)) ?_
     refine VA.take (i := 6) rfl (by kernel_rfl) (by kernel_rfl) (by kernel_rfl) rfl rfl (OpV.move (.inl rfl) rfl) ?_
     refine VA.take (i := 7) rfl (by kernel_rfl) (by kernel_rfl) (by kernel_rfl) rfl rfl (OpV.move (.inl rfl) rfl) ?_
     refine VA.take (i := 8) rfl (by kernel_rfl) (by kernel_rfl) (by kernel_rfl) rfl rfl (OpV.indexAddr_1 rfl Tryz.underlying91 Tryz.sizeOf94 rfl rfl rfl (by omega)) ?_
     refine VA.take (i := 9) rfl (by kernel_rfl) (by kernel_rfl) (by kernel_rfl) rfl rfl (OpV.load_at rfl hB OutW.wi0 Tryz.isAgg94 rfl rfl) ?_
     refine VA.le _ (Le.recast (t := 130) (y := avStrs (p.getD (i + 1 - 1) default)) rfl (fun w Z u h => by rw [Nat.add_sub_cancel]; exact h)) ?_
     refine VA.take (i := 10) rfl (by kernel_rfl) (by kernel_rfl) (by kernel_rfl) rfl rfl (OpV.move (.inr rfl) rfl) ?_
     refine VA.take (i := 11) rfl (by kernel_rfl) (by kernel_rfl) (by kernel_rfl) rfl rfl (OpV.move (.inr rfl) rfl) ?_
     refine VA.take (i := 12) rfl (by kernel_rfl) (by kernel_rfl) (by kernel_rfl) rfl rfl (OpV.move (.inr rfl) rfl) ?_
     refine VA.done (by kernel_rfl) ?_
     refine VC.region ?_
     refine VO.mv rfl rfl rfl rfl ?_
     refine VO.val rfl rfl (OpV.add rfl rfl rfl (by unfold fits; omega)) ?_
     refine VO.ma rfl rfl rfl rfl ?_
     refine VO.nil ?_
     exact Exists.intro (⟨i + 1, by omega, by omega⟩) (And.intro (Le.mk hB [] ⟨rfl, rfl, rfl, rfl, rfl, rfl, trivial⟩ rfl rfl (Nle rfl)) (by first | omega | (show _ < _; omega) | (simp only []; omega)))
    ·have aH5 := aH5b
     try simp only [qqT, qqF, qqN, qqM, qqL, qqE] at aH5
     refine VC.exit ?_
     refine VC.sr ?_
     refine VO.mv rfl rfl rfl rfl ?_
     refine VO.mv rfl rfl rfl rfl ?_
     refine VO.val rfl rfl (OpV.eql rfl rfl rfl) ?_
     refine VO.le _ (Le.boolT (t := 133) rfl (decide_eq_true rfl)) ?_
     refine VO.mv rfl rfl rfl rfl ?_
     refine VO.opY rfl rfl rfl rfl rfl ?_
     refine OpE.call rfl hB rfl Tryz.call60 rfl (SpecN.spec (rt_facts)) ?_
     rintro _ rfl
     refine VO.val rfl rfl (OpV.pickT rfl rfl rfl rfl rfl) ?_
     refine VO.ma rfl rfl rfl rfl ?_
     refine VO.nil ?_
     refine VC.ret ?_
     exact And.intro rfl rfl
 ·replace aK1b : _ = true := aK1b
  have aK1 := aK1b
  try simp only [qqT, qqF, qqN, qqM, qqL, qqE] at aK1
  refine VO.opX rfl rfl rfl rfl aK1b ?_
  refine VO.opX rfl rfl rfl rfl aK1b ?_
  refine VO.val rfl rfl (OpV.pickT rfl rfl rfl rfl aK1b) ?_
  refine VO.nil ?_
  refine VC.condT rfl rfl ?_
  refine VC.sr ?_
  refine VO.op rfl (OpE.call rfl hB rfl Tryz.call60 rfl (SpecN.spec (rt_facts)) ?_)
  rintro _ rfl
  refine VO.ma rfl rfl rfl rfl ?_
  refine VO.nil ?_
  refine VC.ret ?_
  exact And.intro rfl rfl
end Go.Proofs.YtplphabekhaoaaaGreatDoor
