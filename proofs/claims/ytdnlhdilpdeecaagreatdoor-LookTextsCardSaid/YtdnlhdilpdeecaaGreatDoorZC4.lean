/- Part 4 of a proof: the walks and laws that it needs. -/
import Derived.LaidMore
import Derived.Test.YtdnlhdilpdeecaaGreatDoorZC3
namespace Go.Proofs.YtdnlhdilpdeecaaGreatDoor
open Go.RowKit
set_option linter.unusedVariables false
set_option linter.unusedSimpArgs false
theorem splitL_none {c : UInt8} : ∀ {a : List UInt8}, (∀ x ∈ a, x ≠ c) → splitL c a = [a]
 | [], _ => rfl
 | b :: a, h => by rw [splitL, if_neg (h b (List.mem_cons_self ..)), splitL_none fun x hx => h x (List.mem_cons_of_mem _ hx)]
theorem splitL_cut {c : UInt8} {r : List UInt8} : ∀ {a : List UInt8}, (∀ x ∈ a, x ≠ c) → splitL c (a ++ c :: r) = a :: splitL c r
 | [], _ => by rw [List.nil_append, splitL, if_pos rfl]
 | b :: a, h => by rw [List.cons_append, splitL, if_neg (h b (List.mem_cons_self ..)), splitL_cut fun x hx => h x (List.mem_cons_of_mem _ hx)]
theorem index_cut {c : UInt8} : ∀ {l : List UInt8} {m : Nat}, Lib.indexByte l c = m → l = l.take m ++ c :: l.drop (m + 1) ∧ ∀ x ∈ l.take m, x ≠ c
 | [], m, h => by simp [Lib.indexByte] at h
 | b :: l, m, h => by
  unfold Lib.indexByte at h
  by_cases hb : b = c
  ·subst hb
   simp at h
   obtain rfl : m = 0 := by omega
   exact ⟨rfl, fun x hx => by simp at hx⟩
  ·have hb' : (b == c) = false := by simpa using hb
   rw [hb'] at h
   simp only [Bool.false_eq_true, if_false] at h
   split at h
   ·omega
   ·rename_i e
    have hge := Lib.indexByte_ge l c
    have e' : ¬ Lib.indexByte l c = -1 := by simpa using e
    obtain ⟨k, rfl⟩ : ∃ k, m = k + 1 := ⟨m - 1, by omega⟩
    obtain ⟨h1, h2⟩ := index_cut (c := c) (l := l) (m := k) (by omega)
    refine ⟨by rw [List.take_succ_cons, List.drop_succ_cons, List.cons_append, ← h1], fun x hx => ?_⟩
    rw [List.take_succ_cons] at hx
    rcases List.mem_cons.1 hx with rfl | hx
    ·exact hb
    ·exact h2 x hx
theorem index_no {c : UInt8} : ∀ {l : List UInt8}, Lib.indexByte l c < 0 → ∀ x ∈ l, x ≠ c
 | [], _ => fun x hx => by simp at hx
 | b :: l, h => by
  unfold Lib.indexByte at h
  by_cases hb : b = c
  ·subst hb; simp at h
  ·have hb' : (b == c) = false := by simpa using hb
   rw [hb'] at h
   simp only [Bool.false_eq_true, if_false] at h
   have h1 : Lib.indexByte l c < 0 := by
    have := Lib.indexByte_ge l c
    split at h
    ·rename_i e; have e' : Lib.indexByte l c = -1 := by simpa using e
     omega
    ·omega
   intro x hx
   rcases List.mem_cons.1 hx with rfl | hx
   ·exact hb
   ·exact index_no h1 x hx
theorem suff_iff {l : List UInt8} {c : UInt8} : Lib.hasSuffix l [c] = true ↔ l.getLast? = some c := by
 unfold Lib.hasSuffix
 rw [List.isSuffixOf_iff_suffix]
 constructor
 ·rintro ⟨t, rfl⟩; simp
 ·intro h
  obtain ⟨t, rfl⟩ := List.getLast?_eq_some_iff.1 h
  exact ⟨t, rfl⟩
def linesL (l : List UInt8) : List (List UInt8) := if l = [] then [] else splitL 10 (Lib.trimSuffix l [10])
def endL (l : List UInt8) : Bool := if l = [] then true else Lib.hasSuffix l [10]
theorem linesL_none {l : List UInt8} (h0 : l ≠ []) (h : Lib.indexByte l 10 < 0) : linesL l = [l] ∧ endL l = false := by
 have hn := index_no h
 have hs : Lib.hasSuffix l [10] = false := Bool.eq_false_iff.2 fun e => by
  obtain ⟨t, rfl⟩ := List.getLast?_eq_some_iff.1 (suff_iff.1 e)
  exact hn 10 (by simp) rfl
 refine ⟨?_, by rw [endL, if_neg h0, hs]⟩
 rw [linesL, if_neg h0, Lib.trimSuffix, hs, if_neg (by simp), splitL_none hn]
theorem linesL_some {l : List UInt8} {m : Nat} (h : Lib.indexByte l 10 = m) : linesL l = l.take m :: linesL (l.drop (m + 1)) ∧ endL l = endL (l.drop (m + 1)) := by
 obtain ⟨h1, h2⟩ := index_cut h
 generalize l.take m = a at h1 h2
 generalize l.drop (m + 1) = r at h1
 subst h1
 have hne : a ++ 10 :: r ≠ [] := by simp
 by_cases hr : r = []
 ·subst hr
  have hs : Lib.hasSuffix (a ++ [10]) [10] = true := suff_iff.2 (by simp)
  refine ⟨?_, by rw [endL, if_neg hne, hs, endL, if_pos rfl]⟩
  rw [linesL, if_neg hne, Lib.trimSuffix, hs, if_pos rfl, linesL, if_pos rfl]
  have : (a ++ [10]).take ((a ++ [10]).length - [(10 : UInt8)].length) = a := by simp
  rw [this, splitL_none h2]
 ·have hl : (a ++ 10 :: r).getLast? = r.getLast? := by
   rw [List.getLast?_append, List.getLast?_cons]
   cases hg : r.getLast? with
   | none => rw [List.getLast?_eq_none_iff] at hg; exact absurd hg hr
   | some x => simp
  have hs : Lib.hasSuffix (a ++ 10 :: r) [10] = Lib.hasSuffix r [10] := by
   rw [Bool.eq_iff_iff, suff_iff, suff_iff, hl]
  refine ⟨?_, by rw [endL, if_neg hne, hs, endL, if_neg hr]⟩
  rw [linesL, if_neg hne, linesL, if_neg hr, Lib.trimSuffix, hs, Lib.trimSuffix]
  split
  ·have hp : 0 < r.length := List.length_pos_iff.2 hr
   have : (a ++ 10 :: r).take ((a ++ 10 :: r).length - [(10 : UInt8)].length) = a ++ 10 :: r.take (r.length - [(10 : UInt8)].length) := by
    rw [List.take_append]
    congr 1
    ·rw [List.take_of_length_le (by simp)]
    ·have e : (a ++ 10 :: r).length - [(10 : UInt8)].length - a.length = (r.length - 1) + 1 := by simp; omega
     rw [e, List.take_succ_cons]; rfl
   rw [this, splitL_cut h2]
  ·rw [splitL_cut h2]
theorem byL_bytesOf (l : List UInt8) : byL (bytesOf l) = l := by simp [byL, bytesOf]
theorem byL_nil {s : ByteArray} : byL s = [] ↔ s = ⟨#[]⟩ := by
 constructor
 ·intro h; rw [← bytesOf_byL s, h]; rfl
 ·rintro rfl; rfl
theorem linesR_L (s : ByteArray) : linesR s = (linesL (byL s)).map bytesOf := by
 unfold linesR linesL
 by_cases h : byL s = []
 ·have := byL_nil.1 h
  subst this
  rw [if_pos (sEq_refl _), if_pos h]; rfl
 ·have hne : ¬ sEq s ⟨#[]⟩ = true := fun e => h (byL_nil.2 (sEq_eq.1 e))
  rw [if_neg hne, if_neg h, splitS, byL_bytesOf]
theorem linesE_L (s : ByteArray) : linesE s = endL (byL s) := by
 unfold linesE endL
 by_cases h : byL s = []
 ·have := byL_nil.1 h
  subst this
  rw [if_pos (sEq_refl _), if_pos h]
 ·have hne : ¬ sEq s ⟨#[]⟩ = true := fun e => h (byL_nil.2 (sEq_eq.1 e))
  rw [if_neg hne, if_neg h]; rfl
theorem lines_none {s : ByteArray} (h0 : sEq s ⟨#[]⟩ = false) (h : Lib.indexByte (byL s) 10 < 0) : linesR s = [s] ∧ linesE s = false := by
 have hne : byL s ≠ [] := fun e => by rw [byL_nil.1 e, sEq_refl] at h0; cases h0
 obtain ⟨h1, h2⟩ := linesL_none hne h
 rw [linesR_L, linesE_L, h1, h2]
 exact ⟨by simp [bytesOf_byL], rfl⟩
theorem lines_some {s : ByteArray} {m : Nat} (h : Lib.indexByte (byL s) 10 = m) : linesR s = s.extract 0 m :: linesR (s.extract (m + 1) s.size) ∧ linesE s = linesE (s.extract (m + 1) s.size) := by
 obtain ⟨h1, h2⟩ := linesL_some h
 have e1 : byL (s.extract (m + 1) s.size) = (byL s).drop (m + 1) := by
  rw [byL_extract, List.take_of_length_le (by rw [List.length_drop, byL_len]; omega)]
 have e2 : bytesOf ((byL s).take m) = s.extract 0 m := by
  rw [← bytesOf_byL (s.extract 0 m), byL_extract, List.drop_zero, Nat.sub_zero]
 rw [linesR_L, linesE_L, linesR_L, linesE_L, e1, h1, h2, List.map_cons, e2]
 exact ⟨rfl, rfl⟩
theorem lines_nil : linesR ⟨#[]⟩ = [] ∧ linesE ⟨#[]⟩ = true := ⟨by rw [linesR, if_pos (sEq_refl _)], by rw [linesE, if_pos (sEq_refl _)]⟩
def lnBad (ok : Nat → ByteArray → Bool) (ls : List ByteArray) (e : Bool) (i : Nat) : Bool := !ok i (ls.getD i ByteArray.empty) || (!e && decide (i + 1 = ls.length))
def lnF (ok : Nat → ByteArray → Bool) (ls : List ByteArray) (e : Bool) : Option Nat := (List.range ls.length).find? (lnBad ok ls e)
theorem lnF_none {ok : Nat → ByteArray → Bool} {ls : List ByteArray} {e : Bool} (h : ∀ j, j < ls.length → lnBad ok ls e j = false) : lnF ok ls e = none :=
 List.find?_eq_none.2 fun j hj => by rw [h j (List.mem_range.1 hj)]; simp
theorem lnF_some {ok : Nat → ByteArray → Bool} {ls : List ByteArray} {e : Bool} {i : Nat} (hi : i < ls.length) (h : lnBad ok ls e i = true) (hn : ∀ j, j < i → lnBad ok ls e j = false) : lnF ok ls e = some i := by
 unfold lnF
 rw [List.find?_range_eq_some]
 exact ⟨h, List.mem_range.2 hi, fun j hj => by rw [hn j hj]; rfl⟩
theorem lnF_zero {ok : Nat → ByteArray → Bool} {ls : List ByteArray} {e : Bool} (h : lnF ok ls e = none) : ∀ j, j < ls.length → ok j (ls.getD j ByteArray.empty) = true := fun j hj => by
 have := List.find?_eq_none.1 h j (List.mem_range.2 hj)
 unfold lnBad at this
 simp at this
 exact this.1
end Go.Proofs.YtdnlhdilpdeecaaGreatDoor
namespace Go.Proofs.YtdnlhdilpdeecaaGreatDoor
open Go.RowKit
set_option linter.unusedVariables false
set_option linter.unusedSimpArgs false
def cutF (c : UInt8) (s : ByteArray) : Bool := decide (0 ≤ Lib.indexByte (byL s) c)
def cutA (c : UInt8) (s : ByteArray) : ByteArray := if cutF c s = true then s.extract 0 (Lib.indexByte (byL s) c).toNat else s
def cutB (c : UInt8) (s : ByteArray) : ByteArray := if cutF c s = true then s.extract ((Lib.indexByte (byL s) c).toNat + 1) s.size else ⟨#[]⟩
theorem index_lt {c : UInt8} {l : List UInt8} {m : Nat} (h : Lib.indexByte l c = m) : m < l.length := by
 have h1 := congrArg List.length (index_cut h).1
 have h2 : (l.take m).length ≤ m := by rw [List.length_take]; omega
 rw [List.length_append, List.length_cons, List.length_take, List.length_drop] at h1
 omega
theorem cut_at {c : UInt8} {s : ByteArray} (h : cutF c s = true) : ∃ m : Nat, Lib.indexByte (byL s) c = m ∧ m < s.size ∧ cutA c s = s.extract 0 m ∧ cutB c s = s.extract (m + 1) s.size := by
 have h0 : 0 ≤ Lib.indexByte (byL s) c := of_decide_eq_true h
 refine ⟨(Lib.indexByte (byL s) c).toNat, by omega, ?_, by rw [cutA, if_pos h], by rw [cutB, if_pos h]⟩
 have := index_lt (l := byL s) (c := c) (m := (Lib.indexByte (byL s) c).toNat) (by omega)
 rwa [byL_len] at this
theorem cut_no {c : UInt8} {s : ByteArray} (h : cutF c s = false) : cutA c s = s ∧ cutB c s = ⟨#[]⟩ := ⟨by rw [cutA, if_neg (by rw [h]; simp)], by rw [cutB, if_neg (by rw [h]; simp)]⟩
theorem cutA_size (c : UInt8) (s : ByteArray) : (cutA c s).size ≤ s.size := by
 cases h : cutF c s with
 | true =>
  obtain ⟨m, h1, h2, h3, h4⟩ := cut_at h
  rw [h3, ByteArray.size_extract]; omega
 | false => rw [(cut_no h).1]; exact Nat.le_refl _
theorem cut_sizes {c : UInt8} {s : ByteArray} (h : cutF c s = true) : (cutA c s).size + 1 + (cutB c s).size = s.size := by
 obtain ⟨m, h1, h2, h3, h4⟩ := cut_at h
 rw [h3, h4, ByteArray.size_extract, ByteArray.size_extract]; omega
set_option maxRecDepth 100000 in
theorem stringslite_CutB {s : ByteArray} {c : UInt8} (hs : s.size ≤ 100000000) :
  SpecN Tryz.prog 259 [avS s, avS ⟨#[c]⟩] (fun y => y = .tup [avS (cutA c s), avS (cutB c s), avB (cutF c s)]) := by
 refine SpecN.of_VCN Tryz.func259 rfl Tryz.ntmps259 (Nle rfl) fun w A hB => ?_
 have hnew : True := trivial
 refine VC.seq ?_
 have hc1 : (⟨#[c]⟩ : ByteArray).size = 1 := rfl
 refine VC.region ?_
 refine VO.ma rfl rfl rfl rfl ?_
 refine VO.ma rfl rfl rfl rfl ?_
 refine VO.ma rfl rfl rfl rfl ?_
 refine VO.nil ?_
 refine VC.seq ?_
 refine VC.sr ?_
 refine VO.mv rfl rfl rfl rfl ?_
 refine VO.mv rfl rfl rfl rfl ?_
 refine VO.op rfl (OpE.call rfl hB rfl Tryz.call258 rfl (SpecN.spec (stringslite_Index_S)) ?_)
 rintro _ rfl
 obtain ⟨v, hv⟩ : ∃ v, Lib.indexByte (byL s) c = v := ⟨_, rfl⟩
 rw [hv]
 refine VO.ma rfl rfl rfl rfl ?_
 refine VO.nil ?_
 refine VC.sr ?_
 refine VO.mv rfl rfl rfl rfl ?_
 refine VO.val rfl rfl (OpV.geq rfl rfl rfl) ?_
 refine VO.nil ?_
 refine VC.cond rfl (fun h0b => ?_) (fun h0b => ?_)
 ·have h0 := h0b
  try simp only [qqT, qqF, qqN, qqM, qqL, qqE] at h0
  have hcf : cutF c s = true := by unfold cutF; rw [hv]; exact decide_eq_true h0
  obtain ⟨m, hm1, hm2, hm3, hm4⟩ := cut_at hcf
  obtain rfl : v = m := by rw [← hv, hm1]
  refine VC.seq ?_
  refine VC.draw (fun _ => NoB) hB (by kernel_rfl) ?_
  refine VA.take (i := 0) rfl (by kernel_rfl) (by kernel_rfl) (by kernel_rfl) rfl rfl (OpV.move (.inl rfl) rfl) ?_
  refine VA.take (i := 1) rfl (by kernel_rfl) (by kernel_rfl) (by kernel_rfl) rfl rfl (OpV.move (.inl rfl) rfl) ?_
  refine VA.take (i := 2) rfl (by kernel_rfl) (by kernel_rfl) (by kernel_rfl) rfl rfl (OpV.slice_s (h := m) rfl Tryz.underlying9 rfl rfl ⟨_, _, rfl, by omega⟩ (by omega) (by omega)) ?_
  refine VA.take (i := 3) rfl (by kernel_rfl) (by kernel_rfl) (by kernel_rfl) rfl rfl (OpV.move (.inl rfl) rfl) ?_
  refine VA.take (i := 4) rfl (by kernel_rfl) (by kernel_rfl) (by kernel_rfl) rfl rfl (OpV.move (.inl rfl) rfl) ?_
  refine VA.take (i := 5) rfl (by kernel_rfl) (by kernel_rfl) (by kernel_rfl) rfl rfl (OpV.move (.inl rfl) rfl) ?_
  refine VA.take (i := 6) rfl (by kernel_rfl) (by kernel_rfl) (by kernel_rfl) rfl rfl (OpV.len_s rfl Tryz.underlying9 rfl) ?_
  refine VA.take (i := 7) rfl (by kernel_rfl) (by kernel_rfl) (by kernel_rfl) rfl rfl (OpV.add rfl rfl rfl (by unfold fits; omega)) ?_
  refine VA.take (i := 8) rfl (by kernel_rfl) (by kernel_rfl) (by kernel_rfl) rfl rfl (OpV.slice_s (l := m + 1) rfl Tryz.underlying9 rfl ⟨_, _, rfl, by omega⟩ rfl (by omega) (by omega)) ?_
  refine VA.take (i := 9) rfl (by kernel_rfl) (by kernel_rfl) (by kernel_rfl) rfl rfl (OpV.move (.inr rfl) rfl) ?_
  refine VA.take (i := 10) rfl (by kernel_rfl) (by kernel_rfl) (by kernel_rfl) rfl rfl (OpV.move (.inr rfl) rfl) ?_
  refine VA.take (i := 11) rfl (by kernel_rfl) (by kernel_rfl) (by kernel_rfl) rfl rfl (OpV.move (.inr rfl) rfl) ?_
  refine VA.done (by kernel_rfl) ?_
  refine VC.ret ?_
  exact Exists.intro _ (And.intro (RetN.three Tryz.results259 (ResN.v rfl) (ResN.v rfl) (ResN.v rfl)) (by rw [hm3, hm4, hcf]))
 ·have h0 := h0b
  try simp only [qqT, qqF, qqN, qqM, qqL, qqE] at h0
  have hcf : cutF c s = false := by unfold cutF; rw [hv]; exact decide_eq_false (by omega)
  have hcn := cut_no hcf
  refine VC.skip ?_
  refine VC.sr ?_
  refine VO.mv rfl rfl rfl rfl ?_
  refine VO.ma rfl rfl rfl rfl ?_
  refine VO.ma rfl rfl rfl rfl ?_
  refine VO.ma rfl rfl rfl rfl ?_
  refine VO.nil ?_
  refine VC.ret ?_
  exact Exists.intro _ (And.intro (RetN.three Tryz.results259 (ResN.v rfl) (ResN.v rfl) (ResN.v rfl)) (by rw [hcn.1, hcn.2, hcf]))
set_option maxRecDepth 100000 in
theorem strings_CutB {s : ByteArray} {c : UInt8} (hs : s.size ≤ 100000000) :
  SpecN Tryz.prog 195 [avS s, avS ⟨#[c]⟩] (fun y => y = .tup [avS (cutA c s), avS (cutB c s), avB (cutF c s)]) := by
 refine SpecN.of_VCN Tryz.func195 rfl Tryz.ntmps195 (Nle rfl) fun w A hB => ?_
 have hnew : True := trivial
 refine VC.sr ?_
 refine VO.ma rfl rfl rfl rfl ?_
 refine VO.ma rfl rfl rfl rfl ?_
 refine VO.ma rfl rfl rfl rfl ?_
 refine VO.nil ?_
 refine VC.sr ?_
 refine VO.mv rfl rfl rfl rfl ?_
 refine VO.mv rfl rfl rfl rfl ?_
 refine VO.op rfl (OpE.call rfl hB rfl Tryz.call259 rfl (SpecN.spec (stringslite_CutB hs)) ?_)
 rintro _ rfl
 refine VO.val rfl rfl (OpV.extract rfl rfl rfl) ?_
 refine VO.val rfl rfl (OpV.extract rfl rfl rfl) ?_
 refine VO.val rfl rfl (OpV.extract rfl rfl rfl) ?_
 refine VO.ma rfl rfl rfl rfl ?_
 refine VO.ma rfl rfl rfl rfl ?_
 refine VO.ma rfl rfl rfl rfl ?_
 refine VO.nil ?_
 refine VC.ret ?_
 exact Exists.intro _ (And.intro (RetN.three Tryz.results195 (ResN.v rfl) (ResN.v rfl) (ResN.v rfl)) (rfl))
theorem lines_yes {s : ByteArray} (h : cutF 10 s = true) : linesR s = cutA 10 s :: linesR (cutB 10 s) ∧ linesE s = linesE (cutB 10 s) := by
 obtain ⟨m, h1, h2, h3, h4⟩ := cut_at h
 rw [h3, h4]; exact lines_some h1
theorem lines_no {s : ByteArray} (h0 : sEq s ⟨#[]⟩ = false) (h : cutF 10 s = false) : linesR s = [s] ∧ linesE s = false := lines_none h0 (by have := of_decide_eq_false h; omega)
theorem lines_last {s : ByteArray} (h : linesE s = false) : 0 < (linesR s).length := by
 cases h0 : sEq s ⟨#[]⟩ with
 | true => rw [sEq_eq.1 h0, lines_nil.2] at h; cases h
 | false =>
  cases hc : cutF 10 s with
  | true => rw [(lines_yes hc).1]; exact Nat.succ_pos _
  | false => rw [(lines_no h0 hc).1]; exact Nat.succ_pos _
abbrev okAt (ok : List ByteArray → ByteArray → Bool) (ls : List ByteArray) : Nat → ByteArray → Bool := fun i x => ok (ls.take i) x
structure LnI (ok : List ByteArray → ByteArray → Bool) (text : ByteArray) (pre : List ByteArray) (r : ByteArray) : Prop where
 eq : linesR text = pre ++ linesR r
 en : linesE text = linesE r
 good : ∀ j, j < pre.length → lnBad (okAt ok (linesR text)) (linesR text) (linesE text) j = false
 size : pre.length + r.size ≤ text.size
section
variable {ok : List ByteArray → ByteArray → Bool} {text r : ByteArray} {pre : List ByteArray}
theorem LnI.start (text : ByteArray) : LnI ok text [] text := ⟨rfl, rfl, fun j hj => absurd hj (Nat.not_lt_zero j), by simp⟩
theorem LnI.at_ (h : LnI ok text pre r) {x : ByteArray} {l : List ByteArray} (hl : linesR r = x :: l) : (linesR text).take pre.length = pre ∧ (linesR text).getD pre.length ByteArray.empty = x ∧ pre.length < (linesR text).length := by
 rw [h.eq, hl]
 refine ⟨by simp, by simp [List.getD_eq_getElem?_getD], by simp⟩
theorem LnI.step (h : LnI ok text pre r) (hc : cutF 10 r = true) (ho : ok pre (cutA 10 r) = true) : LnI ok text (pre ++ [cutA 10 r]) (cutB 10 r) := by
 obtain ⟨h1, h2⟩ := lines_yes hc
 obtain ⟨k1, k2, k3⟩ := h.at_ h1
 refine ⟨by rw [h.eq, h1, List.append_assoc]; rfl, h.en.trans h2, fun j hj => ?_, ?_⟩
 ·by_cases hj2 : j < pre.length
  ·exact h.good j hj2
  ·obtain rfl : j = pre.length := by rw [List.length_append] at hj; simp at hj; omega
   unfold lnBad okAt
   rw [k1, k2, ho]
   cases he : linesE text with
   | true => rfl
   | false =>
    have h3 := lines_last (h2.symm.trans (h.en.symm.trans he))
    have h4 : (linesR text).length = pre.length + (1 + (linesR (cutB 10 r)).length) := by rw [h.eq, h1, List.length_append, List.length_cons]; omega
    rw [decide_eq_false (by omega)]; rfl
 ·have := cut_sizes hc
  have := h.size
  rw [List.length_append]; simp; omega
theorem LnI.fin (h : LnI ok text pre r) (hr : sEq r ⟨#[]⟩ = true) : lnF (okAt ok (linesR text)) (linesR text) (linesE text) = none ∧ pre = linesR text := by
 have e := sEq_eq.1 hr
 subst e
 have h1 : linesR text = pre := by rw [h.eq, lines_nil.1, List.append_nil]
 exact ⟨lnF_none fun j hj => h.good j (by rw [h1] at hj; exact hj), h1.symm⟩
theorem LnI.bad1 (h : LnI ok text pre r) (hr : sEq r ⟨#[]⟩ = false) (hc : cutF 10 r = false) : lnF (okAt ok (linesR text)) (linesR text) (linesE text) = some pre.length := by
 obtain ⟨h1, h2⟩ := lines_no hr hc
 obtain ⟨k1, k2, k3⟩ := h.at_ h1
 refine lnF_some k3 ?_ h.good
 unfold lnBad
 rw [h.en, h2, decide_eq_true (by rw [h.eq, h1, List.length_append]; rfl)]
 simp
theorem LnI.bad2 (h : LnI ok text pre r) (hc : cutF 10 r = true) (ho : ok pre (cutA 10 r) = false) : lnF (okAt ok (linesR text)) (linesR text) (linesE text) = some pre.length := by
 obtain ⟨h1, h2⟩ := lines_yes hc
 obtain ⟨k1, k2, k3⟩ := h.at_ h1
 refine lnF_some k3 ?_ h.good
 unfold lnBad okAt
 rw [k1, k2, ho]; rfl
end
def lnY (f : Option Nat) : AV := match f with
 | none => .tup [avI 0, avB true]
 | some i => .tup [avI (i : Int), avB false]
end Go.Proofs.YtdnlhdilpdeecaaGreatDoor
namespace Go.Proofs.YtdnlhdilpdeecaaGreatDoor
open Go.RowKit
set_option linter.unusedVariables false
set_option linter.unusedSimpArgs false
theorem OpVN.load_at {P : Program} {B : Bs} {s : St'} {o : Oper} {N : Nat} {W : Nat → Prop} {x : Operand} {t m : Nat} {F : Nat → AV} (ho : o.op = .load t x) (hB : B.Ok) (hW : ∀ b, W b → N ≤ b) (hag : ∀ w, (isAgg t).run P w = .ok false w) (hx : evO s x = some (.at_ m F)) (hm : Nat.blt 0 m = true) : OpVN P B W s o (F 0) N := by
 intro a w hr hN
 have := hr.ev hx
 generalize hv : a.eval x = u at this
 have hm' : 0 < m := by simpa using hm
 cases this with
 | at_ m f' b off c e u hZ hb hc hr' =>
  refine ⟨u 0, fun w' hcw => ?_, hr' 0 hm'⟩
  have hb' := (new_keep hB hr (fun b h => hN ▸ hW b h) hcw hZ).trans hb
  have hcell : w'.cell? ⟨b, off, none⟩ = some (u 0) := by simpa [World.cell?, hb'] using hc 0 hm'
  simp [execOp, ho, hv, Instr.loadAt, Instr.sureAddr, loadVar, hag, load, Sem.run, hcell]
end Go.Proofs.YtdnlhdilpdeecaaGreatDoor
namespace Go.Proofs.YtdnlhdilpdeecaaGreatDoor
open Go.RowKit
set_option linter.unusedVariables false
set_option linter.unusedSimpArgs false
theorem splitS_sz {c : UInt8} : ∀ (n : Nat) (s : ByteArray), s.size ≤ n → ∀ x ∈ splitS c s, x.size ≤ s.size
 | 0, s, h, x, hx => by
  by_cases hi : Lib.indexByte (byL s) c < 0
  ·rw [splitS_none hi] at hx; simp at hx; subst hx; exact Nat.le_refl _
  ·obtain ⟨m, hm⟩ : ∃ m : Nat, Lib.indexByte (byL s) c = m := ⟨(Lib.indexByte (byL s) c).toNat, by omega⟩
   have := (splitS_some hm).1
   omega
 | n + 1, s, h, x, hx => by
  by_cases hi : Lib.indexByte (byL s) c < 0
  ·rw [splitS_none hi] at hx; simp at hx; subst hx; exact Nat.le_refl _
  ·obtain ⟨m, hm⟩ : ∃ m : Nat, Lib.indexByte (byL s) c = m := ⟨(Lib.indexByte (byL s) c).toNat, by omega⟩
   obtain ⟨h1, h2⟩ := splitS_some hm
   rw [h2] at hx
   rcases List.mem_cons.1 hx with rfl | hx
   ·rw [ByteArray.size_extract]; omega
   ·have hz : (s.extract (m + 1) s.size).size ≤ n := by rw [ByteArray.size_extract]; omega
    have := splitS_sz n _ hz x hx
    rw [ByteArray.size_extract] at this
    omega
theorem getD_sz {l : List ByteArray} {n : Nat} (h : ∀ x ∈ l, x.size ≤ n) (i : Nat) : (l.getD i ByteArray.empty).size ≤ n := by
 rw [List.getD_eq_getElem?_getD]
 cases hi : l[i]? with
 | none => exact Nat.zero_le _
 | some x => exact h x (List.mem_of_getElem? hi)
theorem splitS_get (c : UInt8) (s : ByteArray) (i : Nat) : ((splitS c s).getD i ByteArray.empty).size ≤ s.size := getD_sz (splitS_sz s.size s (Nat.le_refl _)) i
theorem splitS_length (c : UInt8) (s : ByteArray) : (splitS c s).length ≤ s.size + 1 := by
 rw [splitS_len]
 have : Lib.countByte (byL s) c ≤ s.size := by rw [← byL_len]; exact List.count_le_length
 omega
theorem linesR_get (s : ByteArray) (i : Nat) : ((linesR s).getD i ByteArray.empty).size ≤ s.size := by
 unfold linesR
 split
 ·simp
 ·exact Nat.le_trans (splitS_get _ _ i) (trimSuffix_size s ⟨#[10]⟩)
theorem linesR_length (s : ByteArray) : (linesR s).length ≤ s.size + 1 := by
 unfold linesR
 split
 ·exact Nat.zero_le _
 ·have := splitS_length 10 (bytesOf (Lib.trimSuffix (byL s) [10]))
  have h2 := trimSuffix_size s ⟨#[10]⟩
  have h3 : (bytesOf (Lib.trimSuffix (byL s) [10])).size ≤ s.size := h2
  omega
abbrev w8 (s : ByteArray) (i : Nat) : ByteArray := (splitS 32 s).getD i ByteArray.empty
def vIx (w : ByteArray) : Int := fidx (fun x => sEq w x) vWords
def okLk (s : ByteArray) : Bool := wordsB s && (decide ((splitS 32 s).length = 8) && (numE (w8 s 0) 15 && (decide (1 ≤ vIx (w8 s 3)) && (sEq (w8 s 4) badW || sEq (w8 s 4) fineW))))
def lkOf (s : ByteArray) : LookS := ⟨w8 s 1, w8 s 2, numV (w8 s 0) 15, vIx (w8 s 3), sEq (w8 s 4) badW, w8 s 5, w8 s 6, w8 s 7⟩
theorem okLk_8 {s : ByteArray} (h1 : wordsB s = true) (h2 : (splitS 32 s).length = 8) : okLk s = (numE (w8 s 0) 15 && (decide (1 ≤ vIx (w8 s 3)) && (sEq (w8 s 4) badW || sEq (w8 s 4) fineW))) := by
 unfold okLk; rw [h1, decide_eq_true h2, Bool.true_and, Bool.true_and]
theorem okLk_no {s : ByteArray} (h : wordsB s = false ∨ (splitS 32 s).length ≠ 8) : okLk s = false := by
 unfold okLk
 rcases h with h | h
 ·rw [h]; rfl
 ·rw [decide_eq_false h]; simp
abbrev okL1 : List ByteArray → ByteArray → Bool := fun _ x => okLk x
abbrev lkBad (text : ByteArray) : Option Nat := lnF (okAt okL1 (linesR text)) (linesR text) (linesE text)
def lkRead (text : ByteArray) : List LookS × Int × Int :=
 if 200000 < text.size then ([], 0, 2)
 else match lkBad text with
  | some i => ([], (i : Int), 9)
  | none => if lookF ((linesR text).map lkOf) = 0 then ((linesR text).map lkOf, 0, 0) else ([], 0, lookF ((linesR text).map lkOf))
section
variable {text : ByteArray}
theorem lkRead_2 (h : 200000 < text.size) : lkRead text = ([], 0, 2) := by rw [lkRead, if_pos h]
theorem lkRead_9 (h : ¬ 200000 < text.size) {i : Nat} (hi : lkBad text = some i) : lkRead text = ([], (i : Int), 9) := by rw [lkRead, if_neg h, hi]
theorem lkRead_e (h : ¬ 200000 < text.size) (hi : lkBad text = none) (hf : lookF ((linesR text).map lkOf) ≠ 0) : lkRead text = ([], 0, lookF ((linesR text).map lkOf)) := by rw [lkRead, if_neg h, hi]; simp only; rw [if_neg hf]
theorem lkRead_0 (h : ¬ 200000 < text.size) (hi : lkBad text = none) (hf : lookF ((linesR text).map lkOf) = 0) : lkRead text = ((linesR text).map lkOf, 0, 0) := by rw [lkRead, if_neg h, hi]; simp only; rw [if_pos hf]
theorem lkOf_sm {n : Nat} {s : ByteArray} (h : s.size ≤ n) : (lkOf s).board.size ≤ n ∧ (lkOf s).name.size ≤ n ∧ (lkOf s).machine.size ≤ n ∧ (lkOf s).nozzle.size ≤ n ∧ (lkOf s).reel.size ≤ n :=
 ⟨Nat.le_trans (splitS_get _ _ _) h, Nat.le_trans (splitS_get _ _ _) h, Nat.le_trans (splitS_get _ _ _) h, Nat.le_trans (splitS_get _ _ _) h, Nat.le_trans (splitS_get _ _ _) h⟩
theorem lkOf_SmLk {ls : List ByteArray} {n : Nat} (hn : n ≤ 1000000) (hl : ls.length ≤ 1000000) (h : ∀ i, (ls.getD i ByteArray.empty).size ≤ n) : SmLk (ls.map lkOf) := by
 have hg : ∀ i, ((ls.map lkOf).getD i default).board.size ≤ 1000000 ∧ ((ls.map lkOf).getD i default).name.size ≤ 1000000 ∧ ((ls.map lkOf).getD i default).machine.size ≤ 1000000 ∧ ((ls.map lkOf).getD i default).nozzle.size ≤ 1000000 ∧ ((ls.map lkOf).getD i default).reel.size ≤ 1000000 := fun i => by
  by_cases hi : i < ls.length
  ·have e : (ls.map lkOf).getD i default = lkOf (ls.getD i ByteArray.empty) := by simp [List.getD_eq_getElem?_getD, hi]
   rw [e]
   exact lkOf_sm (Nat.le_trans (h i) hn)
  ·have e : (ls.map lkOf).getD i default = default := by rw [List.getD_eq_getElem?_getD, List.getElem?_eq_none (by rw [List.length_map]; omega)]; rfl
   rw [e]
   exact ⟨Nat.zero_le _, Nat.zero_le _, Nat.zero_le _, Nat.zero_le _, Nat.zero_le _⟩
 exact ⟨by rw [List.length_map]; exact hl, fun i => (hg i).1, fun i => (hg i).2.1, fun i => (hg i).2.2.1, fun i => (hg i).2.2.2.1, fun i => (hg i).2.2.2.2⟩
theorem lkMap_take {ls : List ByteArray} {q : Nat} (h : q < ls.length) : (ls.take (q + 1)).map lkOf = (ls.take q).map lkOf ++ [lkOf (ls.getD q ByteArray.empty)] := by
 have : ls.take (q + 1) = ls.take q ++ [ls.getD q ByteArray.empty] := by
  rw [List.take_succ_eq_append_getElem h]; simp [List.getD_eq_getElem?_getD, h]
 rw [this, List.map_append]; rfl
theorem lnBad_at {ls : List ByteArray} {e : Bool} {q : Nat} : lnBad (okAt okL1 ls) ls e q = (!okLk (ls.getD q ByteArray.empty) || (!e && decide (q + 1 = ls.length))) := rfl
end
theorem rd_out {x : LookS} {a b : Bool} (h : a = b) : AV.tup [avT x, avB a] = AV.tup [avT x, avB b] := by rw [h]
section
variable {o A B C D : Bool} (h : o = (A && (B && (C || D))))
include h
theorem rd1 (h1 : A = false) : false = o := by rw [h, h1]; rfl
theorem rd2 (h1 : A = true) (h2 : B = false) : false = o := by rw [h, h1, h2]; rfl
theorem rd3 (h1 : A = true) (h2 : B = true) (h3 : C = true) : true = o := by rw [h, h1, h2, h3]; rfl
theorem rd4 (h1 : A = true) (h2 : B = true) (h3 : C = false) : D = o := by rw [h, h1, h2, h3]; rfl
end
set_option maxRecDepth 100000 in
set_option maxHeartbeats 4000000 in
theorem inspect_readLine {s : ByteArray} (hs : s.size ≤ 10000000) :
    SpecN Tryz.prog 174 [avS s] (fun y => ∃ x : LookS, (okLk s = true → x = lkOf s) ∧ y = .tup [avT x, avB (okLk s)]) := by
  refine SpecN.of_VCN Tryz.func174 rfl Tryz.ntmps174 (Nle rfl) fun w A hB => ?_
  have hnew : True := trivial
  refine VC.sr ?_
  refine VO.op rfl (OpE.alloc rfl hB rfl Tryz.zeroValue80 rfl ?_)
  intro g2
  refine VO.ma rfl rfl rfl rfl ?_
  refine VO.nil ?_
  refine VC.seq ?_
  have hwl := splitS_length 32 s
  have hwz := splitS_get 32 s
  refine VC.region ?_
  refine VO.mv rfl rfl rfl rfl ?_
  refine VO.op rfl (OpE.call rfl hB rfl Tryz.call232 rfl (kit_Words (by omega)) ?_)
  rintro _ rfl
  obtain ⟨wb, hwb⟩ : ∃ wb, wordsB s = wb := ⟨_, rfl⟩
  rw [hwb]
  have hwr : wb = true → wordsR s = splitS 32 s := fun e => by rw [wordsR, if_pos (by rw [hwb]; exact e)]
  have hwr0 : wb = false → wordsR s = [] := fun e => by rw [wordsR, if_neg (by rw [hwb, e]; simp)]
  refine VO.mv rfl rfl rfl rfl ?_
  refine VO.val rfl rfl (OpV.extract rfl rfl rfl) ?_
  refine VO.val rfl rfl (OpV.extract rfl rfl rfl) ?_
  refine VO.ma rfl rfl rfl rfl ?_
  refine VO.ma rfl rfl rfl rfl ?_
  refine VO.nil ?_
  refine VC.seq ?_
  refine VC.sr ?_
  refine VO.mv rfl rfl rfl rfl ?_
  refine VO.val rfl rfl (OpV.not rfl rfl) ?_
  refine VO.mv rfl rfl rfl rfl ?_
  refine VO.opG rfl rfl rfl rfl (fun aK1b => ?_) (fun aK1b => ?_)
  · replace aK1b : _ = false := aK1b
    have aK1 := aK1b
    try simp only [qqT, qqF, qqN, qqM, qqL, qqE] at aK1
    refine OpE.val (W := NoB) (OpV.move (.inl rfl) rfl) rfl ?_
    refine VO.opY rfl rfl rfl rfl aK1b ?_
    refine OpE.val (W := NoB) (OpV.len_im rfl Tryz.underlying29 rfl) rfl ?_
    refine VO.opY rfl rfl rfl rfl aK1b ?_
    refine OpE.val (W := NoB) (OpV.neq rfl rfl rfl) rfl ?_
    refine VO.val rfl rfl (OpV.pickF rfl rfl rfl rfl aK1b) ?_
    refine VO.nil ?_
    refine VC.cond rfl (fun h0b => ?_) (fun h0b => ?_)
    · have h0 := h0b
      try simp only [qqT, qqF, qqN, qqM, qqL, qqE] at h0
      have hno : okLk s = false := okLk_no (.inr (by rw [← hwr (by assumption)]; omega))
      refine VC.sr ?_
      refine VO.val rfl rfl (OpV.build (pls := #[(0, 1), (1, 1), (2, 1), (3, 1), (4, 1), (5, 1), (6, 1), (7, 1)]) rfl Tryz.zeroValue80 Tryz.underlying80 (fun w => by kernel_rfl) rfl rfl) ?_
      refine VO.op rfl (OpE.store (i := 0) rfl hB rfl Tryz.sizeOf80 rfl rfl rfl rfl rfl rfl (Nle rfl) trivial ?_)
      refine VO.ma rfl rfl rfl rfl ?_
      refine VO.nil ?_
      refine VC.ret ?_
      exact Exists.intro _ (And.intro (RetN.two Tryz.results174 ((by first | exact ResN.cellF (i := 0) Tryz.isAgg80 Tryz.sizeOf80 rfl rfl rfl (flat_ofB rfl))) (ResN.v rfl)) (⟨default, (fun e => by rw [hno] at e; (cases e)), by rw [hno]; rfl⟩))
    · have h0 := h0b
      try simp only [qqT, qqF, qqN, qqM, qqL, qqE] at h0
      have hwt : wb = true := by simp_all
      have hok : okLk s = (numE ((splitS 32 s).getD 0 ByteArray.empty) 15 && (decide (1 ≤ vIx ((splitS 32 s).getD 3 ByteArray.empty)) && (sEq ((splitS 32 s).getD 4 ByteArray.empty) badW || sEq ((splitS 32 s).getD 4 ByteArray.empty) fineW))) := okLk_8 (by rw [hwb, hwt]) (by rw [← hwr hwt]; omega)
      have hl8 : (splitS 32 s).length = 8 := by rw [← hwr hwt]; omega
      refine VC.le _ (Le.recast (t := 4) (y := avStrs (splitS 32 s)) rfl (fun w Z u h => by rw [← hwr hwt]; exact h)) ?_
      obtain ⟨ws, hws⟩ : ∃ ws, splitS 32 s = ws := ⟨_, rfl⟩
      rw [hws] at hl8 hwz hok ⊢
      refine VC.skip ?_
      refine VC.sr ?_
      refine VO.mv rfl rfl rfl rfl ?_
      refine VO.val rfl rfl (OpV.indexAddr_1 rfl Tryz.underlying29 Tryz.sizeOf9 rfl rfl (Int.toNat_of_nonneg (by omega)).symm (by omega)) ?_
      refine VO.val rfl rfl (OpV.load_at rfl hB OutW.no Tryz.isAgg9 rfl rfl) ?_
      refine VO.op rfl (OpE.call rfl hB rfl Tryz.call239 rfl (SpecN.spec (kit_Number (Nat.le_trans (hwz 0) (by omega)) (by decide) (by decide))) ?_)
      rintro _ rfl
      refine VO.mv rfl rfl rfl rfl ?_
      refine VO.val rfl rfl (OpV.extract rfl rfl rfl) ?_
      refine VO.val rfl rfl (OpV.extract rfl rfl rfl) ?_
      refine VO.ma rfl rfl rfl rfl ?_
      refine VO.ma rfl rfl rfl rfl ?_
      refine VO.nil ?_
      refine VC.seq ?_
      refine VC.drawN (fun N j b => j ∈ [27] ∧ N ≤ b) hB (by kernel_rfl) (fun N hN => ?_)
      refine VN.take (i := 0) rfl (by kernel_rfl) (by kernel_rfl) (by kernel_rfl) rfl rfl (OpVN.of (OpV.move (.inl rfl) rfl)) ?_
      refine VN.take (i := 1) rfl (by kernel_rfl) (by kernel_rfl) (by kernel_rfl) rfl rfl (OpVN.of (OpV.move (.inl rfl) rfl)) ?_
      refine VN.take (i := 2) rfl (by kernel_rfl) (by kernel_rfl) (by kernel_rfl) rfl rfl (OpVN.of (OpV.indexAddr_1 rfl Tryz.underlying29 Tryz.sizeOf9 rfl rfl (Int.toNat_of_nonneg (by omega)).symm (by omega))) ?_
      refine VN.take (i := 3) rfl (by kernel_rfl) (by kernel_rfl) (by kernel_rfl) rfl rfl (OpVN.load_at rfl hB (fun b ⟨_, _, _, h⟩ => h) Tryz.isAgg9 rfl rfl) ?_
      refine VN.take (i := 4) rfl (by kernel_rfl) (by kernel_rfl) (by kernel_rfl) rfl rfl (OpVN.of (OpV.move (.inl rfl) rfl)) ?_
      refine VN.take (i := 5) rfl (by kernel_rfl) (by kernel_rfl) (by kernel_rfl) rfl rfl (OpVN.of (OpV.indexAddr_1 rfl Tryz.underlying29 Tryz.sizeOf9 rfl rfl (Int.toNat_of_nonneg (by omega)).symm (by omega))) ?_
      refine VN.take (i := 6) rfl (by kernel_rfl) (by kernel_rfl) (by kernel_rfl) rfl rfl (OpVN.load_at rfl hB (fun b ⟨_, _, _, h⟩ => h) Tryz.isAgg9 rfl rfl) ?_
      refine VN.take (i := 8) rfl (by kernel_rfl) (by kernel_rfl) (by kernel_rfl) rfl rfl (OpVN.of (OpV.move (.inl rfl) rfl)) ?_
      refine VN.take (i := 9) rfl (by kernel_rfl) (by kernel_rfl) (by kernel_rfl) rfl rfl (OpVN.of (OpV.indexAddr_1 rfl Tryz.underlying29 Tryz.sizeOf9 rfl rfl (Int.toNat_of_nonneg (by omega)).symm (by omega))) ?_
      refine VN.take (i := 10) rfl (by kernel_rfl) (by kernel_rfl) (by kernel_rfl) rfl rfl (OpVN.load_at rfl hB (fun b ⟨_, _, _, h⟩ => h) Tryz.isAgg9 rfl rfl) ?_
      refine VN.take (i := 12) rfl (by kernel_rfl) (by kernel_rfl) (by kernel_rfl) rfl rfl (OpVN.of (OpV.move (.inl rfl) rfl)) ?_
      refine VN.take (i := 13) rfl (by kernel_rfl) (by kernel_rfl) (by kernel_rfl) rfl rfl (OpVN.of (OpV.indexAddr_1 rfl Tryz.underlying29 Tryz.sizeOf9 rfl rfl (Int.toNat_of_nonneg (by omega)).symm (by omega))) ?_
      refine VN.take (i := 14) rfl (by kernel_rfl) (by kernel_rfl) (by kernel_rfl) rfl rfl (OpVN.load_at rfl hB (fun b ⟨_, _, _, h⟩ => h) Tryz.isAgg9 rfl rfl) ?_
      refine VN.take (i := 15) rfl (by kernel_rfl) (by kernel_rfl) (by kernel_rfl) rfl rfl (OpVN.of (OpV.seql rfl rfl rfl)) ?_
      refine VN.take (i := 16) rfl (by kernel_rfl) (by kernel_rfl) (by kernel_rfl) rfl rfl (OpVN.of (OpV.move (.inl rfl) rfl)) ?_
      refine VN.take (i := 17) rfl (by kernel_rfl) (by kernel_rfl) (by kernel_rfl) rfl rfl (OpVN.of (OpV.indexAddr_1 rfl Tryz.underlying29 Tryz.sizeOf9 rfl rfl (Int.toNat_of_nonneg (by omega)).symm (by omega))) ?_
      refine VN.take (i := 18) rfl (by kernel_rfl) (by kernel_rfl) (by kernel_rfl) rfl rfl (OpVN.load_at rfl hB (fun b ⟨_, _, _, h⟩ => h) Tryz.isAgg9 rfl rfl) ?_
      refine VN.take (i := 19) rfl (by kernel_rfl) (by kernel_rfl) (by kernel_rfl) rfl rfl (OpVN.of (OpV.move (.inl rfl) rfl)) ?_
      refine VN.take (i := 20) rfl (by kernel_rfl) (by kernel_rfl) (by kernel_rfl) rfl rfl (OpVN.of (OpV.indexAddr_1 rfl Tryz.underlying29 Tryz.sizeOf9 rfl rfl (Int.toNat_of_nonneg (by omega)).symm (by omega))) ?_
      refine VN.take (i := 21) rfl (by kernel_rfl) (by kernel_rfl) (by kernel_rfl) rfl rfl (OpVN.load_at rfl hB (fun b ⟨_, _, _, h⟩ => h) Tryz.isAgg9 rfl rfl) ?_
      refine VN.take (i := 22) rfl (by kernel_rfl) (by kernel_rfl) (by kernel_rfl) rfl rfl (OpVN.of (OpV.move (.inl rfl) rfl)) ?_
      refine VN.take (i := 23) rfl (by kernel_rfl) (by kernel_rfl) (by kernel_rfl) rfl rfl (OpVN.of (OpV.indexAddr_1 rfl Tryz.underlying29 Tryz.sizeOf9 rfl rfl (Int.toNat_of_nonneg (by omega)).symm (by omega))) ?_
      refine VN.take (i := 24) rfl (by kernel_rfl) (by kernel_rfl) (by kernel_rfl) rfl rfl (OpVN.load_at rfl hB (fun b ⟨_, _, _, h⟩ => h) Tryz.isAgg9 rfl rfl) ?_
      refine VN.toM ?_
      refine VM.all (rs := [7, 26]) (by kernel_rfl) (by decide) ?_
      refine ⟨⟨_, rfl, rfl, ?_⟩, ⟨_, rfl, rfl, ?_⟩, trivial⟩
      ·
        refine OpM.of ?_
        refine OpE.call rfl hB rfl Tryz.call172 rfl (inspect_verdictWords) ?_
        rintro _ rfl
        refine VM.all (rs := [11, 26]) (by kernel_rfl) (by decide) ?_
        refine ⟨⟨_, rfl, rfl, ?_⟩, ⟨_, rfl, rfl, ?_⟩, trivial⟩
        ·
          refine OpM.of ?_
          refine OpE.call rfl hB rfl Tryz.call151 rfl (SpecN.spec (slices_Index_str (by decide))) ?_
          rintro _ rfl
          refine VM.take (i := 25) rfl (by kernel_rfl) (by kernel_rfl) (by kernel_rfl) rfl rfl (OpV.build (pls := #[(0, 1), (1, 1), (2, 1), (3, 1), (4, 1), (5, 1), (6, 1), (7, 1)]) rfl Tryz.zeroValue80 Tryz.underlying80 (fun w => by kernel_rfl) rfl rfl) ?_
          refine VM.all (rs := [26]) (by kernel_rfl) (by decide) ?_
          refine ⟨⟨_, rfl, rfl, ?_⟩, trivial⟩
          refine OpM.alloc rfl hB rfl Tryz.zeroValue80 rfl ?_
          intro g7 hg7
          refine VM.all (rs := [27]) (by kernel_rfl) (by decide) ?_
          refine ⟨⟨_, rfl, rfl, ?_⟩, trivial⟩
          refine OpM.of ?_
          refine OpE.store (i := 1) rfl hB rfl Tryz.sizeOf80 rfl rfl rfl rfl rfl rfl (Nle rfl) ⟨by decide, by assumption⟩ ?_
          refine VM.done (by kernel_rfl) ?_
          refine VC.seq ?_
          have hlo : lkOf s = ⟨ws.getD 1 ByteArray.empty, ws.getD 2 ByteArray.empty, numV (ws.getD 0 ByteArray.empty) 15, vIx (ws.getD 3 ByteArray.empty), sEq (ws.getD 4 ByteArray.empty) badW, ws.getD 5 ByteArray.empty, ws.getD 6 ByteArray.empty, ws.getD 7 ByteArray.empty⟩ := by rw [← hws]; rfl
          obtain ⟨x, hx⟩ : ∃ x : LookS, x = ⟨ws.getD 1 ByteArray.empty, ws.getD 2 ByteArray.empty, numV (ws.getD 0 ByteArray.empty) 15, vIx (ws.getD 3 ByteArray.empty), sEq (ws.getD 4 ByteArray.empty) badW, ws.getD 5 ByteArray.empty, ws.getD 6 ByteArray.empty, ws.getD 7 ByteArray.empty⟩ := ⟨_, rfl⟩
          refine VC.le _ (Le.freezeAt (t := 7) (m := 8) (f := Sxc.cell x) (i := 1) rfl rfl (Nat.le_refl _) (fun w Z u h => h.at_congr (g := Sxc.cell x) (by subst hx; exact lt8 rfl rfl rfl rfl rfl rfl rfl rfl)) hnew hB) ?_
          have hxo : x = lkOf s := by rw [hx, hlo]
          have hx3 : x.verdict = vIx (ws.getD 3 ByteArray.empty) := by rw [hx]
          have hx4 : x.bad = sEq (ws.getD 4 ByteArray.empty) badW := by rw [hx]
          have hok2 : okLk s = (numE (ws.getD 0 ByteArray.empty) 15 && (decide (1 ≤ x.verdict) && (x.bad || sEq (ws.getD 4 ByteArray.empty) fineW))) := by rw [hx3, hx4]; exact hok
          refine VC.draw (fun j b => j = 17 ∧ b = g2) hB (by kernel_rfl) ?_
          refine VA.take (i := 0) rfl (by kernel_rfl) (by kernel_rfl) (by kernel_rfl) rfl rfl (OpV.loadK_at rfl hB (by first | exact OutW.wi1 (k := 0) rfl rfl | exact OutW.wi1 (k := 1) rfl rfl) Tryz.isAgg80 Tryz.sizeOf80 rfl rfl) ?_
          refine VA.take (i := 1) rfl (by kernel_rfl) (by kernel_rfl) (by kernel_rfl) rfl rfl (OpV.move (.inl rfl) rfl) ?_
          refine VA.take (i := 2) rfl (by kernel_rfl) (by kernel_rfl) (by kernel_rfl) rfl rfl (OpV.move (.inl rfl) rfl) ?_
          refine VA.split (t := 56) rfl (fun aK2b => ?_) (fun aK2b => ?_)
          · have aK2 := aK2b
            try simp only [qqT, qqF, qqN, qqM, qqL, qqE] at aK2
            refine VA.takeY (i := 3) rfl (by kernel_rfl) (by kernel_rfl) (by kernel_rfl) rfl rfl rfl rfl aK2b (OpV.fieldAddr_atO 3 rfl Tryz.underlying80 rfl rfl Tryz.sizeOf3 rfl rfl) ?_
            refine VA.takeY (i := 4) rfl (by kernel_rfl) (by kernel_rfl) (by kernel_rfl) rfl rfl rfl rfl aK2b (OpV.load_at rfl hB (by first | exact OutW.wi1 (k := 0) rfl rfl | exact OutW.wi1 (k := 1) rfl rfl) Tryz.isAgg3 rfl rfl) ?_
            refine VA.takeY (i := 5) rfl (by kernel_rfl) (by kernel_rfl) (by kernel_rfl) rfl rfl rfl rfl aK2b (OpV.geq rfl rfl rfl) ?_
            refine VA.take (i := 6) rfl (by kernel_rfl) (by kernel_rfl) (by kernel_rfl) rfl rfl (OpV.pickT rfl rfl rfl rfl aK2b) ?_
            refine VA.take (i := 7) rfl (by kernel_rfl) (by kernel_rfl) (by kernel_rfl) rfl rfl (OpV.move (.inl rfl) rfl) ?_
            refine VA.split (t := 61) rfl (fun aK3b => ?_) (fun aK3b => ?_)
            · have aK3 := aK3b
              try simp only [qqT, qqF, qqN, qqM, qqL, qqE] at aK3
              refine VA.takeY (i := 8) rfl (by kernel_rfl) (by kernel_rfl) (by kernel_rfl) rfl rfl rfl rfl aK3b (OpV.fieldAddr_atO 4 rfl Tryz.underlying80 rfl rfl Tryz.sizeOf4 rfl rfl) ?_
              refine VA.takeY (i := 9) rfl (by kernel_rfl) (by kernel_rfl) (by kernel_rfl) rfl rfl rfl rfl aK3b (OpV.load_at rfl hB (by first | exact OutW.wi1 (k := 0) rfl rfl | exact OutW.wi1 (k := 1) rfl rfl) Tryz.isAgg4 rfl rfl) ?_
              refine VA.takeY (i := 10) rfl (by kernel_rfl) (by kernel_rfl) (by kernel_rfl) rfl rfl rfl rfl aK3b (OpV.move (.inl rfl) rfl) ?_
              refine VA.split (t := 64) rfl (fun aK4b => ?_) (fun aK4b => ?_)
              · have aK4 := aK4b
                try simp only [qqT, qqF, qqN, qqM, qqL, qqE] at aK4
                refine VA.takeX (i := 11) rfl (by kernel_rfl) (by kernel_rfl) (by kernel_rfl) rfl rfl rfl rfl aK4b ?_
                refine VA.takeX (i := 12) rfl (by kernel_rfl) (by kernel_rfl) (by kernel_rfl) rfl rfl rfl rfl aK4b ?_
                refine VA.takeX (i := 13) rfl (by kernel_rfl) (by kernel_rfl) (by kernel_rfl) rfl rfl rfl rfl aK4b ?_
                refine VA.takeX (i := 14) rfl (by kernel_rfl) (by kernel_rfl) (by kernel_rfl) rfl rfl rfl rfl aK4b ?_
                refine VA.takeY (i := 15) rfl (by kernel_rfl) (by kernel_rfl) (by kernel_rfl) rfl rfl rfl rfl aK3b (OpV.pickT rfl rfl rfl rfl aK4b) ?_
                refine VA.take (i := 16) rfl (by kernel_rfl) (by kernel_rfl) (by kernel_rfl) rfl rfl (OpV.pickT rfl rfl rfl rfl aK3b) ?_
                refine VA.all (rs := [17]) (by kernel_rfl) (by decide) ?_
                refine ⟨⟨_, rfl, .inl rfl, ?_⟩, trivial⟩
                refine OpE.store (i := 0) rfl hB rfl Tryz.sizeOf80 rfl rfl rfl rfl rfl rfl (Nle rfl) (by first | exact ⟨rfl, rfl⟩ | exact .inl ⟨rfl, rfl⟩ | exact .inr ⟨rfl, rfl⟩ | exact ⟨rfl, trivial⟩ | exact .inl ⟨rfl, trivial⟩ | exact .inr ⟨rfl, trivial⟩ | exact ⟨by decide, rfl⟩) ?_
                refine VA.take (i := 18) rfl (by kernel_rfl) (by kernel_rfl) (by kernel_rfl) rfl rfl (OpV.move (.inr rfl) rfl) ?_
                refine VA.done (by kernel_rfl) ?_
                refine VC.ret ?_
                exact Exists.intro _ (And.intro (RetN.two Tryz.results174 ((by first | exact ResN.cellF (i := 0) Tryz.isAgg80 Tryz.sizeOf80 rfl rfl rfl (flat_ofB rfl) | exact ResN.cellF (i := 1) Tryz.isAgg80 Tryz.sizeOf80 rfl rfl rfl (flat_ofB rfl))) (ResN.v rfl)) (by first | exact ⟨x, fun _ => hxo, rd_out (rd1 hok2 (by assumption))⟩ | exact ⟨x, fun _ => hxo, rd_out (rd2 hok2 (by assumption) (by assumption))⟩ | exact ⟨x, fun _ => hxo, rd_out (rd3 hok2 (by assumption) (by assumption) (by assumption))⟩ | exact ⟨x, fun _ => hxo, rd_out (rd4 hok2 (by assumption) (by assumption) (by assumption))⟩))
              · have aK4 := aK4b
                try simp only [qqT, qqF, qqN, qqM, qqL, qqE] at aK4
                refine VA.takeY (i := 11) rfl (by kernel_rfl) (by kernel_rfl) (by kernel_rfl) rfl rfl rfl rfl aK4b (OpV.move (.inl rfl) rfl) ?_
                refine VA.takeY (i := 12) rfl (by kernel_rfl) (by kernel_rfl) (by kernel_rfl) rfl rfl rfl rfl aK4b (OpV.indexAddr_1 rfl Tryz.underlying29 Tryz.sizeOf9 rfl rfl (Int.toNat_of_nonneg (by omega)).symm (by omega)) ?_
                refine VA.takeY (i := 13) rfl (by kernel_rfl) (by kernel_rfl) (by kernel_rfl) rfl rfl rfl rfl aK4b (OpV.load_at rfl hB (by first | exact OutW.wi1 (k := 0) rfl rfl | exact OutW.wi1 (k := 1) rfl rfl) Tryz.isAgg9 rfl rfl) ?_
                refine VA.takeY (i := 14) rfl (by kernel_rfl) (by kernel_rfl) (by kernel_rfl) rfl rfl rfl rfl aK4b (OpV.seql rfl rfl rfl) ?_
                refine VA.takeY (i := 15) rfl (by kernel_rfl) (by kernel_rfl) (by kernel_rfl) rfl rfl rfl rfl aK3b (OpV.pickF rfl rfl rfl rfl aK4b) ?_
                refine VA.take (i := 16) rfl (by kernel_rfl) (by kernel_rfl) (by kernel_rfl) rfl rfl (OpV.pickT rfl rfl rfl rfl aK3b) ?_
                refine VA.all (rs := [17]) (by kernel_rfl) (by decide) ?_
                refine ⟨⟨_, rfl, .inl rfl, ?_⟩, trivial⟩
                refine OpE.store (i := 0) rfl hB rfl Tryz.sizeOf80 rfl rfl rfl rfl rfl rfl (Nle rfl) (by first | exact ⟨rfl, rfl⟩ | exact .inl ⟨rfl, rfl⟩ | exact .inr ⟨rfl, rfl⟩ | exact ⟨rfl, trivial⟩ | exact .inl ⟨rfl, trivial⟩ | exact .inr ⟨rfl, trivial⟩ | exact ⟨by decide, rfl⟩) ?_
                refine VA.take (i := 18) rfl (by kernel_rfl) (by kernel_rfl) (by kernel_rfl) rfl rfl (OpV.move (.inr rfl) rfl) ?_
                refine VA.done (by kernel_rfl) ?_
                refine VC.ret ?_
                exact Exists.intro _ (And.intro (RetN.two Tryz.results174 ((by first | exact ResN.cellF (i := 0) Tryz.isAgg80 Tryz.sizeOf80 rfl rfl rfl (flat_ofB rfl) | exact ResN.cellF (i := 1) Tryz.isAgg80 Tryz.sizeOf80 rfl rfl rfl (flat_ofB rfl))) (ResN.v rfl)) (by first | exact ⟨x, fun _ => hxo, rd_out (rd1 hok2 (by assumption))⟩ | exact ⟨x, fun _ => hxo, rd_out (rd2 hok2 (by assumption) (by assumption))⟩ | exact ⟨x, fun _ => hxo, rd_out (rd3 hok2 (by assumption) (by assumption) (by assumption))⟩ | exact ⟨x, fun _ => hxo, rd_out (rd4 hok2 (by assumption) (by assumption) (by assumption))⟩))
            · have aK3 := aK3b
              try simp only [qqT, qqF, qqN, qqM, qqL, qqE] at aK3
              refine VA.takeX (i := 8) rfl (by kernel_rfl) (by kernel_rfl) (by kernel_rfl) rfl rfl rfl rfl aK3b ?_
              refine VA.takeX (i := 9) rfl (by kernel_rfl) (by kernel_rfl) (by kernel_rfl) rfl rfl rfl rfl aK3b ?_
              refine VA.takeX (i := 10) rfl (by kernel_rfl) (by kernel_rfl) (by kernel_rfl) rfl rfl rfl rfl aK3b ?_
              refine VA.takeU (i := 11) rfl (by kernel_rfl) (by kernel_rfl) (by kernel_rfl) rfl rfl rfl rfl ?_
              refine VA.takeU (i := 12) rfl (by kernel_rfl) (by kernel_rfl) (by kernel_rfl) rfl rfl rfl rfl ?_
              refine VA.takeU (i := 13) rfl (by kernel_rfl) (by kernel_rfl) (by kernel_rfl) rfl rfl rfl rfl ?_
              refine VA.takeU (i := 14) rfl (by kernel_rfl) (by kernel_rfl) (by kernel_rfl) rfl rfl rfl rfl ?_
              refine VA.takeX (i := 15) rfl (by kernel_rfl) (by kernel_rfl) (by kernel_rfl) rfl rfl rfl rfl aK3b ?_
              refine VA.take (i := 16) rfl (by kernel_rfl) (by kernel_rfl) (by kernel_rfl) rfl rfl (OpV.pickF rfl rfl rfl rfl aK3b) ?_
              refine VA.all (rs := [17]) (by kernel_rfl) (by decide) ?_
              refine ⟨⟨_, rfl, .inl rfl, ?_⟩, trivial⟩
              refine OpE.store (i := 0) rfl hB rfl Tryz.sizeOf80 rfl rfl rfl rfl rfl rfl (Nle rfl) (by first | exact ⟨rfl, rfl⟩ | exact .inl ⟨rfl, rfl⟩ | exact .inr ⟨rfl, rfl⟩ | exact ⟨rfl, trivial⟩ | exact .inl ⟨rfl, trivial⟩ | exact .inr ⟨rfl, trivial⟩ | exact ⟨by decide, rfl⟩) ?_
              refine VA.take (i := 18) rfl (by kernel_rfl) (by kernel_rfl) (by kernel_rfl) rfl rfl (OpV.move (.inr rfl) rfl) ?_
              refine VA.done (by kernel_rfl) ?_
              refine VC.ret ?_
              exact Exists.intro _ (And.intro (RetN.two Tryz.results174 ((by first | exact ResN.cellF (i := 0) Tryz.isAgg80 Tryz.sizeOf80 rfl rfl rfl (flat_ofB rfl) | exact ResN.cellF (i := 1) Tryz.isAgg80 Tryz.sizeOf80 rfl rfl rfl (flat_ofB rfl))) (ResN.v rfl)) (by first | exact ⟨x, fun _ => hxo, rd_out (rd1 hok2 (by assumption))⟩ | exact ⟨x, fun _ => hxo, rd_out (rd2 hok2 (by assumption) (by assumption))⟩ | exact ⟨x, fun _ => hxo, rd_out (rd3 hok2 (by assumption) (by assumption) (by assumption))⟩ | exact ⟨x, fun _ => hxo, rd_out (rd4 hok2 (by assumption) (by assumption) (by assumption))⟩))
          · have aK2 := aK2b
            try simp only [qqT, qqF, qqN, qqM, qqL, qqE] at aK2
            refine VA.takeX (i := 3) rfl (by kernel_rfl) (by kernel_rfl) (by kernel_rfl) rfl rfl rfl rfl aK2b ?_
            refine VA.takeX (i := 4) rfl (by kernel_rfl) (by kernel_rfl) (by kernel_rfl) rfl rfl rfl rfl aK2b ?_
            refine VA.takeX (i := 5) rfl (by kernel_rfl) (by kernel_rfl) (by kernel_rfl) rfl rfl rfl rfl aK2b ?_
            refine VA.take (i := 6) rfl (by kernel_rfl) (by kernel_rfl) (by kernel_rfl) rfl rfl (OpV.pickF rfl rfl rfl rfl aK2b) ?_
            refine VA.take (i := 7) rfl (by kernel_rfl) (by kernel_rfl) (by kernel_rfl) rfl rfl (OpV.move (.inl rfl) rfl) ?_
            refine VA.takeX (i := 8) rfl (by kernel_rfl) (by kernel_rfl) (by kernel_rfl) rfl rfl rfl rfl rfl ?_
            refine VA.takeX (i := 9) rfl (by kernel_rfl) (by kernel_rfl) (by kernel_rfl) rfl rfl rfl rfl rfl ?_
            refine VA.takeX (i := 10) rfl (by kernel_rfl) (by kernel_rfl) (by kernel_rfl) rfl rfl rfl rfl rfl ?_
            refine VA.takeU (i := 11) rfl (by kernel_rfl) (by kernel_rfl) (by kernel_rfl) rfl rfl rfl rfl ?_
            refine VA.takeU (i := 12) rfl (by kernel_rfl) (by kernel_rfl) (by kernel_rfl) rfl rfl rfl rfl ?_
            refine VA.takeU (i := 13) rfl (by kernel_rfl) (by kernel_rfl) (by kernel_rfl) rfl rfl rfl rfl ?_
            refine VA.takeU (i := 14) rfl (by kernel_rfl) (by kernel_rfl) (by kernel_rfl) rfl rfl rfl rfl ?_
            refine VA.takeX (i := 15) rfl (by kernel_rfl) (by kernel_rfl) (by kernel_rfl) rfl rfl rfl rfl rfl ?_
            refine VA.take (i := 16) rfl (by kernel_rfl) (by kernel_rfl) (by kernel_rfl) rfl rfl (OpV.pickF rfl rfl rfl rfl rfl) ?_
            refine VA.all (rs := [17]) (by kernel_rfl) (by decide) ?_
            refine ⟨⟨_, rfl, .inl rfl, ?_⟩, trivial⟩
            refine OpE.store (i := 0) rfl hB rfl Tryz.sizeOf80 rfl rfl rfl rfl rfl rfl (Nle rfl) (by first | exact ⟨rfl, rfl⟩ | exact .inl ⟨rfl, rfl⟩ | exact .inr ⟨rfl, rfl⟩ | exact ⟨rfl, trivial⟩ | exact .inl ⟨rfl, trivial⟩ | exact .inr ⟨rfl, trivial⟩ | exact ⟨by decide, rfl⟩) ?_
            refine VA.take (i := 18) rfl (by kernel_rfl) (by kernel_rfl) (by kernel_rfl) rfl rfl (OpV.move (.inr rfl) rfl) ?_
            refine VA.done (by kernel_rfl) ?_
            refine VC.ret ?_
            exact Exists.intro _ (And.intro (RetN.two Tryz.results174 ((by first | exact ResN.cellF (i := 0) Tryz.isAgg80 Tryz.sizeOf80 rfl rfl rfl (flat_ofB rfl) | exact ResN.cellF (i := 1) Tryz.isAgg80 Tryz.sizeOf80 rfl rfl rfl (flat_ofB rfl))) (ResN.v rfl)) (by first | exact ⟨x, fun _ => hxo, rd_out (rd1 hok2 (by assumption))⟩ | exact ⟨x, fun _ => hxo, rd_out (rd2 hok2 (by assumption) (by assumption))⟩ | exact ⟨x, fun _ => hxo, rd_out (rd3 hok2 (by assumption) (by assumption) (by assumption))⟩ | exact ⟨x, fun _ => hxo, rd_out (rd4 hok2 (by assumption) (by assumption) (by assumption))⟩))
        ·
          refine OpM.alloc rfl hB rfl Tryz.zeroValue80 rfl ?_
          intro g7 hg7
          refine VM.all (rs := [11]) (by kernel_rfl) (by decide) ?_
          refine ⟨⟨_, rfl, rfl, ?_⟩, trivial⟩
          refine OpM.of ?_
          refine OpE.call rfl hB rfl Tryz.call151 rfl (SpecN.spec (slices_Index_str (by decide))) ?_
          rintro _ rfl
          refine VM.take (i := 25) rfl (by kernel_rfl) (by kernel_rfl) (by kernel_rfl) rfl rfl (OpV.build (pls := #[(0, 1), (1, 1), (2, 1), (3, 1), (4, 1), (5, 1), (6, 1), (7, 1)]) rfl Tryz.zeroValue80 Tryz.underlying80 (fun w => by kernel_rfl) rfl rfl) ?_
          refine VM.all (rs := [27]) (by kernel_rfl) (by decide) ?_
          refine ⟨⟨_, rfl, rfl, ?_⟩, trivial⟩
          refine OpM.of ?_
          refine OpE.store (i := 1) rfl hB rfl Tryz.sizeOf80 rfl rfl rfl rfl rfl rfl (Nle rfl) ⟨by decide, by assumption⟩ ?_
          refine VM.done (by kernel_rfl) ?_
          refine VC.seq ?_
          have hlo : lkOf s = ⟨ws.getD 1 ByteArray.empty, ws.getD 2 ByteArray.empty, numV (ws.getD 0 ByteArray.empty) 15, vIx (ws.getD 3 ByteArray.empty), sEq (ws.getD 4 ByteArray.empty) badW, ws.getD 5 ByteArray.empty, ws.getD 6 ByteArray.empty, ws.getD 7 ByteArray.empty⟩ := by rw [← hws]; rfl
          obtain ⟨x, hx⟩ : ∃ x : LookS, x = ⟨ws.getD 1 ByteArray.empty, ws.getD 2 ByteArray.empty, numV (ws.getD 0 ByteArray.empty) 15, vIx (ws.getD 3 ByteArray.empty), sEq (ws.getD 4 ByteArray.empty) badW, ws.getD 5 ByteArray.empty, ws.getD 6 ByteArray.empty, ws.getD 7 ByteArray.empty⟩ := ⟨_, rfl⟩
          refine VC.le _ (Le.freezeAt (t := 7) (m := 8) (f := Sxc.cell x) (i := 1) rfl rfl (Nat.le_refl _) (fun w Z u h => h.at_congr (g := Sxc.cell x) (by subst hx; exact lt8 rfl rfl rfl rfl rfl rfl rfl rfl)) hnew hB) ?_
          have hxo : x = lkOf s := by rw [hx, hlo]
          have hx3 : x.verdict = vIx (ws.getD 3 ByteArray.empty) := by rw [hx]
          have hx4 : x.bad = sEq (ws.getD 4 ByteArray.empty) badW := by rw [hx]
          have hok2 : okLk s = (numE (ws.getD 0 ByteArray.empty) 15 && (decide (1 ≤ x.verdict) && (x.bad || sEq (ws.getD 4 ByteArray.empty) fineW))) := by rw [hx3, hx4]; exact hok
          refine VC.draw (fun j b => j = 17 ∧ b = g2) hB (by kernel_rfl) ?_
          refine VA.take (i := 0) rfl (by kernel_rfl) (by kernel_rfl) (by kernel_rfl) rfl rfl (OpV.loadK_at rfl hB (by first | exact OutW.wi1 (k := 0) rfl rfl | exact OutW.wi1 (k := 1) rfl rfl) Tryz.isAgg80 Tryz.sizeOf80 rfl rfl) ?_
          refine VA.take (i := 1) rfl (by kernel_rfl) (by kernel_rfl) (by kernel_rfl) rfl rfl (OpV.move (.inl rfl) rfl) ?_
          refine VA.take (i := 2) rfl (by kernel_rfl) (by kernel_rfl) (by kernel_rfl) rfl rfl (OpV.move (.inl rfl) rfl) ?_
          refine VA.split (t := 56) rfl (fun aK5b => ?_) (fun aK5b => ?_)
          · have aK5 := aK5b
            try simp only [qqT, qqF, qqN, qqM, qqL, qqE] at aK5
            refine VA.takeY (i := 3) rfl (by kernel_rfl) (by kernel_rfl) (by kernel_rfl) rfl rfl rfl rfl aK5b (OpV.fieldAddr_atO 3 rfl Tryz.underlying80 rfl rfl Tryz.sizeOf3 rfl rfl) ?_
            refine VA.takeY (i := 4) rfl (by kernel_rfl) (by kernel_rfl) (by kernel_rfl) rfl rfl rfl rfl aK5b (OpV.load_at rfl hB (by first | exact OutW.wi1 (k := 0) rfl rfl | exact OutW.wi1 (k := 1) rfl rfl) Tryz.isAgg3 rfl rfl) ?_
            refine VA.takeY (i := 5) rfl (by kernel_rfl) (by kernel_rfl) (by kernel_rfl) rfl rfl rfl rfl aK5b (OpV.geq rfl rfl rfl) ?_
            refine VA.take (i := 6) rfl (by kernel_rfl) (by kernel_rfl) (by kernel_rfl) rfl rfl (OpV.pickT rfl rfl rfl rfl aK5b) ?_
            refine VA.take (i := 7) rfl (by kernel_rfl) (by kernel_rfl) (by kernel_rfl) rfl rfl (OpV.move (.inl rfl) rfl) ?_
            refine VA.split (t := 61) rfl (fun aK6b => ?_) (fun aK6b => ?_)
            · have aK6 := aK6b
              try simp only [qqT, qqF, qqN, qqM, qqL, qqE] at aK6
              refine VA.takeY (i := 8) rfl (by kernel_rfl) (by kernel_rfl) (by kernel_rfl) rfl rfl rfl rfl aK6b (OpV.fieldAddr_atO 4 rfl Tryz.underlying80 rfl rfl Tryz.sizeOf4 rfl rfl) ?_
              refine VA.takeY (i := 9) rfl (by kernel_rfl) (by kernel_rfl) (by kernel_rfl) rfl rfl rfl rfl aK6b (OpV.load_at rfl hB (by first | exact OutW.wi1 (k := 0) rfl rfl | exact OutW.wi1 (k := 1) rfl rfl) Tryz.isAgg4 rfl rfl) ?_
              refine VA.takeY (i := 10) rfl (by kernel_rfl) (by kernel_rfl) (by kernel_rfl) rfl rfl rfl rfl aK6b (OpV.move (.inl rfl) rfl) ?_
              refine VA.split (t := 64) rfl (fun aK7b => ?_) (fun aK7b => ?_)
              · have aK7 := aK7b
                try simp only [qqT, qqF, qqN, qqM, qqL, qqE] at aK7
                refine VA.takeX (i := 11) rfl (by kernel_rfl) (by kernel_rfl) (by kernel_rfl) rfl rfl rfl rfl aK7b ?_
                refine VA.takeX (i := 12) rfl (by kernel_rfl) (by kernel_rfl) (by kernel_rfl) rfl rfl rfl rfl aK7b ?_
                refine VA.takeX (i := 13) rfl (by kernel_rfl) (by kernel_rfl) (by kernel_rfl) rfl rfl rfl rfl aK7b ?_
                refine VA.takeX (i := 14) rfl (by kernel_rfl) (by kernel_rfl) (by kernel_rfl) rfl rfl rfl rfl aK7b ?_
                refine VA.takeY (i := 15) rfl (by kernel_rfl) (by kernel_rfl) (by kernel_rfl) rfl rfl rfl rfl aK6b (OpV.pickT rfl rfl rfl rfl aK7b) ?_
                refine VA.take (i := 16) rfl (by kernel_rfl) (by kernel_rfl) (by kernel_rfl) rfl rfl (OpV.pickT rfl rfl rfl rfl aK6b) ?_
                refine VA.all (rs := [17]) (by kernel_rfl) (by decide) ?_
                refine ⟨⟨_, rfl, .inl rfl, ?_⟩, trivial⟩
                refine OpE.store (i := 0) rfl hB rfl Tryz.sizeOf80 rfl rfl rfl rfl rfl rfl (Nle rfl) (by first | exact ⟨rfl, rfl⟩ | exact .inl ⟨rfl, rfl⟩ | exact .inr ⟨rfl, rfl⟩ | exact ⟨rfl, trivial⟩ | exact .inl ⟨rfl, trivial⟩ | exact .inr ⟨rfl, trivial⟩ | exact ⟨by decide, rfl⟩) ?_
                refine VA.take (i := 18) rfl (by kernel_rfl) (by kernel_rfl) (by kernel_rfl) rfl rfl (OpV.move (.inr rfl) rfl) ?_
                refine VA.done (by kernel_rfl) ?_
                refine VC.ret ?_
                exact Exists.intro _ (And.intro (RetN.two Tryz.results174 ((by first | exact ResN.cellF (i := 0) Tryz.isAgg80 Tryz.sizeOf80 rfl rfl rfl (flat_ofB rfl) | exact ResN.cellF (i := 1) Tryz.isAgg80 Tryz.sizeOf80 rfl rfl rfl (flat_ofB rfl))) (ResN.v rfl)) (by first | exact ⟨x, fun _ => hxo, rd_out (rd1 hok2 (by assumption))⟩ | exact ⟨x, fun _ => hxo, rd_out (rd2 hok2 (by assumption) (by assumption))⟩ | exact ⟨x, fun _ => hxo, rd_out (rd3 hok2 (by assumption) (by assumption) (by assumption))⟩ | exact ⟨x, fun _ => hxo, rd_out (rd4 hok2 (by assumption) (by assumption) (by assumption))⟩))
              · have aK7 := aK7b
                try simp only [qqT, qqF, qqN, qqM, qqL, qqE] at aK7
                refine VA.takeY (i := 11) rfl (by kernel_rfl) (by kernel_rfl) (by kernel_rfl) rfl rfl rfl rfl aK7b (OpV.move (.inl rfl) rfl) ?_
                refine VA.takeY (i := 12) rfl (by kernel_rfl) (by kernel_rfl) (by kernel_rfl) rfl rfl rfl rfl aK7b (OpV.indexAddr_1 rfl Tryz.underlying29 Tryz.sizeOf9 rfl rfl (Int.toNat_of_nonneg (by omega)).symm (by omega)) ?_
                refine VA.takeY (i := 13) rfl (by kernel_rfl) (by kernel_rfl) (by kernel_rfl) rfl rfl rfl rfl aK7b (OpV.load_at rfl hB (by first | exact OutW.wi1 (k := 0) rfl rfl | exact OutW.wi1 (k := 1) rfl rfl) Tryz.isAgg9 rfl rfl) ?_
                refine VA.takeY (i := 14) rfl (by kernel_rfl) (by kernel_rfl) (by kernel_rfl) rfl rfl rfl rfl aK7b (OpV.seql rfl rfl rfl) ?_
                refine VA.takeY (i := 15) rfl (by kernel_rfl) (by kernel_rfl) (by kernel_rfl) rfl rfl rfl rfl aK6b (OpV.pickF rfl rfl rfl rfl aK7b) ?_
                refine VA.take (i := 16) rfl (by kernel_rfl) (by kernel_rfl) (by kernel_rfl) rfl rfl (OpV.pickT rfl rfl rfl rfl aK6b) ?_
                refine VA.all (rs := [17]) (by kernel_rfl) (by decide) ?_
                refine ⟨⟨_, rfl, .inl rfl, ?_⟩, trivial⟩
                refine OpE.store (i := 0) rfl hB rfl Tryz.sizeOf80 rfl rfl rfl rfl rfl rfl (Nle rfl) (by first | exact ⟨rfl, rfl⟩ | exact .inl ⟨rfl, rfl⟩ | exact .inr ⟨rfl, rfl⟩ | exact ⟨rfl, trivial⟩ | exact .inl ⟨rfl, trivial⟩ | exact .inr ⟨rfl, trivial⟩ | exact ⟨by decide, rfl⟩) ?_
                refine VA.take (i := 18) rfl (by kernel_rfl) (by kernel_rfl) (by kernel_rfl) rfl rfl (OpV.move (.inr rfl) rfl) ?_
                refine VA.done (by kernel_rfl) ?_
                refine VC.ret ?_
                exact Exists.intro _ (And.intro (RetN.two Tryz.results174 ((by first | exact ResN.cellF (i := 0) Tryz.isAgg80 Tryz.sizeOf80 rfl rfl rfl (flat_ofB rfl) | exact ResN.cellF (i := 1) Tryz.isAgg80 Tryz.sizeOf80 rfl rfl rfl (flat_ofB rfl))) (ResN.v rfl)) (by first | exact ⟨x, fun _ => hxo, rd_out (rd1 hok2 (by assumption))⟩ | exact ⟨x, fun _ => hxo, rd_out (rd2 hok2 (by assumption) (by assumption))⟩ | exact ⟨x, fun _ => hxo, rd_out (rd3 hok2 (by assumption) (by assumption) (by assumption))⟩ | exact ⟨x, fun _ => hxo, rd_out (rd4 hok2 (by assumption) (by assumption) (by assumption))⟩))
            · have aK6 := aK6b
              try simp only [qqT, qqF, qqN, qqM, qqL, qqE] at aK6
              refine VA.takeX (i := 8) rfl (by kernel_rfl) (by kernel_rfl) (by kernel_rfl) rfl rfl rfl rfl aK6b ?_
              refine VA.takeX (i := 9) rfl (by kernel_rfl) (by kernel_rfl) (by kernel_rfl) rfl rfl rfl rfl aK6b ?_
              refine VA.takeX (i := 10) rfl (by kernel_rfl) (by kernel_rfl) (by kernel_rfl) rfl rfl rfl rfl aK6b ?_
              refine VA.takeU (i := 11) rfl (by kernel_rfl) (by kernel_rfl) (by kernel_rfl) rfl rfl rfl rfl ?_
              refine VA.takeU (i := 12) rfl (by kernel_rfl) (by kernel_rfl) (by kernel_rfl) rfl rfl rfl rfl ?_
              refine VA.takeU (i := 13) rfl (by kernel_rfl) (by kernel_rfl) (by kernel_rfl) rfl rfl rfl rfl ?_
              refine VA.takeU (i := 14) rfl (by kernel_rfl) (by kernel_rfl) (by kernel_rfl) rfl rfl rfl rfl ?_
              refine VA.takeX (i := 15) rfl (by kernel_rfl) (by kernel_rfl) (by kernel_rfl) rfl rfl rfl rfl aK6b ?_
              refine VA.take (i := 16) rfl (by kernel_rfl) (by kernel_rfl) (by kernel_rfl) rfl rfl (OpV.pickF rfl rfl rfl rfl aK6b) ?_
              refine VA.all (rs := [17]) (by kernel_rfl) (by decide) ?_
              refine ⟨⟨_, rfl, .inl rfl, ?_⟩, trivial⟩
              refine OpE.store (i := 0) rfl hB rfl Tryz.sizeOf80 rfl rfl rfl rfl rfl rfl (Nle rfl) (by first | exact ⟨rfl, rfl⟩ | exact .inl ⟨rfl, rfl⟩ | exact .inr ⟨rfl, rfl⟩ | exact ⟨rfl, trivial⟩ | exact .inl ⟨rfl, trivial⟩ | exact .inr ⟨rfl, trivial⟩ | exact ⟨by decide, rfl⟩) ?_
              refine VA.take (i := 18) rfl (by kernel_rfl) (by kernel_rfl) (by kernel_rfl) rfl rfl (OpV.move (.inr rfl) rfl) ?_
              refine VA.done (by kernel_rfl) ?_
              refine VC.ret ?_
              exact Exists.intro _ (And.intro (RetN.two Tryz.results174 ((by first | exact ResN.cellF (i := 0) Tryz.isAgg80 Tryz.sizeOf80 rfl rfl rfl (flat_ofB rfl) | exact ResN.cellF (i := 1) Tryz.isAgg80 Tryz.sizeOf80 rfl rfl rfl (flat_ofB rfl))) (ResN.v rfl)) (by first | exact ⟨x, fun _ => hxo, rd_out (rd1 hok2 (by assumption))⟩ | exact ⟨x, fun _ => hxo, rd_out (rd2 hok2 (by assumption) (by assumption))⟩ | exact ⟨x, fun _ => hxo, rd_out (rd3 hok2 (by assumption) (by assumption) (by assumption))⟩ | exact ⟨x, fun _ => hxo, rd_out (rd4 hok2 (by assumption) (by assumption) (by assumption))⟩))
          · have aK5 := aK5b
            try simp only [qqT, qqF, qqN, qqM, qqL, qqE] at aK5
            refine VA.takeX (i := 3) rfl (by kernel_rfl) (by kernel_rfl) (by kernel_rfl) rfl rfl rfl rfl aK5b ?_
            refine VA.takeX (i := 4) rfl (by kernel_rfl) (by kernel_rfl) (by kernel_rfl) rfl rfl rfl rfl aK5b ?_
            refine VA.takeX (i := 5) rfl (by kernel_rfl) (by kernel_rfl) (by kernel_rfl) rfl rfl rfl rfl aK5b ?_
            refine VA.take (i := 6) rfl (by kernel_rfl) (by kernel_rfl) (by kernel_rfl) rfl rfl (OpV.pickF rfl rfl rfl rfl aK5b) ?_
            refine VA.take (i := 7) rfl (by kernel_rfl) (by kernel_rfl) (by kernel_rfl) rfl rfl (OpV.move (.inl rfl) rfl) ?_
            refine VA.takeX (i := 8) rfl (by kernel_rfl) (by kernel_rfl) (by kernel_rfl) rfl rfl rfl rfl rfl ?_
            refine VA.takeX (i := 9) rfl (by kernel_rfl) (by kernel_rfl) (by kernel_rfl) rfl rfl rfl rfl rfl ?_
            refine VA.takeX (i := 10) rfl (by kernel_rfl) (by kernel_rfl) (by kernel_rfl) rfl rfl rfl rfl rfl ?_
            refine VA.takeU (i := 11) rfl (by kernel_rfl) (by kernel_rfl) (by kernel_rfl) rfl rfl rfl rfl ?_
            refine VA.takeU (i := 12) rfl (by kernel_rfl) (by kernel_rfl) (by kernel_rfl) rfl rfl rfl rfl ?_
            refine VA.takeU (i := 13) rfl (by kernel_rfl) (by kernel_rfl) (by kernel_rfl) rfl rfl rfl rfl ?_
            refine VA.takeU (i := 14) rfl (by kernel_rfl) (by kernel_rfl) (by kernel_rfl) rfl rfl rfl rfl ?_
            refine VA.takeX (i := 15) rfl (by kernel_rfl) (by kernel_rfl) (by kernel_rfl) rfl rfl rfl rfl rfl ?_
            refine VA.take (i := 16) rfl (by kernel_rfl) (by kernel_rfl) (by kernel_rfl) rfl rfl (OpV.pickF rfl rfl rfl rfl rfl) ?_
            refine VA.all (rs := [17]) (by kernel_rfl) (by decide) ?_
            refine ⟨⟨_, rfl, .inl rfl, ?_⟩, trivial⟩
            refine OpE.store (i := 0) rfl hB rfl Tryz.sizeOf80 rfl rfl rfl rfl rfl rfl (Nle rfl) (by first | exact ⟨rfl, rfl⟩ | exact .inl ⟨rfl, rfl⟩ | exact .inr ⟨rfl, rfl⟩ | exact ⟨rfl, trivial⟩ | exact .inl ⟨rfl, trivial⟩ | exact .inr ⟨rfl, trivial⟩ | exact ⟨by decide, rfl⟩) ?_
            refine VA.take (i := 18) rfl (by kernel_rfl) (by kernel_rfl) (by kernel_rfl) rfl rfl (OpV.move (.inr rfl) rfl) ?_
            refine VA.done (by kernel_rfl) ?_
            refine VC.ret ?_
            exact Exists.intro _ (And.intro (RetN.two Tryz.results174 ((by first | exact ResN.cellF (i := 0) Tryz.isAgg80 Tryz.sizeOf80 rfl rfl rfl (flat_ofB rfl) | exact ResN.cellF (i := 1) Tryz.isAgg80 Tryz.sizeOf80 rfl rfl rfl (flat_ofB rfl))) (ResN.v rfl)) (by first | exact ⟨x, fun _ => hxo, rd_out (rd1 hok2 (by assumption))⟩ | exact ⟨x, fun _ => hxo, rd_out (rd2 hok2 (by assumption) (by assumption))⟩ | exact ⟨x, fun _ => hxo, rd_out (rd3 hok2 (by assumption) (by assumption) (by assumption))⟩ | exact ⟨x, fun _ => hxo, rd_out (rd4 hok2 (by assumption) (by assumption) (by assumption))⟩))
      ·
        refine OpM.alloc rfl hB rfl Tryz.zeroValue80 rfl ?_
        intro g7 hg7
        refine VM.all (rs := [7]) (by kernel_rfl) (by decide) ?_
        refine ⟨⟨_, rfl, rfl, ?_⟩, trivial⟩
        refine OpM.of ?_
        refine OpE.call rfl hB rfl Tryz.call172 rfl (inspect_verdictWords) ?_
        rintro _ rfl
        refine VM.all (rs := [11]) (by kernel_rfl) (by decide) ?_
        refine ⟨⟨_, rfl, rfl, ?_⟩, trivial⟩
        refine OpM.of ?_
        refine OpE.call rfl hB rfl Tryz.call151 rfl (SpecN.spec (slices_Index_str (by decide))) ?_
        rintro _ rfl
        refine VM.take (i := 25) rfl (by kernel_rfl) (by kernel_rfl) (by kernel_rfl) rfl rfl (OpV.build (pls := #[(0, 1), (1, 1), (2, 1), (3, 1), (4, 1), (5, 1), (6, 1), (7, 1)]) rfl Tryz.zeroValue80 Tryz.underlying80 (fun w => by kernel_rfl) rfl rfl) ?_
        refine VM.all (rs := [27]) (by kernel_rfl) (by decide) ?_
        refine ⟨⟨_, rfl, rfl, ?_⟩, trivial⟩
        refine OpM.of ?_
        refine OpE.store (i := 1) rfl hB rfl Tryz.sizeOf80 rfl rfl rfl rfl rfl rfl (Nle rfl) ⟨by decide, by assumption⟩ ?_
        refine VM.done (by kernel_rfl) ?_
        refine VC.seq ?_
        have hlo : lkOf s = ⟨ws.getD 1 ByteArray.empty, ws.getD 2 ByteArray.empty, numV (ws.getD 0 ByteArray.empty) 15, vIx (ws.getD 3 ByteArray.empty), sEq (ws.getD 4 ByteArray.empty) badW, ws.getD 5 ByteArray.empty, ws.getD 6 ByteArray.empty, ws.getD 7 ByteArray.empty⟩ := by rw [← hws]; rfl
        obtain ⟨x, hx⟩ : ∃ x : LookS, x = ⟨ws.getD 1 ByteArray.empty, ws.getD 2 ByteArray.empty, numV (ws.getD 0 ByteArray.empty) 15, vIx (ws.getD 3 ByteArray.empty), sEq (ws.getD 4 ByteArray.empty) badW, ws.getD 5 ByteArray.empty, ws.getD 6 ByteArray.empty, ws.getD 7 ByteArray.empty⟩ := ⟨_, rfl⟩
        refine VC.le _ (Le.freezeAt (t := 7) (m := 8) (f := Sxc.cell x) (i := 1) rfl rfl (Nat.le_refl _) (fun w Z u h => h.at_congr (g := Sxc.cell x) (by subst hx; exact lt8 rfl rfl rfl rfl rfl rfl rfl rfl)) hnew hB) ?_
        have hxo : x = lkOf s := by rw [hx, hlo]
        have hx3 : x.verdict = vIx (ws.getD 3 ByteArray.empty) := by rw [hx]
        have hx4 : x.bad = sEq (ws.getD 4 ByteArray.empty) badW := by rw [hx]
        have hok2 : okLk s = (numE (ws.getD 0 ByteArray.empty) 15 && (decide (1 ≤ x.verdict) && (x.bad || sEq (ws.getD 4 ByteArray.empty) fineW))) := by rw [hx3, hx4]; exact hok
        refine VC.draw (fun j b => j = 17 ∧ b = g2) hB (by kernel_rfl) ?_
        refine VA.take (i := 0) rfl (by kernel_rfl) (by kernel_rfl) (by kernel_rfl) rfl rfl (OpV.loadK_at rfl hB (by first | exact OutW.wi1 (k := 0) rfl rfl | exact OutW.wi1 (k := 1) rfl rfl) Tryz.isAgg80 Tryz.sizeOf80 rfl rfl) ?_
        refine VA.take (i := 1) rfl (by kernel_rfl) (by kernel_rfl) (by kernel_rfl) rfl rfl (OpV.move (.inl rfl) rfl) ?_
        refine VA.take (i := 2) rfl (by kernel_rfl) (by kernel_rfl) (by kernel_rfl) rfl rfl (OpV.move (.inl rfl) rfl) ?_
        refine VA.split (t := 56) rfl (fun aK8b => ?_) (fun aK8b => ?_)
        · have aK8 := aK8b
          try simp only [qqT, qqF, qqN, qqM, qqL, qqE] at aK8
          refine VA.takeY (i := 3) rfl (by kernel_rfl) (by kernel_rfl) (by kernel_rfl) rfl rfl rfl rfl aK8b (OpV.fieldAddr_atO 3 rfl Tryz.underlying80 rfl rfl Tryz.sizeOf3 rfl rfl) ?_
          refine VA.takeY (i := 4) rfl (by kernel_rfl) (by kernel_rfl) (by kernel_rfl) rfl rfl rfl rfl aK8b (OpV.load_at rfl hB (by first | exact OutW.wi1 (k := 0) rfl rfl | exact OutW.wi1 (k := 1) rfl rfl) Tryz.isAgg3 rfl rfl) ?_
          refine VA.takeY (i := 5) rfl (by kernel_rfl) (by kernel_rfl) (by kernel_rfl) rfl rfl rfl rfl aK8b (OpV.geq rfl rfl rfl) ?_
          refine VA.take (i := 6) rfl (by kernel_rfl) (by kernel_rfl) (by kernel_rfl) rfl rfl (OpV.pickT rfl rfl rfl rfl aK8b) ?_
          refine VA.take (i := 7) rfl (by kernel_rfl) (by kernel_rfl) (by kernel_rfl) rfl rfl (OpV.move (.inl rfl) rfl) ?_
          refine VA.split (t := 61) rfl (fun aK9b => ?_) (fun aK9b => ?_)
          · have aK9 := aK9b
            try simp only [qqT, qqF, qqN, qqM, qqL, qqE] at aK9
            refine VA.takeY (i := 8) rfl (by kernel_rfl) (by kernel_rfl) (by kernel_rfl) rfl rfl rfl rfl aK9b (OpV.fieldAddr_atO 4 rfl Tryz.underlying80 rfl rfl Tryz.sizeOf4 rfl rfl) ?_
            refine VA.takeY (i := 9) rfl (by kernel_rfl) (by kernel_rfl) (by kernel_rfl) rfl rfl rfl rfl aK9b (OpV.load_at rfl hB (by first | exact OutW.wi1 (k := 0) rfl rfl | exact OutW.wi1 (k := 1) rfl rfl) Tryz.isAgg4 rfl rfl) ?_
            refine VA.takeY (i := 10) rfl (by kernel_rfl) (by kernel_rfl) (by kernel_rfl) rfl rfl rfl rfl aK9b (OpV.move (.inl rfl) rfl) ?_
            refine VA.split (t := 64) rfl (fun aK10b => ?_) (fun aK10b => ?_)
            · have aK10 := aK10b
              try simp only [qqT, qqF, qqN, qqM, qqL, qqE] at aK10
              refine VA.takeX (i := 11) rfl (by kernel_rfl) (by kernel_rfl) (by kernel_rfl) rfl rfl rfl rfl aK10b ?_
              refine VA.takeX (i := 12) rfl (by kernel_rfl) (by kernel_rfl) (by kernel_rfl) rfl rfl rfl rfl aK10b ?_
              refine VA.takeX (i := 13) rfl (by kernel_rfl) (by kernel_rfl) (by kernel_rfl) rfl rfl rfl rfl aK10b ?_
              refine VA.takeX (i := 14) rfl (by kernel_rfl) (by kernel_rfl) (by kernel_rfl) rfl rfl rfl rfl aK10b ?_
              refine VA.takeY (i := 15) rfl (by kernel_rfl) (by kernel_rfl) (by kernel_rfl) rfl rfl rfl rfl aK9b (OpV.pickT rfl rfl rfl rfl aK10b) ?_
              refine VA.take (i := 16) rfl (by kernel_rfl) (by kernel_rfl) (by kernel_rfl) rfl rfl (OpV.pickT rfl rfl rfl rfl aK9b) ?_
              refine VA.all (rs := [17]) (by kernel_rfl) (by decide) ?_
              refine ⟨⟨_, rfl, .inl rfl, ?_⟩, trivial⟩
              refine OpE.store (i := 0) rfl hB rfl Tryz.sizeOf80 rfl rfl rfl rfl rfl rfl (Nle rfl) (by first | exact ⟨rfl, rfl⟩ | exact .inl ⟨rfl, rfl⟩ | exact .inr ⟨rfl, rfl⟩ | exact ⟨rfl, trivial⟩ | exact .inl ⟨rfl, trivial⟩ | exact .inr ⟨rfl, trivial⟩ | exact ⟨by decide, rfl⟩) ?_
              refine VA.take (i := 18) rfl (by kernel_rfl) (by kernel_rfl) (by kernel_rfl) rfl rfl (OpV.move (.inr rfl) rfl) ?_
              refine VA.done (by kernel_rfl) ?_
              refine VC.ret ?_
              exact Exists.intro _ (And.intro (RetN.two Tryz.results174 ((by first | exact ResN.cellF (i := 0) Tryz.isAgg80 Tryz.sizeOf80 rfl rfl rfl (flat_ofB rfl) | exact ResN.cellF (i := 1) Tryz.isAgg80 Tryz.sizeOf80 rfl rfl rfl (flat_ofB rfl))) (ResN.v rfl)) (by first | exact ⟨x, fun _ => hxo, rd_out (rd1 hok2 (by assumption))⟩ | exact ⟨x, fun _ => hxo, rd_out (rd2 hok2 (by assumption) (by assumption))⟩ | exact ⟨x, fun _ => hxo, rd_out (rd3 hok2 (by assumption) (by assumption) (by assumption))⟩ | exact ⟨x, fun _ => hxo, rd_out (rd4 hok2 (by assumption) (by assumption) (by assumption))⟩))
            · have aK10 := aK10b
              try simp only [qqT, qqF, qqN, qqM, qqL, qqE] at aK10
              refine VA.takeY (i := 11) rfl (by kernel_rfl) (by kernel_rfl) (by kernel_rfl) rfl rfl rfl rfl aK10b (OpV.move (.inl rfl) rfl) ?_
              refine VA.takeY (i := 12) rfl (by kernel_rfl) (by kernel_rfl) (by kernel_rfl) rfl rfl rfl rfl aK10b (OpV.indexAddr_1 rfl Tryz.underlying29 Tryz.sizeOf9 rfl rfl (Int.toNat_of_nonneg (by omega)).symm (by omega)) ?_
              refine VA.takeY (i := 13) rfl (by kernel_rfl) (by kernel_rfl) (by kernel_rfl) rfl rfl rfl rfl aK10b (OpV.load_at rfl hB (by first | exact OutW.wi1 (k := 0) rfl rfl | exact OutW.wi1 (k := 1) rfl rfl) Tryz.isAgg9 rfl rfl) ?_
              refine VA.takeY (i := 14) rfl (by kernel_rfl) (by kernel_rfl) (by kernel_rfl) rfl rfl rfl rfl aK10b (OpV.seql rfl rfl rfl) ?_
              refine VA.takeY (i := 15) rfl (by kernel_rfl) (by kernel_rfl) (by kernel_rfl) rfl rfl rfl rfl aK9b (OpV.pickF rfl rfl rfl rfl aK10b) ?_
              refine VA.take (i := 16) rfl (by kernel_rfl) (by kernel_rfl) (by kernel_rfl) rfl rfl (OpV.pickT rfl rfl rfl rfl aK9b) ?_
              refine VA.all (rs := [17]) (by kernel_rfl) (by decide) ?_
              refine ⟨⟨_, rfl, .inl rfl, ?_⟩, trivial⟩
              refine OpE.store (i := 0) rfl hB rfl Tryz.sizeOf80 rfl rfl rfl rfl rfl rfl (Nle rfl) (by first | exact ⟨rfl, rfl⟩ | exact .inl ⟨rfl, rfl⟩ | exact .inr ⟨rfl, rfl⟩ | exact ⟨rfl, trivial⟩ | exact .inl ⟨rfl, trivial⟩ | exact .inr ⟨rfl, trivial⟩ | exact ⟨by decide, rfl⟩) ?_
              refine VA.take (i := 18) rfl (by kernel_rfl) (by kernel_rfl) (by kernel_rfl) rfl rfl (OpV.move (.inr rfl) rfl) ?_
              refine VA.done (by kernel_rfl) ?_
              refine VC.ret ?_
              exact Exists.intro _ (And.intro (RetN.two Tryz.results174 ((by first | exact ResN.cellF (i := 0) Tryz.isAgg80 Tryz.sizeOf80 rfl rfl rfl (flat_ofB rfl) | exact ResN.cellF (i := 1) Tryz.isAgg80 Tryz.sizeOf80 rfl rfl rfl (flat_ofB rfl))) (ResN.v rfl)) (by first | exact ⟨x, fun _ => hxo, rd_out (rd1 hok2 (by assumption))⟩ | exact ⟨x, fun _ => hxo, rd_out (rd2 hok2 (by assumption) (by assumption))⟩ | exact ⟨x, fun _ => hxo, rd_out (rd3 hok2 (by assumption) (by assumption) (by assumption))⟩ | exact ⟨x, fun _ => hxo, rd_out (rd4 hok2 (by assumption) (by assumption) (by assumption))⟩))
          · have aK9 := aK9b
            try simp only [qqT, qqF, qqN, qqM, qqL, qqE] at aK9
            refine VA.takeX (i := 8) rfl (by kernel_rfl) (by kernel_rfl) (by kernel_rfl) rfl rfl rfl rfl aK9b ?_
            refine VA.takeX (i := 9) rfl (by kernel_rfl) (by kernel_rfl) (by kernel_rfl) rfl rfl rfl rfl aK9b ?_
            refine VA.takeX (i := 10) rfl (by kernel_rfl) (by kernel_rfl) (by kernel_rfl) rfl rfl rfl rfl aK9b ?_
            refine VA.takeU (i := 11) rfl (by kernel_rfl) (by kernel_rfl) (by kernel_rfl) rfl rfl rfl rfl ?_
            refine VA.takeU (i := 12) rfl (by kernel_rfl) (by kernel_rfl) (by kernel_rfl) rfl rfl rfl rfl ?_
            refine VA.takeU (i := 13) rfl (by kernel_rfl) (by kernel_rfl) (by kernel_rfl) rfl rfl rfl rfl ?_
            refine VA.takeU (i := 14) rfl (by kernel_rfl) (by kernel_rfl) (by kernel_rfl) rfl rfl rfl rfl ?_
            refine VA.takeX (i := 15) rfl (by kernel_rfl) (by kernel_rfl) (by kernel_rfl) rfl rfl rfl rfl aK9b ?_
            refine VA.take (i := 16) rfl (by kernel_rfl) (by kernel_rfl) (by kernel_rfl) rfl rfl (OpV.pickF rfl rfl rfl rfl aK9b) ?_
            refine VA.all (rs := [17]) (by kernel_rfl) (by decide) ?_
            refine ⟨⟨_, rfl, .inl rfl, ?_⟩, trivial⟩
            refine OpE.store (i := 0) rfl hB rfl Tryz.sizeOf80 rfl rfl rfl rfl rfl rfl (Nle rfl) (by first | exact ⟨rfl, rfl⟩ | exact .inl ⟨rfl, rfl⟩ | exact .inr ⟨rfl, rfl⟩ | exact ⟨rfl, trivial⟩ | exact .inl ⟨rfl, trivial⟩ | exact .inr ⟨rfl, trivial⟩ | exact ⟨by decide, rfl⟩) ?_
            refine VA.take (i := 18) rfl (by kernel_rfl) (by kernel_rfl) (by kernel_rfl) rfl rfl (OpV.move (.inr rfl) rfl) ?_
            refine VA.done (by kernel_rfl) ?_
            refine VC.ret ?_
            exact Exists.intro _ (And.intro (RetN.two Tryz.results174 ((by first | exact ResN.cellF (i := 0) Tryz.isAgg80 Tryz.sizeOf80 rfl rfl rfl (flat_ofB rfl) | exact ResN.cellF (i := 1) Tryz.isAgg80 Tryz.sizeOf80 rfl rfl rfl (flat_ofB rfl))) (ResN.v rfl)) (by first | exact ⟨x, fun _ => hxo, rd_out (rd1 hok2 (by assumption))⟩ | exact ⟨x, fun _ => hxo, rd_out (rd2 hok2 (by assumption) (by assumption))⟩ | exact ⟨x, fun _ => hxo, rd_out (rd3 hok2 (by assumption) (by assumption) (by assumption))⟩ | exact ⟨x, fun _ => hxo, rd_out (rd4 hok2 (by assumption) (by assumption) (by assumption))⟩))
        · have aK8 := aK8b
          try simp only [qqT, qqF, qqN, qqM, qqL, qqE] at aK8
          refine VA.takeX (i := 3) rfl (by kernel_rfl) (by kernel_rfl) (by kernel_rfl) rfl rfl rfl rfl aK8b ?_
          refine VA.takeX (i := 4) rfl (by kernel_rfl) (by kernel_rfl) (by kernel_rfl) rfl rfl rfl rfl aK8b ?_
          refine VA.takeX (i := 5) rfl (by kernel_rfl) (by kernel_rfl) (by kernel_rfl) rfl rfl rfl rfl aK8b ?_
          refine VA.take (i := 6) rfl (by kernel_rfl) (by kernel_rfl) (by kernel_rfl) rfl rfl (OpV.pickF rfl rfl rfl rfl aK8b) ?_
          refine VA.take (i := 7) rfl (by kernel_rfl) (by kernel_rfl) (by kernel_rfl) rfl rfl (OpV.move (.inl rfl) rfl) ?_
          refine VA.takeX (i := 8) rfl (by kernel_rfl) (by kernel_rfl) (by kernel_rfl) rfl rfl rfl rfl rfl ?_
          refine VA.takeX (i := 9) rfl (by kernel_rfl) (by kernel_rfl) (by kernel_rfl) rfl rfl rfl rfl rfl ?_
          refine VA.takeX (i := 10) rfl (by kernel_rfl) (by kernel_rfl) (by kernel_rfl) rfl rfl rfl rfl rfl ?_
          refine VA.takeU (i := 11) rfl (by kernel_rfl) (by kernel_rfl) (by kernel_rfl) rfl rfl rfl rfl ?_
          refine VA.takeU (i := 12) rfl (by kernel_rfl) (by kernel_rfl) (by kernel_rfl) rfl rfl rfl rfl ?_
          refine VA.takeU (i := 13) rfl (by kernel_rfl) (by kernel_rfl) (by kernel_rfl) rfl rfl rfl rfl ?_
          refine VA.takeU (i := 14) rfl (by kernel_rfl) (by kernel_rfl) (by kernel_rfl) rfl rfl rfl rfl ?_
          refine VA.takeX (i := 15) rfl (by kernel_rfl) (by kernel_rfl) (by kernel_rfl) rfl rfl rfl rfl rfl ?_
          refine VA.take (i := 16) rfl (by kernel_rfl) (by kernel_rfl) (by kernel_rfl) rfl rfl (OpV.pickF rfl rfl rfl rfl rfl) ?_
          refine VA.all (rs := [17]) (by kernel_rfl) (by decide) ?_
          refine ⟨⟨_, rfl, .inl rfl, ?_⟩, trivial⟩
          refine OpE.store (i := 0) rfl hB rfl Tryz.sizeOf80 rfl rfl rfl rfl rfl rfl (Nle rfl) (by first | exact ⟨rfl, rfl⟩ | exact .inl ⟨rfl, rfl⟩ | exact .inr ⟨rfl, rfl⟩ | exact ⟨rfl, trivial⟩ | exact .inl ⟨rfl, trivial⟩ | exact .inr ⟨rfl, trivial⟩ | exact ⟨by decide, rfl⟩) ?_
          refine VA.take (i := 18) rfl (by kernel_rfl) (by kernel_rfl) (by kernel_rfl) rfl rfl (OpV.move (.inr rfl) rfl) ?_
          refine VA.done (by kernel_rfl) ?_
          refine VC.ret ?_
          exact Exists.intro _ (And.intro (RetN.two Tryz.results174 ((by first | exact ResN.cellF (i := 0) Tryz.isAgg80 Tryz.sizeOf80 rfl rfl rfl (flat_ofB rfl) | exact ResN.cellF (i := 1) Tryz.isAgg80 Tryz.sizeOf80 rfl rfl rfl (flat_ofB rfl))) (ResN.v rfl)) (by first | exact ⟨x, fun _ => hxo, rd_out (rd1 hok2 (by assumption))⟩ | exact ⟨x, fun _ => hxo, rd_out (rd2 hok2 (by assumption) (by assumption))⟩ | exact ⟨x, fun _ => hxo, rd_out (rd3 hok2 (by assumption) (by assumption) (by assumption))⟩ | exact ⟨x, fun _ => hxo, rd_out (rd4 hok2 (by assumption) (by assumption) (by assumption))⟩))
  · replace aK1b : _ = true := aK1b
    have aK1 := aK1b
    try simp only [qqT, qqF, qqN, qqM, qqL, qqE] at aK1
    refine VO.opX rfl rfl rfl rfl aK1b ?_
    refine VO.opX rfl rfl rfl rfl aK1b ?_
    refine VO.val rfl rfl (OpV.pickT rfl rfl rfl rfl aK1b) ?_
    refine VO.nil ?_
    refine VC.condT rfl rfl ?_
    have hno : okLk s = false := okLk_no (.inl (by simp_all))
    refine VC.sr ?_
    refine VO.val rfl rfl (OpV.build (pls := #[(0, 1), (1, 1), (2, 1), (3, 1), (4, 1), (5, 1), (6, 1), (7, 1)]) rfl Tryz.zeroValue80 Tryz.underlying80 (fun w => by kernel_rfl) rfl rfl) ?_
    refine VO.op rfl (OpE.store (i := 0) rfl hB rfl Tryz.sizeOf80 rfl rfl rfl rfl rfl rfl (Nle rfl) trivial ?_)
    refine VO.ma rfl rfl rfl rfl ?_
    refine VO.nil ?_
    refine VC.ret ?_
    exact Exists.intro _ (And.intro (RetN.two Tryz.results174 ((by first | exact ResN.cellF (i := 0) Tryz.isAgg80 Tryz.sizeOf80 rfl rfl rfl (flat_ofB rfl))) (ResN.v rfl)) (⟨default, (fun e => by rw [hno] at e; (cases e)), by rw [hno]; rfl⟩))
end Go.Proofs.YtdnlhdilpdeecaaGreatDoor
namespace Go.Proofs.YtdnlhdilpdeecaaGreatDoor
open Go.RowKit
set_option linter.unusedVariables false
set_option linter.unusedSimpArgs false
section
variable {ls : List ByteArray} {en : Bool} {q : Nat}
theorem lnb1 (h : okLk (ls.getD q ByteArray.empty) = false) : lnBad (okAt okL1 ls) ls en q = true := by rw [lnBad_at, h]; rfl
theorem lnb2 (h : en = false) (h2 : q + 1 = ls.length) : lnBad (okAt okL1 ls) ls en q = true := by rw [lnBad_at, h, decide_eq_true h2]; simp
theorem lnb3 (h : okLk (ls.getD q ByteArray.empty) = true) (h2 : en = true) : lnBad (okAt okL1 ls) ls en q = false := by rw [lnBad_at, h, h2]; rfl
theorem lnb4 (h : okLk (ls.getD q ByteArray.empty) = true) (h2 : ¬ q + 1 = ls.length) : lnBad (okAt okL1 ls) ls en q = false := by rw [lnBad_at, h, decide_eq_false h2]; simp
end
set_option maxRecDepth 100000 in
set_option maxHeartbeats 8000000 in
theorem inspect_ReadL {text : ByteArray} (ht : text.size ≤ 900000) :
  SpecN Tryz.prog 75 [avS text] (fun y => y = .tup [avL (lkRead text).1, avI (lkRead text).2.1, avI (lkRead text).2.2]) := by
 refine SpecN.of_VCN Tryz.func75 rfl Tryz.ntmps75 (Nle rfl) fun w A hB => ?_
 have hnew : True := trivial
 refine VC.sr ?_
 refine VO.ma rfl rfl rfl rfl ?_
 refine VO.ma rfl rfl rfl rfl ?_
 refine VO.ma rfl rfl rfl rfl ?_
 refine VO.nil ?_
 refine VC.seq ?_
 refine VC.sr ?_
 refine VO.mv rfl rfl rfl rfl ?_
 refine VO.val rfl rfl (OpV.len_s rfl Tryz.underlying9 rfl) ?_
 refine VO.val rfl rfl (OpV.gtr rfl rfl rfl) ?_
 refine VO.nil ?_
 refine VC.cond rfl (fun h0b => ?_) (fun h0b => ?_)
 ·have h0 := h0b
  try simp only [qqT, qqF, qqN, qqM, qqL, qqE] at h0
  refine VC.sr ?_
  refine VO.ma rfl rfl rfl rfl ?_
  refine VO.ma rfl rfl rfl rfl ?_
  refine VO.ma rfl rfl rfl rfl ?_
  refine VO.nil ?_
  refine VC.ret ?_
  exact Exists.intro _ (And.intro (RetN.three Tryz.results75 (ResN.nilE rfl) (ResN.v rfl) (ResN.v rfl)) (by rw [lkRead_2 (by omega)]; rfl))
 ·have h0 := h0b
  try simp only [qqT, qqF, qqN, qqM, qqL, qqE] at h0
  refine VC.skip ?_
  refine VC.sr ?_
  refine VO.mv rfl rfl rfl rfl ?_
  refine VO.op rfl (OpE.call rfl hB rfl Tryz.call105 rfl (kit_Lines (by omega)) ?_)
  rintro _ rfl
  have hll := linesR_length text
  have hlg := linesR_get text
  obtain ⟨ls, hls⟩ : ∃ ls, linesR text = ls := ⟨_, rfl⟩
  obtain ⟨en, hen⟩ : ∃ en, linesE text = en := ⟨_, rfl⟩
  rw [hls] at hll hlg
  have hsm := lkOf_SmLk (ls := ls) (n := text.size) (by omega) (by omega) hlg
  refine VO.le _ (Le.recast (t := 18) (y := .tup [avStrs ls, avB en]) rfl (fun w Z u h => by rw [← hls, ← hen]; exact h)) ?_
  refine VO.mv rfl rfl rfl rfl ?_
  refine VO.val rfl rfl (OpV.extract rfl rfl rfl) ?_
  refine VO.val rfl rfl (OpV.extract rfl rfl rfl) ?_
  refine VO.ma rfl rfl rfl rfl ?_
  refine VO.ma rfl rfl rfl rfl ?_
  refine VO.nil ?_
  refine VC.sr ?_
  refine VO.ma rfl rfl rfl rfl ?_
  refine VO.nil ?_
  refine VC.seq ?_
  refine VC.sr ?_
  refine VO.mv rfl rfl rfl rfl ?_
  refine VO.val rfl rfl (OpV.len_im rfl Tryz.underlying29 rfl) ?_
  refine VO.mv rfl rfl rfl rfl ?_
  refine VO.nil ?_
  refine VC.block ?_
  refine VC.le _ (Le.nilRow 8 80) ?_
  refine VC.loopK [(5, _), (6, _), (21, _), (22, _)] ⟨rfl, rfl, rfl, rfl, trivial⟩ ({zz : Value × Nat // zz.2 ≤ ls.length ∧ ∀ j, j < zz.2 → lnBad (okAt okL1 ls) ls en j = false}) (fun (iZ : {zz : Value × Nat // zz.2 ≤ ls.length ∧ ∀ j, j < zz.2 → lnBad (okAt okL1 ls) ls en j = false}) => match iZ with | ⟨⟨u, q⟩, hq, hn⟩ => [(7, .v u), (23, avI (q : Int))]) (fun (iZ : {zz : Value × Nat // zz.2 ≤ ls.length ∧ ∀ j, j < zz.2 → lnBad (okAt okL1 ls) ls en j = false}) => match iZ with | ⟨⟨u, q⟩, hq, hn⟩ => [.row u q 8 (rowL ((ls.take q).map lkOf)) 80]) (fun (iZ : {zz : Value × Nat // zz.2 ≤ ls.length ∧ ∀ j, j < zz.2 → lnBad (okAt okL1 ls) ls en j = false}) => match iZ with | ⟨⟨u, q⟩, hq, hn⟩ => 0) (fun (iZ : {zz : Value × Nat // zz.2 ≤ ls.length ∧ ∀ j, j < zz.2 → lnBad (okAt okL1 ls) ls en j = false}) => match iZ with | ⟨⟨u, q⟩, hq, hn⟩ => ls.length - q) ⟨(.slice none 0 0, 0), Nat.zero_le _, fun j hj => absurd hj (Nat.not_lt_zero j)⟩ (Le.mk hB [0] ⟨rfl, rfl, rfl, rfl, rfl, rfl, trivial⟩ rfl rfl (Nat.le_refl _)) ?_
  rintro ⟨⟨u, q⟩, hq, hn⟩
  show VC _ _ _ _ ⟨[(7, .v u), (23, avI (q : Int))] ++ [(5, _), (6, _), (21, _), (22, _)], [.row u q 8 (rowL ((ls.take q).map lkOf)) 80], 0⟩
  simp only at hq
  refine VC.sr ?_
  refine VO.val rfl rfl (OpV.lss rfl rfl rfl) ?_
  refine VO.nil ?_
  refine VC.seq ?_
  refine VC.cond rfl (fun aH1b => ?_) (fun aH1b => ?_)
  ·have aH1 := aH1b
   try simp only [qqT, qqF, qqN, qqM, qqL, qqE] at aH1
   refine VC.skip ?_
   refine VC.seq ?_
   refine VC.block ?_
   refine VC.sr ?_
   refine VO.mv rfl rfl rfl rfl ?_
   refine VO.val rfl rfl (OpV.indexAddr_1 rfl Tryz.underlying29 Tryz.sizeOf9 rfl rfl rfl (by omega)) ?_
   refine VO.val rfl rfl (OpV.load_at rfl hB OutW.no Tryz.isAgg9 rfl rfl) ?_
   refine VO.ma rfl rfl rfl rfl ?_
   refine VO.ma rfl rfl rfl rfl ?_
   refine VO.nil ?_
   refine VC.sr ?_
   refine VO.mv rfl rfl rfl rfl ?_
   refine VO.op rfl (OpE.call rfl hB rfl Tryz.call174 rfl (SpecN.spec (inspect_readLine (Nat.le_trans (hlg q) (by omega)))) ?_)
   rintro _ ⟨x, hx, rfl⟩
   refine VO.mv rfl rfl rfl rfl ?_
   refine VO.val rfl rfl (OpV.extract rfl rfl rfl) ?_
   refine VO.val rfl rfl (OpV.extract rfl rfl rfl) ?_
   refine VO.op rfl (OpE.alloc rfl hB rfl Tryz.zeroValue80 rfl ?_)
   intro g10
   refine VO.op rfl (OpE.store (i := 1) rfl hB rfl Tryz.sizeOf80 rfl rfl rfl rfl rfl rfl (Nle rfl) trivial ?_)
   refine VO.ma rfl rfl rfl rfl ?_
   refine VO.nil ?_
   refine VC.seq ?_
   refine VC.sr ?_
   refine VO.mv rfl rfl rfl rfl ?_
   refine VO.val rfl rfl (OpV.not rfl rfl) ?_
   refine VO.mv rfl rfl rfl rfl ?_
   refine VO.opG rfl rfl rfl rfl (fun aK2b => ?_) (fun aK2b => ?_)
   ·replace aK2b : _ = false := aK2b
    have aK2 := aK2b
    try simp only [qqT, qqF, qqN, qqM, qqL, qqE] at aK2
    refine OpE.val (W := NoB) (OpV.move (.inl rfl) rfl) rfl ?_
    refine VO.opY rfl rfl rfl rfl aK2b ?_
    refine OpE.val (W := NoB) (OpV.not rfl rfl) rfl ?_
    refine VO.opY rfl rfl rfl rfl aK2b ?_
    refine OpE.val (W := NoB) (OpV.move (.inl rfl) rfl) rfl ?_
    refine VO.opG rfl rfl rfl rfl (fun aK3b => ?_) (fun aK3b => ?_)
    ·replace aK3b : _ = true := aK3b
     have aK3 := aK3b
     try simp only [qqT, qqF, qqN, qqM, qqL, qqE] at aK3
     refine OpE.val (W := NoB) (OpV.move (.inl rfl) rfl) rfl ?_
     refine VO.opY rfl rfl rfl rfl aK3b ?_
     refine OpE.val (W := NoB) (OpV.move (.inl rfl) rfl) rfl ?_
     refine VO.opY rfl rfl rfl rfl aK3b ?_
     refine OpE.val (W := NoB) (OpV.len_im rfl Tryz.underlying29 rfl) rfl ?_
     refine VO.opY rfl rfl rfl rfl aK3b ?_
     refine OpE.val (W := NoB) (OpV.sub rfl rfl rfl (by unfold fits; omega)) rfl ?_
     refine VO.opY rfl rfl rfl rfl aK3b ?_
     refine OpE.val (W := NoB) (OpV.eql rfl rfl rfl) rfl ?_
     refine VO.opY rfl rfl rfl rfl aK2b ?_
     refine OpE.val (W := NoB) (OpV.pickT rfl rfl rfl rfl aK3b) rfl ?_
     refine VO.val rfl rfl (OpV.pickF rfl rfl rfl rfl aK2b) ?_
     refine VO.nil ?_
     refine VC.cond rfl (fun h2b => ?_) (fun h2b => ?_)
     ·have h2 := h2b
      try simp only [qqT, qqF, qqN, qqM, qqL, qqE] at h2
      have hsome : lkBad text = some q := by show lnF _ _ _ = _; rw [hls, hen]; exact lnF_some (by omega) (lnb2 (not_true_false (by assumption)) (by omega)) hn
      refine VC.sr ?_
      refine VO.mv rfl rfl rfl rfl ?_
      refine VO.ma rfl rfl rfl rfl ?_
      refine VO.ma rfl rfl rfl rfl ?_
      refine VO.ma rfl rfl rfl rfl ?_
      refine VO.nil ?_
      refine VC.ret ?_
      exact Exists.intro _ (And.intro (RetN.three Tryz.results75 (ResN.nilE rfl) (ResN.v rfl) (ResN.v rfl)) (by rw [lkRead_9 (by omega) hsome]; rfl))
     ·have h2 := h2b
      try simp only [qqT, qqF, qqN, qqM, qqL, qqE] at h2
      have hnb : lnBad (okAt okL1 ls) ls en q = false := lnb4 (not_false_true (by assumption)) (by omega)
      obtain rfl := hx (not_false_true (by assumption))
      refine VC.skip ?_
      refine VC.region ?_
      refine VO.mv rfl rfl rfl rfl ?_
      refine VO.val rfl rfl (OpV.loadK_own (i := 1) rfl hB Tryz.isAgg80 Tryz.sizeOf80 rfl rfl rfl (fun h => h)) ?_
      refine VO.op rfl (OpE.buildSlice (zc := #[.string ⟨#[]⟩, .string ⟨#[]⟩, .int .i64 0, .int .i64 0, .bool false, .string ⟨#[]⟩, .string ⟨#[]⟩, .string ⟨#[]⟩]) rfl hB rfl Tryz.underlying54 Tryz.sizeOf80 Tryz.zeroValue80 (by decide) (by decide) (by kernel_rfl) rfl rfl ?_)
      refine VO.op rfl (OpE.append1 (i := 0) rfl hB rfl Tryz.underlying54 (infoOf Tryz.t80 8 (by kernel_rfl) rfl rfl) rfl (by decide) (by decide) rfl rfl rfl rfl (rowL_snoc _ (lkOf (ls.getD q ByteArray.empty))) (by omega) (fun _ _ => trivial) ?_)
      intro u50
      refine VO.ma rfl rfl rfl rfl ?_
      refine VO.nil ?_
      refine VC.region ?_
      refine VO.val rfl rfl (OpV.add rfl rfl rfl (by unfold fits; omega)) ?_
      refine VO.mv rfl rfl rfl rfl ?_
      refine VO.nil ?_
      exact Exists.intro (⟨(u50, q + 1), by show _ ≤ _; omega, lt_succ_cases hn (by assumption)⟩) (And.intro (Le.mk hB [0] ⟨rfl, rfl, rfl, rfl, rfl, rfl, trivial⟩ rfl (by dsimp only; rw [lkMap_take (by omega)]; rfl) (Nat.le_refl _)) (by first | omega | (show _ < _; omega) | (simp only []; omega)))
    ·replace aK3b : _ = false := aK3b
     have aK3 := aK3b
     try simp only [qqT, qqF, qqN, qqM, qqL, qqE] at aK3
     refine VO.opX rfl rfl rfl rfl aK3b ?_
     refine VO.opX rfl rfl rfl rfl aK3b ?_
     refine VO.opX rfl rfl rfl rfl aK3b ?_
     refine VO.opX rfl rfl rfl rfl aK3b ?_
     refine VO.opY rfl rfl rfl rfl aK2b ?_
     refine OpE.val (W := NoB) (OpV.pickF rfl rfl rfl rfl aK3b) rfl ?_
     refine VO.val rfl rfl (OpV.pickF rfl rfl rfl rfl aK2b) ?_
     refine VO.nil ?_
     refine VC.condF rfl rfl ?_
     have hnb : lnBad (okAt okL1 ls) ls en q = false := lnb3 (not_false_true (by assumption)) (not_false_true (by assumption))
     obtain rfl := hx (not_false_true (by assumption))
     refine VC.skip ?_
     refine VC.region ?_
     refine VO.mv rfl rfl rfl rfl ?_
     refine VO.val rfl rfl (OpV.loadK_own (i := 1) rfl hB Tryz.isAgg80 Tryz.sizeOf80 rfl rfl rfl (fun h => h)) ?_
     refine VO.op rfl (OpE.buildSlice (zc := #[.string ⟨#[]⟩, .string ⟨#[]⟩, .int .i64 0, .int .i64 0, .bool false, .string ⟨#[]⟩, .string ⟨#[]⟩, .string ⟨#[]⟩]) rfl hB rfl Tryz.underlying54 Tryz.sizeOf80 Tryz.zeroValue80 (by decide) (by decide) (by kernel_rfl) rfl rfl ?_)
     refine VO.op rfl (OpE.append1 (i := 0) rfl hB rfl Tryz.underlying54 (infoOf Tryz.t80 8 (by kernel_rfl) rfl rfl) rfl (by decide) (by decide) rfl rfl rfl rfl (rowL_snoc _ (lkOf (ls.getD q ByteArray.empty))) (by omega) (fun _ _ => trivial) ?_)
     intro u50
     refine VO.ma rfl rfl rfl rfl ?_
     refine VO.nil ?_
     refine VC.region ?_
     refine VO.val rfl rfl (OpV.add rfl rfl rfl (by unfold fits; omega)) ?_
     refine VO.mv rfl rfl rfl rfl ?_
     refine VO.nil ?_
     exact Exists.intro (⟨(u50, q + 1), by show _ ≤ _; omega, lt_succ_cases hn (by assumption)⟩) (And.intro (Le.mk hB [0] ⟨rfl, rfl, rfl, rfl, rfl, rfl, trivial⟩ rfl (by dsimp only; rw [lkMap_take (by omega)]; rfl) (Nat.le_refl _)) (by first | omega | (show _ < _; omega) | (simp only []; omega)))
   ·replace aK2b : _ = true := aK2b
    have aK2 := aK2b
    try simp only [qqT, qqF, qqN, qqM, qqL, qqE] at aK2
    refine VO.opX rfl rfl rfl rfl aK2b ?_
    refine VO.opX rfl rfl rfl rfl aK2b ?_
    refine VO.opU rfl rfl rfl rfl ?_
    refine VO.opU rfl rfl rfl rfl ?_
    refine VO.opU rfl rfl rfl rfl ?_
    refine VO.opU rfl rfl rfl rfl ?_
    refine VO.opU rfl rfl rfl rfl ?_
    refine VO.opX rfl rfl rfl rfl aK2b ?_
    refine VO.val rfl rfl (OpV.pickT rfl rfl rfl rfl aK2b) ?_
    refine VO.nil ?_
    refine VC.condT rfl rfl ?_
    have hsome : lkBad text = some q := by show lnF _ _ _ = _; rw [hls, hen]; exact lnF_some (by omega) (lnb1 (not_true_false (by assumption))) hn
    refine VC.sr ?_
    refine VO.mv rfl rfl rfl rfl ?_
    refine VO.ma rfl rfl rfl rfl ?_
    refine VO.ma rfl rfl rfl rfl ?_
    refine VO.ma rfl rfl rfl rfl ?_
    refine VO.nil ?_
    refine VC.ret ?_
    exact Exists.intro _ (And.intro (RetN.three Tryz.results75 (ResN.nilE rfl) (ResN.v rfl) (ResN.v rfl)) (by rw [lkRead_9 (by omega) hsome]; rfl))
  ·have aH1 := aH1b
   try simp only [qqT, qqF, qqN, qqM, qqL, qqE] at aH1
   obtain rfl : q = ls.length := by omega
   have hnone : lkBad text = none := by show lnF _ _ _ = _; rw [hls, hen]; exact lnF_none hn
   rw [List.take_length]
   refine VC.exit ?_
   refine VC.seq ?_
   refine VC.sr ?_
   refine VO.mv rfl rfl rfl rfl ?_
   refine VO.op rfl (OpE.callL rfl hB rfl Tryz.call112 (inspect_CheckLooks hsm) (ArgsP.cons (ArgP.rowT (i := 0) (xs := ls.map lkOf) rfl rfl (by rw [List.length_map])) (ArgsP.nil)) ?_)
   rintro _ rfl
   refine VO.ma rfl rfl rfl rfl ?_
   refine VO.nil ?_
   refine VC.sr ?_
   refine VO.mv rfl rfl rfl rfl ?_
   refine VO.val rfl rfl (OpV.neq rfl rfl rfl) ?_
   refine VO.nil ?_
   refine VC.cond rfl (fun h3b => ?_) (fun h3b => ?_)
   ·have h3 := h3b
    try simp only [qqT, qqF, qqN, qqM, qqL, qqE] at h3
    refine VC.sr ?_
    refine VO.mv rfl rfl rfl rfl ?_
    refine VO.ma rfl rfl rfl rfl ?_
    refine VO.ma rfl rfl rfl rfl ?_
    refine VO.ma rfl rfl rfl rfl ?_
    refine VO.nil ?_
    refine VC.ret ?_
    exact Exists.intro _ (And.intro (RetN.three Tryz.results75 (ResN.nilE rfl) (ResN.v rfl) (ResN.v rfl)) (by rw [lkRead_e (by omega) hnone (by rw [hls]; exact h3), hls]; rfl))
   ·have h3 := h3b
    try simp only [qqT, qqF, qqN, qqM, qqL, qqE] at h3
    refine VC.skip ?_
    refine VC.sr ?_
    refine VO.mv rfl rfl rfl rfl ?_
    refine VO.ma rfl rfl rfl rfl ?_
    refine VO.ma rfl rfl rfl rfl ?_
    refine VO.ma rfl rfl rfl rfl ?_
    refine VO.nil ?_
    refine VC.ret ?_
    exact Exists.intro _ (And.intro (RetN.three Tryz.results75 (ResN.rowT (i := 0) (xs := ls.map lkOf) rfl rfl (by rw [List.length_map]) (flat_lk _)) (ResN.v rfl) (ResN.v rfl)) (by rw [lkRead_0 (by omega) hnone (by rw [hls]; omega), hls]))
end Go.Proofs.YtdnlhdilpdeecaaGreatDoor
namespace Go.Proofs.YtdnlhdilpdeecaaGreatDoor
open Go.RowKit
set_option linter.unusedVariables false
set_option linter.unusedSimpArgs false
structure StabX (TX : List Ent → World → Prop) : Prop where
 keep : ∀ {hp hp' : List Ent} {w w' : World}, TX hp w → Chg (BlkL hp) w w' → (∀ b, BlkL hp' b → b < w.heap.size → BlkL hp b) → TX hp' w'
def TXt : List Ent → World → Prop := fun _ _ => True
theorem TXt.stab : StabX TXt := ⟨fun _ _ _ => trivial⟩
def SpecHX (TX : List Ent → World → Prop) (P : Program) (F : FuncId) (xs : List AV) (hp : List Ent) (G : AV → List Ent → Prop) : Prop :=
 ∀ (w : World) (A : Nat → Prop) (us : Array Value), TX hp w → Args w A xs us → Apart hp → (∀ b, BlkL hp b → ¬ A b) → (∀ e ∈ hp, EntR w (fun b => b < w.heap.size ∧ A b) e) →
  Calls P F us w fun e w' => ∃ y v hp', G y hp' ∧ e = .returned v ∧ Apart hp' ∧ Rep w' (Zh w A hp hp' w') y v ∧ (∀ e ∈ hp', EntR w' (Zh w A hp hp' w') e) ∧
   (∀ b, BlkL hp' b → b < w.heap.size → BlkL hp b) ∧ Chg (BlkL hp) w w'
theorem SpecHX.of_VC {TX : List Ent → World → Prop} (hst : StabX TX) {P : Program} {F : FuncId} {fn : Func} {c : Code} (hf : P.funcs[F]? = some fn) (hb : fn.body = some c) {xs : List AV} {hp : List Ent} {G : AV → List Ent → Prop} {nt : Nat} (hn : fn.ntmps = nt) (hle : xs.length ≤ nt)
  (h : ∀ w A, (Bh w A nt hp).Ok → (∀ s a w', R (Bh w A nt hp) s a w' → TX s.hp w') → VC P (Bh w A nt hp) c (retS P fn fun y s => G y s.hp) ⟨slots0 0 xs, hp, 0⟩) : SpecHX TX P F xs hp G := fun w A us hx ha h1 h2 h3 => by
 have hus : us.size ≤ fn.ntmps := by rw [ha.1, hn]; exact hle
 refine calls_of_wp hf hb (Code.wp_mono (fun e a w' hq => ?_) (h w A (Bh.ok _ _ _ _) (fun s a w' hr => hst.keep hx hr.chg fun b ⟨p, hp1, hpb⟩ hl => (hr.own p hp1 b hpb).2 hl) _ w (by
  have := R.startH (nt := nt) ha h1 h2 h3 (by omega)
  rwa [hn])))
 obtain ⟨s, hq, hr⟩ := hq
 have key : ∀ y v, G y s.hp → Rep w' (Zn (Bh w A nt hp) s.hp w') y v → ∃ y v' hp', G y hp' ∧ Ending.returned v = .returned v' ∧ Apart hp' ∧ Rep w' (Zh w A hp hp' w') y v' ∧ (∀ e ∈ hp', EntR w' (Zh w A hp hp' w') e) ∧
   (∀ b, BlkL hp' b → b < w.heap.size → BlkL hp b) ∧ Chg (BlkL hp) w w' := fun y v hG hv => by
  have hZ : ∀ b, Zn (Bh w A nt hp) s.hp w' b → Zh w A hp s.hp w' b := fun b hb => ⟨hb.1, fun ⟨p, hp1, hp2⟩ => hb.2.1 p hp1 hp2, fun hl => (hb.2.2 hl).1⟩
  exact ⟨y, v, s.hp, hG, rfl, hr.nodup, hv.keep fun b hb _ => ⟨rfl, hZ b hb⟩, fun p hp' => (hr.blocks p hp').keep (fun b hb _ => ⟨rfl, hZ b hb⟩) fun g _ => rfl, fun b ⟨p, hp1, hp2⟩ hl => (hr.own p hp1 b hp2).2 hl, hr.chg⟩
 cases e with
 | normal =>
  obtain ⟨y, k1, k2⟩ := hq
  obtain ⟨v, k3, k4⟩ := k1 _ a w' hr
  exact ⟨hr.defs, v, k3, key y v k2 k4⟩
 | ret =>
  obtain ⟨y, k1, k2⟩ := hq
  obtain ⟨v, k3, k4⟩ := k1 _ a w' hr
  exact ⟨hr.defs, v, k3, key y v k2 k4⟩
 | exit id => exact hq.elim
 | goto l => exact hq.elim
 | panic c => exact hq.elim
 | outgrown => exact hq.elim
section
variable {P : Program} {B : Bs} {W : Nat → Prop} {s : St'} {o : Oper} {K : St' → Prop}
theorem OpE.callHX {TX : List Ent → World → Prop} (hst : StabX TX) (hG : ∀ s a w, R B s a w → TX s.hp w) {f : Operand} {F : FuncId} {caps : Array Value} {args : Array Operand} {ts : Array TypeId} {xs : List AV} {hp rest : List Ent} {G : AV → List Ent → Prop} (ho : o.op = .call { callee := .value f, args := args, argTypes := ts }) (hB : B.Ok) (hd : okd B.nt o.dst = true)
  (hcall : ∀ us w, (callFunc F us).run P w = .ok (.enter F us) w) (hf : evO s f = some (.v (.func (.func F) #[] caps))) (hxs : evL s args.toList = some xs) (hspec : SpecHX TX P F (xs ++ caps.toList.map .v) hp G) (hsp : s.hp.Perm (hp ++ rest)) (hW : ∀ b, BlkL hp b → W b)
  (hK : ∀ y hp', G y hp' → K ((St'.mk s.sl (hp' ++ rest) s.k).put o.dst y)) : OpE P B W s o K := by
 intro a w hr next Qx hn
 have hr1 := hr.perm hsp
 have hA : Args w (Zo B (hp ++ rest)) (xs ++ caps.toList.map .v) (args.map a.eval ++ caps) := by
  have ha := evL_args hr hxs
  have hZo : ∀ b, Zo B s.hp b → Zo B (hp ++ rest) b := fun b hb => ⟨fun p hp1 => hb.1 p (hsp.mem_iff.2 hp1), hb.2⟩
  refine ⟨by simp [ha.1], fun j hj => ?_⟩
  by_cases hjx : j < xs.length
  ·rw [List.getElem_append_left hjx]
   have hlt : j < (args.map a.eval).size := by rw [ha.1]; exact hjx
   have : (args.map a.eval ++ caps).getD j undef = (args.map a.eval).getD j undef := by
    rw [Array.getD_eq_getD_getElem?, Array.getD_eq_getD_getElem?, Array.getElem?_append_left hlt]
   rw [this]
   exact (ha.2 j hjx).keep fun b hb _ => ⟨rfl, hb.1, hZo b hb.2⟩
  ·rw [List.getElem_append_right (by omega)]
   have hj' : j - xs.length < caps.size := by rw [List.length_append] at hj; simp at hj; omega
   have : (args.map a.eval ++ caps).getD j undef = caps.getD (j - xs.length) undef := by
    rw [Array.getD_eq_getD_getElem?, Array.getD_eq_getD_getElem?, Array.getElem?_append_right (by rw [ha.1]; omega), ha.1]
   rw [this, Array.getD_eq_getD_getElem?, Array.getElem?_eq_getElem hj']
   simp
   exact .v _
 have hap := hr1.nodup
 unfold Apart at hap
 rw [List.pairwise_append] at hap
 have hx : TX hp w := hst.keep (hG _ _ _ hr) (Chg.refl _ _) fun b ⟨p, hp1, hpb⟩ _ => ⟨p, hsp.mem_iff.2 (List.mem_append_left _ hp1), hpb⟩
 have h1 := hspec w (Zo B (hp ++ rest)) _ hx hA hap.1 (fun b ⟨p, hp1, hpb⟩ h => h.1 p (List.mem_append_left _ hp1) hpb) fun e he => (hr1.blocks e (List.mem_append_left _ he)).keep (fun b hb _ => ⟨rfl, hb.1, hb.2⟩) fun g _ => rfl
 unfold Oper.wp
 simp only [execOp, ho, resolve, hr.evv hf, Deferred.ofValue, Sem.run_bind, Sem.run_pure, Result.andThen_ok, invoke, hcall, Array.empty_append]
 simp only [Oper.upon]
 refine h1.mono fun e w' hret => ?_
 obtain ⟨y, v, hp', k1, rfl, k2, k3, k4, k5, k6⟩ := hret
 obtain ⟨hr', hz⟩ := hr1.afterH hB k2 k4 k5 k6
 exact hn _ _ _ (hK y hp' k1) (hr'.put _ hd _ _ (k3.keep fun b hb _ => ⟨rfl, hz b hb⟩)) (k6.mono fun b _ h => .inr (hW b h))
theorem OpE.callHX0 {TX : List Ent → World → Prop} (hst : StabX TX) (hG : ∀ s a w, R B s a w → TX s.hp w) {f : Operand} {F : FuncId} {caps : Array Value} {args : Array Operand} {ts : Array TypeId} {xs : List AV} {hp : List Ent} {G : AV → List Ent → Prop} (ho : o.op = .call { callee := .value f, args := args, argTypes := ts }) (hB : B.Ok) (hd : okd B.nt o.dst = true)
  (hcall : ∀ us w, (callFunc F us).run P w = .ok (.enter F us) w) (hf : evO s f = some (.v (.func (.func F) #[] caps))) (hxs : evL s args.toList = some xs) (hspec : SpecHX TX P F (xs ++ caps.toList.map .v) hp G) (hsp : s.hp.Perm hp) (hW : ∀ b, BlkL hp b → W b)
  (hK : ∀ y hp', G y hp' → K ((St'.mk s.sl hp' s.k).put o.dst y)) : OpE P B W s o K :=
 OpE.callHX (rest := []) hst hG ho hB hd hcall hf hxs hspec (by rw [List.append_nil]; exact hsp) hW fun y hp' h => by rw [List.append_nil]; exact hK y hp' h
end
def TabX (P : Program) (hp : List Ent) (w : World) : Prop := TabW P w ∧ ∀ b, BlkL hp b → P.globalNamed "internal/strconv.uint64pow10" ≠ some b
theorem TabW.lt {P : Program} {w : World} {g : Nat} (hg : P.globalNamed "internal/strconv.uint64pow10" = some g) (h : TabW P w) : g < w.heap.size := by
 unfold TabW Lib.TabIs World.var? at h
 rw [hg] at h
 simp only [Option.bind_some] at h
 by_cases hl : g < w.heap.size
 ·exact hl
 ·rw [Array.getElem?_eq_none (by omega)] at h; cases h
theorem TabX.stab {P : Program} {g : Nat} (hg : P.globalNamed "internal/strconv.uint64pow10" = some g) : StabX (TabX P) := ⟨fun {hp hp' w w'} h c hb => by
 have hlt := h.1.lt hg
 have hno : ∀ b, BlkL hp' b → P.globalNamed "internal/strconv.uint64pow10" ≠ some b := fun b hbb e => by
  obtain rfl : g = b := Option.some.inj (hg.symm.trans e)
  exact h.2 g (hb g hbb hlt) hg
 exact ⟨h.1.keep hg c fun h2 => h.2 g h2 hg, hno⟩⟩
theorem TabX.base {P : Program} {w : World} {A : Nat → Prop} {nt g : Nat} (hg : P.globalNamed "internal/strconv.uint64pow10" = some g) (h : TabW P w) : ∀ s a w', R (B0 w A nt) s a w' → TabX P s.hp w' := fun s a w' hr => by
 refine ⟨h.base hg hr, fun b ⟨p, hp1, hpb⟩ e => ?_⟩
 obtain rfl : g = b := Option.some.inj (hg.symm.trans e)
 exact (hr.own p hp1 g hpb).2 (h.lt hg)
end Go.Proofs.YtdnlhdilpdeecaaGreatDoor
namespace Go.Proofs.YtdnlhdilpdeecaaGreatDoor
open Go.RowKit
set_option linter.unusedVariables false
set_option linter.unusedSimpArgs false
def TakesX (TX : List Ent → World → Prop) (K : List ByteArray → List Ent → Prop) (ok : List ByteArray → ByteArray → Bool) (n : Nat) (P : Program) (F : FuncId) (caps : Array Value) : Prop :=
 ∀ pre line h, K pre h → line.size ≤ n → pre.length ≤ n → SpecHX TX P F ([avS line] ++ caps.toList.map .v) h (fun y hp' => y = avB (ok pre line) ∧ K (pre ++ [line]) hp')
set_option maxRecDepth 100000 in
theorem rf_Lines {TX : List Ent → World → Prop} {text : ByteArray} {F : FuncId} {caps : Array Value} {K : List ByteArray → List Ent → Prop} {ok : List ByteArray → ByteArray → Bool} {h0 : List Ent} (hst : StabX TX) (hs : text.size ≤ 10000000) (hcall : ∀ us w, (callFunc F us).run Tryz.prog w = .ok (.enter F us) w) (hF : TakesX TX K ok text.size Tryz.prog F caps) (hk : K [] h0) :
  SpecHX TX Tryz.prog 108 [avS text, .v (.func (.func F) #[] caps)] h0 (fun y hp' => ∃ pre, K pre hp' ∧ y = lnY (lnF (okAt ok (linesR text)) (linesR text) (linesE text)) ∧ (lnF (okAt ok (linesR text)) (linesR text) (linesE text) = none → pre = linesR text)) := by
 refine SpecHX.of_VC hst Tryz.func108 rfl Tryz.ntmps108 (Nle rfl) fun w A hB hGX => ?_
 have hnew : True := trivial
 refine VC.sr ?_
 refine VO.ma rfl rfl rfl rfl ?_
 refine VO.ma rfl rfl rfl rfl ?_
 refine VO.nil ?_
 refine VC.seq ?_
 refine VC.sr ?_
 refine VO.ma rfl rfl rfl rfl ?_
 refine VO.nil ?_
 refine VC.block ?_
 refine VC.loopK [(1, _)] ⟨rfl, trivial⟩ ({t : ByteArray × List ByteArray × List Ent // LnI ok text t.2.1 t.1 ∧ K t.2.1 t.2.2}) (fun (iZ : {t : ByteArray × List ByteArray × List Ent // LnI ok text t.2.1 t.1 ∧ K t.2.1 t.2.2}) => match iZ with | ⟨⟨r, pre, hh⟩, hi, hkk⟩ => [(0, avS r), (6, avI (pre.length : Int))]) (fun (iZ : {t : ByteArray × List ByteArray × List Ent // LnI ok text t.2.1 t.1 ∧ K t.2.1 t.2.2}) => match iZ with | ⟨⟨r, pre, hh⟩, hi, hkk⟩ => hh) (fun (iZ : {t : ByteArray × List ByteArray × List Ent // LnI ok text t.2.1 t.1 ∧ K t.2.1 t.2.2}) => match iZ with | ⟨⟨r, pre, hh⟩, hi, hkk⟩ => 0) (fun (iZ : {t : ByteArray × List ByteArray × List Ent // LnI ok text t.2.1 t.1 ∧ K t.2.1 t.2.2}) => match iZ with | ⟨⟨r, pre, hh⟩, hi, hkk⟩ => r.size) ⟨(text, [], h0), LnI.start text, hk⟩ (Le.mkP hB ⟨rfl, rfl, rfl, trivial⟩ (List.Sublist.refl _) (List.Perm.refl _) (Nat.le_refl _)) ?_
 rintro ⟨⟨r, pre, hh⟩, hi, hkk⟩
 show VC _ _ _ _ ⟨[(0, avS r), (6, avI (pre.length : Int))] ++ [(1, _)], hh, 0⟩
 simp only at hi hkk
 have hsz := hi.size
 refine VC.seq ?_
 refine VC.sr ?_
 refine VO.mv rfl rfl rfl rfl ?_
 refine VO.val rfl rfl (OpV.sneq rfl rfl rfl) ?_
 refine VO.nil ?_
 refine VC.cond rfl (fun aH1b => ?_) (fun aH1b => ?_)
 ·have aH1 := aH1b
  try simp only [qqT, qqF, qqN, qqM, qqL, qqE] at aH1
  refine VC.skip ?_
  refine VC.seq ?_
  refine VC.block ?_
  refine VC.sr ?_
  refine VO.mv rfl rfl rfl rfl ?_
  refine VO.op rfl (OpE.call rfl hB rfl Tryz.call195 rfl (SpecN.spec (strings_CutB (c := 10) (by omega))) ?_)
  rintro _ rfl
  obtain ⟨ln, hln⟩ : ∃ ln, cutA 10 r = ln := ⟨_, rfl⟩
  obtain ⟨rb, hrb⟩ : ∃ rb, cutB 10 r = rb := ⟨_, rfl⟩
  obtain ⟨fd, hfd⟩ : ∃ fd, cutF 10 r = fd := ⟨_, rfl⟩
  have hls := cutA_size 10 r
  rw [hln] at hls
  refine VO.le _ (Le.recast (t := 16) (y := .tup [avS ln, avS rb, avB fd]) rfl (fun w Z u h => by rw [← hln, ← hrb, ← hfd]; exact h)) ?_
  refine VO.mv rfl rfl rfl rfl ?_
  refine VO.val rfl rfl (OpV.extract rfl rfl rfl) ?_
  refine VO.val rfl rfl (OpV.extract rfl rfl rfl) ?_
  refine VO.val rfl rfl (OpV.extract rfl rfl rfl) ?_
  refine VO.ma rfl rfl rfl rfl ?_
  refine VO.ma rfl rfl rfl rfl ?_
  refine VO.ma rfl rfl rfl rfl ?_
  refine VO.nil ?_
  refine VC.seq ?_
  refine VC.sr ?_
  refine VO.mv rfl rfl rfl rfl ?_
  refine VO.val rfl rfl (OpV.not rfl rfl) ?_
  refine VO.mv rfl rfl rfl rfl ?_
  refine VO.opG rfl rfl rfl rfl (fun aK2b => ?_) (fun aK2b => ?_)
  ·replace aK2b : _ = false := aK2b
   have aK2 := aK2b
   try simp only [qqT, qqF, qqN, qqM, qqL, qqE] at aK2
   refine OpE.val (W := NoB) (OpV.move (.inl rfl) rfl) rfl ?_
   refine VO.opY rfl rfl rfl rfl aK2b ?_
   refine OpE.val (W := NoB) (OpV.move (.inl rfl) rfl) rfl ?_
   refine VO.opY rfl rfl rfl rfl aK2b ?_
   refine OpE.callHX0 hst hGX rfl hB rfl hcall rfl rfl (hF pre ln hh hkk (by omega) (by omega)) (List.Perm.refl _) (fun _ _ => trivial) ?_
   rintro _ hh2 ⟨rfl, hk2⟩
   refine VO.opY rfl rfl rfl rfl aK2b ?_
   refine OpE.val (W := NoB) (OpV.not rfl rfl) rfl ?_
   refine VO.val rfl rfl (OpV.pickF rfl rfl rfl rfl aK2b) ?_
   refine VO.nil ?_
   refine VC.cond rfl (fun h1b => ?_) (fun h1b => ?_)
   ·have h1 := h1b
    try simp only [qqT, qqF, qqN, qqM, qqL, qqE] at h1
    refine VC.sr ?_
    refine VO.mv rfl rfl rfl rfl ?_
    refine VO.ma rfl rfl rfl rfl ?_
    refine VO.ma rfl rfl rfl rfl ?_
    refine VO.nil ?_
    refine VC.ret ?_
    exact Exists.intro _ (And.intro (RetV.two Tryz.results108 (ResV.tmp rfl) (ResV.tmp rfl)) (by first | exact ⟨pre, hkk, by rw [hi.bad1 (by simp_all) (by rw [hfd]; simp_all)]; rfl, fun e => by rw [hi.bad1 (by simp_all) (by rw [hfd]; simp_all)] at e; cases e⟩ | exact ⟨pre ++ [ln], hk2, by rw [hi.bad2 (by rw [hfd]; simp_all) (by rw [hln]; simp_all)]; rfl, fun e => by rw [hi.bad2 (by rw [hfd]; simp_all) (by rw [hln]; simp_all)] at e; cases e⟩))
   ·have h1 := h1b
    try simp only [qqT, qqF, qqN, qqM, qqL, qqE] at h1
    have hfd1 : cutF 10 r = true := by rw [hfd]; simp_all
    have hok1 : ok pre (cutA 10 r) = true := by rw [hln]; simp_all
    have hi2 : LnI ok text (pre ++ [ln]) rb := by have h := hi.step hfd1 hok1; rw [hln, hrb] at h; exact h
    have hrs : rb.size < r.size := by have h := cut_sizes hfd1; rw [hrb] at h; omega
    refine VC.skip ?_
    refine VC.region ?_
    refine VO.mv rfl rfl rfl rfl ?_
    refine VO.ma rfl rfl rfl rfl ?_
    refine VO.nil ?_
    refine VC.region ?_
    refine VO.mv rfl rfl rfl rfl ?_
    refine VO.val rfl rfl (OpV.add rfl rfl rfl (by unfold fits; omega)) ?_
    refine VO.ma rfl rfl rfl rfl ?_
    refine VO.nil ?_
    exact Exists.intro (⟨(rb, pre ++ [ln], hh2), hi2, hk2⟩) (And.intro (Le.mkP hB ⟨rfl, (by rw [List.length_append]; rfl), rfl, trivial⟩ (List.Sublist.refl _) (List.Perm.refl _) (Nat.le_refl _)) (by first | omega | (show _ < _; omega) | (simp only []; omega)))
  ·replace aK2b : _ = true := aK2b
   have aK2 := aK2b
   try simp only [qqT, qqF, qqN, qqM, qqL, qqE] at aK2
   refine VO.opX rfl rfl rfl rfl aK2b ?_
   refine VO.opX rfl rfl rfl rfl aK2b ?_
   refine VO.opX rfl rfl rfl rfl aK2b ?_
   refine VO.val rfl rfl (OpV.pickT rfl rfl rfl rfl aK2b) ?_
   refine VO.nil ?_
   refine VC.condT rfl rfl ?_
   refine VC.sr ?_
   refine VO.mv rfl rfl rfl rfl ?_
   refine VO.ma rfl rfl rfl rfl ?_
   refine VO.ma rfl rfl rfl rfl ?_
   refine VO.nil ?_
   refine VC.ret ?_
   exact Exists.intro _ (And.intro (RetV.two Tryz.results108 (ResV.tmp rfl) (ResV.tmp rfl)) (by first | exact ⟨pre, hkk, by rw [hi.bad1 (by simp_all) (by rw [hfd]; simp_all)]; rfl, fun e => by rw [hi.bad1 (by simp_all) (by rw [hfd]; simp_all)] at e; cases e⟩ | exact ⟨pre ++ [ln], hk2, by rw [hi.bad2 (by rw [hfd]; simp_all) (by rw [hln]; simp_all)]; rfl, fun e => by rw [hi.bad2 (by rw [hfd]; simp_all) (by rw [hln]; simp_all)] at e; cases e⟩))
 ·have aH1 := aH1b
  try simp only [qqT, qqF, qqN, qqM, qqL, qqE] at aH1
  refine VC.exit ?_
  refine VC.sr ?_
  refine VO.ma rfl rfl rfl rfl ?_
  refine VO.ma rfl rfl rfl rfl ?_
  refine VO.nil ?_
  refine VC.ret ?_
  exact Exists.intro _ (And.intro (RetV.two Tryz.results108 (ResV.tmp rfl) (ResV.tmp rfl)) (⟨pre, hkk, by rw [(hi.fin (by simp_all)).1]; rfl, fun _ => (hi.fin (by simp_all)).2⟩))
end Go.Proofs.YtdnlhdilpdeecaaGreatDoor
namespace Go.Proofs.YtdnlhdilpdeecaaGreatDoor
open Go.RowKit
set_option linter.unusedVariables false
set_option linter.unusedSimpArgs false
theorem tab_stab : StabX (TabX Tryz.prog) := by
 obtain ⟨g, hg⟩ := tab_named
 exact TabX.stab hg
theorem tabx_base {w : World} {A : Nat → Prop} {nt : Nat} (h : TabW Tryz.prog w) : ∀ s a w', R (B0 w A nt) s a w' → TabX Tryz.prog s.hp w' := by
 obtain ⟨g, hg⟩ := tab_named
 exact TabX.base hg h
theorem sEq_flip (a b : ByteArray) : sEq a b = sEq b a := by
 rw [Bool.eq_iff_iff, sEq_eq, sEq_eq]
 exact ⟨Eq.symm, Eq.symm⟩
theorem wordsB_any (s : ByteArray) : (!((splitS 32 s).any fun y => sEq ⟨#[]⟩ y)) = wordsB s := by
 unfold wordsB
 induction splitS 32 s with
 | nil => rfl
 | cons x l ih => rw [List.any_cons, List.all_cons, ← ih, sEq_flip x]; simp
abbrev bxLk (g : Nat) (u : Value) : Ent := .box g ⟨[.v u], 54, 1⟩
abbrev rwLk (u : Value) (xs : List LookS) : Ent := .row u xs.length 8 (rowL xs) 80
theorem lenS (xs : List LookS) (y : LookS) : xs.length + 1 = (xs ++ [y]).length := by simp
theorem rwLk_eq {g n : Nat} {u : Value} {xs : List LookS} (h : n = xs.length) : [bxLk g u, .row u n 8 (rowL xs) 80] = [bxLk g u, rwLk u xs] := by subst h; rfl
set_option maxRecDepth 100000 in
set_option maxHeartbeats 8000000 in
theorem rf_LooksRead1 {s : ByteArray} {g : Nat} {u : Value} {xs : List LookS} (hs : s.size ≤ 10000000) (hl : xs.length ≤ 10000000) :
    SpecHX (TabX Tryz.prog) Tryz.prog 175 [avS s, pt g] [bxLk g u, rwLk u xs] (fun y hp' => ∃ u' xs', y = avB (okLk s) ∧ hp' = [bxLk g u', rwLk u' xs'] ∧ (okLk s = true → xs' = xs ++ [lkOf s]) ∧ xs'.length ≤ xs.length + 1) := by
  refine SpecHX.of_VC tab_stab Tryz.func175 rfl Tryz.ntmps175 (Nle rfl) fun w A hB hGX => ?_
  have hG : ∀ {s a w'}, R _ s a w' → TabW Tryz.prog w' := fun hr => (hGX _ _ _ hr).1
  have hnew : True := trivial
  refine VC.sr ?_
  refine VO.ma rfl rfl rfl rfl ?_
  refine VO.nil ?_
  refine VC.seq ?_
  have hwz := splitS_get 32 s
  have hwl := splitS_length 32 s
  refine VC.region ?_
  refine VO.mv rfl rfl rfl rfl ?_
  refine VO.op rfl (OpE.call rfl hB rfl Tryz.call163 rfl (rf_Words (by omega)) ?_)
  rintro _ rfl
  obtain ⟨wb, hwb⟩ : ∃ wb, wordsB s = wb := ⟨_, rfl⟩
  obtain ⟨ws, hws⟩ : ∃ ws, splitS 32 s = ws := ⟨_, rfl⟩
  refine VO.le _ (Le.recast (t := 11) (y := .tup [avStrs ws, avB wb]) rfl (fun w Z u h => by rw [← hwb, ← wordsB_any, ← hws]; exact h)) ?_
  have hwz2 : ∀ i, (ws.getD i ByteArray.empty).size ≤ s.size := by rw [← hws]; exact hwz
  have hwl2 : ws.length ≤ s.size + 1 := by rw [← hws]; exact hwl
  refine VO.mv rfl rfl rfl rfl ?_
  refine VO.val rfl rfl (OpV.extract rfl rfl rfl) ?_
  refine VO.val rfl rfl (OpV.extract rfl rfl rfl) ?_
  refine VO.ma rfl rfl rfl rfl ?_
  refine VO.ma rfl rfl rfl rfl ?_
  refine VO.nil ?_
  refine VC.seq ?_
  refine VC.sr ?_
  refine VO.mv rfl rfl rfl rfl ?_
  refine VO.val rfl rfl (OpV.not rfl rfl) ?_
  refine VO.mv rfl rfl rfl rfl ?_
  refine VO.opG rfl rfl rfl rfl (fun aK1b => ?_) (fun aK1b => ?_)
  · replace aK1b : _ = false := aK1b
    have aK1 := aK1b
    try simp only [qqT, qqF, qqN, qqM, qqL, qqE] at aK1
    refine OpE.val (W := NoB) (OpV.move (.inl rfl) rfl) rfl ?_
    refine VO.opY rfl rfl rfl rfl aK1b ?_
    refine OpE.val (W := NoB) (OpV.len_im rfl Tryz.underlying29 rfl) rfl ?_
    refine VO.opY rfl rfl rfl rfl aK1b ?_
    refine OpE.val (W := NoB) (OpV.neq rfl rfl rfl) rfl ?_
    refine VO.val rfl rfl (OpV.pickF rfl rfl rfl rfl aK1b) ?_
    refine VO.nil ?_
    refine VC.cond rfl (fun h0b => ?_) (fun h0b => ?_)
    · have h0 := h0b
      try simp only [qqT, qqF, qqN, qqM, qqL, qqE] at h0
      have hno : okLk s = false := okLk_no (.inr (by rw [hws]; omega))
      refine VC.sr ?_
      refine VO.ma rfl rfl rfl rfl ?_
      refine VO.nil ?_
      refine VC.ret ?_
      exact Exists.intro _ (And.intro (RetV.one Tryz.results175 (ResV.tmp rfl)) (⟨u, xs, by rw [hno], rfl, (fun e => by rw [hno] at e; (cases e)), Nat.le_succ _⟩))
    · have h0 := h0b
      try simp only [qqT, qqF, qqN, qqM, qqL, qqE] at h0
      have hl8 : ws.length = 8 := by omega
      have hnm : numE (ws.getD 0 ByteArray.empty) 15 = rfE (ws.getD 0 ByteArray.empty) 15 := num_same _ _ (by decide)
      have hok : okLk s = (rfE (ws.getD 0 ByteArray.empty) 15 && (decide (0 < vIx (ws.getD 3 ByteArray.empty)) && (sEq (ws.getD 4 ByteArray.empty) badW || sEq (ws.getD 4 ByteArray.empty) fineW))) := by
        have h := okLk_8 (s := s) (by rw [hwb]; exact not_false_true (by assumption)) (by rw [hws]; exact hl8)
        unfold w8 at h
        rw [hws, hnm] at h
        exact h
      obtain ⟨nE, hnE⟩ : ∃ b, rfE (ws.getD 0 ByteArray.empty) 15 = b := ⟨_, rfl⟩
      obtain ⟨nV, hnV⟩ : ∃ b, rfV (ws.getD 0 ByteArray.empty) 15 = b := ⟨_, rfl⟩
      obtain ⟨vI, hvI⟩ : ∃ b, vIx (ws.getD 3 ByteArray.empty) = b := ⟨_, rfl⟩
      rw [hnE, hvI] at hok
      refine VC.skip ?_
      refine VC.sr ?_
      refine VO.mv rfl rfl rfl rfl ?_
      refine VO.val rfl rfl (OpV.indexAddr_1 rfl Tryz.underlying29 Tryz.sizeOf9 rfl rfl (Int.toNat_of_nonneg (by omega)).symm (by omega)) ?_
      refine VO.val rfl rfl (OpV.load_at rfl hB OutW.no Tryz.isAgg9 rfl rfl) ?_
      refine VO.op rfl (OpE.callW rfl hB rfl Tryz.call176 rfl (rf_Number (Nat.le_trans (hwz2 0) (by omega)) (by decide) (by decide)) hG ?_)
      rintro _ rfl
      refine VO.le _ (Le.recast (t := 25) (y := .tup [avI nV, avB nE]) rfl (fun w Z u h => by rw [← hnE, ← hnV]; exact h)) ?_
      refine VO.mv rfl rfl rfl rfl ?_
      refine VO.val rfl rfl (OpV.extract rfl rfl rfl) ?_
      refine VO.val rfl rfl (OpV.extract rfl rfl rfl) ?_
      refine VO.ma rfl rfl rfl rfl ?_
      refine VO.ma rfl rfl rfl rfl ?_
      refine VO.nil ?_
      refine VC.seq ?_
      refine VC.draw (fun _ => NoB) hB (by kernel_rfl) ?_
      refine VA.take (i := 1) rfl (by kernel_rfl) (by kernel_rfl) (by kernel_rfl) rfl rfl (OpV.move (.inl rfl) rfl) ?_
      refine VA.take (i := 2) rfl (by kernel_rfl) (by kernel_rfl) (by kernel_rfl) rfl rfl (OpV.indexAddr_1 rfl Tryz.underlying29 Tryz.sizeOf9 rfl rfl (Int.toNat_of_nonneg (by omega)).symm (by omega)) ?_
      refine VA.take (i := 3) rfl (by kernel_rfl) (by kernel_rfl) (by kernel_rfl) rfl rfl (OpV.load_at rfl hB OutW.wi0 Tryz.isAgg9 rfl rfl) ?_
      refine VA.all (rs := [0]) (by kernel_rfl) (by decide) ?_
      refine ⟨⟨_, rfl, .inl rfl, ?_⟩, trivial⟩
      refine OpE.call rfl hB rfl Tryz.call173 rfl (rf_verdictWords) ?_
      rintro _ rfl
      refine VA.all (rs := [4]) (by kernel_rfl) (by decide) ?_
      refine ⟨⟨_, rfl, .inl rfl, ?_⟩, trivial⟩
      refine OpE.call rfl hB rfl Tryz.call151 rfl (SpecN.spec (slices_Index_str (by decide))) ?_
      rintro _ rfl
      refine VA.le _ (Le.recast (t := 32) (y := avI vI) rfl (fun w Z u h => by rw [← hvI]; exact h)) ?_
      refine VA.take (i := 5) rfl (by kernel_rfl) (by kernel_rfl) (by kernel_rfl) rfl rfl (OpV.move (.inr rfl) rfl) ?_
      refine VA.done (by kernel_rfl) ?_
      refine VC.seq ?_
      obtain ⟨yy, hyy⟩ : ∃ yy : LookS, yy = ⟨ws.getD 1 ByteArray.empty, ws.getD 2 ByteArray.empty, nV, vI, sEq (ws.getD 4 ByteArray.empty) badW, ws.getD 5 ByteArray.empty, ws.getD 6 ByteArray.empty, ws.getD 7 ByteArray.empty⟩ := ⟨_, rfl⟩
      have hyl : okLk s = true → yy = lkOf s := fun e => by
        rw [hok] at e
        have e1 : nE = true := by cases nE; cases e; rfl
        have e2 := numV_same (ws.getD 0 ByteArray.empty) 15 (by decide) (by rw [hnm, hnE, e1])
        have e3 : lkOf s = ⟨ws.getD 1 ByteArray.empty, ws.getD 2 ByteArray.empty, numV (ws.getD 0 ByteArray.empty) 15, vIx (ws.getD 3 ByteArray.empty), sEq (ws.getD 4 ByteArray.empty) badW, ws.getD 5 ByteArray.empty, ws.getD 6 ByteArray.empty, ws.getD 7 ByteArray.empty⟩ := by rw [← hws]; rfl
        rw [hyy, e3, hvI, e2.1, ← e2.2, hnV]
      refine VC.draw (fun j b => (j = 24 ∧ u.ownBlock = some b) ∨ (j = 25 ∧ b = g)) hB (by kernel_rfl) ?_
      refine VA.takeT [0, 24, 25] (i := 0) (by kernel_rfl) (by kernel_rfl) rfl (by kernel_rfl) (by kernel_rfl) (by kernel_rfl) rfl rfl (OpV.load_own (i := 0) rfl hB Tryz.isAgg54 rfl rfl rfl (fun ⟨j, h1, h2⟩ => by rcases h2 with ⟨rfl, _⟩ | ⟨rfl, _⟩ <;> cases h1)) ?_
      refine VA.take (i := 1) rfl (by kernel_rfl) (by kernel_rfl) (by kernel_rfl) rfl rfl (OpV.move (.inl rfl) rfl) ?_
      refine VA.take (i := 2) rfl (by kernel_rfl) (by kernel_rfl) (by kernel_rfl) rfl rfl (OpV.indexAddr_1 rfl Tryz.underlying29 Tryz.sizeOf9 rfl rfl (Int.toNat_of_nonneg (by omega)).symm (by omega)) ?_
      refine VA.takeT [3, 22, 23, 24, 25] (i := 3) (by kernel_rfl) (by kernel_rfl) rfl (by kernel_rfl) (by kernel_rfl) (by kernel_rfl) rfl rfl (OpV.load_at rfl hB (fun b ⟨j, h1, h2⟩ => by rcases h2 with ⟨rfl, _⟩ | ⟨rfl, _⟩ <;> cases h1) Tryz.isAgg9 rfl rfl) ?_
      refine VA.take (i := 4) rfl (by kernel_rfl) (by kernel_rfl) (by kernel_rfl) rfl rfl (OpV.move (.inl rfl) rfl) ?_
      refine VA.take (i := 5) rfl (by kernel_rfl) (by kernel_rfl) (by kernel_rfl) rfl rfl (OpV.indexAddr_1 rfl Tryz.underlying29 Tryz.sizeOf9 rfl rfl (Int.toNat_of_nonneg (by omega)).symm (by omega)) ?_
      refine VA.takeT [6, 22, 23, 24, 25] (i := 6) (by kernel_rfl) (by kernel_rfl) rfl (by kernel_rfl) (by kernel_rfl) (by kernel_rfl) rfl rfl (OpV.load_at rfl hB (fun b ⟨j, h1, h2⟩ => by rcases h2 with ⟨rfl, _⟩ | ⟨rfl, _⟩ <;> cases h1) Tryz.isAgg9 rfl rfl) ?_
      refine VA.take (i := 7) rfl (by kernel_rfl) (by kernel_rfl) (by kernel_rfl) rfl rfl (OpV.move (.inl rfl) rfl) ?_
      refine VA.take (i := 8) rfl (by kernel_rfl) (by kernel_rfl) (by kernel_rfl) rfl rfl (OpV.move (.inl rfl) rfl) ?_
      refine VA.take (i := 9) rfl (by kernel_rfl) (by kernel_rfl) (by kernel_rfl) rfl rfl (OpV.move (.inl rfl) rfl) ?_
      refine VA.take (i := 10) rfl (by kernel_rfl) (by kernel_rfl) (by kernel_rfl) rfl rfl (OpV.indexAddr_1 rfl Tryz.underlying29 Tryz.sizeOf9 rfl rfl (Int.toNat_of_nonneg (by omega)).symm (by omega)) ?_
      refine VA.takeT [11, 12, 22, 23, 24, 25] (i := 11) (by kernel_rfl) (by kernel_rfl) rfl (by kernel_rfl) (by kernel_rfl) (by kernel_rfl) rfl rfl (OpV.load_at rfl hB (fun b ⟨j, h1, h2⟩ => by rcases h2 with ⟨rfl, _⟩ | ⟨rfl, _⟩ <;> cases h1) Tryz.isAgg9 rfl rfl) ?_
      refine VA.take (i := 12) rfl (by kernel_rfl) (by kernel_rfl) (by kernel_rfl) rfl rfl (OpV.seql rfl rfl rfl) ?_
      refine VA.take (i := 13) rfl (by kernel_rfl) (by kernel_rfl) (by kernel_rfl) rfl rfl (OpV.move (.inl rfl) rfl) ?_
      refine VA.take (i := 14) rfl (by kernel_rfl) (by kernel_rfl) (by kernel_rfl) rfl rfl (OpV.indexAddr_1 rfl Tryz.underlying29 Tryz.sizeOf9 rfl rfl (Int.toNat_of_nonneg (by omega)).symm (by omega)) ?_
      refine VA.takeT [15, 22, 23, 24, 25] (i := 15) (by kernel_rfl) (by kernel_rfl) rfl (by kernel_rfl) (by kernel_rfl) (by kernel_rfl) rfl rfl (OpV.load_at rfl hB (fun b ⟨j, h1, h2⟩ => by rcases h2 with ⟨rfl, _⟩ | ⟨rfl, _⟩ <;> cases h1) Tryz.isAgg9 rfl rfl) ?_
      refine VA.take (i := 16) rfl (by kernel_rfl) (by kernel_rfl) (by kernel_rfl) rfl rfl (OpV.move (.inl rfl) rfl) ?_
      refine VA.take (i := 17) rfl (by kernel_rfl) (by kernel_rfl) (by kernel_rfl) rfl rfl (OpV.indexAddr_1 rfl Tryz.underlying29 Tryz.sizeOf9 rfl rfl (Int.toNat_of_nonneg (by omega)).symm (by omega)) ?_
      refine VA.takeT [18, 22, 23, 24, 25] (i := 18) (by kernel_rfl) (by kernel_rfl) rfl (by kernel_rfl) (by kernel_rfl) (by kernel_rfl) rfl rfl (OpV.load_at rfl hB (fun b ⟨j, h1, h2⟩ => by rcases h2 with ⟨rfl, _⟩ | ⟨rfl, _⟩ <;> cases h1) Tryz.isAgg9 rfl rfl) ?_
      refine VA.take (i := 19) rfl (by kernel_rfl) (by kernel_rfl) (by kernel_rfl) rfl rfl (OpV.move (.inl rfl) rfl) ?_
      refine VA.take (i := 20) rfl (by kernel_rfl) (by kernel_rfl) (by kernel_rfl) rfl rfl (OpV.indexAddr_1 rfl Tryz.underlying29 Tryz.sizeOf9 rfl rfl (Int.toNat_of_nonneg (by omega)).symm (by omega)) ?_
      refine VA.takeT [21, 22, 23, 24, 25] (i := 21) (by kernel_rfl) (by kernel_rfl) rfl (by kernel_rfl) (by kernel_rfl) (by kernel_rfl) rfl rfl (OpV.load_at rfl hB (fun b ⟨j, h1, h2⟩ => by rcases h2 with ⟨rfl, _⟩ | ⟨rfl, _⟩ <;> cases h1) Tryz.isAgg9 rfl rfl) ?_
      refine VA.take (i := 22) rfl (by kernel_rfl) (by kernel_rfl) (by kernel_rfl) rfl rfl (OpV.build (pls := #[(0, 1), (1, 1), (2, 1), (3, 1), (4, 1), (5, 1), (6, 1), (7, 1)]) rfl Tryz.zeroValue80 Tryz.underlying80 (fun w => by kernel_rfl) rfl rfl) ?_
      refine VA.le _ (Le.recast (t := 55) (y := avT yy) rfl (fun w Z u h => by rw [hyy]; exact h)) ?_
      refine VA.all (rs := [23]) (by kernel_rfl) (by decide) ?_
      refine ⟨⟨_, rfl, .inl rfl, ?_⟩, trivial⟩
      refine OpE.buildSlice (zc := #[.string ⟨#[]⟩, .string ⟨#[]⟩, .int .i64 0, .int .i64 0, .bool false, .string ⟨#[]⟩, .string ⟨#[]⟩, .string ⟨#[]⟩]) rfl hB rfl Tryz.underlying54 Tryz.sizeOf80 Tryz.zeroValue80 (by decide) (by decide) (by kernel_rfl) rfl rfl ?_
      refine VA.all (rs := [24]) (by kernel_rfl) (by decide) ?_
      refine ⟨⟨_, rfl, .inl rfl, ?_⟩, trivial⟩
      refine OpE.append1S (i := 1) rfl hB rfl Tryz.underlying54 (infoOf Tryz.t80 8 (by kernel_rfl) rfl rfl) rfl (by decide) (by decide) rfl rfl rfl rfl (rowL_snoc xs yy) (by omega) (fun g' hg => .inl ⟨rfl, hg⟩) ?_
      intro b57 c57
      refine VA.all (rs := [25]) (by kernel_rfl) (by decide) ?_
      refine ⟨⟨_, rfl, .inl rfl, ?_⟩, trivial⟩
      refine OpE.store (i := 0) rfl hB rfl Tryz.sizeOf54 rfl rfl rfl rfl rfl rfl (Nle rfl) (.inr ⟨rfl, rfl⟩) ?_
      refine VA.done (by kernel_rfl) ?_
      refine VC.sr ?_
      refine VO.mv rfl rfl rfl rfl ?_
      refine VO.mv rfl rfl rfl rfl ?_
      refine VO.opG rfl rfl rfl rfl (fun aK2b => ?_) (fun aK2b => ?_)
      · replace aK2b : _ = true := aK2b
        have aK2 := aK2b
        try simp only [qqT, qqF, qqN, qqM, qqL, qqE] at aK2
        refine OpE.val (W := NoB) (OpV.move (.inl rfl) rfl) rfl ?_
        refine VO.opY rfl rfl rfl rfl aK2b ?_
        refine OpE.val (W := NoB) (OpV.gtr rfl rfl rfl) rfl ?_
        refine VO.val rfl rfl (OpV.pickT rfl rfl rfl rfl aK2b) ?_
        refine VO.mv rfl rfl rfl rfl ?_
        refine VO.opG rfl rfl rfl rfl (fun aK3b => ?_) (fun aK3b => ?_)
        · replace aK3b : _ = true := aK3b
          have aK3 := aK3b
          try simp only [qqT, qqF, qqN, qqM, qqL, qqE] at aK3
          refine OpE.val (W := NoB) (OpV.move (.inl rfl) rfl) rfl ?_
          refine VO.opY rfl rfl rfl rfl aK3b ?_
          refine OpE.val (W := NoB) (OpV.indexAddr_1 rfl Tryz.underlying29 Tryz.sizeOf9 rfl rfl (Int.toNat_of_nonneg (by omega)).symm (by omega)) rfl ?_
          refine VO.opY rfl rfl rfl rfl aK3b ?_
          refine OpE.val (W := NoB) (OpV.load_at rfl hB OutW.no Tryz.isAgg9 rfl rfl) rfl ?_
          refine VO.opY rfl rfl rfl rfl aK3b ?_
          refine OpE.val (W := NoB) (OpV.seql rfl rfl rfl) rfl ?_
          refine VO.opY rfl rfl rfl rfl aK3b ?_
          refine OpE.val (W := NoB) (OpV.move (.inl rfl) rfl) rfl ?_
          refine VO.opG rfl rfl rfl rfl (fun aK4b => ?_) (fun aK4b => ?_)
          · replace aK4b : _ = false := aK4b
            have aK4 := aK4b
            try simp only [qqT, qqF, qqN, qqM, qqL, qqE] at aK4
            refine OpE.val (W := NoB) (OpV.move (.inl rfl) rfl) rfl ?_
            refine VO.opY rfl rfl rfl rfl aK4b ?_
            refine OpE.val (W := NoB) (OpV.indexAddr_1 rfl Tryz.underlying29 Tryz.sizeOf9 rfl rfl (Int.toNat_of_nonneg (by omega)).symm (by omega)) rfl ?_
            refine VO.opY rfl rfl rfl rfl aK4b ?_
            refine OpE.val (W := NoB) (OpV.load_at rfl hB OutW.no Tryz.isAgg9 rfl rfl) rfl ?_
            refine VO.opY rfl rfl rfl rfl aK4b ?_
            refine OpE.val (W := NoB) (OpV.seql rfl rfl rfl) rfl ?_
            refine VO.opY rfl rfl rfl rfl aK3b ?_
            refine OpE.val (W := NoB) (OpV.pickF rfl rfl rfl rfl aK4b) rfl ?_
            refine VO.val rfl rfl (OpV.pickT rfl rfl rfl rfl aK3b) ?_
            refine VO.ma rfl rfl rfl rfl ?_
            refine VO.nil ?_
            refine VC.ret ?_
            exact Exists.intro _ (And.intro (RetV.one Tryz.results175 (ResV.tmp rfl)) (⟨_, xs ++ [yy], by first | exact congrArg avB (rd1 hok (by assumption)) | exact congrArg avB (rd2 hok (by assumption) (by assumption)) | exact congrArg avB (rd3 hok (by assumption) (by assumption) (by assumption)) | exact congrArg avB (rd4 hok (by assumption) (by assumption) (by assumption)), rwLk_eq (n := xs.length + 1) (lenS _ _), fun e => by rw [hyl e], by rw [List.length_append]; exact Nat.le_refl _⟩))
          · replace aK4b : _ = true := aK4b
            have aK4 := aK4b
            try simp only [qqT, qqF, qqN, qqM, qqL, qqE] at aK4
            refine VO.opX rfl rfl rfl rfl aK4b ?_
            refine VO.opX rfl rfl rfl rfl aK4b ?_
            refine VO.opX rfl rfl rfl rfl aK4b ?_
            refine VO.opY rfl rfl rfl rfl aK3b ?_
            refine OpE.val (W := NoB) (OpV.pickT rfl rfl rfl rfl aK4b) rfl ?_
            refine VO.val rfl rfl (OpV.pickT rfl rfl rfl rfl aK3b) ?_
            refine VO.ma rfl rfl rfl rfl ?_
            refine VO.nil ?_
            refine VC.ret ?_
            exact Exists.intro _ (And.intro (RetV.one Tryz.results175 (ResV.tmp rfl)) (⟨_, xs ++ [yy], by first | exact congrArg avB (rd1 hok (by assumption)) | exact congrArg avB (rd2 hok (by assumption) (by assumption)) | exact congrArg avB (rd3 hok (by assumption) (by assumption) (by assumption)) | exact congrArg avB (rd4 hok (by assumption) (by assumption) (by assumption)), rwLk_eq (n := xs.length + 1) (lenS _ _), fun e => by rw [hyl e], by rw [List.length_append]; exact Nat.le_refl _⟩))
        · replace aK3b : _ = false := aK3b
          have aK3 := aK3b
          try simp only [qqT, qqF, qqN, qqM, qqL, qqE] at aK3
          refine VO.opX rfl rfl rfl rfl aK3b ?_
          refine VO.opX rfl rfl rfl rfl aK3b ?_
          refine VO.opX rfl rfl rfl rfl aK3b ?_
          refine VO.opX rfl rfl rfl rfl aK3b ?_
          refine VO.opU rfl rfl rfl rfl ?_
          refine VO.opU rfl rfl rfl rfl ?_
          refine VO.opU rfl rfl rfl rfl ?_
          refine VO.opU rfl rfl rfl rfl ?_
          refine VO.opX rfl rfl rfl rfl aK3b ?_
          refine VO.val rfl rfl (OpV.pickF rfl rfl rfl rfl aK3b) ?_
          refine VO.ma rfl rfl rfl rfl ?_
          refine VO.nil ?_
          refine VC.ret ?_
          exact Exists.intro _ (And.intro (RetV.one Tryz.results175 (ResV.tmp rfl)) (⟨_, xs ++ [yy], by first | exact congrArg avB (rd1 hok (by assumption)) | exact congrArg avB (rd2 hok (by assumption) (by assumption)) | exact congrArg avB (rd3 hok (by assumption) (by assumption) (by assumption)) | exact congrArg avB (rd4 hok (by assumption) (by assumption) (by assumption)), rwLk_eq (n := xs.length + 1) (lenS _ _), fun e => by rw [hyl e], by rw [List.length_append]; exact Nat.le_refl _⟩))
      · replace aK2b : _ = false := aK2b
        have aK2 := aK2b
        try simp only [qqT, qqF, qqN, qqM, qqL, qqE] at aK2
        refine VO.opX rfl rfl rfl rfl aK2b ?_
        refine VO.val rfl rfl (OpV.pickF rfl rfl rfl rfl aK2b) ?_
        refine VO.mv rfl rfl rfl rfl ?_
        refine VO.opX rfl rfl rfl rfl rfl ?_
        refine VO.opX rfl rfl rfl rfl rfl ?_
        refine VO.opX rfl rfl rfl rfl rfl ?_
        refine VO.opX rfl rfl rfl rfl rfl ?_
        refine VO.opX rfl rfl rfl rfl rfl ?_
        refine VO.opU rfl rfl rfl rfl ?_
        refine VO.opU rfl rfl rfl rfl ?_
        refine VO.opU rfl rfl rfl rfl ?_
        refine VO.opU rfl rfl rfl rfl ?_
        refine VO.opX rfl rfl rfl rfl rfl ?_
        refine VO.val rfl rfl (OpV.pickF rfl rfl rfl rfl rfl) ?_
        refine VO.ma rfl rfl rfl rfl ?_
        refine VO.nil ?_
        refine VC.ret ?_
        exact Exists.intro _ (And.intro (RetV.one Tryz.results175 (ResV.tmp rfl)) (⟨_, xs ++ [yy], by first | exact congrArg avB (rd1 hok (by assumption)) | exact congrArg avB (rd2 hok (by assumption) (by assumption)) | exact congrArg avB (rd3 hok (by assumption) (by assumption) (by assumption)) | exact congrArg avB (rd4 hok (by assumption) (by assumption) (by assumption)), rwLk_eq (n := xs.length + 1) (lenS _ _), fun e => by rw [hyl e], by rw [List.length_append]; exact Nat.le_refl _⟩))
  · replace aK1b : _ = true := aK1b
    have aK1 := aK1b
    try simp only [qqT, qqF, qqN, qqM, qqL, qqE] at aK1
    refine VO.opX rfl rfl rfl rfl aK1b ?_
    refine VO.opX rfl rfl rfl rfl aK1b ?_
    refine VO.val rfl rfl (OpV.pickT rfl rfl rfl rfl aK1b) ?_
    refine VO.nil ?_
    refine VC.condT rfl rfl ?_
    have hno : okLk s = false := okLk_no (.inl (by rw [hwb]; exact not_true_false (by assumption)))
    refine VC.sr ?_
    refine VO.ma rfl rfl rfl rfl ?_
    refine VO.nil ?_
    refine VC.ret ?_
    exact Exists.intro _ (And.intro (RetV.one Tryz.results175 (ResV.tmp rfl)) (⟨u, xs, by rw [hno], rfl, (fun e => by rw [hno] at e; (cases e)), Nat.le_succ _⟩))
def KLk (g : Nat) (pre : List ByteArray) (h : List Ent) : Prop := ∃ u xs, h = [bxLk g u, rwLk u xs] ∧ ((∀ x ∈ pre, okLk x = true) → xs = pre.map lkOf) ∧ xs.length ≤ pre.length
theorem KLk.nil (g : Nat) : KLk g [] [bxLk g (.slice none 0 0), .row (.slice none 0 0) 0 8 [] 80] := ⟨_, [], rfl, fun _ => rfl, Nat.le_refl _⟩
theorem lk_takes {g n : Nat} (hn : n ≤ 1000000) : TakesX (TabX Tryz.prog) (KLk g) okL1 n Tryz.prog 175 #[ptv g] := fun pre line h ⟨u, xs, e, h1, h2⟩ hl hp w A us hx ha hap hA hE => by
 subst e
 refine (rf_LooksRead1 (s := line) (g := g) (u := u) (xs := xs) (by omega) (by omega) w A us hx ha hap hA hE).mono fun e w' ⟨y, v, hp', ⟨u', xs', k1, k2, k3, k4⟩, k5⟩ => ⟨y, v, hp', ⟨k1, u', xs', k2, fun hall => ?_, ?_⟩, k5⟩
 ·rw [k3 (hall line (List.mem_append_right _ (List.mem_singleton.2 rfl))), h1 fun x hx => hall x (List.mem_append_left _ hx), List.map_append]; rfl
 ·rw [List.length_append]; show xs'.length ≤ pre.length + 1; omega
def lnI (f : Option Nat) : Int := match f with
 | none => 0
 | some i => (i : Int)
theorem lnY_eq (f : Option Nat) : lnY f = .tup [avI (lnI f), avB f.isNone] := by cases f <;> rfl
theorem lk_all {text : ByteArray} (h : lkBad text = none) : ∀ x ∈ linesR text, okLk x = true := fun x hx => by
 obtain ⟨j, hj, rfl⟩ := List.getElem_of_mem hx
 have := lnF_zero h j hj
 rw [List.getD_eq_getElem?_getD, List.getElem?_eq_getElem hj] at this
 exact this
set_option maxRecDepth 100000 in
set_option maxHeartbeats 8000000 in
theorem rf_LooksRead {text : ByteArray} (ht : text.size ≤ 900000) :
  SpecW (TabW Tryz.prog) Tryz.prog 76 [avS text] (fun y => y = .tup [avL (lkRead text).1, avI (lkRead text).2.1, avI (lkRead text).2.2]) := by
 refine SpecW.of_VC Tryz.func76 rfl Tryz.ntmps76 (Nle rfl) fun w A hgw hB => ?_
 have hG : ∀ {s a w'}, R (B0 w A 27) s a w' → TabW Tryz.prog w' :=  tab_base hgw
 have hnew : True := trivial
 refine VC.sr ?_
 refine VO.ma rfl rfl rfl rfl ?_
 refine VO.ma rfl rfl rfl rfl ?_
 refine VO.ma rfl rfl rfl rfl ?_
 refine VO.nil ?_
 refine VC.seq ?_
 refine VC.sr ?_
 refine VO.mv rfl rfl rfl rfl ?_
 refine VO.val rfl rfl (OpV.len_s rfl Tryz.underlying9 rfl) ?_
 refine VO.val rfl rfl (OpV.gtr rfl rfl rfl) ?_
 refine VO.nil ?_
 refine VC.cond rfl (fun h0b => ?_) (fun h0b => ?_)
 ·have h0 := h0b
  try simp only [qqT, qqF, qqN, qqM, qqL, qqE] at h0
  refine VC.sr ?_
  refine VO.ma rfl rfl rfl rfl ?_
  refine VO.ma rfl rfl rfl rfl ?_
  refine VO.ma rfl rfl rfl rfl ?_
  refine VO.nil ?_
  refine VC.le _ (Le.recast (t := 2) (y := avL ([] : List LookS)) rfl (fun w Z u h => by rw [h.eq_v]; exact .nil _ _)) ?_
  refine VC.ret ?_
  exact Exists.intro _ (And.intro (RetV.three Tryz.results76 (ResV.tmp rfl) (ResV.tmp rfl) (ResV.tmp rfl)) (by rw [lkRead_2 (by omega)]))
 ·have h0 := h0b
  try simp only [qqT, qqF, qqN, qqM, qqL, qqE] at h0
  refine VC.skip ?_
  refine VC.sr ?_
  refine VO.op rfl (OpE.alloc rfl hB rfl Tryz.zeroValue54 rfl ?_)
  intro g
  refine VO.nil ?_
  refine VC.seq ?_
  have hGX := tabx_base (A := A) (nt := 27) hgw
  have hll := linesR_length text
  have hlg := linesR_get text
  refine VC.le _ (Le.nilRow 8 80) ?_
  refine VC.region ?_
  refine VO.mv rfl rfl rfl rfl ?_
  refine VO.val rfl rfl (OpV.makeFunc1 rfl rfl) ?_
  refine VO.op rfl (OpE.callHX0 tab_stab hGX rfl hB rfl Tryz.call108 rfl rfl (rf_Lines (K := KLk g) (ok := okL1) tab_stab (by omega) Tryz.call175 (lk_takes (by omega)) (KLk.nil g)) (List.Perm.refl _) (fun _ _ => trivial) ?_)
  rintro _ _ ⟨pre, ⟨u, xs, rfl, hxs, hxl⟩, rfl, hpre⟩
  obtain ⟨f, hf⟩ : ∃ f, lkBad text = f := ⟨_, rfl⟩
  refine VO.le _ (Le.recast (t := 15) (y := .tup [avI (lnI f), avB f.isNone]) rfl (fun w Z u h => by rw [← lnY_eq, ← hf]; exact h)) ?_
  refine VO.mv rfl rfl rfl rfl ?_
  refine VO.val rfl rfl (OpV.extract rfl rfl rfl) ?_
  refine VO.val rfl rfl (OpV.extract rfl rfl rfl) ?_
  refine VO.ma rfl rfl rfl rfl ?_
  refine VO.ma rfl rfl rfl rfl ?_
  refine VO.nil ?_
  refine VC.seq ?_
  refine VC.sr ?_
  refine VO.mv rfl rfl rfl rfl ?_
  refine VO.val rfl rfl (OpV.not rfl rfl) ?_
  refine VO.nil ?_
  refine VC.cond rfl (fun h1b => ?_) (fun h1b => ?_)
  ·have h1 := h1b
   try simp only [qqT, qqF, qqN, qqM, qqL, qqE] at h1
   obtain ⟨i, rfl⟩ : ∃ i, f = some i := by cases f with | none => simp at h1b | some i => exact ⟨i, rfl⟩
   refine VC.sr ?_
   refine VO.mv rfl rfl rfl rfl ?_
   refine VO.ma rfl rfl rfl rfl ?_
   refine VO.ma rfl rfl rfl rfl ?_
   refine VO.ma rfl rfl rfl rfl ?_
   refine VO.nil ?_
   refine VC.le _ (Le.recast (t := 2) (y := avL ([] : List LookS)) rfl (fun w Z u h => by rw [h.eq_v]; exact .nil _ _)) ?_
   refine VC.ret ?_
   exact Exists.intro _ (And.intro (RetV.three Tryz.results76 (ResV.tmp rfl) (ResV.tmp rfl) (ResV.tmp rfl)) (by rw [lkRead_9 (by omega) hf]; rfl))
  ·have h1 := h1b
   try simp only [qqT, qqF, qqN, qqM, qqL, qqE] at h1
   obtain rfl : f = none := by cases f with | none => rfl | some i => simp at h1b
   obtain rfl := hpre hf
   obtain rfl := hxs (lk_all hf)
   have hsm := lkOf_SmLk (ls := linesR text) (n := text.size) (by omega) (by omega) hlg
   refine VC.skip ?_
   refine VC.seq ?_
   refine VC.sr ?_
   refine VO.val rfl rfl (OpV.load_own (i := 0) rfl hB Tryz.isAgg54 rfl rfl rfl (fun h => h)) ?_
   refine VO.op rfl (OpE.callL rfl hB rfl Tryz.call36 (rf_LooksFault hsm) (ArgsP.cons (ArgP.rowT (i := 1) (xs := (linesR text).map lkOf) rfl rfl rfl) (ArgsP.nil)) ?_)
   rintro _ rfl
   refine VO.ma rfl rfl rfl rfl ?_
   refine VO.nil ?_
   refine VC.sr ?_
   refine VO.mv rfl rfl rfl rfl ?_
   refine VO.val rfl rfl (OpV.neq rfl rfl rfl) ?_
   refine VO.nil ?_
   refine VC.cond rfl (fun h2b => ?_) (fun h2b => ?_)
   ·have h2 := h2b
    try simp only [qqT, qqF, qqN, qqM, qqL, qqE] at h2
    refine VC.sr ?_
    refine VO.mv rfl rfl rfl rfl ?_
    refine VO.ma rfl rfl rfl rfl ?_
    refine VO.ma rfl rfl rfl rfl ?_
    refine VO.ma rfl rfl rfl rfl ?_
    refine VO.nil ?_
    refine VC.le _ (Le.recast (t := 2) (y := avL ([] : List LookS)) rfl (fun w Z u h => by rw [h.eq_v]; exact .nil _ _)) ?_
    refine VC.ret ?_
    exact Exists.intro _ (And.intro (RetV.three Tryz.results76 (ResV.tmp rfl) (ResV.tmp rfl) (ResV.tmp rfl)) (by rw [lkRead_e (by omega) hf h2]))
   ·have h2 := h2b
    try simp only [qqT, qqF, qqN, qqM, qqL, qqE] at h2
    refine VC.skip ?_
    refine VC.sr ?_
    refine VO.val rfl rfl (OpV.load_own (i := 0) rfl hB Tryz.isAgg54 rfl rfl rfl (fun h => h)) ?_
    refine VO.ma rfl rfl rfl rfl ?_
    refine VO.ma rfl rfl rfl rfl ?_
    refine VO.ma rfl rfl rfl rfl ?_
    refine VO.nil ?_
    refine VC.le _ (Le.rowT (t := 2) (i := 1) (xs := (linesR text).map lkOf) hB hnew rfl rfl rfl) ?_
    refine VC.ret ?_
    exact Exists.intro _ (And.intro (RetV.three Tryz.results76 (ResV.tmp rfl) (ResV.tmp rfl) (ResV.tmp rfl)) (by rw [lkRead_0 (by omega) hf (by omega)]))
end Go.Proofs.YtdnlhdilpdeecaaGreatDoor
namespace Go.Proofs.YtdnlhdilpdeecaaGreatDoor
open Go.RowKit
set_option linter.unusedVariables false
set_option linter.unusedSimpArgs false
section
variable {P : Program} {w : World} {A : Nat → Prop} {nt t : Nat} {x : Value} {c : Code} {s : St'}
theorem VC.streamW {a0 : Option Addr} {cap0 g tot i : Nat} {L : List Int} {sl : List (Nat × AV)} (hi : s.hp[i]? = some (.box g ⟨[.v (.slice a0 L.length cap0), .v (.int .i64 0)], 25, tot⟩)) (htot : tot = 2) (hin : Inp w a0 L) (hsl : LeL s.sl sl) (hf : ∀ p ∈ sl, ∃ v, p.2 = .v v)
  (h : ∀ w1, w.heap.size ≤ g → Chg NoB w w1 → (B1 w1 (fun b => b ≠ g) nt (fun b => b = g) (fun b => b ≤ g) (TT g L)).Ok → VC P (B1 w1 (fun b => b ≠ g) nt (fun b => b = g) (fun b => b ≤ g) (TT g L)) c (lawQ t x) ⟨sl, [], 0⟩) : VC P (B0 w A nt) c (lawQ t x) s :=
 VC.rebase fun a w1 hr => by
  have hm := List.mem_of_getElem? hi
  obtain ⟨cc, k1, k2, k3, k4⟩ := hr.blocks _ hm
  have hnew : ¬ g < w.heap.size := hr.isNew (fun b h => h) hm rfl
  have hge : w.heap.size ≤ g := by omega
  have hcc : cc = #[.slice a0 L.length cap0, .int .i64 0] := by
   obtain ⟨u0, p0, q0⟩ := k4 0 (by simp)
   obtain ⟨u1, p1, q1⟩ := k4 1 (by simp)
   have e0 := q0.eq_v
   have e1 := q1.eq_v
   have hsz : cc.size = 2 := k2.trans htot
   apply Array.ext (by simpa using hsz)
   intro i hi hi'
   simp at hi'
   match i, hi' with
   | 0, _ => have := Array.getElem?_eq_some_iff.1 p0; simp; rw [this.2, e0]
   | 1, _ => have := Array.getElem?_eq_some_iff.1 p1; simp; rw [this.2, e1]
  subst hcc
  have hT : TT g L w1 0 := ⟨0, Nat.le_refl _, a0, cap0, k1, hin.1, fun i hi => by
   obtain ⟨b, o, e1, e2⟩ := hin.2 i hi
   have hb := World.block_lt_of_cell? w _ e2
   exact ⟨b, o, e1, Nat.lt_of_lt_of_le hb hge, hr.chg.cell e2 fun h => h⟩⟩
  refine ⟨_, _, rfl, rfl, fun b hb => by rw [hb]; exact hge, ?_, h w1 hge hr.chg (TT.ok hT)⟩
  refine ⟨fun t' y hy => ?_, hr.size, hr.defs, fun p hp => by simp at hp, List.Pairwise.nil, Chg.refl _ _, fun p hp => by simp at hp, hT⟩
  have hs := hr.slots t' y (LeL.look hsl t' y hy)
  have : ∃ v, y = .v v := by
   have key : ∀ (l : List (Nat × AV)), (∀ p ∈ l, ∃ v, p.2 = .v v) → look l t' = some y → ∃ v, y = .v v := by
    intro l
    induction l with
    | nil => intro _ h; cases h
    | cons p r ih =>
     intro hp hl
     obtain ⟨k, z⟩ := p
     rw [look_put] at hl
     split at hl
     ·cases hl; exact hp (k, y) (by simp)
     ·exact ih (fun q hq => hp q (by simp [hq])) hl
   exact key sl hf hy
  exact hs.flat this
end
theorem tab_law {P : Program} {w w1 : World} {A : Nat → Prop} {nt p : Nat} {low : Nat → Prop} {T : World → Nat → Prop} (hg : ∃ g, P.globalNamed "internal/strconv.uint64pow10" = some g) (h : TabW P w) (hc : Chg NoB w w1) (hp : w.heap.size ≤ p) :
  ∀ {s a w'}, R (B1 w1 A nt (fun b => b = p) low T) s a w' → TabW P w' := fun {s a w'} hr => by
 obtain ⟨g, hg⟩ := hg
 have hlt : g < w.heap.size := by
  unfold TabW Lib.TabIs World.var? at h
  rw [hg] at h
  simp only [Option.bind_some] at h
  by_cases hl : g < w.heap.size
  ·exact hl
  ·rw [Array.getElem?_eq_none (by omega)] at h; cases h
 exact (h.keep hg hc fun h => h).keep hg hr.chg fun e => by
  have e' : g = p := e
  omega
theorem tab_laidVars {P : Program} {w : World} : ∀ {laid : List (String × DataW Unit)} {ps : List MemPlace}, DataW.LaidVars P w laid ps → ∀ x ∈ laid, ∃ g t cs fuel p, P.globalNamed x.1 = some g ∧ (P.globals[g]?).map (·.type) = some t ∧ w.var? P x.1 = some cs ∧ DataW.trod (fun _ => ()) P w 0 (fun _ => true) false fuel t cs.toList = some (x.2, p)
 | [], ps, h, x, hx => by cases hx
 | (n, d) :: r, ps, ⟨g, t, cs, fuel, p, q, h1, h2, h3, h4, h5, h6⟩, x, hx => by
  rcases List.mem_cons.1 hx with rfl | hx
  ·exact ⟨g, t, cs, fuel, p, h1, h2, h3, h4⟩
  ·exact tab_laidVars h5 x hx
theorem tab_of_laid {P : Program} {w : World} {laid : List (String × DataW Unit)} {g : Nat} {t e : TypeId} {n : Nat} (hm : ("internal/strconv.uint64pow10", Lib.tabData .u64 Lib.pow10Tab) ∈ laid)
  (hg : P.globalNamed "internal/strconv.uint64pow10" = some g) (hty : (P.globals[g]?).map (·.type) = some t) (ht : P.underlying t = some (.array n e)) (he : P.underlying e = some (.int .u64)) (hce : P.cellsOf e = 1) (hct : P.cellsOf t = n) (h : laidMet P laid w) : TabW P w := by
 obtain ⟨ps, hv, _⟩ := h
 obtain ⟨g', t', cs, fuel, p, hg', ht', hvar, hd⟩ := tab_laidVars hv _ hm
 obtain rfl := Option.some.inj (hg.symm.trans hg')
 obtain rfl := Option.some.inj (hty.symm.trans ht')
 unfold TabW Lib.TabIs
 have h1 := Lib.cells_of_tab ht he hce hct hd
 rw [hvar]
 congr 1
 apply Array.ext'
 rw [h1]
end Go.Proofs.YtdnlhdilpdeecaaGreatDoor
namespace Go.Proofs.YtdnlhdilpdeecaaGreatDoor
open Go.RowKit
set_option linter.unusedVariables false
set_option linter.unusedSimpArgs false
set_option maxRecDepth 100000 in
set_option maxHeartbeats 40000000 in
theorem lookTexts_any (a0 : Option Addr) (cap0 : Nat) (L : List Int) (w : World) (hin : Inp w a0 L) (hT : TabW Tryz.prog w) :
  Calls Tryz.prog 8 #[.slice a0 L.length cap0] w fun e w' => e = .returned (.bool true) ∧ Chg NoB w w' := by
 refine law_calls Tryz.func8 rfl Tryz.ntmps8 (Nle rfl) Tryz.results8 ?_
 have hB := B0.ok w (fun _ => True) 74
 have hnew : True := trivial
 refine VC.sr ?_
 refine VO.ma rfl rfl rfl rfl ?_
 refine VO.nil ?_
 refine VC.sr ?_
 refine VO.mv rfl rfl rfl rfl ?_
 refine VO.val rfl rfl (OpV.build (pls := #[(0, 1), (1, 1)]) rfl Tryz.zeroValue25 Tryz.underlying25 (fun w => by kernel_rfl) rfl rfl) ?_
 refine VO.op rfl (OpE.box rfl hB rfl rfl rfl ?_)
 intro g
 refine VO.ma rfl rfl rfl rfl ?_
 refine VO.nil ?_
 refine VC.streamW (i := 0) (sl := [(3, sp g)]) (by exact rfl) (by exact rfl) hin (by exact ⟨rfl, trivial⟩) (fun p hp => by simp at hp; subst hp; exact ⟨_, rfl⟩) (fun w1 hge hch hB => ?_)
 have hG : ∀ {s a w'}, R (B1 w1 (fun b => b ≠ g) 74 (fun b => b = g) (fun b => b ≤ g) (TT g L)) s a w' → TabW Tryz.prog w' := tab_law tab_named hT hch hge
 refine VC.sr ?_
 refine VO.mv rfl rfl rfl rfl ?_
 refine VO.mv rfl rfl rfl rfl ?_
 refine VO.op rfl (OpE.callT' (0) rfl rfl hB rfl Tryz.call10 rfl ((range_T (by omega) (by omega) (by omega))) (by omega) ?_)
 rintro _ ⟨r21, hr21, rfl⟩
 obtain ⟨na, rfl⟩ : ∃ na : Nat, r21 = na := ⟨r21.toNat, by omega⟩
 refine VO.op rfl (OpE.callTO (0 + 1) rfl rfl hB rfl Tryz.call31 rfl (looks_O (by omega)) (by omega) ?_)
 rintro _ _ ⟨a, ua, hal, rfl, rfl⟩
 refine VO.le _ (Le.rowT (t := 22) (i := 0) (xs := a) hB hnew rfl rfl rfl) ?_
 refine VO.mv rfl rfl rfl rfl ?_
 refine VO.op rfl (OpE.callT' (0 + 1 + 200) rfl rfl hB rfl Tryz.call72 rfl (lookText_T) (by omega) ?_)
 rintro _ ⟨tx, htx, rfl⟩
 refine VO.ma rfl rfl rfl rfl ?_
 refine VO.ma rfl rfl rfl rfl ?_
 refine VO.nil ?_
 refine VC.seq ?_
 have hak : ∀ x ∈ a, LkG 3 x := fun x hx => (hal.2 x hx).mono (by omega)
 have ha9 : a.length ≤ 9 := by omega
 have hs := LkG.sm hak (by omega)
 obtain ⟨wt, hwt⟩ : ∃ wt, (if lookF a = 0 then txt a else ⟨#[]⟩) = wt := ⟨_, rfl⟩
 obtain ⟨rl, ri, re, hrd⟩ : ∃ rl ri re, lkRead tx = (rl, ri, re) := ⟨_, _, _, rfl⟩
 have hrl : rl.length ≤ 1000000 := by
  have h := congrArg (fun z => z.1.length) hrd
  simp only at h
  rw [← h]
  have h2 := linesR_length tx
  unfold lkRead
  split
  ·exact Nat.zero_le _
  ·split
   ·exact Nat.zero_le _
   ·split
    ·simp only [List.length_map]; omega
    ·exact Nat.zero_le _
 refine VC.region ?_
 refine VO.mv rfl rfl rfl rfl ?_
 refine VO.op rfl (OpE.call rfl hB rfl Tryz.call73 rfl (SpecN.spec (inspect_TextL hak (by omega) (by omega))) ?_)
 rintro _ rfl
 refine VO.le _ (Le.recast (t := 27) (y := .tup [avS wt, avI (lookF a)]) rfl (fun w Z u h => by rw [← hwt]; exact h)) ?_
 refine VO.mv rfl rfl rfl rfl ?_
 refine VO.val rfl rfl (OpV.extract rfl rfl rfl) ?_
 refine VO.val rfl rfl (OpV.extract rfl rfl rfl) ?_
 refine VO.ma rfl rfl rfl rfl ?_
 refine VO.ma rfl rfl rfl rfl ?_
 refine VO.nil ?_
 refine VC.sr ?_
 refine VO.mv rfl rfl rfl rfl ?_
 refine VO.op rfl (OpE.call rfl hB rfl Tryz.call36 rfl (SpecN.spec (rf_LooksFault hs)) ?_)
 rintro _ rfl
 refine VO.ma rfl rfl rfl rfl ?_
 refine VO.ma rfl rfl rfl rfl ?_
 refine VO.nil ?_
 refine VC.seq ?_
 refine VC.sr ?_
 refine VO.mv rfl rfl rfl rfl ?_
 refine VO.val rfl rfl (OpV.eql rfl rfl rfl) ?_
 refine VO.nil ?_
 refine VC.cond rfl (fun k0b => ?_) (fun k0b => ?_)
 ·have k0 := k0b
  try simp only [qqT, qqF, qqN, qqM, qqL, qqE] at k0
  refine VC.region ?_
  refine VO.mv rfl rfl rfl rfl ?_
  refine VO.op rfl (OpE.call rfl hB rfl Tryz.call74 rfl (SpecN.spec (rf_LookLines (by omega) (fun j hj => LkT.of (m := 3) (by omega) hak k0 hj))) ?_)
  rintro _ rfl
  refine VO.le _ (Le.recast (t := 35) (y := avS wt) rfl (fun w Z u h => by rw [← hwt, if_pos k0]; exact h)) ?_
  refine VO.ma rfl rfl rfl rfl ?_
  refine VO.nil ?_
  refine VC.sr ?_
  refine VO.mv rfl rfl rfl rfl ?_
  refine VO.op rfl (OpE.call rfl hB rfl Tryz.call75 rfl (SpecN.spec (inspect_ReadL (by omega))) ?_)
  rintro _ rfl
  refine VO.le _ (Le.recast (t := 38) (y := .tup [avL rl, avI ri, avI re]) rfl (fun w Z u h => by rw [hrd] at h; exact h)) ?_
  refine VO.mv rfl rfl rfl rfl ?_
  refine VO.val rfl rfl (OpV.extract rfl rfl rfl) ?_
  refine VO.val rfl rfl (OpV.extract rfl rfl rfl) ?_
  refine VO.val rfl rfl (OpV.extract rfl rfl rfl) ?_
  refine VO.ma rfl rfl rfl rfl ?_
  refine VO.ma rfl rfl rfl rfl ?_
  refine VO.ma rfl rfl rfl rfl ?_
  refine VO.nil ?_
  refine VC.sr ?_
  refine VO.mv rfl rfl rfl rfl ?_
  refine VO.op rfl (OpE.callW rfl hB rfl Tryz.call76 rfl (rf_LooksRead (by omega)) hG ?_)
  rintro _ rfl
  refine VO.le _ (Le.recast (t := 44) (y := .tup [avL rl, avI ri, avI re]) rfl (fun w Z u h => by rw [hrd] at h; exact h)) ?_
  refine VO.mv rfl rfl rfl rfl ?_
  refine VO.val rfl rfl (OpV.extract rfl rfl rfl) ?_
  refine VO.val rfl rfl (OpV.extract rfl rfl rfl) ?_
  refine VO.val rfl rfl (OpV.extract rfl rfl rfl) ?_
  refine VO.ma rfl rfl rfl rfl ?_
  refine VO.ma rfl rfl rfl rfl ?_
  refine VO.ma rfl rfl rfl rfl ?_
  refine VO.nil ?_
  refine VC.sr ?_
  refine VO.mv rfl rfl rfl rfl ?_
  refine VO.mv rfl rfl rfl rfl ?_
  refine VO.val rfl rfl (OpV.eql rfl rfl rfl) ?_
  refine VO.le _ (Le.boolT (t := 50) rfl (decide_eq_true rfl)) ?_
  refine VO.mv rfl rfl rfl rfl ?_
  refine VO.opY rfl rfl rfl rfl rfl ?_
  refine OpE.val (W := NoB) (OpV.move (.inl rfl) rfl) rfl ?_
  refine VO.opY rfl rfl rfl rfl rfl ?_
  refine OpE.val (W := NoB) (OpV.move (.inl rfl) rfl) rfl ?_
  refine VO.opY rfl rfl rfl rfl rfl ?_
  refine OpE.val (W := NoB) (OpV.seql rfl rfl rfl) rfl ?_
  refine VO.le _ (Le.boolT (t := 54) rfl (sEq_refl _)) ?_
  refine VO.val rfl rfl (OpV.pickT rfl rfl rfl rfl rfl) ?_
  refine VO.mv rfl rfl rfl rfl ?_
  refine VO.opY rfl rfl rfl rfl rfl ?_
  refine OpE.val (W := NoB) (OpV.move (.inl rfl) rfl) rfl ?_
  refine VO.opY rfl rfl rfl rfl rfl ?_
  refine OpE.val (W := NoB) (OpV.move (.inl rfl) rfl) rfl ?_
  refine VO.opY rfl rfl rfl rfl rfl ?_
  refine OpE.call rfl hB rfl Tryz.call77 rfl (SpecN.spec (slices_Equal_lk (by omega) (by omega))) ?_
  rintro _ rfl
  refine VO.le _ (Le.boolT (t := 59) rfl (eqLs_self eqLk_self _)) ?_
  refine VO.val rfl rfl (OpV.pickT rfl rfl rfl rfl rfl) ?_
  refine VO.mv rfl rfl rfl rfl ?_
  refine VO.opY rfl rfl rfl rfl rfl ?_
  refine OpE.val (W := NoB) (OpV.move (.inl rfl) rfl) rfl ?_
  refine VO.opY rfl rfl rfl rfl rfl ?_
  refine OpE.val (W := NoB) (OpV.move (.inl rfl) rfl) rfl ?_
  refine VO.opY rfl rfl rfl rfl rfl ?_
  refine OpE.val (W := NoB) (OpV.eql rfl rfl rfl) rfl ?_
  refine VO.le _ (Le.boolT (t := 64) rfl (decide_eq_true rfl)) ?_
  refine VO.val rfl rfl (OpV.pickT rfl rfl rfl rfl rfl) ?_
  refine VO.mv rfl rfl rfl rfl ?_
  refine VO.opY rfl rfl rfl rfl rfl ?_
  refine OpE.val (W := NoB) (OpV.move (.inl rfl) rfl) rfl ?_
  refine VO.opY rfl rfl rfl rfl rfl ?_
  refine OpE.val (W := NoB) (OpV.move (.inl rfl) rfl) rfl ?_
  refine VO.opY rfl rfl rfl rfl rfl ?_
  refine OpE.val (W := NoB) (OpV.eql rfl rfl rfl) rfl ?_
  refine VO.le _ (Le.boolT (t := 69) rfl (decide_eq_true rfl)) ?_
  refine VO.val rfl rfl (OpV.pickT rfl rfl rfl rfl rfl) ?_
  refine VO.mv rfl rfl rfl rfl ?_
  refine VO.opY rfl rfl rfl rfl rfl ?_
  refine OpE.call rfl hB rfl Tryz.call44 rfl (SpecN.spec (rl_looked)) ?_
  rintro _ rfl
  refine VO.val rfl rfl (OpV.pickT rfl rfl rfl rfl rfl) ?_
  refine VO.ma rfl rfl rfl rfl ?_
  refine VO.nil ?_
  refine VC.ret ?_
  exact And.intro rfl rfl
 ·have k0 := k0b
  try simp only [qqT, qqF, qqN, qqM, qqL, qqE] at k0
  refine VC.le _ (Le.recast (t := 9) (y := avS wt) rfl (fun w Z u h => by rw [← hwt, if_neg k0]; exact h)) ?_
  refine VC.skip ?_
  refine VC.sr ?_
  refine VO.mv rfl rfl rfl rfl ?_
  refine VO.op rfl (OpE.call rfl hB rfl Tryz.call75 rfl (SpecN.spec (inspect_ReadL (by omega))) ?_)
  rintro _ rfl
  refine VO.le _ (Le.recast (t := 38) (y := .tup [avL rl, avI ri, avI re]) rfl (fun w Z u h => by rw [hrd] at h; exact h)) ?_
  refine VO.mv rfl rfl rfl rfl ?_
  refine VO.val rfl rfl (OpV.extract rfl rfl rfl) ?_
  refine VO.val rfl rfl (OpV.extract rfl rfl rfl) ?_
  refine VO.val rfl rfl (OpV.extract rfl rfl rfl) ?_
  refine VO.ma rfl rfl rfl rfl ?_
  refine VO.ma rfl rfl rfl rfl ?_
  refine VO.ma rfl rfl rfl rfl ?_
  refine VO.nil ?_
  refine VC.sr ?_
  refine VO.mv rfl rfl rfl rfl ?_
  refine VO.op rfl (OpE.callW rfl hB rfl Tryz.call76 rfl (rf_LooksRead (by omega)) hG ?_)
  rintro _ rfl
  refine VO.le _ (Le.recast (t := 44) (y := .tup [avL rl, avI ri, avI re]) rfl (fun w Z u h => by rw [hrd] at h; exact h)) ?_
  refine VO.mv rfl rfl rfl rfl ?_
  refine VO.val rfl rfl (OpV.extract rfl rfl rfl) ?_
  refine VO.val rfl rfl (OpV.extract rfl rfl rfl) ?_
  refine VO.val rfl rfl (OpV.extract rfl rfl rfl) ?_
  refine VO.ma rfl rfl rfl rfl ?_
  refine VO.ma rfl rfl rfl rfl ?_
  refine VO.ma rfl rfl rfl rfl ?_
  refine VO.nil ?_
  refine VC.sr ?_
  refine VO.mv rfl rfl rfl rfl ?_
  refine VO.mv rfl rfl rfl rfl ?_
  refine VO.val rfl rfl (OpV.eql rfl rfl rfl) ?_
  refine VO.le _ (Le.boolT (t := 50) rfl (decide_eq_true rfl)) ?_
  refine VO.mv rfl rfl rfl rfl ?_
  refine VO.opY rfl rfl rfl rfl rfl ?_
  refine OpE.val (W := NoB) (OpV.move (.inl rfl) rfl) rfl ?_
  refine VO.opY rfl rfl rfl rfl rfl ?_
  refine OpE.val (W := NoB) (OpV.move (.inl rfl) rfl) rfl ?_
  refine VO.opY rfl rfl rfl rfl rfl ?_
  refine OpE.val (W := NoB) (OpV.seql rfl rfl rfl) rfl ?_
  refine VO.le _ (Le.boolT (t := 54) rfl (sEq_refl _)) ?_
  refine VO.val rfl rfl (OpV.pickT rfl rfl rfl rfl rfl) ?_
  refine VO.mv rfl rfl rfl rfl ?_
  refine VO.opY rfl rfl rfl rfl rfl ?_
  refine OpE.val (W := NoB) (OpV.move (.inl rfl) rfl) rfl ?_
  refine VO.opY rfl rfl rfl rfl rfl ?_
  refine OpE.val (W := NoB) (OpV.move (.inl rfl) rfl) rfl ?_
  refine VO.opY rfl rfl rfl rfl rfl ?_
  refine OpE.call rfl hB rfl Tryz.call77 rfl (SpecN.spec (slices_Equal_lk (by omega) (by omega))) ?_
  rintro _ rfl
  refine VO.le _ (Le.boolT (t := 59) rfl (eqLs_self eqLk_self _)) ?_
  refine VO.val rfl rfl (OpV.pickT rfl rfl rfl rfl rfl) ?_
  refine VO.mv rfl rfl rfl rfl ?_
  refine VO.opY rfl rfl rfl rfl rfl ?_
  refine OpE.val (W := NoB) (OpV.move (.inl rfl) rfl) rfl ?_
  refine VO.opY rfl rfl rfl rfl rfl ?_
  refine OpE.val (W := NoB) (OpV.move (.inl rfl) rfl) rfl ?_
  refine VO.opY rfl rfl rfl rfl rfl ?_
  refine OpE.val (W := NoB) (OpV.eql rfl rfl rfl) rfl ?_
  refine VO.le _ (Le.boolT (t := 64) rfl (decide_eq_true rfl)) ?_
  refine VO.val rfl rfl (OpV.pickT rfl rfl rfl rfl rfl) ?_
  refine VO.mv rfl rfl rfl rfl ?_
  refine VO.opY rfl rfl rfl rfl rfl ?_
  refine OpE.val (W := NoB) (OpV.move (.inl rfl) rfl) rfl ?_
  refine VO.opY rfl rfl rfl rfl rfl ?_
  refine OpE.val (W := NoB) (OpV.move (.inl rfl) rfl) rfl ?_
  refine VO.opY rfl rfl rfl rfl rfl ?_
  refine OpE.val (W := NoB) (OpV.eql rfl rfl rfl) rfl ?_
  refine VO.le _ (Le.boolT (t := 69) rfl (decide_eq_true rfl)) ?_
  refine VO.val rfl rfl (OpV.pickT rfl rfl rfl rfl rfl) ?_
  refine VO.mv rfl rfl rfl rfl ?_
  refine VO.opY rfl rfl rfl rfl rfl ?_
  refine OpE.call rfl hB rfl Tryz.call44 rfl (SpecN.spec (rl_looked)) ?_
  rintro _ rfl
  refine VO.val rfl rfl (OpV.pickT rfl rfl rfl rfl rfl) ?_
  refine VO.ma rfl rfl rfl rfl ?_
  refine VO.nil ?_
  refine VC.ret ?_
  exact And.intro rfl rfl
end Go.Proofs.YtdnlhdilpdeecaaGreatDoor
