/- Part 2 of a proof: the walks and laws that it needs. -/
import Derived.Lib.SlTrimSet
import Derived.Test.YtcploodfholkkaaGreatDoorProg
import Derived.Lib.AppendZerosOnto
import Derived.Lib.Overlaps
import Derived.MapKept
import Derived.Shelf.SlIter.Nil
import Derived.Shelf.SortM.Plain
import Derived.Shelf.SortM.SortNone
import Derived.Ground.GgzProg
import Derived.Ground.SlgmProg
import Derived.StringKeys
import Derived.Test.YtcploodfholkkaaGreatDoorZM1
set_option linter.unusedVariables false
set_option linter.unusedSimpArgs false
namespace Go.Proofs.YtcploodfholkkaaGreatDoor
open Go.RowKit
set_option maxRecDepth 100000
section
def inB (l : List UInt8) (b : UInt8) : Bool := decide (0 ≤ Lib.indexByte l b)
def smallsB : List UInt8 := [97, 98, 99, 100, 101, 102, 103, 104, 105, 106, 107, 108, 109, 110, 111, 112, 113, 114, 115, 116, 117, 118, 119, 120, 121, 122]
def keysB : List UInt8 := smallsB ++ [48, 49, 50, 51, 52, 53, 54, 55, 56, 57, 45, 95]
def keyF (s : ByteArray) : Bool := decide (1 ≤ s.size) && decide (s.size ≤ 40) && (s.data.toList.take 1).all (inB smallsB) && s.data.toList.all (inB keysB)
theorem argsV2 {u v : Value} {w : World} {A : Nat → Prop} {us : Array Value} (h : Args w A [.v u, .v v] us) : us = #[u, v] := by
 obtain ⟨h1, h2⟩ := h
 have e0 := (h2 0 (by simp)).eq_v
 have e1 := (h2 1 (by simp)).eq_v
 apply Array.ext (by simpa using h1)
 intro i hi hi'
 simp at hi'
 rw [h1] at hi
 match i, hi' with
 | 0, _ => simpa [Array.getD_eq_getD_getElem?, h1] using e0
 | 1, _ => simpa [Array.getD_eq_getD_getElem?, h1] using e1
theorem Chg.ofBelowN {w w' : World} (h : Below w.heap.size w w') : Chg NoB w w' := ⟨h.os, h.tape, h.output, h.size, fun k hk _ => h.block k hk⟩
theorem strings_IndexByte_S {s : ByteArray} {c : Int} : SpecN Tryz.prog 312 [avS s, .v (.int .u8 c)] (fun y => y = avI (Lib.indexByte s.data.toList c.toNat.toUInt8)) := by
 intro w us ha
 rw [argsV2 ha]
 refine (Tryz.strings_IndexByte s c w).mono ?_
 rintro e w' ⟨rfl, rfl⟩
 exact ⟨_, _, rfl, rfl, .v _, Chg.refl _ _, trivial⟩
theorem strings_Trim_S {s cs : ByteArray} (hs : s.size ≤ 9223372036854775807) (hcs : cs.size < 4294967281) (hascii : ∀ (j : Nat) b, cs.data.toList[j]? = some b → b.toNat < 128) :
  SpecN Tryz.prog 296 [avS s, avS cs] (fun y => y = avS ⟨(Lib.trimS s.data.toList cs.data.toList).toArray⟩) := by
 intro w us ha
 rw [argsV2 ha]
 refine (Tryz.strings_Trim s cs w hs hcs hascii).mono ?_
 rintro e w' ⟨rfl, h⟩
 exact ⟨_, _, rfl, rfl, .v _, .ofBelowN h, trivial⟩
theorem lenB (p : ByteArray) : p.data.toList.length = p.size := by have := Lib.size_eq p; omega
theorem byteAt {p : ByteArray} {i : Nat} (h : i < p.size) : ((p[i].toNat : Int)).toNat.toUInt8 = p.data.toList.getD i 0 := by
 have : p[i] = p.data[i] := rfl
 rw [this]
 have h' : i < p.data.size := h
 simp [List.getD_eq_getElem?_getD]
 rw [Array.getElem?_eq_getElem h']; rfl
theorem rf_only {p cs : ByteArray} (hp : p.size ≤ 1000000000) :
  SpecN Tryz.prog 229 [avS p, avS cs] (fun y => y = avB (p.data.toList.all (inB cs.data.toList))) := by
 refine SpecN.of_VCN Tryz.func229 rfl Tryz.ntmps229 (Nle rfl) fun w A hB => ?_
 refine VC.sr ?_
 refine VO.mb ?_
 refine VO.nil ?_
 refine VC.seq ?_
 refine VC.sr ?_
 refine VO.mw ?_
 refine VO.vv (OpV.len_s rfl Tryz.underlying9 rfl) ?_
 refine VO.mw ?_
 refine VO.nil ?_
 refine VC.block ?_
 refine VC.loopK [] trivial ({q : Nat // q ≤ p.size ∧ ∀ j, j < q → inB cs.data.toList (p.data.toList.getD j 0) = true}) (fun (iZ : {q : Nat // q ≤ p.size ∧ ∀ j, j < q → inB cs.data.toList (p.data.toList.getD j 0) = true}) => match iZ with | ⟨q, hq, hn⟩ => [(0, avS p), (1, avS cs), (7, avI p.size), (8, avI (q : Int))]) (fun (iZ : {q : Nat // q ≤ p.size ∧ ∀ j, j < q → inB cs.data.toList (p.data.toList.getD j 0) = true}) => match iZ with | ⟨q, hq, hn⟩ => []) (fun (iZ : {q : Nat // q ≤ p.size ∧ ∀ j, j < q → inB cs.data.toList (p.data.toList.getD j 0) = true}) => match iZ with | ⟨q, hq, hn⟩ => 0) (fun (iZ : {q : Nat // q ≤ p.size ∧ ∀ j, j < q → inB cs.data.toList (p.data.toList.getD j 0) = true}) => match iZ with | ⟨q, hq, hn⟩ => p.size - q) ⟨0, Nat.zero_le _, fun j hj => absurd hj (Nat.not_lt_zero j)⟩ (Le.mk hB [] ⟨rfl, rfl, rfl, rfl, trivial⟩ rfl rfl (Nat.le_refl _)) ?_
 rintro ⟨q, hq, hn⟩
 show VC _ _ _ _ ⟨[(0, avS p), (1, avS cs), (7, avI p.size), (8, avI (q : Int))] ++ [], [], 0⟩
 refine VC.sr ?_
 refine VO.vv (OpV.lss rfl rfl rfl) ?_
 refine VO.nil ?_
 refine VC.seq ?_
 refine VC.cond rfl (fun aH1b => ?_) (fun aH1b => ?_)
 ·have aH1 := aH1b
  try simp only [qq] at aH1
  refine VC.skip ?_
  refine VC.seq ?_
  refine VC.block ?_
  refine VC.sr ?_
  refine VO.mw ?_
  refine VO.mb ?_
  refine VO.nil ?_
  refine VC.sr ?_
  refine VO.mw ?_
  refine VO.mw ?_
  refine VO.mw ?_
  refine VO.vv (OpV.index_s rfl Tryz.underlying9 rfl rfl (by omega) (by omega)) ?_
  refine VO.op rfl (OpE.call rfl hB rfl Tryz.call312 rfl (SpecN.spec (strings_IndexByte_S)) ?_)
  rintro _ rfl
  refine VO.vv (OpV.lss rfl rfl rfl) ?_
  refine VO.nil ?_
  refine VC.cond rfl (fun hcb => ?_) (fun hcb => ?_)
  ·have hc := hcb
   try simp only [qq] at hc
   have hj : inB cs.data.toList (p.data.toList.getD q 0) = false := by unfold inB; rw [← byteAt (by omega)]; exact decide_eq_false (Int.not_le.2 hc)
   refine VC.sr ?_
   refine VO.mb ?_
   refine VO.nil ?_
   refine VC.ret ?_
   exact Exists.intro _ (And.intro (RetN.one Tryz.results229 (ResN.v rfl)) (by first | (rw [all_no (d := 0) (q := q) (by first | assumption | (simp; omega)) (by assumption)]) | (rw [all_yes (d := 0) (fun j hj => hn j (by have := lenB p; omega))])))
  ·have hc := hcb
   try simp only [qq] at hc
   have hj : inB cs.data.toList (p.data.toList.getD q 0) = true := by unfold inB; rw [← byteAt (by omega)]; exact decide_eq_true hc
   refine VC.skip ?_
   refine VC.region ?_
   refine VO.vv (OpV.add rfl rfl rfl (by unfold fits; omega)) ?_
   refine VO.mw ?_
   refine VO.nil ?_
   exact Exists.intro (⟨q + 1, by omega, lt_succ_cases hn (by assumption)⟩) (And.intro (Le.mk hB [] ⟨rfl, rfl, rfl, rfl, trivial⟩ rfl rfl (Nat.le_refl _)) (by first | omega | (show _ < _; omega) | (simp only []; omega)))
 ·have aH1 := aH1b
  try simp only [qq] at aH1
  refine VC.exit ?_
  refine VC.sr ?_
  refine VO.mb ?_
  refine VO.nil ?_
  refine VC.ret ?_
  exact Exists.intro _ (And.intro (RetN.one Tryz.results229 (ResN.v rfl)) (by first | (rw [all_no (d := 0) (q := q) (by first | assumption | (simp; omega)) (by assumption)]) | (rw [all_yes (d := 0) (fun j hj => hn j (by have := lenB p; omega))])))
theorem sEq_empty {p : ByteArray} : sEq p ⟨#[]⟩ = decide (p.size = 0) := by
 cases h : sEq p ⟨#[]⟩ with
 | true => rw [sEq_eq.1 h]; rfl
 | false =>
  refine (decide_eq_false fun e => ?_).symm
  have : p.data.toList = [] := List.eq_nil_of_length_eq_zero (by rw [lenB]; exact e)
  have : p = ⟨#[]⟩ := by cases p; simp at this; rw [this]
  rw [this] at h; rw [sEq_eq.2 rfl] at h; cases h
theorem pos_of_ne {p : ByteArray} (h : sEq p ⟨#[]⟩ = false) : 0 < p.size := by
 rw [sEq_empty] at h
 have := of_decide_eq_false h
 omega
theorem inB_contains (l : List UInt8) (b : UInt8) : inB l b = l.contains b := by
 induction l with
 | nil => rfl
 | cons x r ih =>
  unfold inB at ih ⊢
  rw [List.contains_cons, Lib.indexByte]
  have hge := Lib.indexByte_ge r b
  by_cases hx : x = b
  ·subst hx; simp
  ·have h1 : (x == b) = false := by simpa using hx
   have h2 : (b == x) = false := by simpa using fun e => hx e.symm
   rw [h1, h2, Bool.false_or, ← ih]
   simp only [Bool.false_eq_true, if_false]
   split
   ·rename_i e
    have : Lib.indexByte r b = -1 := by simpa using e
    rw [this]
   ·rename_i e
    have : Lib.indexByte r b ≠ -1 := by simpa using e
    congr 1
    exact propext ⟨fun _ => by omega, fun _ => by omega⟩
theorem dropWhile_nil {α : Type} {p : α → Bool} {l : List α} : l.dropWhile p = [] ↔ l.all p = true := by
 induction l with
 | nil => simp
 | cons x r ih =>
  by_cases h : p x = true
  ·simp [List.dropWhile, h, ih]
  ·simp [List.dropWhile, h]
theorem trimS_all (l cs : List UInt8) : Lib.trimS l cs = [] ↔ l.all (inB cs) = true := by
 have e : (inB cs) = (fun b => cs.contains b) := funext (inB_contains cs)
 rw [e]
 unfold Lib.trimS Lib.trimLeftS
 rw [dropWhile_nil]
 unfold Lib.trimRightS
 rw [List.all_reverse]
 have hsplit : l.reverse.takeWhile (cs.contains ·) ++ l.reverse.dropWhile (cs.contains ·) = l.reverse := List.takeWhile_append_dropWhile
 have h1 : l.all (fun b => cs.contains b) = l.reverse.all (fun b => cs.contains b) := by rw [List.all_reverse]
 rw [h1, ← hsplit, List.all_append]
 have h2 : (l.reverse.takeWhile (cs.contains ·)).all (fun b => cs.contains b) = true := List.all_takeWhile
 rw [h2, Bool.true_and, hsplit]
theorem take1 (p : ByteArray) : (p.extract 0 1).data.toList = p.data.toList.take 1 := by simp
theorem keyF_len {p : ByteArray} (h : (decide (1 ≤ (p.size : Int)) && decide ((p.size : Int) ≤ 40)) = false) : keyF p = false := by
 unfold keyF
 have e1 : decide (1 ≤ p.size) = decide (1 ≤ (p.size : Int)) := by congr 1; exact propext ⟨fun _ => by omega, fun _ => by omega⟩
 have e2 : decide (p.size ≤ 40) = decide ((p.size : Int) ≤ 40) := by congr 1; exact propext ⟨fun _ => by omega, fun _ => by omega⟩
 rw [e1, e2, h]; simp
theorem keyF_ok {p : ByteArray} (h : (decide (1 ≤ (p.size : Int)) && decide ((p.size : Int) ≤ 40)) = true) : keyF p = ((p.data.toList.take 1).all (inB smallsB) && p.data.toList.all (inB keysB)) := by
 unfold keyF
 have e1 : decide (1 ≤ p.size) = decide (1 ≤ (p.size : Int)) := by congr 1; exact propext ⟨fun _ => by omega, fun _ => by omega⟩
 have e2 : decide (p.size ≤ 40) = decide ((p.size : Int) ≤ 40) := by congr 1; exact propext ⟨fun _ => by omega, fun _ => by omega⟩
 rw [e1, e2, h]; simp
theorem keyF_1 {p : ByteArray} (h0 : (decide (1 ≤ (p.size : Int)) && decide ((p.size : Int) ≤ 40)) = true) (h : (p.extract 0 1).data.toList.all (inB smallsB) = false) : keyF p = false := by
 rw [keyF_ok h0, ← take1, h]; rfl
theorem keyF_2 {p : ByteArray} (h0 : (decide (1 ≤ (p.size : Int)) && decide ((p.size : Int) ≤ 40)) = true) (h : (p.extract 0 1).data.toList.all (inB smallsB) = true) : keyF p = p.data.toList.all (inB keysB) := by
 rw [keyF_ok h0, ← take1, h]; rfl
theorem kI_0 {p : ByteArray} (h : (!sEq p ⟨#[]⟩) = false) : keyF p = false := by
 have e : p = ⟨#[]⟩ := sEq_eq.1 (by simpa using h)
 subst e; rfl
theorem kI_len {p : ByteArray} (h : decide ((p.size : Int) ≤ 40) = false) : keyF p = false := keyF_len (by rw [h]; simp)
theorem kI_first {p : ByteArray} (h : 0 < p.size) : (p.data.toList.take 1).all (inB smallsB) = decide (0 ≤ Lib.indexByte smallsB ((p[0].toNat : Int)).toNat.toUInt8) := by
 rw [byteAt h]
 have hl := lenB p
 cases e : p.data.toList with
 | nil => rw [e] at hl; simp at hl; omega
 | cons x r => simp [inB]
theorem kI_in {p : ByteArray} (h0 : (!sEq p ⟨#[]⟩) = true) (h1 : decide ((p.size : Int) ≤ 40) = true) : 0 < p.size ∧ (decide (1 ≤ (p.size : Int)) && decide ((p.size : Int) ≤ 40)) = true := by
 have := pos_of_ne (p := p) (by simpa using h0)
 exact ⟨this, by rw [h1, decide_eq_true (by omega)]; rfl⟩
theorem kI_1 {p : ByteArray} (h0 : (!sEq p ⟨#[]⟩) = true) (h1 : decide ((p.size : Int) ≤ 40) = true) {hp : 0 < p.size} (h2 : decide (0 ≤ Lib.indexByte smallsB ((p[0].toNat : Int)).toNat.toUInt8) = false) : keyF p = false := by
 obtain ⟨h3, h4⟩ := kI_in h0 h1
 rw [keyF_ok h4, kI_first h3, h2]; rfl
theorem kI_2 {p : ByteArray} (h0 : (!sEq p ⟨#[]⟩) = true) (h1 : decide ((p.size : Int) ≤ 40) = true) {hp : 0 < p.size} (h2 : decide (0 ≤ Lib.indexByte smallsB ((p[0].toNat : Int)).toNat.toUInt8) = true) : keyF p = sEq ⟨(Lib.trimS p.data.toList keysB).toArray⟩ ⟨#[]⟩ := by
 obtain ⟨h3, h4⟩ := kI_in h0 h1
 rw [keyF_ok h4, kI_first h3, h2, Bool.true_and]
 have ht := trimS_all p.data.toList keysB
 cases h5 : p.data.toList.all (inB keysB) with
 | true => rw [ht.2 h5]; exact (sEq_eq.2 rfl).symm
 | false =>
  cases h6 : sEq ⟨(Lib.trimS p.data.toList keysB).toArray⟩ ⟨#[]⟩ with
  | false => rfl
  | true =>
   have e := congrArg (fun b : ByteArray => b.data.toList) (sEq_eq.1 h6)
   simp at e
   rw [ht.1 e] at h5; cases h5
theorem rf_Key {p : ByteArray} (hp : p.size ≤ 1000000000) :
  SpecN Tryz.prog 156 [avS p] (fun y => y = avB (keyF p)) := by
 refine SpecN.of_VCN Tryz.func156 rfl Tryz.ntmps156 (Nle rfl) fun w A hB => ?_
 refine VC.sr ?_
 refine VO.mb ?_
 refine VO.nil ?_
 refine VC.sr ?_
 refine VO.mw ?_
 refine VO.vv (OpV.len_s rfl Tryz.underlying9 rfl) ?_
 refine VO.op rfl (OpE.call rfl hB rfl Tryz.call157 rfl (SpecN.spec (rf_in)) ?_)
 rintro _ rfl
 refine VO.mw ?_
 refine VO.opG rfl rfl rfl rfl (fun aK1b => ?_) (fun aK1b => ?_)
 ·replace aK1b : _ = true := aK1b
  have aK1 := aK1b
  try simp only [qq, Bool.and_eq_true] at aK1
  refine OpE.val (W := NoB) (OpV.move (.inl rfl) rfl) rfl ?_
  refine VO.opY rfl rfl rfl rfl aK1b ?_
  refine OpE.val (W := NoB) (OpV.slice_s (h := 1) rfl Tryz.underlying9 rfl rfl ⟨_, _, rfl, rfl⟩ (by omega) (by omega)) rfl ?_
  refine VO.opY rfl rfl rfl rfl aK1b ?_
  refine OpE.call rfl hB rfl Tryz.call229 rfl (SpecN.spec (rf_only (by rw [ByteArray.size_extract]; omega))) ?_
  rintro _ rfl
  refine VO.vv (OpV.pickT rfl rfl rfl rfl aK1b) ?_
  refine VO.mw ?_
  refine VO.opG rfl rfl rfl rfl (fun aK2b => ?_) (fun aK2b => ?_)
  ·replace aK2b : _ = true := aK2b
   have aK2 := aK2b
   try simp only [qq, Bool.and_eq_true] at aK2
   refine OpE.val (W := NoB) (OpV.move (.inl rfl) rfl) rfl ?_
   refine VO.opY rfl rfl rfl rfl aK2b ?_
   refine OpE.call rfl hB rfl Tryz.call229 rfl (SpecN.spec ((rf_only (by omega)))) ?_
   rintro _ rfl
   refine VO.vv (OpV.pickT rfl rfl rfl rfl aK2b) ?_
   refine VO.mb ?_
   refine VO.nil ?_
   refine VC.ret ?_
   exact Exists.intro _ (And.intro (RetN.one Tryz.results156 (ResN.v rfl)) (by first | rw [keyF_len (by assumption)] | rw [keyF_1 (by assumption) (by assumption)] | (rw [keyF_2 (by assumption) (by assumption)]; rfl)))
  ·replace aK2b : _ = false := aK2b
   have aK2 := aK2b
   try simp only [qq, Bool.and_eq_true] at aK2
   refine VO.opX rfl rfl rfl rfl aK2b ?_
   refine VO.vv (OpV.pickF rfl rfl rfl rfl aK2b) ?_
   refine VO.mb ?_
   refine VO.nil ?_
   refine VC.ret ?_
   exact Exists.intro _ (And.intro (RetN.one Tryz.results156 (ResN.v rfl)) (by first | rw [keyF_len (by assumption)] | rw [keyF_1 (by assumption) (by assumption)] | (rw [keyF_2 (by assumption) (by assumption)]; rfl)))
 ·replace aK1b : _ = false := aK1b
  have aK1 := aK1b
  try simp only [qq, Bool.and_eq_true] at aK1
  refine VO.opX rfl rfl rfl rfl aK1b ?_
  refine VO.opX rfl rfl rfl rfl aK1b ?_
  refine VO.vv (OpV.pickF rfl rfl rfl rfl aK1b) ?_
  refine VO.mw ?_
  refine VO.opX rfl rfl rfl rfl rfl ?_
  refine VO.opX rfl rfl rfl rfl rfl ?_
  refine VO.vv (OpV.pickF rfl rfl rfl rfl rfl) ?_
  refine VO.mb ?_
  refine VO.nil ?_
  refine VC.ret ?_
  exact Exists.intro _ (And.intro (RetN.one Tryz.results156 (ResN.v rfl)) (by first | rw [keyF_len (by assumption)] | rw [keyF_1 (by assumption) (by assumption)] | (rw [keyF_2 (by assumption) (by assumption)]; rfl)))
theorem kit_IsKey {p : ByteArray} (hp : p.size ≤ 1000000000) :
  SpecN Tryz.prog 230 [avS p] (fun y => y = avB (keyF p)) := by
 refine SpecN.of_VCN Tryz.func230 rfl Tryz.ntmps230 (Nle rfl) fun w A hB => ?_
 refine VC.sr ?_
 refine VO.mb ?_
 refine VO.nil ?_
 refine VC.sr ?_
 refine VO.mw ?_
 refine VO.vv (OpV.sneq rfl rfl rfl) ?_
 refine VO.mw ?_
 refine VO.opG rfl rfl rfl rfl (fun aK1b => ?_) (fun aK1b => ?_)
 ·replace aK1b : _ = true := aK1b
  have aK1 := aK1b
  try simp only [qq] at aK1
  refine OpE.val (W := NoB) (OpV.move (.inl rfl) rfl) rfl ?_
  refine VO.opY rfl rfl rfl rfl aK1b ?_
  refine OpE.val (W := NoB) (OpV.len_s rfl Tryz.underlying9 rfl) rfl ?_
  refine VO.opY rfl rfl rfl rfl aK1b ?_
  refine OpE.val (W := NoB) (OpV.leq rfl rfl rfl) rfl ?_
  refine VO.vv (OpV.pickT rfl rfl rfl rfl aK1b) ?_
  refine VO.mw ?_
  refine VO.opG rfl rfl rfl rfl (fun aK2b => ?_) (fun aK2b => ?_)
  ·replace aK2b : _ = true := aK2b
   have aK2 := aK2b
   try simp only [qq] at aK2
   refine OpE.val (W := NoB) (OpV.move (.inl rfl) rfl) rfl ?_
   refine VO.opY rfl rfl rfl rfl aK2b ?_
   refine OpE.val (W := NoB) (OpV.index_s rfl Tryz.underlying9 rfl rfl (by omega) (by have h := pos_of_ne (p := p) (by assumption); simpa using h)) rfl ?_
   refine VO.opY rfl rfl rfl rfl aK2b ?_
   refine OpE.call rfl hB rfl Tryz.call312 rfl (SpecN.spec (strings_IndexByte_S)) ?_
   rintro _ rfl
   refine VO.opY rfl rfl rfl rfl aK2b ?_
   refine OpE.val (W := NoB) (OpV.geq rfl rfl rfl) rfl ?_
   refine VO.vv (OpV.pickT rfl rfl rfl rfl aK2b) ?_
   refine VO.mw ?_
   refine VO.opG rfl rfl rfl rfl (fun aK3b => ?_) (fun aK3b => ?_)
   ·replace aK3b : _ = true := aK3b
    have aK3 := aK3b
    try simp only [qq] at aK3
    refine OpE.val (W := NoB) (OpV.move (.inl rfl) rfl) rfl ?_
    refine VO.opY rfl rfl rfl rfl aK3b ?_
    refine OpE.call rfl hB rfl Tryz.call296 rfl (SpecN.spec (strings_Trim_S (by omega) (by decide) (ascii_of_all (by decide)))) ?_
    rintro _ rfl
    refine VO.opY rfl rfl rfl rfl aK3b ?_
    refine OpE.val (W := NoB) (OpV.seql rfl rfl rfl) rfl ?_
    refine VO.vv (OpV.pickT rfl rfl rfl rfl aK3b) ?_
    refine VO.mb ?_
    refine VO.nil ?_
    refine VC.ret ?_
    exact Exists.intro _ (And.intro (RetN.one Tryz.results230 (ResN.v rfl)) (by first | rw [kI_0 (by assumption)] | rw [kI_len (by assumption)] | (rw [kI_1 (by assumption) (by assumption) (by assumption)]) | (rw [kI_2 (by assumption) (by assumption) (by assumption)]; rfl)))
   ·replace aK3b : _ = false := aK3b
    have aK3 := aK3b
    try simp only [qq] at aK3
    refine VO.opX rfl rfl rfl rfl aK3b ?_
    refine VO.opX rfl rfl rfl rfl aK3b ?_
    refine VO.vv (OpV.pickF rfl rfl rfl rfl aK3b) ?_
    refine VO.mb ?_
    refine VO.nil ?_
    refine VC.ret ?_
    exact Exists.intro _ (And.intro (RetN.one Tryz.results230 (ResN.v rfl)) (by first | rw [kI_0 (by assumption)] | rw [kI_len (by assumption)] | (rw [kI_1 (by assumption) (by assumption) (by assumption)]) | (rw [kI_2 (by assumption) (by assumption) (by assumption)]; rfl)))
  ·replace aK2b : _ = false := aK2b
   have aK2 := aK2b
   try simp only [qq] at aK2
   refine VO.opX rfl rfl rfl rfl aK2b ?_
   refine VO.opX rfl rfl rfl rfl aK2b ?_
   refine VO.opX rfl rfl rfl rfl aK2b ?_
   refine VO.vv (OpV.pickF rfl rfl rfl rfl aK2b) ?_
   refine VO.mw ?_
   refine VO.opX rfl rfl rfl rfl rfl ?_
   refine VO.opX rfl rfl rfl rfl rfl ?_
   refine VO.opX rfl rfl rfl rfl rfl ?_
   refine VO.vv (OpV.pickF rfl rfl rfl rfl rfl) ?_
   refine VO.mb ?_
   refine VO.nil ?_
   refine VC.ret ?_
   exact Exists.intro _ (And.intro (RetN.one Tryz.results230 (ResN.v rfl)) (by first | rw [kI_0 (by assumption)] | rw [kI_len (by assumption)] | (rw [kI_1 (by assumption) (by assumption) (by assumption)]) | (rw [kI_2 (by assumption) (by assumption) (by assumption)]; rfl)))
 ·replace aK1b : _ = false := aK1b
  have aK1 := aK1b
  try simp only [qq] at aK1
  refine VO.opX rfl rfl rfl rfl aK1b ?_
  refine VO.opX rfl rfl rfl rfl aK1b ?_
  refine VO.vv (OpV.pickF rfl rfl rfl rfl aK1b) ?_
  refine VO.mw ?_
  refine VO.opX rfl rfl rfl rfl rfl ?_
  refine VO.opX rfl rfl rfl rfl rfl ?_
  refine VO.opX rfl rfl rfl rfl rfl ?_
  refine VO.opX rfl rfl rfl rfl rfl ?_
  refine VO.vv (OpV.pickF rfl rfl rfl rfl rfl) ?_
  refine VO.mw ?_
  refine VO.opX rfl rfl rfl rfl rfl ?_
  refine VO.opX rfl rfl rfl rfl rfl ?_
  refine VO.opX rfl rfl rfl rfl rfl ?_
  refine VO.vv (OpV.pickF rfl rfl rfl rfl rfl) ?_
  refine VO.mb ?_
  refine VO.nil ?_
  refine VC.ret ?_
  exact Exists.intro _ (And.intro (RetN.one Tryz.results230 (ResN.v rfl)) (by first | rw [kI_0 (by assumption)] | rw [kI_len (by assumption)] | (rw [kI_1 (by assumption) (by assumption) (by assumption)]) | (rw [kI_2 (by assumption) (by assumption) (by assumption)]; rfl)))
end
section
theorem slices_Index_str {xs : List ByteArray} {v : ByteArray} (hl : xs.length ≤ 1000000000) :
  SpecN Tryz.prog 170 [avStrs xs, avS v] (fun y => y = avI (fidx (fun x => sEq v x) xs)) := by
 refine SpecN.of_VCN Tryz.func170 rfl Tryz.ntmps170 (Nle rfl) fun w A hB => ?_
 refine VC.sr ?_
 refine VO.mb ?_
 refine VO.nil ?_
 refine VC.seq ?_
 refine VC.sr ?_
 refine VO.mw ?_
 refine VO.vv (OpV.len_im rfl Tryz.underlying82 rfl) ?_
 refine VO.mw ?_
 refine VO.nil ?_
 refine VC.block ?_
 refine VC.loopK [] trivial ({q : Nat // q ≤ xs.length ∧ ∀ j, j < q → sEq v (xs.getD j ByteArray.empty) = false}) (fun (iZ : {q : Nat // q ≤ xs.length ∧ ∀ j, j < q → sEq v (xs.getD j ByteArray.empty) = false}) => match iZ with | ⟨q, hq, hn⟩ => [(0, avStrs xs), (1, avS v), (6, avStrs xs), (7, avI xs.length), (8, avI (q : Int))]) (fun (iZ : {q : Nat // q ≤ xs.length ∧ ∀ j, j < q → sEq v (xs.getD j ByteArray.empty) = false}) => match iZ with | ⟨q, hq, hn⟩ => []) (fun (iZ : {q : Nat // q ≤ xs.length ∧ ∀ j, j < q → sEq v (xs.getD j ByteArray.empty) = false}) => match iZ with | ⟨q, hq, hn⟩ => 0) (fun (iZ : {q : Nat // q ≤ xs.length ∧ ∀ j, j < q → sEq v (xs.getD j ByteArray.empty) = false}) => match iZ with | ⟨q, hq, hn⟩ => xs.length - q) ⟨0, Nat.zero_le _, fun j hj => absurd hj (Nat.not_lt_zero j)⟩ (Le.mk hB [] ⟨rfl, rfl, rfl, rfl, rfl, trivial⟩ rfl rfl (Nat.le_refl _)) ?_
 rintro ⟨q, hq, hn⟩
 show VC _ _ _ _ ⟨[(0, avStrs xs), (1, avS v), (6, avStrs xs), (7, avI xs.length), (8, avI (q : Int))] ++ [], [], 0⟩
 refine VC.sr ?_
 refine VO.vv (OpV.lss rfl rfl rfl) ?_
 refine VO.nil ?_
 refine VC.seq ?_
 refine VC.cond rfl (fun aH1b => ?_) (fun aH1b => ?_)
 ·have aH1 := aH1b
  try simp only [qq] at aH1
  refine VC.skip ?_
  refine VC.seq ?_
  refine VC.block ?_
  refine VC.sr ?_
  refine VO.mw ?_
  refine VO.mb ?_
  refine VO.nil ?_
  refine VC.sr ?_
  refine VO.mw ?_
  refine VO.mw ?_
  refine VO.mw ?_
  refine VO.vv (OpV.indexAddr_1 rfl Tryz.underlying82 Tryz.sizeOf9 rfl rfl rfl (by omega)) ?_
  refine VO.vv (OpV.load_at rfl hB OutW.no Tryz.isAgg9 rfl rfl) ?_
  refine VO.vv (OpV.seql rfl rfl rfl) ?_
  refine VO.nil ?_
  refine VC.cond rfl (fun aH2b => ?_) (fun aH2b => ?_)
  ·have aH2 := aH2b
   try simp only [qq] at aH2
   refine VC.sr ?_
   refine VO.mw ?_
   refine VO.mb ?_
   refine VO.nil ?_
   refine VC.ret ?_
   exact Exists.intro _ (And.intro (RetN.one Tryz.results170 (ResN.v rfl)) (by first | (rw [fidx_found (d := ByteArray.empty) (q := q) (by omega) hn (by assumption)]) | (rw [fidx_none (d := ByteArray.empty) (fun j hj => hn j (by omega))])))
  ·have aH2 := aH2b
   try simp only [qq] at aH2
   refine VC.skip ?_
   refine VC.region ?_
   refine VO.vv (OpV.add rfl rfl rfl (by unfold fits; omega)) ?_
   refine VO.mw ?_
   refine VO.nil ?_
   exact Exists.intro (⟨q + 1, by omega, lt_succ_cases hn (by assumption)⟩) (And.intro (Le.mk hB [] ⟨rfl, rfl, rfl, rfl, rfl, trivial⟩ rfl rfl (Nat.le_refl _)) (by first | omega | (show _ < _; omega) | (simp only []; omega)))
 ·have aH1 := aH1b
  try simp only [qq] at aH1
  refine VC.exit ?_
  refine VC.sr ?_
  refine VO.mb ?_
  refine VO.nil ?_
  refine VC.ret ?_
  exact Exists.intro _ (And.intro (RetN.one Tryz.results170 (ResN.v rfl)) (by first | (rw [fidx_found (d := ByteArray.empty) (q := q) (by omega) hn (by assumption)]) | (rw [fidx_none (d := ByteArray.empty) (fun j hj => hn j (by omega))])))
theorem slices_Contains_str {xs : List ByteArray} {v : ByteArray} (hl : xs.length ≤ 1000000000) :
  SpecN Tryz.prog 86 [avStrs xs, avS v] (fun y => y = avB (xs.any fun x => sEq v x)) := by
 refine SpecN.of_VCN Tryz.func86 rfl Tryz.ntmps86 (Nle rfl) fun w A hB => ?_
 refine VC.sr ?_
 refine VO.mb ?_
 refine VO.nil ?_
 refine VC.sr ?_
 refine VO.mw ?_
 refine VO.mw ?_
 refine VO.op rfl (OpE.call rfl hB rfl Tryz.call170 rfl (SpecN.spec ((slices_Index_str (by omega)))) ?_)
 rintro _ rfl
 refine VO.vv (OpV.geq rfl rfl rfl) ?_
 refine VO.mb ?_
 refine VO.nil ?_
 refine VC.ret ?_
 exact Exists.intro _ (And.intro (RetN.one Tryz.results86 (ResN.v rfl)) (by rw [← fidx_any]))
end
section
structure Mach where
 key : ByteArray
 each : Int
 fixed : Int
 feeders : Int
 can : List ByteArray
instance : Inhabited Mach := ⟨⟨ByteArray.empty, 0, 0, 0, []⟩⟩
instance : Sxc Mach where
 k := 5
 pos := by decide
 cell m j := match j with
  | 0 => avS m.key
  | 1 => avI m.each
  | 2 => avI m.fixed
  | 3 => avI m.feeders
  | 4 => avStrs m.can
  | _ => .any
structure NeedS where
 key : ByteArray
 count : Int
instance : Inhabited NeedS := ⟨⟨ByteArray.empty, 0⟩⟩
instance : Sxc NeedS where
 k := 2
 pos := by decide
 cell m j := match j with
  | 0 => avS m.key
  | 1 => avI m.count
  | _ => .any
def firstE (e : Nat → Int) : Nat → Int
 | 0 => 0
 | n + 1 => if firstE e n = 0 then e n else firstE e n
theorem firstE_none {e : Nat → Int} : ∀ {n : Nat}, (∀ j, j < n → e j = 0) → firstE e n = 0
 | 0, _ => rfl
 | n + 1, h => by
  rw [firstE, firstE_none (fun j hj => h j (by omega)), if_pos rfl]
  exact h n (by omega)
theorem firstE_found {e : Nat → Int} {q : Nat} (h : ∀ j, j < q → e j = 0) (hq : e q ≠ 0) : ∀ {n : Nat}, q < n → firstE e n = e q
 | 0, hn => by omega
 | n + 1, hn => by
  rw [firstE]
  by_cases hqn : q = n
  ·subst hqn; rw [firstE_none h, if_pos rfl]
  ·have := firstE_found h hq (n := n) (by omega)
   rw [this, if_neg hq]
theorem firstE_zero {e : Nat → Int} : ∀ {n : Nat}, firstE e n = 0 → ∀ j, j < n → e j = 0
 | 0, _, j, hj => by omega
 | n + 1, h, j, hj => by
  rw [firstE] at h
  split at h
  ·rename_i h0
   by_cases hjn : j = n
   ·rw [hjn]; exact h
   ·exact firstE_zero h0 j (by omega)
  ·rename_i h0; exact absurd h h0
def sLe (p q : ByteArray) : Bool := sLt p q || sEq p q
def outR (n a b : Int) : Bool := decide (n < a) || decide (b < n)
def canE (l : List ByteArray) (i : Nat) : Int :=
 if keyF (l.getD i ByteArray.empty) = false then 5
 else if (decide (0 < i) && sLe (l.getD i ByteArray.empty) (l.getD (i - 1) ByteArray.empty)) = true then 7 else 0
def needE (ns : List NeedS) (lo hi : Int) (i : Nat) : Int :=
 if keyF (ns.getD i default).key = false then 5
 else if (decide (0 < i) && sLe (ns.getD i default).key (ns.getD (i - 1) default).key) = true then 7
 else if outR (ns.getD i default).count lo hi = true then 1 else 0
def needsF (ns : List NeedS) (lo hi : Int) : Int := if 1000 < ns.length then 2 else firstE (needE ns lo hi) ns.length
theorem canE_5 {l : List ByteArray} {i : Nat} (h : keyF (l.getD i ByteArray.empty) = false) : canE l i = 5 := by rw [canE, if_pos h]
theorem canE_7 {l : List ByteArray} {i : Nat} (h : keyF (l.getD i ByteArray.empty) = true) (hi : 0 < i) (hs : sLe (l.getD i ByteArray.empty) (l.getD (i - 1) ByteArray.empty) = true) : canE l i = 7 := by
 rw [canE, if_neg (by rw [h]; simp), if_pos (by rw [hs, decide_eq_true hi]; rfl)]
theorem canE_0 {l : List ByteArray} {i : Nat} (h : keyF (l.getD i ByteArray.empty) = true) (hs : i = 0 ∨ sLe (l.getD i ByteArray.empty) (l.getD (i - 1) ByteArray.empty) = false) : canE l i = 0 := by
 rw [canE, if_neg (by rw [h]; simp), if_neg]
 rcases hs with rfl | hs
 ·simp
 ·rw [hs]; simp
theorem needsF_big {l : List NeedS} {lo hi : Int} (h : 1000 < l.length) : needsF l lo hi = 2 := by rw [needsF, if_pos h]
theorem needsF_at {l : List NeedS} {lo hi e : Int} (h : l.length ≤ 1000) {q : Nat} (hq : q < l.length) (hn : ∀ j, j < q → needE l lo hi j = 0) (he : needE l lo hi q = e) (h0 : e ≠ 0) : needsF l lo hi = e := by
 rw [needsF, if_neg (by omega), firstE_found hn (by rw [he]; exact h0) hq, he]
theorem needsF_ok {l : List NeedS} {lo hi : Int} (h : l.length ≤ 1000) (hn : ∀ j, j < l.length → needE l lo hi j = 0) : needsF l lo hi = 0 := by
 rw [needsF, if_neg (by omega), firstE_none hn]
section
variable {l : List NeedS} {lo hi : Int} {i : Nat}
theorem needE_5 (h : keyF (l.getD i default).key = false) : needE l lo hi i = 5 := by rw [needE, if_pos h]
theorem needE_7 (h : keyF (l.getD i default).key = true) (hi' : 0 < i) (hs : sLe (l.getD i default).key (l.getD (i - 1) default).key = true) : needE l lo hi i = 7 := by
 rw [needE, if_neg (by rw [h]; simp), if_pos (by rw [hs, decide_eq_true hi']; rfl)]
theorem needE_x (h : keyF (l.getD i default).key = true) (hs : i = 0 ∨ sLe (l.getD i default).key (l.getD (i - 1) default).key = false) : needE l lo hi i = if outR (l.getD i default).count lo hi = true then 1 else 0 := by
 rw [needE, if_neg (by rw [h]; simp), if_neg]
 rcases hs with rfl | hs
 ·simp
 ·rw [hs]; simp
theorem needE_1 (h : keyF (l.getD i default).key = true) (hs : i = 0 ∨ sLe (l.getD i default).key (l.getD (i - 1) default).key = false) (ho : outR (l.getD i default).count lo hi = true) : needE l lo hi i = 1 := by rw [needE_x h hs, if_pos ho]
theorem needE_0 (h : keyF (l.getD i default).key = true) (hs : i = 0 ∨ sLe (l.getD i default).key (l.getD (i - 1) default).key = false) (ho : outR (l.getD i default).count lo hi = false) : needE l lo hi i = 0 := by rw [needE_x h hs, if_neg (by rw [ho]; simp)]
end
section
variable {ms : List Mach} {i : Nat}
end
theorem or2a {a b : Bool} (h : a = true) : (a || b) = true := by rw [h]; rfl
theorem or2b {a b : Bool} (h : b = true) : (a || b) = true := by rw [h, Bool.or_true]
theorem or2f {a b : Bool} (h : a = false) (h' : b = false) : (a || b) = false := by rw [h, h']; rfl
theorem or3a {a b c : Bool} (h : a = true) : (a || (b || c)) = true := by rw [h]; rfl
theorem or3b {a b c : Bool} (h : b = true) : (a || (b || c)) = true := by rw [h]; cases a <;> rfl
theorem or3c {a b c : Bool} (h : c = true) : (a || (b || c)) = true := by rw [h]; cases a <;> cases b <;> rfl
theorem or3f {a b c : Bool} (h1 : a = false) (h2 : b = false) (h3 : c = false) : (a || (b || c)) = false := by rw [h1, h2, h3]; rfl
theorem outR_in (n a b : Int) : outR n a b = !(decide (a ≤ n) && decide (n ≤ b)) := by
 unfold outR
 rw [Bool.eq_iff_iff]
 simp only [Bool.or_eq_true, decide_eq_true_eq, Bool.not_eq_true', Bool.and_eq_false_iff, decide_eq_false_iff_not]
 omega
theorem sLe_empty {p : ByteArray} (h : keyF p = true) : sLe p ⟨#[]⟩ = false := by
 unfold sLe
 have h1 : sLt p ⟨#[]⟩ = false := by
  unfold sLt
  rw [Lib.toList_data, Lib.toList_data]
  cases p.data.toList <;> rfl
 rw [h1, Bool.false_or, sEq_empty]
 refine decide_eq_false fun e => ?_
 have : keyF p = false := keyF_len (by rw [e]; rfl)
 rw [this] at h; cases h
end
section
abbrev ε : ByteArray := ⟨#[]⟩
def has (s : List ByteArray) (x : ByteArray) : Bool := s.any fun y => sEq x y
def setupE (s : List ByteArray) (i : Nat) : Int :=
 if sEq (s.getD i ByteArray.empty) ε = true then 0 else if keyF (s.getD i ByteArray.empty) = false then 5 else if has (s.take i) (s.getD i ByteArray.empty) = true then 6 else 0
def setupF (s : List ByteArray) : Int := if s.length = 0 then 8 else if 100 < s.length then 2 else firstE (setupE s) s.length
def partE (slots : Int) (l : List ByteArray) : Int := if slots < l.length then 12 else firstE (canE l) l.length
def partsF (slots : Int) (p : List (List ByteArray)) : Int := if outR slots 1 100 = true then 1 else if 200 < p.length then 2 else firstE (fun i => partE slots (p.getD i default)) p.length
def missF (s parts : List ByteArray) : List ByteArray := parts.filter fun x => !has s x
theorem setupF_none {s : List ByteArray} (h : s.length = 0) : setupF s = 8 := by rw [setupF, if_pos h]
theorem setupF_big {s : List ByteArray} (h : 100 < s.length) : setupF s = 2 := by rw [setupF, if_neg (by omega), if_pos h]
theorem setupF_at {s : List ByteArray} {e : Int} (h0 : 0 < s.length) (h : s.length ≤ 100) {q : Nat} (hq : q < s.length) (hn : ∀ j, j < q → setupE s j = 0) (he : setupE s q = e) (h1 : e ≠ 0) : setupF s = e := by
 rw [setupF, if_neg (by omega), if_neg (by omega), firstE_found hn (by rw [he]; exact h1) hq, he]
theorem setupF_ok {s : List ByteArray} (h0 : 0 < s.length) (h : s.length ≤ 100) (hn : ∀ j, j < s.length → setupE s j = 0) : setupF s = 0 := by
 rw [setupF, if_neg (by omega), if_neg (by omega), firstE_none hn]
theorem setupF_len {s : List ByteArray} (h : setupF s = 0) : 0 < s.length ∧ s.length ≤ 100 := by
 rw [setupF] at h
 split at h
 ·cases h
 ·split at h
  ·cases h
  ·omega
theorem setupF_zero {s : List ByteArray} (h : setupF s = 0) : ∀ j, j < s.length → setupE s j = 0 := by
 have hl := setupF_len h
 rw [setupF, if_neg (by omega), if_neg (by omega)] at h
 exact firstE_zero h
section
variable {s : List ByteArray} {i : Nat}
theorem setupE_e (h : sEq (s.getD i ByteArray.empty) ε = true) : setupE s i = 0 := by rw [setupE, if_pos h]
theorem setupE_5 (h : sEq (s.getD i ByteArray.empty) ε = false) (h2 : keyF (s.getD i ByteArray.empty) = false) : setupE s i = 5 := by rw [setupE, if_neg (by rw [h]; simp), if_pos h2]
theorem setupE_6 (h : sEq (s.getD i ByteArray.empty) ε = false) (h2 : keyF (s.getD i ByteArray.empty) = true) (h3 : has (s.take i) (s.getD i ByteArray.empty) = true) : setupE s i = 6 := by
 rw [setupE, if_neg (by rw [h]; simp), if_neg (by rw [h2]; simp), if_pos h3]
theorem setupE_0 (h : sEq (s.getD i ByteArray.empty) ε = false) (h2 : keyF (s.getD i ByteArray.empty) = true) (h3 : has (s.take i) (s.getD i ByteArray.empty) = false) : setupE s i = 0 := by
 rw [setupE, if_neg (by rw [h]; simp), if_neg (by rw [h2]; simp), if_neg (by rw [h3]; simp)]
end
section
variable {slots : Int} {p : List (List ByteArray)} {l : List ByteArray}
theorem partsF_1 (h : outR slots 1 100 = true) : partsF slots p = 1 := by rw [partsF, if_pos h]
theorem partsF_2 (h : outR slots 1 100 = false) (h2 : 200 < p.length) : partsF slots p = 2 := by rw [partsF, if_neg (by rw [h]; simp), if_pos h2]
theorem partsF_at (h : outR slots 1 100 = false) (h2 : p.length ≤ 200) {q : Nat} (hq : q < p.length) (hn : ∀ j, j < q → partE slots (p.getD j default) = 0) {e : Int} (he : partE slots (p.getD q default) = e) (h1 : e ≠ 0) : partsF slots p = e := by
 rw [partsF, if_neg (by rw [h]; simp), if_neg (by omega), firstE_found hn (by rw [he]; exact h1) hq, he]
theorem partsF_ok (h : outR slots 1 100 = false) (h2 : p.length ≤ 200) (hn : ∀ j, j < p.length → partE slots (p.getD j default) = 0) : partsF slots p = 0 := by
 rw [partsF, if_neg (by rw [h]; simp), if_neg (by omega), firstE_none hn]
theorem partsF_zero (h : partsF slots p = 0) : outR slots 1 100 = false ∧ p.length ≤ 200 ∧ ∀ j, j < p.length → partE slots (p.getD j default) = 0 := by
 rw [partsF] at h
 split at h
 ·cases h
 ·rename_i h1
  split at h
  ·cases h
  ·exact ⟨Bool.eq_false_iff.2 h1, by omega, firstE_zero h⟩
theorem partE_12 (h : slots < l.length) : partE slots l = 12 := by rw [partE, if_pos h]
theorem partE_at (h : ¬ slots < l.length) {q : Nat} (hq : q < l.length) (hn : ∀ j, j < q → canE l j = 0) {e : Int} (he : canE l q = e) (h1 : e ≠ 0) : partE slots l = e := by
 rw [partE, if_neg h, firstE_found hn (by rw [he]; exact h1) hq, he]
theorem partE_ok (h : ¬ slots < l.length) (hn : ∀ j, j < l.length → canE l j = 0) : partE slots l = 0 := by rw [partE, if_neg h, firstE_none hn]
theorem partE_zero (h : partE slots l = 0) : (l.length : Int) ≤ slots ∧ ∀ j, j < l.length → canE l j = 0 := by
 rw [partE] at h
 split at h
 ·cases h
 ·exact ⟨by omega, firstE_zero h⟩
end
theorem missF_yes {s p : List ByteArray} {q : Nat} (hq : q < p.length) (h : has s (p.getD q ByteArray.empty) = false) : missF s (p.take (q + 1)) = missF s (p.take q) ++ [p.getD q ByteArray.empty] := by
 rw [List.take_succ_eq_append_getElem hq]
 have e : p.getD q ByteArray.empty = p[q] := by simp [hq]
 rw [e] at h ⊢
 simp only [missF, List.filter_append, List.filter_cons, h, List.filter_nil, Bool.not_false, if_true]
theorem missF_no {s p : List ByteArray} {q : Nat} (hq : q < p.length) (h : has s (p.getD q ByteArray.empty) = true) : missF s (p.take (q + 1)) = missF s (p.take q) := by
 rw [List.take_succ_eq_append_getElem hq]
 have e : p.getD q ByteArray.empty = p[q] := by simp [hq]
 rw [e] at h
 simp only [missF, List.filter_append, List.filter_cons, h, List.filter_nil, Bool.not_true, if_false, List.append_nil, Bool.false_eq_true]
end
section
theorem bl_irr : ∀ x : List UInt8, Op.bytesLess x x = false
 | [] => rfl
 | a :: x => by
  rw [Op.bytesLess, bl_irr x]
  have : ¬ a < a := by rw [UInt8.lt_iff_toNat_lt]; omega
  simp [this]
theorem bl_trans : ∀ {x y z : List UInt8}, Op.bytesLess x y = true → Op.bytesLess y z = true → Op.bytesLess x z = true
 | _, [], _, h, _ => by simp [Op.bytesLess] at h
 | _, _ :: _, [], _, h => by simp [Op.bytesLess] at h
 | [], _ :: _, _ :: _, _, _ => rfl
 | a :: x, b :: y, c :: z, h1, h2 => by
  simp only [Op.bytesLess, Bool.or_eq_true, decide_eq_true_eq, Bool.and_eq_true, beq_iff_eq, UInt8.lt_iff_toNat_lt] at h1 h2 ⊢
  rcases h1 with h1 | ⟨rfl, h1⟩
  ·rcases h2 with h2 | ⟨rfl, h2⟩
   ·exact .inl (by omega)
   ·exact .inl h1
  ·rcases h2 with h2 | ⟨rfl, h2⟩
   ·exact .inl h2
   ·exact .inr ⟨rfl, bl_trans h1 h2⟩
theorem bl_total : ∀ {x y : List UInt8}, Op.bytesLess x y = false → x ≠ y → Op.bytesLess y x = true
 | [], [], _, h => absurd rfl h
 | _ :: _, [], _, _ => rfl
 | [], _ :: _, h, _ => by simp [Op.bytesLess] at h
 | a :: x, b :: y, h, hne => by
  simp only [Op.bytesLess, Bool.or_eq_false_iff, decide_eq_false_iff_not, Bool.and_eq_false_iff, beq_eq_false_iff_ne, UInt8.lt_iff_toNat_lt, Bool.or_eq_true, decide_eq_true_eq, Bool.and_eq_true, beq_iff_eq] at h ⊢
  by_cases hab : a = b
  ·subst hab
   have h2 : Op.bytesLess x y = false := by rcases h.2 with h2 | h2; exact absurd rfl h2; exact h2
   exact .inr ⟨rfl, bl_total h2 fun e => hne (by rw [e])⟩
  ·left
   have : a.toNat ≠ b.toNat := fun e => hab (UInt8.toNat_inj.1 e)
   omega
theorem sLt_irr (p : ByteArray) : sLt p p = false := bl_irr _
theorem sLt_trans {p q r : ByteArray} (h1 : sLt p q = true) (h2 : sLt q r = true) : sLt p r = true := bl_trans h1 h2
theorem sLt_of_not {p q : ByteArray} (h : sLe p q = false) : sLt q p = true := by
 unfold sLe at h
 rw [Bool.or_eq_false_iff] at h
 refine bl_total h.1 fun e => ?_
 have : sEq p q = true := by unfold sEq; rw [e]; simp
 rw [this] at h; cases h.2
theorem sEq_refl (p : ByteArray) : sEq p p = true := sEq_eq.2 rfl
def SortS (l : List ByteArray) : Prop := ∀ a b, a < b → b < l.length → sLt (l.getD a ByteArray.empty) (l.getD b ByteArray.empty) = true
section
variable {xs : List ByteArray} {v : ByteArray} {i : Nat}
end
end
section
def needF (x : ByteArray) (later : List (List ByteArray)) : Int := if 0 ≤ fidx (fun l => has l x) later then fidx (fun l => has l x) later else later.length
theorem needF_ge (x : ByteArray) (later : List (List ByteArray)) : 0 ≤ needF x later ∧ needF x later ≤ later.length := by
 have := fidx_ge (fun l => has l x) later
 unfold needF
 split
 ·constructor
  ·assumption
  ·have h2 := this.2
   omega
 ·omega
def vic (s parts : List ByteArray) (later : List (List ByteArray)) : Nat → Int × Int
 | 0 => (-1, -1)
 | q + 1 => if has parts (s.getD q ByteArray.empty) = true then vic s parts later q
  else if (vic s parts later q).2 < needF (s.getD q ByteArray.empty) later ∨ (needF (s.getD q ByteArray.empty) later = (vic s parts later q).2 ∧ sLe (s.getD q ByteArray.empty) (s.getD (vic s parts later q).1.toNat ByteArray.empty) = false) then ((q : Int), needF (s.getD q ByteArray.empty) later)
  else vic s parts later q
section
variable {s parts : List ByteArray} {later : List (List ByteArray)}
theorem vic_has {q : Nat} (h : has parts (s.getD q ByteArray.empty) = true) : vic s parts later (q + 1) = vic s parts later q := by rw [vic, if_pos h]
theorem vic_new {q : Nat} (h : has parts (s.getD q ByteArray.empty) = false) (h2 : (vic s parts later q).2 < needF (s.getD q ByteArray.empty) later ∨ (needF (s.getD q ByteArray.empty) later = (vic s parts later q).2 ∧ sLe (s.getD q ByteArray.empty) (s.getD (vic s parts later q).1.toNat ByteArray.empty) = false)) :
  vic s parts later (q + 1) = ((q : Int), needF (s.getD q ByteArray.empty) later) := by rw [vic, if_neg (by rw [h]; simp), if_pos h2]
theorem vic_old {q : Nat} (h : has parts (s.getD q ByteArray.empty) = false) (h2 : ¬ ((vic s parts later q).2 < needF (s.getD q ByteArray.empty) later ∨ (needF (s.getD q ByteArray.empty) later = (vic s parts later q).2 ∧ sLe (s.getD q ByteArray.empty) (s.getD (vic s parts later q).1.toNat ByteArray.empty) = false))) :
  vic s parts later (q + 1) = vic s parts later q := by rw [vic, if_neg (by rw [h]; simp), if_neg h2]
theorem vic_in : ∀ q : Nat, (vic s parts later q = (-1, -1) ∧ ∀ j, j < q → has parts (s.getD j ByteArray.empty) = true) ∨
    (0 ≤ (vic s parts later q).1 ∧ (vic s parts later q).1 < q ∧ 0 ≤ (vic s parts later q).2 ∧ (vic s parts later q).2 ≤ later.length ∧ has parts (s.getD (vic s parts later q).1.toNat ByteArray.empty) = false)
  | 0 => .inl ⟨rfl, fun j hj => by omega⟩
  | q + 1 => by
    have hn := needF_ge (s.getD q ByteArray.empty) later
    cases hh : has parts (s.getD q ByteArray.empty) with
    | true =>
      rw [vic_has hh]
      rcases vic_in q with ⟨h1, h2⟩ | ⟨h1, h2, h3, h4, h5⟩
      · exact .inl ⟨h1, fun j hj => by
          by_cases e : j = q
          · rw [e]; exact hh
          · exact h2 j (by omega)⟩
      · exact .inr ⟨h1, by omega, h3, h4, h5⟩
    | false =>
      by_cases h2 : (vic s parts later q).2 < needF (s.getD q ByteArray.empty) later ∨ (needF (s.getD q ByteArray.empty) later = (vic s parts later q).2 ∧ sLe (s.getD q ByteArray.empty) (s.getD (vic s parts later q).1.toNat ByteArray.empty) = false)
      · rw [vic_new hh h2]
        exact .inr ⟨by simp, by simp; omega, hn.1, hn.2, by simpa using hh⟩
      · rw [vic_old hh h2]
        rcases vic_in q with ⟨h1, _⟩ | ⟨h1, h2, h3, h4, h5⟩
        · exact absurd (.inl (by rw [h1]; exact (by omega : (-1 : Int) < needF (s.getD q ByteArray.empty) later))) h2
        · exact .inr ⟨h1, by omega, h3, h4, h5⟩
end
theorem vic_tie {s parts : List ByteArray} {later : List (List ByteArray)} {q : Nat} {x : ByteArray} (h : needF x later = (vic s parts later q).2) : 0 ≤ (vic s parts later q).1 ∧ (vic s parts later q).1 < q := by
 have h9 := needF_ge x later
 rcases vic_in (s := s) (parts := parts) (later := later) q with ⟨h8, _⟩ | ⟨k1, k2, _⟩
 ·rw [h8] at h
  simp only at h
  omega
 ·exact ⟨k1, k2⟩
def slotF (s parts : List ByteArray) (later : List (List ByteArray)) : Int := if fidx (fun x => sEq ε x) s < 0 then (vic s parts later s.length).1 else fidx (fun x => sEq ε x) s
def nextL (parts : List ByteArray) (later : List (List ByteArray)) : List ByteArray → List ByteArray → List ByteArray
 | s, [] => s
 | s, x :: r => nextL parts later (s.set (slotF s parts later).toNat x) r
def nextF (s parts : List ByteArray) (later : List (List ByteArray)) : List ByteArray := nextL parts later s (missF s parts)
theorem nextL_snoc (parts : List ByteArray) (later : List (List ByteArray)) : ∀ (l s : List ByteArray) (x : ByteArray), nextL parts later s (l ++ [x]) = (nextL parts later s l).set (slotF (nextL parts later s l) parts later).toNat x
 | [], s, x => rfl
 | y :: l, s, x => nextL_snoc parts later l _ x
theorem nextL_len (parts : List ByteArray) (later : List (List ByteArray)) : ∀ (l s : List ByteArray), (nextL parts later s l).length = s.length
 | [], s => rfl
 | y :: l, s => by rw [nextL, nextL_len parts later l]; simp
theorem has_iff {s : List ByteArray} {x : ByteArray} : has s x = true ↔ x ∈ s := by
 unfold has
 rw [List.any_eq_true]
 exact ⟨fun ⟨y, h1, h2⟩ => by rw [sEq_eq.1 h2]; exact h1, fun h => ⟨x, h, sEq_refl x⟩⟩
theorem has_not {s : List ByteArray} {x : ByteArray} : has s x = false ↔ x ∉ s := by
 rw [← has_iff, Bool.not_eq_true]
theorem nodup_sub : ∀ {l m : List ByteArray}, l.Nodup → (∀ x ∈ l, x ∈ m) → l.length ≤ m.length
 | [], m, _, _ => Nat.zero_le _
 | x :: r, m, h, hs => by
  have hx := hs x (by simp)
  have := nodup_sub (l := r) (m := m.erase x) (List.nodup_cons.1 h).2 (fun y hy => (List.mem_erase_of_ne (fun e => by subst e; exact (List.nodup_cons.1 h).1 hy)).2 (hs y (by simp [hy])))
  rw [List.length_erase_of_mem hx] at this
  have : 0 < m.length := List.length_pos_of_mem hx
  simp; omega
structure Fits (s parts : List ByteArray) : Prop where
 once : ∀ i j, i < j → j < s.length → s.getD i ByteArray.empty = s.getD j ByteArray.empty → s.getD j ByteArray.empty = ε
 room : parts.length ≤ s.length
 keys : ∀ x ∈ parts, x ≠ ε
 pnd : parts.Nodup
theorem slotF_in {s parts : List ByteArray} {later : List (List ByteArray)} (h : Fits s parts) {x : ByteArray} (hx : x ∈ parts) (hs : x ∉ s) : 0 ≤ slotF s parts later ∧ slotF s parts later < s.length ∧ has parts (s.getD (slotF s parts later).toNat ByteArray.empty) = false := by
 unfold slotF
 have hge := fidx_ge (fun x => sEq ε x) s
 split
 ·rename_i h1
  have hne : ∀ y ∈ s, y ≠ ε := fun y hy e => by
   have : s.any (fun x => sEq ε x) = true := List.any_eq_true.2 ⟨y, hy, by rw [e]; exact sEq_refl _⟩
   rw [← fidx_any] at this
   have := of_decide_eq_true this
   omega
  rcases vic_in (s := s) (parts := parts) (later := later) s.length with ⟨_, h2⟩ | ⟨k1, k2, _, _, k5⟩
  ·exfalso
   have hnd : s.Nodup := by
    rw [List.Nodup, List.pairwise_iff_getElem]
    intro i j hi hj hij e
    have := h.once i j hij hj (by simp [hi, hj, e])
    exact hne _ (List.getElem_mem hj) (by simpa [hj] using this)
   have := nodup_sub (l := x :: s) (m := parts) (List.nodup_cons.2 ⟨hs, hnd⟩) (fun y hy => by
    rcases List.mem_cons.1 hy with rfl | hy
    ·exact hx
    ·obtain ⟨j, hj, rfl⟩ := List.mem_iff_getElem.1 hy
     have := h2 j hj
     rw [has_iff] at this
     simpa [hj] using this)
   have h7 := h.room
   rw [List.length_cons] at this
   omega
  ·exact ⟨k1, k2, k5⟩
 ·rename_i h1
  have h0 : 0 ≤ fidx (fun x => sEq ε x) s := by omega
  obtain ⟨k1, k2, _⟩ := fidx_at (d := ByteArray.empty) h0
  have k3 := (sEq_eq.1 k2).symm
  refine ⟨h0, by omega, ?_⟩
  rw [k3, has_not]
  exact fun hc => h.keys _ hc rfl
theorem Fits.set {s parts : List ByteArray} (h : Fits s parts) {x : ByteArray} (hs : x ∉ s) (i : Nat) : Fits (s.set i x) parts := by
 refine ⟨fun a b hab hb he => ?_, by rw [List.length_set]; exact h.room, h.keys, h.pnd⟩
 rw [List.length_set] at hb
 have hm : ∀ k, k < s.length → s.getD k ByteArray.empty ∈ s := fun k hk => by simp [hk]
 simp only [List.getD_eq_getElem?_getD, List.getElem?_set] at he ⊢
 have hal : a < s.length := by omega
 by_cases ea : i = a
 ·subst ea
  rw [if_pos rfl, if_pos (by omega), if_neg (by omega)] at he
  have : x ∈ s := by
   have := hm b hb
   rw [List.getD_eq_getElem?_getD] at this
   simp only [Option.getD_some] at he
   rw [he]; exact this
  exact absurd this hs
 ·by_cases eb : i = b
  ·subst eb
   rw [if_neg ea, if_pos rfl, if_pos (by omega)] at he
   have : x ∈ s := by
    have := hm a hal
    rw [List.getD_eq_getElem?_getD] at this
    simp only [Option.getD_some] at he
    rw [← he]; exact this
   exact absurd this hs
  ·rw [if_neg ea, if_neg eb] at he
   rw [if_neg eb]
   have := h.once a b hab hb (by rw [List.getD_eq_getElem?_getD, List.getD_eq_getElem?_getD]; exact he)
   rwa [List.getD_eq_getElem?_getD] at this
end
section
def SmS (s : List ByteArray) : Prop := s.length ≤ 1000000000 ∧ ∀ i, (s.getD i ByteArray.empty).size ≤ 1000000000
def SmSS (p : List (List ByteArray)) : Prop := p.length ≤ 1000000000 ∧ ∀ i, SmS (p.getD i default)
theorem setup_CheckSetup {s : List ByteArray} (hs : SmS s) :
  SpecN Tryz.prog 233 [avStrs s] (fun y => y = avI (setupF s)) := by
 have hl := hs.1
 refine SpecN.of_VCN Tryz.func233 rfl Tryz.ntmps233 (Nle rfl) fun w A hB => ?_
 refine VC.sr ?_
 refine VO.mb ?_
 refine VO.nil ?_
 refine VC.seq ?_
 refine VC.sr ?_
 refine VO.mw ?_
 refine VO.vv (OpV.len_im rfl Tryz.underlying82 rfl) ?_
 refine VO.vv (OpV.eql rfl rfl rfl) ?_
 refine VO.nil ?_
 refine VC.cond rfl (fun aH1b => ?_) (fun aH1b => ?_)
 ·have aH1 := aH1b
  try simp only [qq] at aH1
  refine VC.sr ?_
  refine VO.mb ?_
  refine VO.nil ?_
  refine VC.ret ?_
  exact Exists.intro _ (And.intro (RetN.one Tryz.results233 (ResN.v rfl)) (by rw [setupF_none (by omega)]))
 ·have aH1 := aH1b
  try simp only [qq] at aH1
  refine VC.skip ?_
  refine VC.seq ?_
  refine VC.sr ?_
  refine VO.mw ?_
  refine VO.vv (OpV.len_im rfl Tryz.underlying82 rfl) ?_
  refine VO.vv (OpV.gtr rfl rfl rfl) ?_
  refine VO.nil ?_
  refine VC.cond rfl (fun aH2b => ?_) (fun aH2b => ?_)
  ·have aH2 := aH2b
   try simp only [qq] at aH2
   refine VC.sr ?_
   refine VO.mb ?_
   refine VO.nil ?_
   refine VC.ret ?_
   exact Exists.intro _ (And.intro (RetN.one Tryz.results233 (ResN.v rfl)) (by rw [setupF_big (by omega)]))
  ·have aH2 := aH2b
   try simp only [qq] at aH2
   refine VC.skip ?_
   refine VC.seq ?_
   refine VC.sr ?_
   refine VO.mw ?_
   refine VO.vv (OpV.len_im rfl Tryz.underlying82 rfl) ?_
   refine VO.mw ?_
   refine VO.nil ?_
   refine VC.block ?_
   refine VC.loopK [(0, _), (11, _), (12, _)] ⟨rfl, rfl, rfl, trivial⟩ ({q : Nat // q ≤ s.length ∧ ∀ j, j < q → setupE s j = 0}) (fun (iZ : {q : Nat // q ≤ s.length ∧ ∀ j, j < q → setupE s j = 0}) => match iZ with | ⟨q, hq, hn⟩ => [(13, avI (q : Int))]) (fun (iZ : {q : Nat // q ≤ s.length ∧ ∀ j, j < q → setupE s j = 0}) => match iZ with | ⟨q, hq, hn⟩ => []) (fun (iZ : {q : Nat // q ≤ s.length ∧ ∀ j, j < q → setupE s j = 0}) => match iZ with | ⟨q, hq, hn⟩ => 0) (fun (iZ : {q : Nat // q ≤ s.length ∧ ∀ j, j < q → setupE s j = 0}) => match iZ with | ⟨q, hq, hn⟩ => s.length - q) ⟨0, Nat.zero_le _, fun j hj => absurd hj (Nat.not_lt_zero j)⟩ (Le.mk hB [] ⟨rfl, rfl, rfl, rfl, trivial⟩ rfl rfl (Nat.le_refl _)) ?_
   rintro ⟨q, hq, hn⟩
   show VC _ _ _ _ ⟨[(13, avI (q : Int))] ++ [(0, _), (11, _), (12, _)], [], 0⟩
   refine VC.sr ?_
   refine VO.vv (OpV.lss rfl rfl rfl) ?_
   refine VO.nil ?_
   refine VC.seq ?_
   refine VC.cond rfl (fun aH3b => ?_) (fun aH3b => ?_)
   ·have aH3 := aH3b
    try simp only [qq] at aH3
    refine VC.skip ?_
    refine VC.seq ?_
    refine VC.block ?_
    refine VC.sr ?_
    refine VO.mw ?_
    refine VO.vv (OpV.indexAddr_1 rfl Tryz.underlying82 Tryz.sizeOf9 rfl rfl rfl (by omega)) ?_
    refine VO.vv (OpV.load_at rfl hB OutW.no Tryz.isAgg9 rfl rfl) ?_
    refine VO.mb ?_
    refine VO.mb ?_
    refine VO.nil ?_
    refine VC.block ?_
    refine VC.sr ?_
    refine VO.mw ?_
    refine VO.vv (OpV.seql rfl rfl rfl) ?_
    refine VO.mb ?_
    refine VO.nil ?_
    refine VC.cond rfl (fun h3b => ?_) (fun h3b => ?_)
    ·have h3 := h3b
     try simp only [qq] at h3
     refine VC.skip ?_
     refine VC.region ?_
     refine VO.vv (OpV.add rfl rfl rfl (by unfold fits; omega)) ?_
     refine VO.mw ?_
     refine VO.nil ?_
     exact Exists.intro (⟨q + 1, by omega, lt_succ_cases hn (setupE_e h3b)⟩) (And.intro (Le.mk hB [] ⟨rfl, rfl, rfl, rfl, trivial⟩ rfl rfl (Nat.le_refl _)) (by first | omega | (show _ < _; omega) | (simp only []; omega)))
    ·have h3 := h3b
     try simp only [qq] at h3
     refine VC.sr ?_
     refine VO.mw ?_
     refine VO.op rfl (OpE.call rfl hB rfl Tryz.call230 rfl (SpecN.spec (kit_IsKey (hs.2 _))) ?_)
     rintro _ rfl
     refine VO.vv (OpV.not rfl rfl) ?_
     refine VO.mb ?_
     refine VO.nil ?_
     refine VC.cond rfl (fun h4b => ?_) (fun h4b => ?_)
     ·have h4 := h4b
      try simp only [qq] at h4
      refine VC.sr ?_
      refine VO.mb ?_
      refine VO.nil ?_
      refine VC.ret ?_
      exact Exists.intro _ (And.intro (RetN.one Tryz.results233 (ResN.v rfl)) (by rw [setupF_at (by omega) (by omega) (by omega) hn (setupE_5 h3b h4) (by decide)]))
     ·have h4 := h4b
      try simp only [qq] at h4
      refine VC.sr ?_
      refine VO.mw ?_
      refine VO.mw ?_
      refine VO.vv (OpV.slice_strs (h := q) rfl Tryz.underlying82 Tryz.sizeOf9 rfl rfl ⟨_, _, rfl, rfl⟩ (by omega) (by omega)) ?_
      refine VO.mw ?_
      refine VO.op rfl (OpE.call rfl hB rfl Tryz.call86 rfl (SpecN.spec (slices_Contains_str (by rw [len_cut (by omega)]; omega))) ?_)
      rintro _ rfl
      refine VO.mb ?_
      refine VO.nil ?_
      refine VC.cond rfl (fun h5b => ?_) (fun h5b => ?_)
      ·have h5 := h5b
       try simp only [qq] at h5
       refine VC.sr ?_
       refine VO.mb ?_
       refine VO.nil ?_
       refine VC.ret ?_
       exact Exists.intro _ (And.intro (RetN.one Tryz.results233 (ResN.v rfl)) (by rw [setupF_at (by omega) (by omega) (by omega) hn (setupE_6 h3b h4 h5) (by decide)]))
      ·have h5 := h5b
       try simp only [qq] at h5
       refine VC.skip ?_
       refine VC.region ?_
       refine VO.vv (OpV.add rfl rfl rfl (by unfold fits; omega)) ?_
       refine VO.mw ?_
       refine VO.nil ?_
       exact Exists.intro (⟨q + 1, by omega, lt_succ_cases hn (setupE_0 h3b h4 h5)⟩) (And.intro (Le.mk hB [] ⟨rfl, rfl, rfl, rfl, trivial⟩ rfl rfl (Nat.le_refl _)) (by first | omega | (show _ < _; omega) | (simp only []; omega)))
   ·have aH3 := aH3b
    try simp only [qq] at aH3
    refine VC.exit ?_
    refine VC.sr ?_
    refine VO.mb ?_
    refine VO.nil ?_
    refine VC.ret ?_
    exact Exists.intro _ (And.intro (RetN.one Tryz.results233 (ResN.v rfl)) (by rw [setupF_ok (by omega) (by omega) (fun j hj => hn j (by omega))]))
theorem setup_CheckParts {n : Int} {p : List (List ByteArray)} (hp : SmSS p) :
    SpecN Tryz.prog 234 [avI n, avM p] (fun y => y = avI (partsF n p)) := by
  have hl := hp.1
  refine SpecN.of_VCN Tryz.func234 rfl Tryz.ntmps234 (Nle rfl) fun w A hB => ?_
  refine VC.sr ?_
  refine VO.mb ?_
  refine VO.nil ?_
  refine VC.seq ?_
  refine VC.sr ?_
  refine VO.mw ?_
  refine VO.op rfl (OpE.call rfl hB rfl Tryz.call161 rfl (SpecN.spec (kit_Outside)) ?_)
  rintro _ rfl
  refine VO.nil ?_
  refine VC.cond rfl (fun h0b => ?_) (fun h0b => ?_)
  · have h0 := h0b
    try simp only [qq] at h0
    refine VC.sr ?_
    refine VO.mb ?_
    refine VO.nil ?_
    refine VC.ret ?_
    exact Exists.intro _ (And.intro (RetN.one Tryz.results234 (ResN.v rfl)) (by rw [partsF_1 h0b]))
  · have h0 := h0b
    try simp only [qq] at h0
    refine VC.skip ?_
    refine VC.seq ?_
    refine VC.sr ?_
    refine VO.mw ?_
    refine VO.vv (OpV.len_im rfl Tryz.underlying169 rfl) ?_
    refine VO.vv (OpV.gtr rfl rfl rfl) ?_
    refine VO.nil ?_
    refine VC.cond rfl (fun aH1b => ?_) (fun aH1b => ?_)
    · have aH1 := aH1b
      try simp only [qq] at aH1
      refine VC.sr ?_
      refine VO.mb ?_
      refine VO.nil ?_
      refine VC.ret ?_
      exact Exists.intro _ (And.intro (RetN.one Tryz.results234 (ResN.v rfl)) (by rw [partsF_2 h0b (by omega)]))
    · have aH1 := aH1b
      try simp only [qq] at aH1
      refine VC.skip ?_
      refine VC.seq ?_
      refine VC.sr ?_
      refine VO.mw ?_
      refine VO.vv (OpV.len_im rfl Tryz.underlying169 rfl) ?_
      refine VO.mw ?_
      refine VO.nil ?_
      refine VC.block ?_
      refine VC.loopK [(0, _), (14, _), (15, _)] ⟨rfl, rfl, rfl, trivial⟩ ({q : Nat // q ≤ p.length ∧ ∀ j, j < q → partE n (p.getD j default) = 0}) (fun (iZ : {q : Nat // q ≤ p.length ∧ ∀ j, j < q → partE n (p.getD j default) = 0}) => match iZ with | ⟨q, hq, hn⟩ => [(16, avI (q : Int))]) (fun (iZ : {q : Nat // q ≤ p.length ∧ ∀ j, j < q → partE n (p.getD j default) = 0}) => match iZ with | ⟨q, hq, hn⟩ => []) (fun (iZ : {q : Nat // q ≤ p.length ∧ ∀ j, j < q → partE n (p.getD j default) = 0}) => match iZ with | ⟨q, hq, hn⟩ => 0) (fun (iZ : {q : Nat // q ≤ p.length ∧ ∀ j, j < q → partE n (p.getD j default) = 0}) => match iZ with | ⟨q, hq, hn⟩ => p.length - q) ⟨0, Nat.zero_le _, fun j hj => absurd hj (Nat.not_lt_zero j)⟩ (Le.mk hB [] ⟨rfl, rfl, rfl, rfl, trivial⟩ rfl rfl (Nat.le_refl _)) ?_
      rintro ⟨q, hq, hn⟩
      show VC _ _ _ _ ⟨[(16, avI (q : Int))] ++ [(0, _), (14, _), (15, _)], [], 0⟩
      refine VC.sr ?_
      refine VO.vv (OpV.lss rfl rfl rfl) ?_
      refine VO.nil ?_
      refine VC.seq ?_
      refine VC.cond rfl (fun aH2b => ?_) (fun aH2b => ?_)
      · have aH2 := aH2b
        try simp only [qq] at aH2
        refine VC.skip ?_
        refine VC.seq ?_
        refine VC.block ?_
        refine VC.sr ?_
        refine VO.vv (OpV.indexAddr_1 rfl Tryz.underlying169 Tryz.sizeOf82 rfl rfl rfl (by omega)) ?_
        refine VO.vv (OpV.load_at rfl hB OutW.no Tryz.isAgg82 rfl rfl) ?_
        refine VO.mb ?_
        refine VO.nil ?_
        refine VC.seq ?_
        refine VC.sr ?_
        refine VO.mw ?_
        refine VO.vv (OpV.len_im rfl Tryz.underlying82 rfl) ?_
        refine VO.mw ?_
        refine VO.vv (OpV.gtr rfl rfl rfl) ?_
        refine VO.nil ?_
        refine VC.cond rfl (fun h3b => ?_) (fun h3b => ?_)
        · have h3 := h3b
          try simp only [qq] at h3
          have hq0 := partE_12 (slots := n) (l := p.getD q default) (by omega)
          refine VC.sr ?_
          refine VO.mb ?_
          refine VO.nil ?_
          refine VC.ret ?_
          exact Exists.intro _ (And.intro (RetN.one Tryz.results234 (ResN.v rfl)) (by rw [partsF_at h0b (by omega) (by omega) hn hq0 (by decide)]))
        · have h3 := h3b
          try simp only [qq] at h3
          have hlq := (hp.2 q).1
          have h3' : ¬ n < ((p.getD q default).length : Int) := by omega
          refine VC.skip ?_
          refine VC.sr ?_
          refine VO.mw ?_
          refine VO.vv (OpV.len_im rfl Tryz.underlying82 rfl) ?_
          refine VO.mw ?_
          refine VO.nil ?_
          refine VC.block ?_
          refine VC.loopK [(0, _), (6, _), (14, _), (15, _), (16, _), (24, _), (25, _)] ⟨rfl, rfl, rfl, rfl, rfl, rfl, rfl, trivial⟩ ({r : Nat // r ≤ (p.getD q default).length ∧ ∀ j, j < r → canE (p.getD q default) j = 0}) (fun (iZ : {r : Nat // r ≤ (p.getD q default).length ∧ ∀ j, j < r → canE (p.getD q default) j = 0}) => match iZ with | ⟨r, hq1, hn1⟩ => [(26, avI (r : Int))]) (fun (iZ : {r : Nat // r ≤ (p.getD q default).length ∧ ∀ j, j < r → canE (p.getD q default) j = 0}) => match iZ with | ⟨r, hq1, hn1⟩ => []) (fun (iZ : {r : Nat // r ≤ (p.getD q default).length ∧ ∀ j, j < r → canE (p.getD q default) j = 0}) => match iZ with | ⟨r, hq1, hn1⟩ => 0) (fun (iZ : {r : Nat // r ≤ (p.getD q default).length ∧ ∀ j, j < r → canE (p.getD q default) j = 0}) => match iZ with | ⟨r, hq1, hn1⟩ => (p.getD q default).length - r) ⟨0, Nat.zero_le _, fun j hj => absurd hj (Nat.not_lt_zero j)⟩ (Le.mk hB [] ⟨rfl, rfl, rfl, rfl, rfl, rfl, rfl, rfl, trivial⟩ rfl rfl (Nat.le_refl _)) ?_
          rintro ⟨r, hq1, hn1⟩
          show VC _ _ _ _ ⟨[(26, avI (r : Int))] ++ [(0, _), (6, _), (14, _), (15, _), (16, _), (24, _), (25, _)], [], 0⟩
          refine VC.sr ?_
          refine VO.vv (OpV.lss rfl rfl rfl) ?_
          refine VO.nil ?_
          refine VC.seq ?_
          refine VC.cond rfl (fun aH3b => ?_) (fun aH3b => ?_)
          · have aH3 := aH3b
            try simp only [qq] at aH3
            refine VC.skip ?_
            refine VC.seq ?_
            refine VC.block ?_
            refine VC.sr ?_
            refine VO.mw ?_
            refine VO.vv (OpV.indexAddr_1 rfl Tryz.underlying82 Tryz.sizeOf9 rfl rfl rfl (by omega)) ?_
            refine VO.vv (OpV.load_at rfl hB OutW.no Tryz.isAgg9 rfl rfl) ?_
            refine VO.mb ?_
            refine VO.mb ?_
            refine VO.nil ?_
            refine VC.seq ?_
            refine VC.sr ?_
            refine VO.mw ?_
            refine VO.op rfl (OpE.call rfl hB rfl Tryz.call230 rfl (SpecN.spec (kit_IsKey ((hp.2 _).2 _))) ?_)
            rintro _ rfl
            refine VO.vv (OpV.not rfl rfl) ?_
            refine VO.nil ?_
            refine VC.cond rfl (fun hkb => ?_) (fun hkb => ?_)
            · have hk := hkb
              try simp only [qq] at hk
              refine VC.sr ?_
              refine VO.mb ?_
              refine VO.nil ?_
              refine VC.ret ?_
              exact Exists.intro _ (And.intro (RetN.one Tryz.results234 (ResN.v rfl)) (by rw [partsF_at h0b (by omega) (by omega) hn (partE_at h3' (by omega) hn1 (canE_5 hk) (by decide)) (by decide)]))
            · have hk := hkb
              try simp only [qq] at hk
              refine VC.skip ?_
              refine VC.sr ?_
              refine VO.mw ?_
              refine VO.vv (OpV.gtr rfl rfl rfl) ?_
              refine VO.mw ?_
              refine VO.opG rfl rfl rfl rfl (fun aK4b => ?_) (fun aK4b => ?_)
              · replace aK4b : _ = true := aK4b
                have aK4 := aK4b
                try simp only [qq] at aK4
                refine OpE.val (W := NoB) (OpV.move (.inl rfl) rfl) rfl ?_
                refine VO.opY rfl rfl rfl rfl aK4b ?_
                refine OpE.val (W := NoB) (OpV.move (.inl rfl) rfl) rfl ?_
                refine VO.opY rfl rfl rfl rfl aK4b ?_
                refine OpE.val (W := NoB) (OpV.move (.inl rfl) rfl) rfl ?_
                refine VO.opY rfl rfl rfl rfl aK4b ?_
                refine OpE.val (W := NoB) (OpV.sub rfl rfl rfl (by unfold fits; omega)) rfl ?_
                refine VO.opY rfl rfl rfl rfl aK4b ?_
                refine OpE.val (W := NoB) (OpV.indexAddr_1 rfl Tryz.underlying82 Tryz.sizeOf9 rfl rfl (show ((r : Int) - 1) = ((r - 1 : Nat) : Int) by omega) (by omega)) rfl ?_
                refine VO.opY rfl rfl rfl rfl aK4b ?_
                refine OpE.val (W := NoB) (OpV.load_at rfl hB OutW.no Tryz.isAgg9 rfl rfl) rfl ?_
                refine VO.opY rfl rfl rfl rfl aK4b ?_
                refine OpE.val (W := NoB) (OpV.sleq rfl rfl rfl) rfl ?_
                refine VO.vv (OpV.pickT rfl rfl rfl rfl aK4b) ?_
                refine VO.nil ?_
                refine VC.cond rfl (fun hsb => ?_) (fun hsb => ?_)
                · have hs := hsb
                  try simp only [qq] at hs
                  refine VC.sr ?_
                  refine VO.mb ?_
                  refine VO.nil ?_
                  refine VC.ret ?_
                  exact Exists.intro _ (And.intro (RetN.one Tryz.results234 (ResN.v rfl)) (by rw [partsF_at h0b (by omega) (by omega) hn (partE_at h3' (by omega) hn1 (canE_7 hk (by omega) hs) (by decide)) (by decide)]))
                · have hs := hsb
                  try simp only [qq] at hs
                  refine VC.skip ?_
                  refine VC.region ?_
                  refine VO.vv (OpV.add rfl rfl rfl (by unfold fits; omega)) ?_
                  refine VO.mw ?_
                  refine VO.nil ?_
                  exact Exists.intro (⟨r + 1, by omega, lt_succ_cases hn1 (canE_0 hk (.inr hs))⟩) (And.intro (Le.mk hB [] ⟨rfl, rfl, rfl, rfl, rfl, rfl, rfl, rfl, trivial⟩ rfl rfl (Nat.le_refl _)) (by first | omega | (show _ < _; omega) | (simp only []; omega)))
              · replace aK4b : _ = false := aK4b
                have aK4 := aK4b
                try simp only [qq] at aK4
                refine VO.opX rfl rfl rfl rfl aK4b ?_
                refine VO.opX rfl rfl rfl rfl aK4b ?_
                refine VO.opX rfl rfl rfl rfl aK4b ?_
                refine VO.opX rfl rfl rfl rfl aK4b ?_
                refine VO.opX rfl rfl rfl rfl aK4b ?_
                refine VO.opX rfl rfl rfl rfl aK4b ?_
                refine VO.vv (OpV.pickF rfl rfl rfl rfl aK4b) ?_
                refine VO.nil ?_
                refine VC.condF rfl rfl ?_
                refine VC.skip ?_
                refine VC.region ?_
                refine VO.vv (OpV.add rfl rfl rfl (by unfold fits; omega)) ?_
                refine VO.mw ?_
                refine VO.nil ?_
                exact Exists.intro (⟨r + 1, by omega, lt_succ_cases hn1 (canE_0 hk (.inl (by omega)))⟩) (And.intro (Le.mk hB [] ⟨rfl, rfl, rfl, rfl, rfl, rfl, rfl, rfl, trivial⟩ rfl rfl (Nat.le_refl _)) (by first | omega | (show _ < _; omega) | (simp only []; omega)))
          · have aH3 := aH3b
            try simp only [qq] at aH3
            refine VC.exit ?_
            refine VC.region ?_
            refine VO.vv (OpV.add rfl rfl rfl (by unfold fits; omega)) ?_
            refine VO.mw ?_
            refine VO.nil ?_
            exact Exists.intro (⟨q + 1, by omega, lt_succ_cases hn (partE_ok h3' (fun j hj => hn1 j (by omega)))⟩) (And.intro (Le.mk hB [] ⟨rfl, rfl, rfl, rfl, trivial⟩ rfl rfl (Nat.le_refl _)) (by first | omega | (show _ < _; omega) | (simp only []; omega)))
      · have aH2 := aH2b
        try simp only [qq] at aH2
        refine VC.exit ?_
        refine VC.sr ?_
        refine VO.mb ?_
        refine VO.nil ?_
        refine VC.ret ?_
        exact Exists.intro _ (And.intro (RetN.one Tryz.results234 (ResN.v rfl)) (by rw [partsF_ok h0b (by omega) (fun j hj => hn j (by omega))]))
end
section
def ShP (m : Nat) (l : List ByteArray) : Prop := l.length ≤ m ∧ ∀ x ∈ l, x.size ≤ 1000
theorem ShP.sms {m : Nat} {l : List ByteArray} (h : ShP m l) (hm : m ≤ 1000) : SmS l := ⟨by have := h.1; omega, fun i => by
 by_cases hi : i < l.length
 ·have := h.2 _ (List.getElem_mem hi)
  simp only [List.getD_eq_getElem?_getD, List.getElem?_eq_getElem hi, Option.getD_some]; omega
 ·simp [List.getD_eq_getElem?_getD, List.getElem?_eq_none (by omega : l.length ≤ i)]⟩
theorem ShP.snoc {m : Nat} {l : List ByteArray} (h : ShP m l) {x : ByteArray} (hx : x.size ≤ 1000) : ShP (m + 1) (l ++ [x]) := ⟨by have := h.1; simp; omega, fun y hy => by
 rcases List.mem_append.1 hy with hy | hy
 ·exact h.2 y hy
 ·simp at hy; subst hy; exact hx⟩
theorem ShP.mono {m n : Nat} {l : List ByteArray} (h : ShP m l) (hn : m ≤ n) : ShP n l := ⟨Nat.le_trans h.1 hn, h.2⟩
end
section
section
variable {P : Program} {B : Bs} {W : Nat → Prop} {s s' : St'} {o : Oper} {K : St' → Prop} {a : Act} {w w' : World} {Q : Exit → St' → Prop}
theorem Le.swap {i : Nat} {e e' : Ent} (hi : s.hp[i]? = some e) (hblk : e'.blk = e.blk) (hE : ∀ w Z, EntR w Z e → EntR w Z e') : Le B s ⟨s.sl, s.hp.set i e', s.k⟩ := fun a w hr => hr.swap hi hblk (hE w)
theorem Le.pickH {hp : List Ent} (ix : List Nat) (hix : ndB ix = true) (h3 : keepIx ix s.hp = hp) : Le B s ⟨s.sl, hp, s.k⟩ := fun a w hr => by
 subst h3
 have hm : ∀ p ∈ keepIx ix s.hp, p ∈ s.hp := fun p hp => by
  rw [keepIx_fm] at hp
  obtain ⟨i, _, hi⟩ := List.mem_filterMap.1 hp
  exact List.mem_of_getElem? hi
 have hz : ∀ b, Zn B s.hp w b → Zn B (keepIx ix s.hp) w b := fun b hb => ⟨hb.1, fun p hp' => hb.2.1 p (hm p hp'), hb.2.2⟩
 refine ⟨fun t x hx => (hr.slots t x hx).keep fun b hb _ => ⟨rfl, hz b hb⟩, hr.size, hr.defs, fun p hp' => (hr.blocks p (hm p hp')).keep (fun b hb _ => ⟨rfl, hz b hb⟩) fun _ _ => rfl, ?_, hr.chg, fun p hp' g hg => hr.own p (hm p hp') g hg, hr.res⟩
 show Apart (keepIx ix s.hp)
 unfold Apart
 rw [keepIx_fm, List.pairwise_filterMap]
 refine (ndB_spec hix).imp fun {i j} hij p hp q hq g hg => hr.nodup.get hp hq hij hg
theorem Le.drop (m : Nat) : Le B s ⟨s.sl, s.hp.drop m, s.k⟩ := fun a w hr => hr.drop (fun _ _ h => h) (List.drop_sublist m s.hp)
theorem VO.asBox {ops : Array Oper} {rest : List Oper} {i n sz : Nat} {u : Value} {cs : List AV} {ty : TypeId} (hi : s.hp[i]? = some (.row u n sz cs ty)) (hn : 0 < n)
  (h : ∀ g cap, u = .slice (some ⟨g, 0, none⟩) n cap → n ≤ cap → cap ≤ maxLen → VO P B ops rest Q ⟨s.sl, s.hp.set i (.box g ⟨cs, ty, cap * sz⟩), s.k⟩) : VO P B ops rest Q s := fun a w hr => by
 obtain ⟨g, cap, h1, h2, h3, h4⟩ := hr.rowBox hi hn
 exact h g cap h1 h2 h3 a w h4
theorem VO.rowIs {ops : Array Oper} {rest : List Oper} {i n sz : Nat} {u : Value} {cs : List AV} {ty : TypeId} (hi : s.hp[i]? = some (.row u n sz cs ty)) (h : ∀ b c, u = .slice b n c → VO P B ops rest Q s) : VO P B ops rest Q s := fun a w hr => by
 obtain ⟨_, ⟨rfl, rfl⟩ | ⟨g, cap, c, rfl, _⟩⟩ := hr.blocks _ (List.mem_of_getElem? hi)
 ·exact h none 0 rfl a w hr
 ·exact h _ cap rfl a w hr
theorem VC.rowIs {c0 : Code} {Qc : Exit → St' → Prop} {i n sz : Nat} {u : Value} {cs : List AV} {ty : TypeId} (hi : s.hp[i]? = some (.row u n sz cs ty)) (h : ∀ b c, u = .slice b n c → VC P B c0 Qc s) : VC P B c0 Qc s := fun a w hr => by
 obtain ⟨_, ⟨rfl, rfl⟩ | ⟨g, cap, c, rfl, _⟩⟩ := hr.blocks _ (List.mem_of_getElem? hi)
 ·exact h none 0 rfl a w hr
 ·exact h _ cap rfl a w hr
theorem look_k {l : List (Nat × AV)} {t : Nat} {b want : Bool} (h : look l t = some (.v (.bool b))) (hb : b = want) : look l t = some (.v (.bool want)) := hb ▸ h
theorem SpecH.args {F : FuncId} {xs xs' : List AV} {hp : List Ent} {G : AV → List Ent → Prop} (h : SpecH P F xs hp G) (hl : xs'.length = xs.length) (ha : ∀ (j : Nat) (h1 : j < xs'.length) (h2 : j < xs.length) (w : World) (Z : Nat → Prop) (u : Value), Rep w Z xs'[j] u → Rep w Z xs[j] u) : SpecH P F xs' hp G :=
 fun w A us h1 => h w A us ⟨h1.1.trans hl, fun j hj => ha j (by omega) hj _ _ _ (h1.2 j (by omega))⟩
theorem ArgP.nil {x : Operand} {sz : Nat} {F : Nat → AV} (h : evO s x = some (.v (.slice none 0 0))) : ArgP P B s x (.im 0 sz F) := fun a w hr => by
 rw [hr.evv h]
 exact .nil _ _
end
instance : Sx1 (List (List ByteArray)) := ⟨fun x => avM x⟩
instance : Sx1 (List (List Int)) := ⟨fun x => avM x⟩
end
section
theorem flip_X {p0 cap : Nat} {a0 : Option Addr} {p k : Nat} {L : List Int} {n : Int} (hk : k ≤ 1000000) (hn : n ≤ 1000000000) (hp0 : p0 ≤ p) :
  SpecHX (TXI a0 L p0) Tryz.prog 76 [sp p, avI n] [bxStr p a0 cap L k] (fun y hp' => y = avB (decide (nxt L k n = 0)) ∧ hp' = [bxStr p a0 cap L (k + 1)]) := by
 refine SpecHX.of_VC txi_stab Tryz.func76 rfl Tryz.ntmps76 (Nle rfl) fun w A hB hGX => ?_
 refine VC.sr ?_
 refine VO.mb ?_
 refine VO.nil ?_
 refine VC.sr ?_
 refine VO.mw ?_
 refine VO.mw ?_
 refine VO.op rfl (OpE.callHX (rest := []) txi_stab hGX rfl hB rfl Tryz.call78 rfl rfl (next_X hp0 (by omega) (by omega)) (List.Perm.refl _) (fun _ _ => trivial) ?_)
 rintro _ _ ⟨rfl, rfl⟩
 refine VO.vv (OpV.eql rfl rfl rfl) ?_
 refine VO.mb ?_
 refine VO.nil ?_
 refine VC.ret ?_
 exact Exists.intro _ (And.intro (RetV.one Tryz.results76 (ResV.tmp rfl)) (⟨rfl, rfl⟩))
theorem range_X {p0 cap : Nat} {a0 : Option Addr} {p k : Nat} {L : List Int} {lo hi : Int} (hk : k ≤ 1000000) (h0 : 0 ≤ lo) (hlh : lo ≤ hi) (hn : hi ≤ 999999999) (hp0 : p0 ≤ p) :
  SpecHX (TXI a0 L p0) Tryz.prog 58 [sp p, avI lo, avI hi] [bxStr p a0 cap L k] (fun y hp' => y = avI (rng L k lo hi) ∧ hp' = [bxStr p a0 cap L (k + 1)]) := by
 refine SpecHX.of_VC txi_stab Tryz.func58 rfl Tryz.ntmps58 (Nle rfl) fun w A hB hGX => ?_
 refine VC.sr ?_
 refine VO.mb ?_
 refine VO.nil ?_
 refine VC.seq ?_
 refine VC.sr ?_
 refine VO.mw ?_
 refine VO.mw ?_
 refine VO.vv (OpV.lss rfl rfl rfl) ?_
 refine VO.nil ?_
 refine VC.cond rfl (fun aH1b => ?_) (fun aH1b => ?_)
 ·have aH1 := aH1b
  try simp only [qq] at aH1
  exact VC.absurd (by omega)
 ·have aH1 := aH1b
  try simp only [qq] at aH1
  refine VC.skip ?_
  refine VC.seq ?_
  have b1 := nxt_lo L k (hi - lo + 1)
  have b2 := nxt_lt L k (hi - lo + 1) (by omega)
  refine VC.region ?_
  refine VO.mw ?_
  refine VO.mw ?_
  refine VO.mw ?_
  refine VO.mw ?_
  refine VO.vv (OpV.sub rfl rfl rfl (by unfold fits; omega)) ?_
  refine VO.vv (OpV.add rfl rfl rfl (by unfold fits; omega)) ?_
  refine VO.op rfl (OpE.callHX (rest := []) txi_stab hGX rfl hB rfl Tryz.call78 rfl rfl (next_X hp0 (by omega) (by omega)) (List.Perm.refl _) (fun _ _ => trivial) ?_)
  rintro _ _ ⟨rfl, rfl⟩
  refine VO.vv (OpV.add rfl rfl rfl (by unfold fits; omega)) ?_
  refine VO.mb ?_
  refine VO.nil ?_
  refine VC.ret ?_
  exact Exists.intro _ (And.intro (RetV.one Tryz.results58 (ResV.tmp rfl)) (⟨rfl, rfl⟩))
def someV (L : List Int) (k : Nat) (xs : List ByteArray) : ByteArray := xs.getD (nxt L k xs.length).toNat ByteArray.empty
theorem some_X {p0 cap : Nat} {a0 : Option Addr} {p k : Nat} {L : List Int} {xs : List ByteArray} (hk : k ≤ 1000000) (hx : 0 < xs.length ∧ xs.length ≤ 1000000) (hp0 : p0 ≤ p) :
  SpecHX (TXI a0 L p0) Tryz.prog 79 [sp p, avStrs xs] [bxStr p a0 cap L k] (fun y hp' => y = avS (someV L k xs) ∧ hp' = [bxStr p a0 cap L (k + 1)]) := by
 refine SpecHX.of_VC txi_stab Tryz.func79 rfl Tryz.ntmps79 (Nle rfl) fun w A hB hGX => ?_
 refine VC.sr ?_
 refine VO.mb ?_
 refine VO.nil ?_
 refine VC.sr ?_
 refine VO.mw ?_
 refine VO.mw ?_
 refine VO.mw ?_
 refine VO.vv (OpV.len_im rfl Tryz.underlying82 rfl) ?_
 refine VO.op rfl (OpE.callHX (rest := []) txi_stab hGX rfl hB rfl Tryz.call78 rfl rfl (next_X hp0 (by omega) (by omega)) (List.Perm.refl _) (fun _ _ => trivial) ?_)
 rintro _ _ ⟨rfl, rfl⟩
 have b1 := nxt_lo L k xs.length
 have b2 := nxt_lt L k xs.length (by omega)
 refine VO.vv (OpV.indexAddr_1 rfl Tryz.underlying82 Tryz.sizeOf9 rfl rfl (Int.toNat_of_nonneg (by omega)).symm (by omega)) ?_
 refine VO.vv (OpV.load_at rfl hB OutW.no Tryz.isAgg9 rfl rfl) ?_
 refine VO.mb ?_
 refine VO.nil ?_
 refine VC.ret ?_
 exact Exists.intro _ (And.intro (RetV.one Tryz.results79 (ResV.tmp rfl)) (⟨rfl, rfl⟩))
section
variable {L : List Int} {k n q : Nat}
theorem someV_size {xs : List ByteArray} {m : Nat} (h : ∀ x ∈ xs, x.size ≤ m) : (someV L k xs).size ≤ m := by
 unfold someV
 rw [List.getD_eq_getElem?_getD]
 cases hj : xs[(nxt L k xs.length).toNat]? with
 | none => exact Nat.zero_le _
 | some x => exact h x (List.mem_of_getElem? hj)
end
section
variable {L : List Int} {k slots m q j : Nat}
end
end
section
def pickV (L : List Int) (k : Nat) (xs : List Int) : Int := xs.getD (nxt L k xs.length).toNat 0
theorem pick_E {p0 cap : Nat} {a0 : Option Addr} {p k : Nat} {L : List Int} {xs : List Int} (hk : k ≤ 1000000) (hx : 0 < xs.length ∧ xs.length ≤ 1000000) (hp0 : p0 ≤ p) :
  SpecHX (TXI a0 L p0) Tryz.prog 77 [sp p, avInts xs] [bxStr p a0 cap L k] (fun y hp' => y = avI (pickV L k xs) ∧ hp' = [bxStr p a0 cap L (k + 1)]) := by
 refine SpecHX.of_VC txi_stab Tryz.func77 rfl Tryz.ntmps77 (Nle rfl) fun w A hB hGX => ?_
 refine VC.sr ?_
 refine VO.mb ?_
 refine VO.nil ?_
 refine VC.sr ?_
 refine VO.mw ?_
 refine VO.mw ?_
 refine VO.mw ?_
 refine VO.vv (OpV.len_im rfl Tryz.underlying22 rfl) ?_
 refine VO.op rfl (OpE.callHX (rest := []) txi_stab hGX rfl hB rfl Tryz.call78 rfl rfl (next_X hp0 (by omega) (by omega)) (List.Perm.refl _) (fun _ _ => trivial) ?_)
 rintro _ _ ⟨rfl, rfl⟩
 have b1 := nxt_lo L k xs.length
 have b2 := nxt_lt L k xs.length (by omega)
 refine VO.vv (OpV.indexAddr_1 rfl Tryz.underlying22 Tryz.sizeOf3 rfl rfl (Int.toNat_of_nonneg (by omega)).symm (by omega)) ?_
 refine VO.vv (OpV.load_at rfl hB OutW.no Tryz.isAgg3 rfl rfl) ?_
 refine VO.mb ?_
 refine VO.nil ?_
 refine VC.ret ?_
 exact Exists.intro _ (And.intro (RetV.one Tryz.results77 (ResV.tmp rfl)) (⟨rfl, rfl⟩))
theorem pickV_in {L : List Int} {k : Nat} {xs : List Int} {lo hi : Int} (h : ∀ x ∈ xs, lo ≤ x ∧ x ≤ hi) (hx : 0 < xs.length) : lo ≤ pickV L k xs ∧ pickV L k xs ≤ hi := by
 have b1 := nxt_lo L k xs.length
 have b2 := nxt_lt L k xs.length (by omega)
 unfold pickV
 rw [List.getD_eq_getElem?_getD, List.getElem?_eq_getElem (by omega)]
 exact h _ (List.getElem_mem _)
theorem someV_of {L : List Int} {k : Nat} {xs : List ByteArray} {P : ByteArray → Prop} (h : ∀ x ∈ xs, P x) (hx : 0 < xs.length) : P (someV L k xs) := by
 have b1 := nxt_lo L k xs.length
 have b2 := nxt_lt L k xs.length (by omega)
 unfold someV
 rw [List.getD_eq_getElem?_getD, List.getElem?_eq_getElem (by omega)]
 exact h _ (List.getElem_mem _)
theorem blkStr {p cap k b : Nat} {a : Option Addr} {L : List Int} (h : BlkL [bxStr p a cap L k] b) : b = p := by
 obtain ⟨e, he, hb⟩ := h
 have he' := List.mem_singleton.1 he
 subst he'
 have : some p = some b := hb
 injection this with this
 exact this.symm
theorem Wi.notSS {ops : Array Oper} {i g : Nat} {X Z : Nat → Prop} {S S2 : List Nat} (h1 : (S.all fun a => depB ops a i) = true ∨ ¬ X g) (h3 : ¬ Z g) : ¬ Wi (fun j b => (j ∈ S ∧ X b) ∨ (j ∈ S2 ∧ Z b)) ops i g := fun ⟨j, k1, k2⟩ => by
 rcases k2 with ⟨hj, k2⟩ | ⟨_, k2⟩
 ·exact h1.elim (fun h => by rw [List.all_eq_true.1 h j hj] at k1; cases k1) fun h => h k2
 ·exact h3 k2
theorem Wi.notS3 {ops : Array Oper} {i a1 a2 g : Nat} {X Y Z : Nat → Prop} {S : List Nat} (h1 : depB ops a1 i = true ∨ ¬ X g) (h2 : depB ops a2 i = true ∨ ¬ Y g) (h3 : ¬ Z g) : ¬ Wi (fun j b => (j = a1 ∧ X b) ∨ (j = a2 ∧ Y b) ∨ (j ∈ S ∧ Z b)) ops i g := fun ⟨j, k1, k2⟩ => by
 rcases k2 with ⟨rfl, k2⟩ | ⟨rfl, k2⟩ | ⟨_, k2⟩
 ·exact h1.elim (fun h => by rw [h] at k1; cases k1) fun h => h k2
 ·exact h2.elim (fun h => by rw [h] at k1; cases k1) fun h => h k2
 ·exact h3 k2
end
section
def mE {κ α : Type} (kv : κ → Value) (E : α → AV) : List (κ × α) → Nat → List (Value × AV × Nat)
 | [], _ => []
 | p :: r, j => (kv p.1, E p.2, j) :: mE kv E r (j + 1)
abbrev mapE {κ α : Type} (kv : κ → Value) (g : Nat) (E : α → AV) (l : List (κ × α)) : Ent := .mp g (mE kv E l 0) l.length
def mget {κ α : Type} [DecidableEq κ] : List (κ × α) → κ → Option α
 | [], _ => none
 | p :: r, k => if k = p.1 then some p.2 else mget r k
def mput {κ α : Type} [DecidableEq κ] : List (κ × α) → κ → α → List (κ × α)
 | [], k, x => [(k, x)]
 | p :: r, k, x => if k = p.1 then (k, x) :: r else p :: mput r k x
def mpos {κ α : Type} [DecidableEq κ] : List (κ × α) → κ → Nat
 | [], _ => 0
 | p :: r, k => if k = p.1 then 0 else mpos r k + 1
section
variable {κ α : Type} {kv : κ → Value} {E : α → AV}
theorem mE_len : ∀ (l : List (κ × α)) (i : Nat), (mE kv E l i).length = l.length
 | [], _ => rfl
 | _ :: r, i => by simp [mE, mE_len r]
theorem mE_get : ∀ (l : List (κ × α)) (i j : Nat) (h : j < l.length), (mE kv E l i)[j]? = some (kv (l[j]).1, E (l[j]).2, i + j)
 | [], _, _, h => by simp at h
 | p :: r, i, 0, _ => by simp [mE]
 | p :: r, i, j + 1, h => by
  simp only [mE, List.getElem?_cons_succ, List.getElem_cons_succ]
  rw [mE_get r (i + 1) j (by simpa using h)]
  congr 3; omega
theorem mE_born : ∀ (l : List (κ × α)) (i : Nat), (mE kv E l i).map (·.2.2) = List.range' i l.length
 | [], _ => rfl
 | p :: r, i => by simp [mE, mE_born r, List.range'_succ]
variable [DecidableEq κ]
theorem mpos_le : ∀ (l : List (κ × α)) (k : κ), mpos l k ≤ l.length
 | [], _ => Nat.le_refl _
 | p :: r, k => by
  have := mpos_le r k
  simp only [mpos, List.length_cons]; split <;> omega
theorem mget_pos : ∀ (l : List (κ × α)) (k : κ), mget l k = (l[mpos l k]?).map (·.2)
 | [], _ => rfl
 | p :: r, k => by
  simp only [mget, mpos]
  split
  ·rfl
  ·rw [mget_pos r k]; simp
theorem mpos_key : ∀ (l : List (κ × α)) (k : κ) (h : mpos l k < l.length), (l[mpos l k]).1 = k
 | [], _, h => by simp at h
 | p :: r, k, h => by
  by_cases e : k = p.1
  ·simp [mpos, e]
  ·simp only [mpos, if_neg e, List.getElem_cons_succ]
   exact mpos_key r k (by simp only [mpos, if_neg e, List.length_cons] at h; omega)
theorem mpos_ne : ∀ (l : List (κ × α)) (k : κ) (j : Nat) (h : j < mpos l k), ∃ h' : j < l.length, (l[j]).1 ≠ k
 | [], _, j, h => by simp [mpos] at h
 | p :: r, k, j, h => by
  by_cases e : k = p.1
  ·simp [mpos, e] at h
  ·simp only [mpos, if_neg e] at h
   cases j with
   | zero => exact ⟨by simp, fun h' => e h'.symm⟩
   | succ j => obtain ⟨h1, h2⟩ := mpos_ne r k j (by omega); exact ⟨by simpa using h1, by simpa using h2⟩
theorem mput_new : ∀ (l : List (κ × α)) (k : κ) (x : α), mpos l k = l.length → mput l k x = l ++ [(k, x)]
 | [], _, _, _ => rfl
 | p :: r, k, x, h => by
  by_cases e : k = p.1
  ·simp [mpos, e] at h
  ·simp only [mpos, if_neg e, List.length_cons] at h
   simp only [mput, if_neg e, List.cons_append]
   rw [mput_new r k x (by omega)]
theorem mput_old : ∀ (l : List (κ × α)) (k : κ) (x : α), mpos l k < l.length → mput l k x = l.set (mpos l k) (k, x)
 | [], _, _, h => by simp at h
 | p :: r, k, x, h => by
  by_cases e : k = p.1
  ·simp [mput, mpos, e]
  ·simp only [mpos, if_neg e, List.length_cons] at h
   simp only [mput, mpos, if_neg e, List.set_cons_succ]
   rw [mput_old r k x (by omega)]
theorem mput_len (l : List (κ × α)) (k : κ) (x : α) : (mput l k x).length = if mpos l k < l.length then l.length else l.length + 1 := by
 split
 ·rename_i h; rw [mput_old l k x h]; simp
 ·rename_i h; rw [mput_new l k x (by have := mpos_le l k; omega)]; simp
end
structure KeyOk (P : Program) (kt : TypeId) {κ : Type} [DecidableEq κ] (kv : κ → Value) : Prop where
 check : ∀ (e : Bool) (k : κ) (w : World), (Instr.checkKey e 10000 kt (kv k)).run P w = .ok () w
 find : ∀ {α : Type} (l : List (κ × α)) (c : List MapEntry) (k : κ) (w : World), c.length = l.length → (∀ j (h : j < l.length), ∃ e, c[j]? = some e ∧ e.key = kv (l[j]).1) →
  (Instr.findKey kt (kv k) c).run P w = .ok (if mpos l k < l.length then (c[mpos l k]?).map fun e => (mpos l k, e.val) else none) w
 stay : ∀ (k : κ) (w : World), (Instr.keyThatStays (kv k) (kv k)).run P w = .ok (kv k) w
theorem findNow_str {α : Type} : ∀ (l : List (ByteArray × α)) (c : List MapEntry) (k : ByteArray), c.length = l.length → (∀ j (h : j < l.length), ∃ e, c[j]? = some e ∧ e.key = .string (l[j]).1) →
  ∀ i, Instr.findNow .string (.string k) c i = some (if mpos l k < l.length then (c[mpos l k]?).map fun e => (i + mpos l k, e.val) else none)
 | [], c, k, hl, h, i => by
  have : c = [] := List.eq_nil_of_length_eq_zero (by simpa using hl)
  subst this; rfl
 | p :: r, [], k, hl, h, i => by simp at hl
 | p :: r, e :: c, k, hl, h, i => by
  obtain ⟨e0, h1, h2⟩ := h 0 (by simp)
  simp at h1 h2
  subst h1
  simp only [Instr.findNow, h2, Instr.sameNow]
  by_cases ek : k = p.1
  ·have : (k == p.1) = true := by rw [bA_beq]; exact decide_eq_true ek
   rw [this]
   simp [mpos, ek]
  ·have : (k == p.1) = false := by rw [bA_beq]; exact decide_eq_false ek
   rw [this]
   simp only
   rw [findNow_str r c k (by simpa using hl) (fun j hj => h (j + 1) (Nat.succ_lt_succ hj)) (i + 1)]
   simp only [mpos, if_neg ek, List.length_cons, Nat.add_lt_add_iff_right, List.getElem?_cons_succ]
   rw [show i + 1 + mpos r k = i + (mpos r k + 1) by omega]
theorem KeyOk.str {P : Program} {kt : TypeId} (hk : P.underlying kt = some .string) : KeyOk P kt (fun k : ByteArray => Value.string k) where
 check e k w := by
  rw [show (10000 : Nat) = 9999 + 1 from rfl, Instr.checkKey]
  simp only [Sem.run_bind, run_underlying hk, Result.andThen_ok, Sem.run_pure]
 find l c k w hl h := by
  have := findNow_str l c k hl h 0
  simp only [Nat.zero_add] at this
  simp only [Instr.findKey, Sem.run_bind, run_underlying hk, Result.andThen_ok, this, Sem.run_pure]
 stay k w := by
  have : Instr.sameBits 10000 (.string k) (.string k) = true := by
   simp only [Instr.sameBits, bA_beq, decide_true]
  simp [Instr.keyThatStays, this]
end
section
theorem getMap {P : Program} {w : World} {r : Nat} {es : Array MapEntry} {clock : Nat} (hb : w.heap[r]? = some (.map es clock)) : (getObj r).run P w = .ok (.map es clock) w := by
 simp [getObj, Sem.run, hb]
theorem putMap {P : Program} {w : World} {r : Nat} {es : Array MapEntry} {clock : Nat} (c : Array MapEntry) (clk : Nat) (hb : w.heap[r]? = some (.map es clock)) : (setObj r (.map c clk)).run P w = .ok () { w with heap := w.heap.setIfInBounds r (.map c clk) } := by
 simp [setObj, Sem.run, hb]
def _root_.Go.World.setMp (w : World) (g : Nat) (c : Array MapEntry) (clk : Nat) : World := { w with heap := w.heap.setIfInBounds g (.map c clk) }
theorem setMp_heap (w : World) (g : Nat) (c c' : Array MapEntry) (clk clk' : Nat) (h : w.heap[g]? = some (.map c clk)) : (w.setMp g c' clk').heap[g]? = some (.map c' clk') := by
 have := (Array.getElem?_eq_some_iff.1 h).1
 simp [World.setMp, this]
theorem setMp_other (w : World) (g b : Nat) (c' : Array MapEntry) (clk' : Nat) (h : b ≠ g) : (w.setMp g c' clk').heap[b]? = w.heap[b]? := by
 simp only [World.setMp]
 exact Array.getElem?_setIfInBounds_ne (fun e => h e.symm)
theorem chg_setMp (w : World) (g : Nat) (c : Array MapEntry) (clk : Nat) : Chg (fun b => some g = some b) w (w.setMp g c clk) :=
 ⟨rfl, rfl, rfl, by simp [World.setMp], fun k _ hk => setMp_other w g k c clk (fun e => hk (by rw [e]))⟩
section
variable {P : Program} {B : Bs} {W : Nat → Prop} {s s' : St'} {o : Oper} {K : St' → Prop} {a : Act} {w w' : World}
variable {κ α : Type} {kv : κ → Value} {E : α → AV}
def KeyE (B : Bs) (s : St') (x : Operand) (v : Value) : Prop := ∀ a w, R B s a w → a.eval x = v
theorem KeyE.v {x : Operand} {v : Value} (h : evO s x = some (.v v)) : KeyE B s x v := fun a w hr => hr.evv h
theorem KeyE.agg2 {x : Operand} {v1 v2 : Value} (h : evO s x = some (.agg [.v v1, .v v2])) : KeyE B s x (.agg #[v1, v2]) := fun a w hr => by
 have := hr.ev h
 generalize hv : a.eval x = u at this
 cases this with
 | agg cs us hl hr =>
  have h0 := (hr 0 (by simp)).eq_v
  have h1 := (hr 1 (by simp)).eq_v
  simp at hl
  congr 1
  apply Array.ext (by simp [hl])
  intro i hi1 hi2
  simp [hl] at hi1
  match i, hi1 with
  | 0, _ => simpa [hl] using h0
  | 1, _ => simpa [hl] using h1
theorem EntR.toMap {g : Nat} {l : List (κ × α)} {Z : Nat → Prop} (h : EntR w Z (mapE kv g E l)) : ∃ c : Array MapEntry, w.heap[g]? = some (.map c l.length) ∧ c.size = l.length ∧ ∀ j (hj : j < l.length), (c[j]!).key = kv (l[j]).1 ∧ (c[j]!).born = j ∧ Rep w Z (E (l[j]).2) (c[j]!).val := by
 obtain ⟨c, h1, h2, h3, h4⟩ := h
 rw [mE_len] at h2
 refine ⟨c, h1, h2, fun j hj => ?_⟩
 obtain ⟨k1, k2, k3, k4⟩ := h4 j (by rw [mE_len]; exact hj)
 have e := mE_get (kv := kv) (E := E) l 0 j hj
 rw [List.getElem?_eq_getElem (by rw [mE_len]; exact hj)] at e
 have e := Option.some.inj e
 rw [e] at k1 k2 k4
 exact ⟨k1, by simpa using k2, k4⟩
theorem EntR.ofMap {g : Nat} {l : List (κ × α)} {Z : Nat → Prop} {c : Array MapEntry} (h1 : w.heap[g]? = some (.map c l.length)) (h2 : c.size = l.length) (h3 : ∀ j (hj : j < l.length), (c[j]!).key = kv (l[j]).1 ∧ (c[j]!).born = j ∧ Rep w Z (E (l[j]).2) (c[j]!).val) : EntR w Z (mapE kv g E l) := by
 refine ⟨c, h1, by rw [mE_len]; exact h2, by rw [mE_born]; exact List.nodup_range', fun j hj => ?_⟩
 have hj' := hj
 rw [mE_len] at hj'
 have e := mE_get (kv := kv) (E := E) l 0 j hj'
 rw [List.getElem?_eq_getElem hj] at e
 have e := Option.some.inj e
 rw [e]
 obtain ⟨k1, k2, k3⟩ := h3 j hj'
 exact ⟨k1, by simp [k2], by simpa using hj', k3⟩
theorem map_find [DecidableEq κ] {kt : TypeId} (hk : KeyOk P kt kv) {l : List (κ × α)} {Z : Nat → Prop} {c : Array MapEntry} (h2 : c.size = l.length) (h3 : ∀ j (hj : j < l.length), (c[j]!).key = kv (l[j]).1 ∧ (c[j]!).born = j ∧ Rep w Z (E (l[j]).2) (c[j]!).val) (k : κ) (w0 : World) :
  (Instr.findKey kt (kv k) c.toList).run P w0 = .ok (if mpos l k < l.length then some (mpos l k, (c[mpos l k]!).val) else none) w0 := by
 have := hk.find l c.toList k w0 (by simpa using h2) (fun j hj => ⟨c[j]!, by rw [Array.getElem?_toList, getElem!_pos c j (by omega)]; exact Array.getElem?_eq_getElem _, (h3 j hj).1⟩)
 rw [this]
 split
 ·rename_i h
  rw [Array.getElem?_toList, getElem!_pos c _ (by omega), Array.getElem?_eq_getElem (by omega)]
  rfl
 ·rfl
theorem OpE.makeMap {t : TypeId} (kv : κ → Value) (E : α → AV) (ho : o.op = .makeMap t none) (hB : B.Ok) (hd : okd B.nt o.dst = true)
  (hK : ∀ g, K ((St'.mk s.sl (s.hp ++ [mapE kv g E []]) s.k).put o.dst (.v (.map (some g))))) : OpE P B W s o K := by
 intro a w hr next Qx hn
 have h1 := hr.new hB (.map #[] 0) (mapE kv w.heap.size E []) rfl (EntR.ofMap (l := ([] : List (κ × α))) (c := #[]) (heap_alloc_new w _) rfl fun j hj => by simp at hj)
 have hrun : (execOp a.eval o).run P w = .ok (.value (.map (some w.heap.size))) (w.alloc (.map #[] 0)) := by
  simp [execOp, ho, Instr.makeMap, run_newObj_alloc]
 unfold Oper.wp
 rw [hrun]
 exact hn _ _ _ (hK _) (h1.put _ hd _ _ (.v _)) (.ofN ((Chg.refl _ _).alloc _))
theorem OpV.lookup_own [DecidableEq κ] {x y : Operand} {T kt e g i : Nat} {k : κ} {l : List (κ × α)} {z : Value} (ho : o.op = .lookup T x y false) (hB : B.Ok) (hu : P.underlying T = some (.map kt e)) (hko : KeyOk P kt kv) (hz : ∀ w, (zeroValue e).run P w = .ok z w)
  (hx : evO s x = some (.v (.map (some g)))) (hk : KeyE B s y (kv k)) (hi : s.hp[i]? = some (mapE kv g E l)) (hW : ¬ W g) : OpV P B W s o (match mget l k with | some v => E v | none => .v z) := fun a w hr => by
 have hm := List.mem_of_getElem? hi
 obtain ⟨c, h1, h2, h3⟩ := EntR.toMap (hr.blocks _ hm)
 have hf := map_find hko h2 h3 k
 have hg := mget_pos l k
 have hle := mpos_le l k
 by_cases hp : mpos l k < l.length
 ·have e : mget l k = some (l[mpos l k]).2 := by rw [hg, List.getElem?_eq_getElem hp]; rfl
  rw [e]
  refine ⟨(c[mpos l k]!).val, fun w' hcw => ?_, (h3 _ hp).2.2⟩
  have h1' : w'.heap[g]? = some (.map c l.length) := (hcw.block g (hr.lt _ hm g rfl) fun h => h.elim (hr.notStr hB hm rfl) hW).trans h1
  simp [execOp, ho, Instr.lookup, run_underlying hu, hr.evv hx, hk a w hr, getMap h1', hko.check, hf, hp]
 ·have e : mget l k = none := by rw [hg, List.getElem?_eq_none (by omega)]; rfl
  rw [e]
  refine ⟨z, fun w' hcw => ?_, .v _⟩
  have h1' : w'.heap[g]? = some (.map c l.length) := (hcw.block g (hr.lt _ hm g rfl) fun h => h.elim (hr.notStr hB hm rfl) hW).trans h1
  simp [execOp, ho, Instr.lookup, run_underlying hu, hr.evv hx, hk a w hr, getMap h1', hko.check, hf, hp, hz]
theorem OpV.lookup_ok [DecidableEq κ] {x y : Operand} {T kt e g i : Nat} {k : κ} {l : List (κ × α)} {z : Value} (ho : o.op = .lookup T x y true) (hB : B.Ok) (hu : P.underlying T = some (.map kt e)) (hko : KeyOk P kt kv) (hz : ∀ w, (zeroValue e).run P w = .ok z w)
  (hx : evO s x = some (.v (.map (some g)))) (hk : KeyE B s y (kv k)) (hi : s.hp[i]? = some (mapE kv g E l)) (hW : ¬ W g) : OpV P B W s o (.tup [match mget l k with | some v => E v | none => .v z, avB (mget l k).isSome]) := fun a w hr => by
 have hm := List.mem_of_getElem? hi
 obtain ⟨c, h1, h2, h3⟩ := EntR.toMap (hr.blocks _ hm)
 have hf := map_find hko h2 h3 k
 have hg := mget_pos l k
 have hle := mpos_le l k
 by_cases hp : mpos l k < l.length
 ·have e : mget l k = some (l[mpos l k]).2 := by rw [hg, List.getElem?_eq_getElem hp]; rfl
  rw [e]
  refine ⟨.tuple #[(c[mpos l k]!).val, .bool true], fun w' hcw => ?_, .tup _ _ rfl fun j hj => ?_⟩
  ·have h1' : w'.heap[g]? = some (.map c l.length) := (hcw.block g (hr.lt _ hm g rfl) fun h => h.elim (hr.notStr hB hm rfl) hW).trans h1
   simp [execOp, ho, Instr.lookup, run_underlying hu, hr.evv hx, hk a w hr, getMap h1', hko.check, hf, hp]
  ·match j, hj with
   | 0, _ => exact (h3 _ hp).2.2
   | 1, _ => exact .v _
 ·have e : mget l k = none := by rw [hg, List.getElem?_eq_none (by omega)]; rfl
  rw [e]
  refine ⟨.tuple #[z, .bool false], fun w' hcw => ?_, .tup _ _ rfl fun j hj => ?_⟩
  ·have h1' : w'.heap[g]? = some (.map c l.length) := (hcw.block g (hr.lt _ hm g rfl) fun h => h.elim (hr.notStr hB hm rfl) hW).trans h1
   simp [execOp, ho, Instr.lookup, run_underlying hu, hr.evv hx, hk a w hr, getMap h1', hko.check, hf, hp, hz]
  ·match j, hj with
   | 0, _ => exact .v _
   | 1, _ => exact .v _
theorem modify_at {c : Array MapEntry} {i j : Nat} {f : MapEntry → MapEntry} (h : j < c.size) : (c.modify i f)[j]! = if i = j then f (c[j]!) else c[j]! := by
 rw [getElem!_pos _ j (by simpa using h), getElem!_pos c j h, Array.getElem_modify]
theorem push_at {c : Array MapEntry} {j : Nat} {x : MapEntry} (h : j < c.size + 1) : (c.push x)[j]! = if j < c.size then c[j]! else x := by
 rw [getElem!_pos _ j (by simpa using h), Array.getElem_push]
 split
 ·rename_i h1; rw [getElem!_pos c j h1]
 ·rfl
theorem R.setMap (hB : B.Ok) (hr : R B s a w) {i g : Nat} {l l' : List (κ × α)} {c c' : Array MapEntry} (hi : s.hp[i]? = some (mapE kv g E l)) (h1 : w.heap[g]? = some (.map c l.length)) (h2' : c'.size = l'.length)
  (h3' : ∀ j (hj : j < l'.length), (c'[j]!).key = kv (l'[j]).1 ∧ (c'[j]!).born = j ∧ Rep w (Zn B s.hp w) (E (l'[j]).2) (c'[j]!).val) : R B ⟨s.sl, s.hp.set i (mapE kv g E l'), s.k⟩ a (w.setMp g c' l'.length) := by
 have hm := List.mem_of_getElem? hi
 refine hr.set hB hi (chg_setMp w g c' l'.length) (.inl rfl) (EntR.ofMap (setMp_heap w g c c' _ _ h1) h2' fun j hj => ?_)
 obtain ⟨k1, k2, k3⟩ := h3' j hj
 refine ⟨k1, k2, k3.keep fun b hb hbl => ⟨setMp_other w g b c' _ fun e => hb.2.1 _ hm (by rw [e]; rfl), by simp [World.setMp]; exact hbl, fun p hp => ?_, hb.2.2⟩⟩
 rcases List.mem_or_eq_of_mem_set hp with hp | hp
 ·exact hb.2.1 p hp
 ·subst hp; exact hb.2.1 (mapE kv g E l) hm
theorem OpE.mapUpdate [DecidableEq κ] {x y v : Operand} {T kt e g i : Nat} {k : κ} {xx : α} {l : List (κ × α)} (ho : o.op = .mapUpdate T x y v) (hB : B.Ok) (hd : okd B.nt o.dst = true) (hu : P.underlying T = some (.map kt e)) (hko : KeyOk P kt kv)
  (hx : evO s x = some (.v (.map (some g)))) (hk : KeyE B s y (kv k)) (hv : evO s v = some (E xx)) (hi : s.hp[i]? = some (mapE kv g E l)) (hW : W g)
  (hK : K ((St'.mk s.sl (s.hp.set i (mapE kv g E (mput l k xx))) s.k).put o.dst (.v undef))) : OpE P B W s o K := by
 intro a w hr next Qx hn
 have hm := List.mem_of_getElem? hi
 obtain ⟨c, h1, h2, h3⟩ := EntR.toMap (hr.blocks _ hm)
 have hf := map_find hko h2 h3 k w
 have hle := mpos_le l k
 have hvv := hr.ev hv
 generalize hu' : a.eval v = u at hvv
 by_cases hp : mpos l k < l.length
 ·have hput := mput_old l k xx hp
  have hkey : (((c[mpos l k]?).map (·.key)).getD (kv k)) = kv k := by
   rw [Array.getElem?_eq_getElem (by omega)]
   have := (h3 _ hp).1
   rw [getElem!_pos c _ (by omega)] at this
   simp only [Option.map_some, Option.getD_some, this, mpos_key l k hp]
  have hr' := hr.setMap hB (l' := mput l k xx) (c' := c.modify (mpos l k) fun e => { e with key := kv k, val := u }) hi h1 (by rw [hput]; simp [h2]) (fun j hj => by
   have hj' : j < l.length := by rw [hput] at hj; simpa using hj
   simp only [hput]
   rw [modify_at (by omega)]
   by_cases ej : mpos l k = j
   ·rw [if_pos ej]
    subst ej
    exact ⟨by simp, (h3 _ hp).2.1, by simpa using hvv⟩
   ·rw [if_neg ej, List.getElem_set_ne ej]
    exact h3 j hj')
  have hlen : (mput l k xx).length = l.length := by rw [hput]; simp
  have hrun : (execOp a.eval o).run P w = .ok .skip (w.setMp g (c.modify (mpos l k) fun e => { e with key := kv k, val := u }) (mput l k xx).length) := by
   simp [execOp, ho, Instr.mapUpdate, run_underlying hu, hr.evv hx, hk a w hr, getMap h1, hko.check, hf, hp, hkey, hko.stay, hu', putMap _ _ h1, hlen, World.setMp]
  unfold Oper.wp
  rw [hrun]
  exact hn _ _ _ hK (hr'.put _ hd _ _ (.v _)) ((chg_setMp w g _ _).mono fun b _ h => .inr (by cases h; exact hW))
 ·have hput := mput_new l k xx (by omega)
  have hr' := hr.setMap hB (l' := mput l k xx) (c' := c.push { key := kv k, val := u, born := l.length }) hi h1 (by rw [hput]; simp [h2]) (fun j hj => by
   have hj' : j < l.length + 1 := by rw [hput] at hj; simpa using hj
   simp only [hput]
   rw [push_at (by omega)]
   by_cases ej : j < l.length
   ·rw [if_pos (by omega), List.getElem_append_left ej]
    exact h3 j ej
   ·obtain rfl : j = l.length := by omega
    rw [if_neg (by omega)]
    simpa using hvv)
  have hlen : (mput l k xx).length = l.length + 1 := by rw [hput]; simp
  have hrun : (execOp a.eval o).run P w = .ok .skip (w.setMp g (c.push { key := kv k, val := u, born := l.length }) (mput l k xx).length) := by
   simp [execOp, ho, Instr.mapUpdate, run_underlying hu, hr.evv hx, hk a w hr, getMap h1, hko.check, hf, hp, hu', putMap _ _ h1, hlen, World.setMp]
  unfold Oper.wp
  rw [hrun]
  exact hn _ _ _ hK (hr'.put _ hd _ _ (.v _)) ((chg_setMp w g _ _).mono fun b _ h => .inr (by cases h; exact hW))
def mgetD [DecidableEq κ] (l : List (κ × α)) (k : κ) (z : α) : α := (mget l k).getD z
end
end
end Go.Proofs.YtcploodfholkkaaGreatDoor
namespace Go.Proofs
open Go.Shelf
def Tryz.sorted140_ren : Go.Shelf.Ren := ⟨fun | 6 => 140 | 8 => 213 | 9 => 214 | 11 => 289 | 13 => 176 | 12 => 290 | 23 => 248 | 24 => 249 | 14 => 338 | 15 => 339 | 16 => 340 | 17 => 341 | 18 => 342 | 19 => 343 | 20 => 251 | 21 => 344 | 22 => 345 | 25 => 375 | 26 => 317 | 27 => 318 | 28 => 376 | 29 => 377 | 30 => 321 | 31 => 391 | n => n, fun | 26 => 9 | 28 => 247 | 24 => 82 | 0 => 0 | 3 => 3 | 37 => 282 | 48 => 340 | 50 => 342 | 4 => 4 | 40 => 334 | 39 => 333 | 45 => 212 | 5 => 5 | 9 => 9 | 51 => 388 | 55 => 392 | 57 => 427 | 58 => 148 | 33 => 265 | n => n, fun | n => n⟩
theorem Tryz.sorted140 : Go.Proofs.SlLaysZ.n6 Tryz.prog Tryz.sorted140_ren := {
 mixed := by kernel_rfl
 f6 := ⟨Tryz.f140.name, by decide, Tryz.func140.trans (congrArg some (by kernel_rfl))⟩
 f8 := ⟨Tryz.f213.name, by decide, Tryz.func213.trans (congrArg some (by kernel_rfl))⟩
 f11 := ⟨Tryz.f289.name, by decide, Tryz.func289.trans (congrArg some (by kernel_rfl))⟩
 t0 := Tryz.underlying0
 a0 := Tryz.isAgg0
 z0 := Tryz.sizeOf0
 v0 := Tryz.zeroValue0
 t24 := Tryz.underlying82
 a24 := Tryz.isAgg82
 z24 := Tryz.sizeOf82
 v24 := Tryz.zeroValue82
 t26 := Tryz.underlying9
 a26 := Tryz.isAgg9
 z26 := Tryz.sizeOf9
 v26 := Tryz.zeroValue9
 t28 := Tryz.underlying247
 a28 := Tryz.isAgg247
 z28 := Tryz.sizeOf247
 v28 := Tryz.zeroValue247
 i26 := by kernel_rfl }
def Tryz.sort214_ren : Go.Shelf.Ren := ⟨fun | 6 => 214 | 8 => 176 | 9 => 290 | 19 => 248 | 20 => 249 | 21 => 338 | 22 => 339 | 23 => 340 | 24 => 341 | 25 => 342 | 26 => 343 | 27 => 251 | 28 => 344 | 29 => 345 | 36 => 375 | 31 => 317 | 32 => 318 | 37 => 376 | 38 => 377 | 39 => 321 | 41 => 391 | n => n, fun | 27 => 82 | 29 => 9 | 3 => 3 | 32 => 282 | 26 => 82 | 0 => 0 | 44 => 340 | 46 => 342 | 4 => 4 | 36 => 334 | 35 => 333 | 41 => 212 | 5 => 5 | 9 => 9 | 53 => 388 | 57 => 392 | 63 => 427 | 64 => 148 | n => n, fun | n => n⟩
theorem Tryz.sort214 : Go.Proofs.SlLaysM.n6 Tryz.prog Tryz.sort214_ren := {
 mixed := by kernel_rfl
 f6 := ⟨Tryz.f214.name, by decide, Tryz.func214.trans (congrArg some (by kernel_rfl))⟩
 f8 := Tryz.func176.trans (congrArg some (by kernel_rfl))
 f9 := ⟨Tryz.f290.name, by decide, Tryz.func290.trans (congrArg some (by kernel_rfl))⟩
 f19 := Tryz.func248.trans (congrArg some (by kernel_rfl))
 f20 := Tryz.func249.trans (congrArg some (by kernel_rfl))
 f21 := ⟨Tryz.f338.name, by decide, Tryz.func338.trans (congrArg some (by kernel_rfl))⟩
 f22 := ⟨Tryz.f339.name, by decide, Tryz.func339.trans (congrArg some (by kernel_rfl))⟩
 f23 := ⟨Tryz.f340.name, by decide, Tryz.func340.trans (congrArg some (by kernel_rfl))⟩
 f24 := ⟨Tryz.f341.name, by decide, Tryz.func341.trans (congrArg some (by kernel_rfl))⟩
 f25 := ⟨Tryz.f342.name, by decide, Tryz.func342.trans (congrArg some (by kernel_rfl))⟩
 f26 := ⟨Tryz.f343.name, by decide, Tryz.func343.trans (congrArg some (by kernel_rfl))⟩
 f27 := ⟨Tryz.f251.name, by decide, Tryz.func251.trans (congrArg some (by kernel_rfl))⟩
 f28 := ⟨Tryz.f344.name, by decide, Tryz.func344.trans (congrArg some (by kernel_rfl))⟩
 f29 := ⟨Tryz.f345.name, by decide, Tryz.func345.trans (congrArg some (by kernel_rfl))⟩
 f31 := Tryz.func317.trans (congrArg some (by kernel_rfl))
 f32 := Tryz.func318.trans (congrArg some (by kernel_rfl))
 f36 := ⟨Tryz.f375.name, by decide, Tryz.func375.trans (congrArg some (by kernel_rfl))⟩
 f37 := ⟨Tryz.f376.name, by decide, Tryz.func376.trans (congrArg some (by kernel_rfl))⟩
 f38 := ⟨Tryz.f377.name, by decide, Tryz.func377.trans (congrArg some (by kernel_rfl))⟩
 f39 := ⟨Tryz.f321.name, by decide, Tryz.func321.trans (congrArg some (by kernel_rfl))⟩
 f41 := ⟨Tryz.f391.name, by decide, Tryz.func391.trans (congrArg some (by kernel_rfl))⟩
 t0 := Tryz.underlying0
 a0 := Tryz.isAgg0
 z0 := Tryz.sizeOf0
 v0 := Tryz.zeroValue0
 t3 := Tryz.underlying3
 a3 := Tryz.isAgg3
 z3 := Tryz.sizeOf3
 v3 := Tryz.zeroValue3
 t4 := Tryz.underlying4
 a4 := Tryz.isAgg4
 z4 := Tryz.sizeOf4
 v4 := Tryz.zeroValue4
 t5 := Tryz.underlying5
 a5 := Tryz.isAgg5
 z5 := Tryz.sizeOf5
 v5 := Tryz.zeroValue5
 t9 := Tryz.underlying9
 a9 := Tryz.isAgg9
 z9 := Tryz.sizeOf9
 v9 := Tryz.zeroValue9
 t26 := Tryz.underlying82
 a26 := Tryz.isAgg82
 z26 := Tryz.sizeOf82
 v26 := Tryz.zeroValue82
 t27 := Tryz.underlying82
 a27 := Tryz.isAgg82
 z27 := Tryz.sizeOf82
 v27 := Tryz.zeroValue82
 t29 := Tryz.underlying9
 a29 := Tryz.isAgg9
 z29 := Tryz.sizeOf9
 v29 := Tryz.zeroValue9
 t32 := Tryz.underlying282
 a32 := Tryz.isAgg282
 z32 := Tryz.sizeOf282
 v32 := Tryz.zeroValue282
 t35 := Tryz.underlying333
 a35 := Tryz.isAgg333
 z35 := Tryz.sizeOf333
 v35 := Tryz.zeroValue333
 t36 := Tryz.underlying334
 a36 := Tryz.isAgg334
 z36 := Tryz.sizeOf334
 v36 := Tryz.zeroValue334
 t41 := Tryz.underlying212
 a41 := Tryz.isAgg212
 z41 := Tryz.sizeOf212
 v41 := Tryz.zeroValue212
 t44 := Tryz.underlying340
 a44 := Tryz.isAgg340
 z44 := Tryz.sizeOf340
 v44 := Tryz.zeroValue340
 t46 := Tryz.underlying342
 a46 := Tryz.isAgg342
 z46 := Tryz.sizeOf342
 v46 := Tryz.zeroValue342
 t53 := Tryz.underlying388
 a53 := Tryz.isAgg388
 z53 := Tryz.sizeOf388
 v53 := Tryz.zeroValue388
 t57 := Tryz.underlying392
 a57 := Tryz.isAgg392
 z57 := Tryz.sizeOf392
 v57 := Tryz.zeroValue392
 t63 := Tryz.underlying427
 a63 := Tryz.isAgg427
 z63 := Tryz.sizeOf427
 v63 := Tryz.zeroValue427
 t64 := Tryz.underlying148
 a64 := Tryz.isAgg148
 z64 := Tryz.sizeOf148
 v64 := Tryz.zeroValue148 }
def Tryz.keys165_ren : Go.Shelf.Ren := ⟨fun | 7 => 165 | 10 => 232 | n => n, fun | 23 => 208 | 26 => 9 | 3 => 3 | 28 => 247 | 0 => 0 | 27 => 246 | 33 => 265 | 4 => 4 | n => n, fun | n => n⟩
theorem Tryz.keys165 : Go.Proofs.SlLaysZ.n7 Tryz.prog Tryz.keys165_ren := {
 mixed := by kernel_rfl
 f7 := ⟨Tryz.f165.name, by decide, Tryz.func165.trans (congrArg some (by kernel_rfl))⟩
 f10 := ⟨Tryz.f232.name, by decide, Tryz.func232.trans (congrArg some (by kernel_rfl))⟩
 t0 := Tryz.underlying0
 a0 := Tryz.isAgg0
 z0 := Tryz.sizeOf0
 v0 := Tryz.zeroValue0
 t4 := Tryz.underlying4
 a4 := Tryz.isAgg4
 z4 := Tryz.sizeOf4
 v4 := Tryz.zeroValue4
 t23 := Tryz.underlying208
 a23 := Tryz.isAgg208
 z23 := Tryz.sizeOf208
 v23 := Tryz.zeroValue208
 t26 := Tryz.underlying9
 a26 := Tryz.isAgg9
 z26 := Tryz.sizeOf9
 v26 := Tryz.zeroValue9
 t27 := Tryz.underlying246
 a27 := Tryz.isAgg246
 z27 := Tryz.sizeOf246
 v27 := Tryz.zeroValue246
 t28 := Tryz.underlying247
 a28 := Tryz.isAgg247
 z28 := Tryz.sizeOf247
 v28 := Tryz.zeroValue247
 t33 := Tryz.underlying265
 a33 := Tryz.isAgg265
 z33 := Tryz.sizeOf265
 v33 := Tryz.zeroValue265 }
end Go.Proofs
namespace Go.Proofs.YtcploodfholkkaaGreatDoor
open Go.RowKit
set_option maxRecDepth 100000
section
open Go.RowKit Go.Maps Go.Sort Go.Shelf
def bytesOf (l : List UInt8) : ByteArray := ⟨l.toArray⟩
def sKeys {α : Type} (l : List (ByteArray × α)) : List ByteArray := ((l.map fun p => p.1.data.toList).mergeSort (fun x y => decide (x ≤ y))).map bytesOf
theorem sKeys_len {α : Type} (l : List (ByteArray × α)) : (sKeys l).length = l.length := by simp [sKeys]
theorem mput_keys {α : Type} (l : List (ByteArray × α)) (k : ByteArray) (x : α) : (mput l k x).map (·.1) = if mpos l k < l.length then l.map (·.1) else l.map (·.1) ++ [k] := by
 split
 ·rename_i h
  rw [mput_old l k x h, List.map_set]
  have := mpos_key l k h
  refine List.ext_getElem (by simp) fun i h1 h2 => ?_
  simp only [List.length_set, List.length_map] at h1
  rw [List.getElem_set]
  split
  ·rename_i e; subst e; simp [this]
  ·simp
 ·rename_i h
  rw [mput_new l k x (by have := mpos_le l k; omega)]; simp
theorem mpos_mem {α : Type} {l : List (ByteArray × α)} {k : ByteArray} : mpos l k < l.length ↔ k ∈ l.map (·.1) := by
 constructor
 ·intro h; exact List.mem_map.2 ⟨_, List.getElem_mem h, mpos_key l k h⟩
 ·intro h
  obtain ⟨p, hp, e⟩ := List.mem_map.1 h
  obtain ⟨j, hj, ej⟩ := List.getElem_of_mem hp
  by_cases h1 : mpos l k < l.length
  ·exact h1
  ·have hle := mpos_le l k
   obtain ⟨_, h2⟩ := mpos_ne l k j (by omega)
   exact absurd (by rw [ej]; exact e) h2
theorem mput_nodup {α : Type} {l : List (ByteArray × α)} (h : (l.map (·.1)).Nodup) (k : ByteArray) (x : α) : ((mput l k x).map (·.1)).Nodup := by
 rw [mput_keys]
 split
 ·exact h
 ·rename_i h1
  rw [mpos_mem] at h1
  exact List.nodup_append.2 ⟨h, by simp, fun a ha b hb => by simp at hb; subst hb; exact fun e => h1 (e ▸ ha)⟩
theorem mput_mem {α : Type} {l : List (ByteArray × α)} {k : ByteArray} {x : α} {q : ByteArray} : q ∈ (mput l k x).map (·.1) ↔ q ∈ l.map (·.1) ∨ q = k := by
 rw [mput_keys]
 split
 ·rename_i h1
  rw [mpos_mem] at h1
  exact ⟨.inl, fun h => h.elim id fun e => e ▸ h1⟩
 ·simp
section
variable {P : Program} {w : World} {kt : TypeId}
theorem own_of_mapE {α : Type} {E : α → AV} {g : Nat} {l : List (ByteArray × α)} {Z : Nat → Prop} (hk : P.underlying kt = some .string) (h : EntR w Z (mapE (fun k : ByteArray => Value.string k) g E l)) (hnd : (l.map (·.1)).Nodup) (hs : ∀ p ∈ l, p.1.size ≤ maxLen) (hl : l.length ≤ maxLen) :
  ∃ D : DataW Unit, w.ownsMap P kt (fun _ => some (.nil, [])) g l.length D ∧ Maps.size D = l.length ∧ (strKeys D).Perm (l.map fun p => p.1.data.toList) := by
 obtain ⟨c, h1, h2, h3⟩ := h.toMap
 have hmem : ∀ x ∈ c.toList, ∃ j, ∃ hj : j < l.length, x = c[j]! := fun x hx => by
  obtain ⟨j, hj, rfl⟩ := List.getElem_of_mem hx
  simp at hj
  exact ⟨j, by omega, by rw [getElem!_pos c j hj]; simp⟩
 have hrd : ∀ x ∈ c.toList, ∀ j (hj : j < l.length), x = c[j]! → WideElems.rd (H := Unit) P kt (fun _ => some (.nil, [])) x = some (.string (l[j]).1.data.toList, .nil) := fun x hx j hj e => by
  have hk1 := (h3 j hj).1
  obtain ⟨key, val, born⟩ := x
  have : key = .string (l[j]).1 := by rw [← hk1, ← e]
  subst this
  exact WideElems.rd_mk (R := fun _ => some (.nil, [])) (yv := (.nil, [])) (Go.WideMaps.keyOf_string_mk hk (hs _ (List.getElem_mem hj))) rfl
 have hF : WideElems.Fit (H := Unit) P kt (fun _ => some (.nil, [])) c l.length := ⟨by omega, (MapKept.stamped_iff _ _).2 ⟨fun x hx => by
   obtain ⟨j, hj, rfl⟩ := hmem x hx
   rw [(h3 j hj).2.1]; exact hj, by
   have : c.toList.map (·.born) = List.range' 0 l.length := by
    refine List.ext_getElem (by simp [h2]) fun i k1 k2 => ?_
    simp at k1
    have := (h3 i (by omega)).2.1
    rw [getElem!_pos c i k1] at this
    simp [this]
   rw [this]; exact List.nodup_range', by
   rw [List.pairwise_iff_getElem]
   intro i j hi hj hij e
   simp at hi hj
   have k1 := (h3 i (by omega)).1
   have k2 := (h3 j (by omega)).1
   rw [getElem!_pos c i hi] at k1
   rw [getElem!_pos c j hj] at k2
   simp only [Array.getElem_toList] at e
   rw [k1, k2] at e
   have e' : (l[i]'(by omega)).1 = (l[j]'(by omega)).1 := by injection e
   have := (List.pairwise_iff_getElem.1 hnd) i j (by simp; omega) (by simp; omega) hij
   simp at this
   exact this e'⟩, fun x hx => by
   obtain ⟨j, hj, e⟩ := hmem x hx
   exact ⟨_, hrd x hx j hj e⟩⟩
 refine ⟨_, ⟨c, l.length, h1, hF, by omega, rfl⟩, ?_, ?_⟩
 ·simp [Maps.size, (WideShapes.sorted_perm _).length_eq, h2]
 ·have hp := (WideShapes.sorted_perm (c.toList.map (WideElems.rg (H := Unit) P kt fun _ => some (.nil, []))))
  refine (hp.map (fun p => Go.strOf p.1)).trans (.of_eq ?_)
  refine List.ext_getElem (by simp [h2]) fun i k1 k2 => ?_
  simp at k1 k2
  have := hrd (c[i]!) (by rw [getElem!_pos c i (by omega)]; simp) i (by omega) rfl
  rw [getElem!_pos c i (by omega)] at this
  simp [WideElems.rg_of this]
  rfl
end
section
theorem sortsK (m : Nat) : AnyZ.SortsIn Tryz.prog Tryz.sorted140_ren Fence.wide m :=
  ⟨fun blk off cap ss W hH hblk hsz => callsIn_wide.2 (AnyM.slices_Sort_string Tryz.sort214 blk off cap ss W hH hblk hsz),
   fun p cap W => callsIn_wide.2 (AnyM.slices_Sort_string_none Tryz.sort214 p cap W)⟩
theorem maps_Keys_int (mb : Option Nat) : SpecH Tryz.prog 165 [.v (.map mb)] [] (fun y hp' => ∃ g, y = .v (.func (.func 232) #[] #[.pointer (some ⟨g, 0, none⟩)]) ∧ hp' = [.box g ⟨[.v (.map mb)], 208, 1⟩]) := fun w A us ha _ _ _ => by
 have hu : us = #[.map mb] := by
  have h0 := ha.2 0 (by simp)
  have h1 : us.size = 1 := ha.1
  have h2 := h0.eq_v
  apply Array.ext (by simp [h1])
  intro i hi1 hi2
  obtain rfl : i = 0 := by omega
  rw [Array.getD_eq_getD_getElem?, Array.getElem?_eq_getElem (by omega)] at h2
  simpa using h2
 subst hu
 refine ((callsIn_wide (n := 5)).1 (AnyZ.keys_in Tryz.keys165 Fence.wide 5 trivial rfl mb w)).mono ?_
 rintro e w' ⟨rfl, rfl⟩
 refine ⟨_, _, _, ⟨w.heap.size, rfl, rfl⟩, rfl, List.pairwise_singleton _ _, .v _, fun e he => ?_, fun b ⟨e, he, hb⟩ hl => ?_, ((Chg.refl NoB w).alloc _).any⟩
 ·simp at he; subst he
  exact ⟨_, heap_alloc_new w _, rfl, Nat.le_refl _, fun j hj => by simp at hj; subst hj; exact ⟨_, rfl, .v _⟩⟩
 ·simp at he; subst he
  simp [Ent.blk] at hb; omega
set_option maxHeartbeats 1000000 in
theorem slices_Sorted_int {α : Type} {E : α → AV} {g mg : Nat} {l : List (ByteArray × α)} (hnd : (l.map (·.1)).Nodup) (hs : ∀ p ∈ l, p.1.size ≤ maxLen) (hl : l.length ≤ 1000000) :
    SpecH Tryz.prog 140 [.v (.func (.func 232) #[] #[.pointer (some ⟨g, 0, none⟩)])] [.box g ⟨[.v (.map (some mg))], 208, 1⟩, mapE (fun k : ByteArray => Value.string k) mg E l]
      (fun y hp' => ∃ u, y = .v u ∧ hp' = [.row u l.length 1 (strsL (sKeys l)) 9, .box g ⟨[.v (.map (some mg))], 208, 1⟩, mapE (fun k : ByteArray => Value.string k) mg E l]) := fun w A us ha hap hA hE => by
  have hu : us = #[.func (.func 232) #[] #[.pointer (some ⟨g, 0, none⟩)]] := by
    have h0 := ha.2 0 (by simp)
    have h1 : us.size = 1 := ha.1
    have h2 := h0.eq_v
    apply Array.ext (by simp [h1])
    intro i hi1 hi2
    obtain rfl : i = 0 := by omega
    rw [Array.getD_eq_getD_getElem?, Array.getElem?_eq_getElem (by omega)] at h2
    simpa using h2
  subst hu
  have hB := hE _ (List.mem_cons_self ..)
  have hM := hE _ (List.mem_cons_of_mem _ (List.mem_cons_self ..))
  obtain ⟨c, b1, b2, b3, b4⟩ := hB
  have hc : c = #[.map (some mg)] := by
    obtain ⟨u, q1, q2⟩ := b4 0 (by simp)
    have := q2.eq_v
    simp at b2 this
    apply Array.ext (by simp [b2])
    intro i hi1 hi2
    obtain rfl : i = 0 := by omega
    rw [Array.getElem?_eq_getElem (by omega)] at q1
    cases q1
    simpa using this
  subst hc
  have hlen : l.length ≤ maxLen := by simp only [maxLen]; omega
  obtain ⟨D, d1, d2, d3⟩ := own_of_mapE (kt := 9) Tryz.underlying9 hM hnd hs hlen
  have hgl : g < w.heap.size := (Array.getElem?_eq_some_iff.1 b1).1
  have hcell : w.cell? ⟨g, 0, none⟩ = some (.map (some mg)) := by simp [World.cell?, b1]
  have hseq : SeqGives Fence.wide 2 Tryz.prog 232 #[.pointer (some ⟨g, 0, none⟩)] encStr (fun ss => ss.Perm (strKeys D)) (Maps.size D) w :=
    AnyZ.keys_gives (ρ := Tryz.keys165_ren) { Tryz.keys165 with } Fence.wide _ trivial rfl (by omega) g mg l.length D _ hgl hcell d1
  have hsz : Maps.size D ≤ maxLen := by rw [d2]; exact hlen
  have hby : Maps.size D * 16 ≤ 140737488355328 := by rw [d2]; omega
  refine ((callsIn_wide (n := 5)).1 (AnyZ.sorted_in Tryz.sorted140 Fence.wide 5 trivial trivial trivial trivial rfl (by omega) (sortsK _) (enters_of Tryz.func214 (by kernel_rfl) rfl) 232 #[.pointer (some ⟨g, 0, none⟩)] trivial (enters_of Tryz.func232 (by kernel_rfl) rfl) _ _ hsz hby _ hseq)).mono ?_
  rintro e w' ⟨v, ss, rfl, hS, hrow, hnil, hb⟩
  have hS' : ss.Perm (l.map fun p => p.1.data.toList) := hS.trans d3
  have hssl : ss.length = l.length := by simpa using hS'.length_eq
  have hkeys : (ss.mergeSort (fun x y => decide (x ≤ y))).map encStr = (sKeys l).map fun k => Value.string k := by
    have := mergeSort_of_perm hS'
    unfold leB at this
    rw [this, sKeys, List.map_map]
    rfl
  rw [hkeys] at hrow
  have hchg : Chg NoB w w' := (Chg.ofBelow hb).mono fun k h1 h2 => absurd h1 (Nat.not_lt.2 h2)
  obtain ⟨r1, r2⟩ := hrow
  have hZ : ∀ b, b < w.heap.size ∧ A b → Zh w A [.box g ⟨[.v (.map (some mg))], 208, 1⟩, mapE (fun k : ByteArray => Value.string k) mg E l] [.row v l.length 1 (strsL (sKeys l)) 9, .box g ⟨[.v (.map (some mg))], 208, 1⟩, mapE (fun k : ByteArray => Value.string k) mg E l] w' b := fun b ⟨hb1, hb2⟩ => by
    refine ⟨Nat.lt_of_lt_of_le hb1 hchg.size, fun ⟨e, he, heb⟩ => ?_, fun _ => .inl hb2⟩
    rcases List.mem_cons.1 he with rfl | he
    · rcases r2 with ⟨rfl, _⟩ | ⟨g2, cap, cur, rfl, hge, _⟩
      · simp [Ent.blk, Value.ownBlock] at heb
      · simp [Ent.blk, Value.ownBlock] at heb; omega
    · exact hA b ⟨e, he, heb⟩ hb2
  have hold : ∀ e ∈ [Ent.box g ⟨[.v (.map (some mg))], 208, 1⟩, mapE (fun k : ByteArray => Value.string k) mg E l], ∀ b, e.blk = some b → b < w.heap.size := fun e he b heb => by
    rcases List.mem_cons.1 he with rfl | he
    · simp [Ent.blk] at heb; omega
    · simp at he; subst he
      simp [Ent.blk] at heb
      obtain ⟨c2, k1, _⟩ := hM
      have := (Array.getElem?_eq_some_iff.1 k1).1
      omega
  refine ⟨_, _, _, ⟨v, rfl, rfl⟩, rfl, ?_, .v _, fun e he => ?_, fun b ⟨e, he, heb⟩ hl => ?_, hchg.any⟩
  · refine List.pairwise_cons.2 ⟨fun q hq b h1 h2 => ?_, hap⟩
    rcases r2 with ⟨rfl, _⟩ | ⟨g2, cap, cur, rfl, hge, _⟩
    · simp [Ent.blk, Value.ownBlock] at h1
    · simp [Ent.blk, Value.ownBlock] at h1
      have := hold q hq b h2
      omega
  · rcases List.mem_cons.1 he with rfl | he
    · refine ⟨by simp [strsL, sKeys_len], ?_⟩
      rcases r2 with ⟨rfl, hz⟩ | ⟨g2, cap, cur, rfl, hge, k1, k2, k3, k4, k5⟩
      · exact .inl ⟨rfl, by omega⟩
      · refine .inr ⟨g2, cap, cur, by rw [hssl], by omega, k3, k1, k4, fun j hj => ?_⟩
        have hj' : j < (sKeys l).length := by simpa [strsL] using hj
        have hcur : cur[j]? = some (.string ((sKeys l)[j])) := by
          have := congrArg (fun z => z[j]?) k5
          simp only [List.getElem?_map, List.getElem?_eq_getElem hj', Option.map_some] at this
          rw [List.getElem?_take] at this
          split at this
          · simpa using this
          · cases this
        exact ⟨_, hcur, by simp only [strsL, List.getElem_map]; exact .v _⟩
    · exact (hE e he).keep (fun b hb _ => ⟨hchg.block b hb.1 (fun h => h), hZ b hb⟩) fun b hb => hchg.block b (hold e he b hb) (fun h => h)
  · rcases List.mem_cons.1 he with rfl | he
    · rcases r2 with ⟨rfl, _⟩ | ⟨g2, cap, cur, rfl, hge, _⟩
      · simp [Ent.blk, Value.ownBlock] at heb
      · simp [Ent.blk, Value.ownBlock] at heb; omega
    · exact ⟨e, he, heb⟩
end
end
section
structure PlaceS where
 name : ByteArray
 part : ByteArray
 x : Int
 y : Int
 quarter : Int
instance : Inhabited PlaceS := ⟨⟨ByteArray.empty, ByteArray.empty, 0, 0, 0⟩⟩
instance : Sxc PlaceS where
 k := 5
 pos := by decide
 cell m j := match j with
  | 0 => avS m.name
  | 1 => avS m.part
  | 2 => avI m.x
  | 3 => avI m.y
  | 4 => avI m.quarter
  | _ => .any
structure ProdS where
 key : ByteArray
 wide : Int
 high : Int
 places : List PlaceS
instance : Inhabited ProdS := ⟨⟨ByteArray.empty, 0, 0, []⟩⟩
abbrev avProd (p : ProdS) : AV := .agg [avS p.key, avI p.wide, avI p.high, avL p.places]
abbrev boxProd (g : Nat) (p : ProdS) (ty : TypeId) : Ent := .box g ⟨[avS p.key, avI p.wide, avI p.high, avL p.places], ty, 4⟩
structure SmP (p : ProdS) : Prop where
 key : p.key.size ≤ 1000000
 len : p.places.length ≤ 1000000
 name : ∀ i, (p.places.getD i default).name.size ≤ 1000000
 part : ∀ i, (p.places.getD i default).part.size ≤ 1000000
def placeE (p : ProdS) (i : Nat) : Int :=
 if (keyF (p.places.getD i default).name && keyF (p.places.getD i default).part) = false then 5
 else if (decide (0 < i) && sLe (p.places.getD i default).name (p.places.getD (i - 1) default).name) = true then 7
 else if (outR (p.places.getD i default).x 0 p.wide || (outR (p.places.getD i default).y 0 p.high || outR (p.places.getD i default).quarter 0 3)) = true then 1
 else 0
def prodF (p : ProdS) : Int :=
 if keyF p.key = false then 5
 else if (outR p.wide 1 500000 || outR p.high 1 500000) = true then 1
 else if 1000 < p.places.length then 2
 else firstE (placeE p) p.places.length
section
variable {p : ProdS} {i : Nat}
theorem placeE_5a (h : keyF (p.places.getD i default).name = false) : placeE p i = 5 := by rw [placeE, if_pos (by rw [h]; rfl)]
theorem placeE_5b (h : keyF (p.places.getD i default).part = false) : placeE p i = 5 := by rw [placeE, if_pos (by rw [h, Bool.and_false])]
theorem placeE_7 (h1 : keyF (p.places.getD i default).name = true) (h2 : keyF (p.places.getD i default).part = true) (hi : 0 < i) (hs : sLe (p.places.getD i default).name (p.places.getD (i - 1) default).name = true) : placeE p i = 7 := by
 rw [placeE, if_neg (by rw [h1, h2]; simp), if_pos (by rw [hs, decide_eq_true hi]; rfl)]
theorem placeE_x (h1 : keyF (p.places.getD i default).name = true) (h2 : keyF (p.places.getD i default).part = true) (hs : i = 0 ∨ sLe (p.places.getD i default).name (p.places.getD (i - 1) default).name = false) :
  placeE p i = if (outR (p.places.getD i default).x 0 p.wide || (outR (p.places.getD i default).y 0 p.high || outR (p.places.getD i default).quarter 0 3)) = true then 1 else 0 := by
 rw [placeE, if_neg (by rw [h1, h2]; simp), if_neg]
 rcases hs with rfl | hs
 ·simp
 ·rw [hs]; simp
theorem placeE_1 (h1 : keyF (p.places.getD i default).name = true) (h2 : keyF (p.places.getD i default).part = true) (hs : i = 0 ∨ sLe (p.places.getD i default).name (p.places.getD (i - 1) default).name = false)
  (ho : (outR (p.places.getD i default).x 0 p.wide || (outR (p.places.getD i default).y 0 p.high || outR (p.places.getD i default).quarter 0 3)) = true) : placeE p i = 1 := by rw [placeE_x h1 h2 hs, if_pos ho]
theorem placeE_0 (h1 : keyF (p.places.getD i default).name = true) (h2 : keyF (p.places.getD i default).part = true) (hs : i = 0 ∨ sLe (p.places.getD i default).name (p.places.getD (i - 1) default).name = false)
  (ho : (outR (p.places.getD i default).x 0 p.wide || (outR (p.places.getD i default).y 0 p.high || outR (p.places.getD i default).quarter 0 3)) = false) : placeE p i = 0 := by rw [placeE_x h1 h2 hs, if_neg (by rw [ho]; simp)]
theorem prodF_5 (h : keyF p.key = false) : prodF p = 5 := by rw [prodF, if_pos h]
theorem prodF_1 (h : keyF p.key = true) (h1 : (outR p.wide 1 500000 || outR p.high 1 500000) = true) : prodF p = 1 := by rw [prodF, if_neg (by rw [h]; simp), if_pos h1]
theorem prodF_2 (h : keyF p.key = true) (h1 : (outR p.wide 1 500000 || outR p.high 1 500000) = false) (h2 : 1000 < p.places.length) : prodF p = 2 := by rw [prodF, if_neg (by rw [h]; simp), if_neg (by rw [h1]; simp), if_pos h2]
theorem prodF_x (h : keyF p.key = true) (h1 : (outR p.wide 1 500000 || outR p.high 1 500000) = false) (h2 : p.places.length ≤ 1000) : prodF p = firstE (placeE p) p.places.length := by rw [prodF, if_neg (by rw [h]; simp), if_neg (by rw [h1]; simp), if_neg (by omega)]
theorem prodF_at (h : keyF p.key = true) (h1 : (outR p.wide 1 500000 || outR p.high 1 500000) = false) (h2 : p.places.length ≤ 1000) {q : Nat} (hq : q < p.places.length) (hn : ∀ j, j < q → placeE p j = 0) {e : Int} (he : placeE p q = e) (h0 : e ≠ 0) : prodF p = e := by
 rw [prodF_x h h1 h2, firstE_found hn (by rw [he]; exact h0) hq, he]
theorem prodF_ok (h : keyF p.key = true) (h1 : (outR p.wide 1 500000 || outR p.high 1 500000) = false) (h2 : p.places.length ≤ 1000) (hn : ∀ j, j < p.places.length → placeE p j = 0) : prodF p = 0 := by
 rw [prodF_x h h1 h2, firstE_none hn]
end
structure ProdOk (p : ProdS) : Prop where
 key : keyF p.key = true
 wide : 1 ≤ p.wide ∧ p.wide ≤ 500000
 high : 1 ≤ p.high ∧ p.high ≤ 500000
 len : p.places.length ≤ 1000
 all : ∀ j, j < p.places.length → placeE p j = 0
theorem prodOk {p : ProdS} (h : prodF p = 0) : ProdOk p := by
 unfold prodF at h
 split at h
 ·cases h
 ·rename_i h1
  split at h
  ·cases h
  ·rename_i h2
   split at h
   ·cases h
   ·rename_i h3
    have h2' : (outR p.wide 1 500000 || outR p.high 1 500000) = false := by simpa using h2
    simp only [outR, Bool.or_eq_false_iff, decide_eq_false_iff_not] at h2'
    exact ⟨by simpa using h1, by omega, by omega, by omega, firstE_zero h⟩
def cntP (l : List PlaceS) : List (ByteArray × Int) := l.foldl (fun m x => mput m x.part (mgetD m x.part 0 + 1)) []
theorem cntP_snoc (l : List PlaceS) (x : PlaceS) : cntP (l ++ [x]) = mput (cntP l) x.part (mgetD (cntP l) x.part 0 + 1) := by simp [cntP]
theorem take_snocD {α : Type} {l : List α} {q : Nat} (h : q < l.length) (d : α) : l.take (q + 1) = l.take q ++ [l.getD q d] := by
 rw [List.take_add_one, List.getD_eq_getElem?_getD, List.getElem?_eq_getElem h]; rfl
theorem cntP_take {l : List PlaceS} {q : Nat} (h : q < l.length) : cntP (l.take (q + 1)) = mput (cntP (l.take q)) (l.getD q default).part (mgetD (cntP (l.take q)) (l.getD q default).part 0 + 1) := by
 rw [take_snocD h default, cntP_snoc]
theorem mget_mput {α : Type} : ∀ (l : List (ByteArray × α)) (k k' : ByteArray) (x : α), mget (mput l k x) k' = if k' = k then some x else mget l k'
 | [], k, k', x => by simp [mput, mget]
 | p :: r, k, k', x => by
  by_cases e : k = p.1
  ·subst e
   simp only [mput, if_true, mget]
   by_cases e2 : k' = p.1
   ·simp [e2]
   ·simp [e2]
  ·simp only [mput, if_neg e, mget]
   by_cases e2 : k' = p.1
   ·rw [if_pos e2, if_neg (fun h => e (h.symm.trans e2))]; simp [e2]
   ·rw [if_neg e2, mget_mput r k k' x]; simp [e2]
theorem mgetD_mput {α : Type} (l : List (ByteArray × α)) (k k' : ByteArray) (x z : α) : mgetD (mput l k x) k' z = if k' = k then x else mgetD l k' z := by
 unfold mgetD; rw [mget_mput]; split <;> rfl
theorem cntP_count : ∀ (l : List PlaceS) (m : List (ByteArray × Int)) (k : ByteArray), mgetD (l.foldl (fun m x => mput m x.part (mgetD m x.part 0 + 1)) m) k 0 = mgetD m k 0 + (l.filter fun x => decide (x.part = k)).length
 | [], m, k => by simp
 | x :: l, m, k => by
  rw [List.foldl_cons, cntP_count l, mgetD_mput]
  by_cases e : k = x.part
  ·subst e; simp; omega
  ·rw [if_neg e, List.filter_cons_of_neg (by simp; exact fun h => e h.symm)]
theorem cntP_get (l : List PlaceS) (k : ByteArray) : mgetD (cntP l) k 0 = (l.filter fun x => decide (x.part = k)).length := by
 rw [cntP, cntP_count]; simp [mgetD, mget]
theorem cntP_bd (l : List PlaceS) (k : ByteArray) : 0 ≤ mgetD (cntP l) k 0 ∧ mgetD (cntP l) k 0 ≤ l.length := by
 rw [cntP_get]
 have := List.length_filter_le (fun x : PlaceS => decide (x.part = k)) l
 omega
theorem cntP_nodup' : ∀ (l : List PlaceS) (m : List (ByteArray × Int)), (m.map (·.1)).Nodup → ((l.foldl (fun m x => mput m x.part (mgetD m x.part 0 + 1)) m).map (·.1)).Nodup
 | [], m, h => h
 | x :: l, m, h => cntP_nodup' l _ (mput_nodup h _ _)
theorem cntP_nodup (l : List PlaceS) : ((cntP l).map (·.1)).Nodup := cntP_nodup' l [] List.nodup_nil
theorem cntP_mem' : ∀ (l : List PlaceS) (m : List (ByteArray × Int)) (k : ByteArray), k ∈ (l.foldl (fun m x => mput m x.part (mgetD m x.part 0 + 1)) m).map (·.1) ↔ k ∈ m.map (·.1) ∨ ∃ x ∈ l, x.part = k
 | [], m, k => by simp
 | x :: l, m, k => by
  rw [List.foldl_cons, cntP_mem' l, mput_mem, or_assoc]
  simp only [List.mem_cons, exists_eq_or_imp]
  exact ⟨fun h => h.elim .inl fun h => h.elim (fun h => .inr (.inl h.symm)) fun h => .inr (.inr h), fun h => h.elim .inl fun h => h.elim (fun h => .inr (.inl h.symm)) fun h => .inr (.inr h)⟩
theorem cntP_mem {l : List PlaceS} {k : ByteArray} : k ∈ (cntP l).map (·.1) ↔ ∃ x ∈ l, x.part = k := by rw [cntP, cntP_mem']; simp
theorem cntP_len (l : List PlaceS) : (cntP l).length ≤ l.length := by
 unfold cntP
 have : ∀ (l : List PlaceS) (m : List (ByteArray × Int)), (l.foldl (fun m x => mput m x.part (mgetD m x.part 0 + 1)) m).length ≤ m.length + l.length := by
  intro l
  induction l with
  | nil => intro m; simp
  | cons x l ih =>
   intro m
   have := ih (mput m x.part (mgetD m x.part 0 + 1))
   have h2 := mput_len m x.part (mgetD m x.part 0 + 1)
   simp only [List.foldl_cons, List.length_cons]
   split at h2 <;> omega
 simpa using this l []
def needsL (p : ProdS) : List NeedS := (sKeys (cntP p.places)).map fun k => ⟨k, mgetD (cntP p.places) k 0⟩
def needsR (p : ProdS) : List NeedS := if prodF p = 0 then needsL p else []
theorem needsL_len (p : ProdS) : (needsL p).length = (cntP p.places).length := by simp [needsL, sKeys_len]
end
section
def AV.isV : AV → Bool
 | .v _ => true
 | _ => false
theorem flat_ofB {cs : List AV} (h : cs.all AV.isV = true) : FlatA cs := fun x hx => by
 have := List.all_eq_true.1 h x hx
 cases x <;> simp [AV.isV] at this
 exact ⟨_, rfl⟩
section
variable {P : Program} {s : St'}
theorem ResN.cellF {b t g j i k : Nat} {o' : Own'} {r : List AV} (hag : ∀ w, (isAgg t).run P w = .ok true w) (hsz : ∀ w, (sizeOf t).run P w = .ok k w) (hx : look s.sl b = some (.v (.pointer (some ⟨g, j, none⟩)))) (hi : s.hp[i]? = some (.box g o')) (hc : cutL o'.cs j k = some r) (hf : FlatA r) :
  ResN P s (.cell b t) (.agg r) := fun B a w hS hr => by
 obtain ⟨v, h1, h2⟩ := ResV.cellK hag hsz hx hi hc B a w hr
 refine ⟨v, h1, ?_⟩
 cases h2 with
 | agg cs us hl hr' => exact .agg _ _ hl fun j h => (hr' j h).flat (hf _ (List.getElem_mem h))
theorem ResN.rowT {α : Type} [Inhabited α] [Sxc α] {t i n : Nat} {u : Value} {xs : List α} {ty : TypeId} (h : look s.sl t = some (.v u)) (hi : s.hp[i]? = some (.row u n (Sxc.k α) (rowL xs) ty)) (hn : n = xs.length) (hf : FlatA (rowL xs)) : ResN P s (.tmp t) (avL xs) :=
 ResN.row h hi hf fun w Z u h => Rep.rowL hn h
theorem ResN.nilE {t sz : Nat} {F : Nat → AV} (h : look s.sl t = some (.v (.slice none 0 0))) : ResN P s (.tmp t) (.im 0 sz F) := fun B a w hS hr => ⟨_, rfl, by
 show Rep w (NewZ B w) _ (a.tmps.getD t undef)
 rw [(hr.slots t _ h).eq_v]; exact .nil _ _⟩
theorem flat_rowL {α : Type} [Inhabited α] [Sxc α] (h : ∀ (x : α) j, j < Sxc.k α → ∃ v, Sxc.cell x j = .v v) (xs : List α) : FlatA (rowL xs) := fun y hy => by
 simp only [rowL, List.mem_flatMap] at hy
 obtain ⟨x, _, hy⟩ := hy
 obtain ⟨j, hj, rfl⟩ := List.getElem_of_mem hy
 rw [tab_len] at hj
 obtain ⟨v, hv⟩ := h x j hj
 refine ⟨v, ?_⟩
 rw [← hv]
 have := tab_get (Sxc.k α) (Sxc.cell x) j
 have h2 : (tab (Sxc.k α) (Sxc.cell x))[j]? = some (Sxc.cell x j) := by rw [List.getElem?_eq_getElem (by rw [tab_len]; exact hj), tab_get]
 have h3 : j < (tab (Sxc.k α) (Sxc.cell x)).length := by rw [tab_len]; exact hj
 rw [List.getElem?_eq_getElem h3] at h2
 exact Option.some.inj h2
end
section
variable {P : Program} {B : Bs} {W : Nat → Prop} {s : St'} {o : Oper} {K : St' → Prop} {a : Act} {w : World}
theorem OpV.buildArr {t e n sz : Nat} {z : Value} {parts : Array (Nat × Operand)} {ps : List (Nat × AV)} {r : List AV} (ho : o.op = .build t parts) (hz : ∀ w, (zeroValue t).run P w = .ok z w) (hu : P.underlying t = some (.array n e)) (hsz : ∀ w, (sizeOf e).run P w = .ok sz w)
  (hps : evPs s parts.toList = some ps) (hf : fillA (fun i => some (i * sz, sz)) (cellsOf (.v z)) ps = some r) : OpV P B W s o (.agg r) := by
 intro a w hr
 obtain ⟨k1, k2⟩ := hr.evPs hps
 obtain ⟨c', h1, h2⟩ := fill_rep (Z := Zn B s.hp w) (w := w) (c := z.cells) (Rep.cells (.v z) rfl) hf (qs := parts.toList.map fun (i, x) => (i, a.eval x)) (by simp [k1]) k2
 refine ⟨.agg c', fun w' _ => ?_, .agg _ _ h2.1 h2.2⟩
 have h1' : Instr.fill (fun i => some (i * sz, sz)) z.cells (Array.map (fun p => (p.1, a.eval p.2)) parts).toList = some c' := by simpa using h1
 simp only [execOp, ho, Instr.build, Sem.run_bind, hz, run_underlying hu, hsz, Result.andThen_ok]
 have h1'' : Instr.fill (fun i => some (i * sz, sz)) z.cells (Array.map (fun x => match x with | (i, x) => (i, a.eval x)) parts).toList = some c' := h1'
 simp only [h1'', Sem.run_pure, Result.andThen_ok]
theorem Le.freezeAt {t i m g : Nat} {o' : Own'} {f : Nat → AV} (ht : look s.sl t = some (.v (.pointer (some ⟨g, 0, none⟩)))) (hi : s.hp[i]? = some (.box g o')) (hl : 0 + m ≤ o'.cs.length) (hf : ∀ w Z u, Rep w Z (.at_ m fun j => o'.cs.getD (0 + j) .any) u → Rep w Z (.at_ m f) u) (hnew : True) (hB : B.Ok) :
  Le B s ⟨(t, .at_ m f) :: s.sl, s.hp.eraseIdx i, s.k⟩ := fun a w hr => by
 have hr' := hr.erase i
 refine hr'.over t ?_
 have hu : a.tmps.getD t undef = _ := (hr.slots t _ ht).eq_v
 rw [hu]
 refine hf _ _ _ (hr.repPtr hi hl (fun b hb => ⟨hb.1, fun p hp => hb.2.1 p ((List.eraseIdx_sublist s.hp i).subset hp), hb.2.2⟩) fun hl => ?_)
 exact hr.erased hB hi rfl
theorem apart_ne {hp : List Ent} (h : Apart hp) {i j g g' : Nat} (hi : (hp[i]?).bind Ent.blk = some g) (hj : (hp[j]?).bind Ent.blk = some g') (hij : i ≠ j) : g ≠ g' := fun e => by
 obtain ⟨p, hp1, hp2⟩ := Option.bind_eq_some_iff.1 hi
 obtain ⟨q, hq1, hq2⟩ := Option.bind_eq_some_iff.1 hj
 exact h.get hp1 hq1 hij hp2 (by rw [hq2, e])
theorem OpE.hap (h : Apart s.hp → OpE P B W s o K) : OpE P B W s o K := fun a w hr => h hr.nodup a w hr
theorem VC.hap {c : Code} {Q : Exit → St' → Prop} (h : Apart s.hp → VC P B c Q s) : VC P B c Q s := fun a w hr => h hr.nodup a w hr
theorem Wi.notN2 {ops : Array Oper} {i g m m2 : Nat} {X Y : Nat → Prop} (h : depB ops m i = true) (hY : ¬ Y g) : ¬ Wi (fun j b => (j = m ∧ X b) ∨ (j = m2 ∧ Y b)) ops i g := fun ⟨j, h1, h2⟩ => by
 rcases h2 with ⟨h2, _⟩ | ⟨_, h2⟩
 ·subst h2; rw [h] at h1; cases h1
 ·exact hY h2
def lstB (n : Nat) (l : List Nat) : Array Bool := l.foldl (fun a i => a.setIfInBounds i true) (Array.replicate n false)
theorem VA.bind {V : Nat → Nat → Prop} {ops : Array Oper} {Q : Exit → St' → Prop} {n : Nat} {L : Array Bool} (h : ∀ F : Nat → Array Bool → St' → Prop, F = (fun n L s => VA P B V ops Q n L s) → F n L s) : VA P B V ops Q n L s := h _ rfl
theorem VA.to {V : Nat → Nat → Prop} {ops : Array Oper} {Q : Exit → St' → Prop} {n : Nat} {L L' : Array Bool} {s' : St'} (h : VA P B V ops Q n L' s') (hL : L = L') (hle : Le B s s') : VA P B V ops Q n L s := by
 subst hL
 exact VA.le _ hle h
theorem Le.aggRow {t i j n sz : Nat} {u : Value} {cs csA : List AV} {ty : TypeId} {y : AV} (hB : B.Ok) (hnew : True) (ht : look s.sl t = some (.agg csA)) (hj : csA[j]? = some (.v u)) (hi : s.hp[i]? = some (.row u n sz cs ty)) (hy : ∀ w Z u, Rep w Z (.im n sz fun j => cs.getD j .any) u → Rep w Z y u) :
  Le B s ⟨(t, .agg (csA.set j y)) :: s.sl, s.hp.eraseIdx i, s.k⟩ := fun a w hr => by
 have hm := List.mem_of_getElem? hi
 have hr' := hr.erase i
 refine hr'.over t ?_
 have hz : ∀ b, Zn B s.hp w b → Zn B (s.hp.eraseIdx i) w b := fun b hb => ⟨hb.1, fun p hp => hb.2.1 p ((List.eraseIdx_sublist s.hp i).subset hp), hb.2.2⟩
 have h0 := hr.slots t _ ht
 generalize a.tmps.getD t undef = v at h0
 cases h0 with
 | agg cs' us hl hrr =>
  refine .agg _ us (by simpa using hl) fun q hq => ?_
  have hq' : q < csA.length := by simpa using hq
  obtain ⟨hjl, hje⟩ := List.getElem?_eq_some_iff.1 hj
  rw [List.getElem_set]
  split
  ·rename_i e
   subst e
   have h1 := hrr j hjl
   rw [hje] at h1
   rw [h1.eq_v]
   exact hy _ _ _ (hr.repRow hi hz fun g hg hl => hr.erased hB hi hg)
  ·exact (hrr q hq').keep fun b hb _ => ⟨rfl, hz b hb⟩
theorem Rep.fn0 {w : World} {Z : Nat → Prop} {F : FuncId} {u : Value} (h : Rep w Z (.v (.func (.func F) #[] #[])) u) : Rep w Z (.fn F []) u := by
 rw [h.eq_v]; exact .fn F [] #[] rfl fun j hj => by simp at hj
end
end
section
def keysP : List ByteArray := [⟨#[99, 49]⟩, ⟨#[99, 50]⟩, ⟨#[114, 49]⟩, ⟨#[114, 50]⟩, ⟨#[117, 49]⟩]
theorem keysP_size (q : Nat) : (keysP.getD q ByteArray.empty).size ≤ 1000 := by
 match q with
 | 0 => decide
 | 1 => decide
 | 2 => decide
 | 3 => decide
 | 4 => decide
 | q + 5 => simp [keysP]
def POk (l : List PlaceS) : Prop := ∀ x ∈ l, x.name.size ≤ 1000 ∧ x.part.size ≤ 1000
theorem POk.snoc {l : List PlaceS} (h : POk l) {x : PlaceS} (hx : x.name.size ≤ 1000 ∧ x.part.size ≤ 1000) : POk (l ++ [x]) := fun y hy => by
 rcases List.mem_append.1 hy with hy | hy
 ·exact h y hy
 ·simp at hy; subst hy; exact hx
theorem POk.set {l : List PlaceS} (h : POk l) (q : Nat) {x : PlaceS} (hx : x.name.size ≤ 1000 ∧ x.part.size ≤ 1000) : POk (l.set q x) := fun y hy => by
 rcases List.mem_or_eq_of_mem_set hy with h' | rfl
 ·exact h y h'
 ·exact hx
theorem POk.getD {l : List PlaceS} (h : POk l) (i : Nat) : (l.getD i default).name.size ≤ 1000 ∧ (l.getD i default).part.size ≤ 1000 := by
 rw [List.getD_eq_getElem?_getD]
 cases hi : l[i]? with
 | none => decide
 | some x => exact h x (List.mem_of_getElem? hi)
theorem POk.sm {k : ByteArray} {w h : Int} {l : List PlaceS} (hk : k.size ≤ 1000) (hl : l.length ≤ 5) (ho : POk l) : SmP ⟨k, w, h, l⟩ :=
 ⟨by show k.size ≤ _; omega, by show l.length ≤ _; omega, fun i => by have := (ho.getD i).1; show (l.getD i default).name.size ≤ _; omega, fun i => by have := (ho.getD i).2; show (l.getD i default).part.size ≤ _; omega⟩
theorem getD_set_self {α : Type} {xs : List α} {q : Nat} {x d : α} (h : q < xs.length) : (xs.set q x).getD q d = x := by simp [h]
theorem pl_upd {a b : PlaceS} {k : Nat} (h0 : k = 0 ∨ a.name = b.name) (h1 : k = 1 ∨ a.part = b.part) (h2 : k = 2 ∨ a.x = b.x) (h3 : k = 3 ∨ a.y = b.y) (h4 : k = 4 ∨ a.quarter = b.quarter) : ∀ i, i < 5 → i ≠ k → Sxc.cell a i = Sxc.cell b i := fun i hi hn => by
 match i, hi with
 | 0, _ => show avS a.name = avS b.name; rw [h0.resolve_left fun h => hn h.symm]
 | 1, _ => show avS a.part = avS b.part; rw [h1.resolve_left fun h => hn h.symm]
 | 2, _ => show avI a.x = avI b.x; rw [h2.resolve_left fun h => hn h.symm]
 | 3, _ => show avI a.y = avI b.y; rw [h3.resolve_left fun h => hn h.symm]
 | 4, _ => show avI a.quarter = avI b.quarter; rw [h4.resolve_left fun h => hn h.symm]
abbrev pA (g o : Nat) : AV := .v (.pointer (some ⟨g, o, none⟩))
abbrev xA (l : List PlaceS) (m : Nat) : PlaceS := l.getD m default
abbrev bA (g : Nat) : Ent := .box g ⟨[avS ⟨#[]⟩, avI 0, avI 0, .v (.slice none 0 0)], 28, 4⟩
end
end Go.Proofs.YtcploodfholkkaaGreatDoor
