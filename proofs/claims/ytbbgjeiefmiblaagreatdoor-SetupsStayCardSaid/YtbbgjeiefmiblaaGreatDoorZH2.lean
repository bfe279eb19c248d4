/- Part 2 of a proof: the walks and laws that it needs. -/
import Derived.Lib.SlTrimSet
import Derived.Test.YtbbgjeiefmiblaaGreatDoorProg
import Derived.Lib.AppendZerosOnto
import Derived.Lib.Overlaps
import Derived.Laws.StructEq
import Derived.MapKept
import Derived.Shelf.SlIter.Nil
import Derived.Shelf.SortM.Plain
import Derived.Shelf.SortM.SortNone
import Derived.Ground.GgzProg
import Derived.Ground.SlgmProg
import Derived.StringKeys
import Derived.Test.YtbbgjeiefmiblaaGreatDoorZH1
namespace Go.Proofs.YtbbgjeiefmiblaaGreatDoor
open Go.RowKit
set_option linter.unusedVariables false
set_option linter.unusedSimpArgs false

def inB (l : List UInt8) (b : UInt8) : Bool := decide (0 ≤ Lib.indexByte l b)
def smallsB : List UInt8 := [97, 98, 99, 100, 101, 102, 103, 104, 105, 106, 107, 108, 109, 110, 111, 112, 113, 114, 115, 116, 117, 118, 119, 120, 121, 122]
def keysB : List UInt8 := smallsB ++ [48, 49, 50, 51, 52, 53, 54, 55, 56, 57, 45, 95]
def keyF (s : ByteArray) : Bool := decide (1 ≤ s.size) && decide (s.size ≤ 40) && (s.data.toList.take 1).all (inB smallsB) && s.data.toList.all (inB keysB)

theorem argsV2 {u v : Value} {w : World} {A : Nat → Prop} {us : Array Value} (h : Args w A [.v u, .v v] us) : us = #[u, v] := by
 obtain ⟨h1, h2⟩ := h
 have e0 := (h2 0 (by simp)).eq_v
 have e1 := (h2 1 (by simp)).eq_v
 apply Array.ext (by simpa using h1)
 intro i hi hi'
 simp at hi'
 rw [h1] at hi
 match i, hi' with
 | 0, _ => simpa [Array.getD_eq_getD_getElem?, h1] using e0
 | 1, _ => simpa [Array.getD_eq_getD_getElem?, h1] using e1
theorem Chg.ofBelowN {w w' : World} (h : Below w.heap.size w w') : Chg NoB w w' := ⟨h.os, h.tape, h.output, h.size, fun k hk _ => h.block k hk⟩

theorem strings_IndexByte_S {s : ByteArray} {c : Int} : SpecN Tryz.prog 151 [avS s, .v (.int .u8 c)] (fun y => y = avI (Lib.indexByte s.data.toList c.toNat.toUInt8)) := by
 intro w us ha
 rw [argsV2 ha]
 refine (Tryz.strings_IndexByte s c w).mono ?_
 rintro e w' ⟨rfl, rfl⟩
 exact ⟨_, _, rfl, rfl, .v _, Chg.refl _ _, trivial⟩
theorem strings_Trim_S {s cs : ByteArray} (hs : s.size ≤ 9223372036854775807) (hcs : cs.size < 4294967281) (hascii : ∀ (j : Nat) b, cs.data.toList[j]? = some b → b.toNat < 128) :
  SpecN Tryz.prog 152 [avS s, avS cs] (fun y => y = avS ⟨(Lib.trimS s.data.toList cs.data.toList).toArray⟩) := by
 intro w us ha
 rw [argsV2 ha]
 refine (Tryz.strings_Trim s cs w hs hcs hascii).mono ?_
 rintro e w' ⟨rfl, h⟩
 exact ⟨_, _, rfl, rfl, .v _, .ofBelowN h, trivial⟩



theorem lenB (p : ByteArray) : p.data.toList.length = p.size := by have := Lib.size_eq p; omega
theorem byteAt {p : ByteArray} {i : Nat} (h : i < p.size) : ((p[i].toNat : Int)).toNat.toUInt8 = p.data.toList.getD i 0 := by
 have : p[i] = p.data[i] := rfl
 rw [this]
 have h' : i < p.data.size := h
 simp [List.getD_eq_getElem?_getD]
 rw [Array.getElem?_eq_getElem h']; rfl
theorem sEq_empty {p : ByteArray} : sEq p ⟨#[]⟩ = decide (p.size = 0) := by
 cases h : sEq p ⟨#[]⟩ with
 | true => rw [sEq_eq.1 h]; rfl
 | false =>
  refine (decide_eq_false fun e => ?_).symm
  have : p.data.toList = [] := List.eq_nil_of_length_eq_zero (by rw [lenB]; exact e)
  have : p = ⟨#[]⟩ := by cases p; simp at this; rw [this]
  rw [this] at h; rw [sEq_eq.2 rfl] at h; cases h
theorem pos_of_ne {p : ByteArray} (h : sEq p ⟨#[]⟩ = false) : 0 < p.size := by
 rw [sEq_empty] at h
 have := of_decide_eq_false h
 omega
theorem inB_contains (l : List UInt8) (b : UInt8) : inB l b = l.contains b := by
 induction l with
 | nil => rfl
 | cons x r ih =>
  unfold inB at ih ⊢
  rw [List.contains_cons, Lib.indexByte]
  have hge := Lib.indexByte_ge r b
  by_cases hx : x = b
  ·subst hx; simp
  ·have h1 : (x == b) = false := by simpa using hx
   have h2 : (b == x) = false := by simpa using fun e => hx e.symm
   rw [h1, h2, Bool.false_or, ← ih]
   simp only [Bool.false_eq_true, if_false]
   split
   ·rename_i e
    have : Lib.indexByte r b = -1 := by simpa using e
    rw [this]
   ·rename_i e
    have : Lib.indexByte r b ≠ -1 := by simpa using e
    congr 1
    exact propext ⟨fun _ => by omega, fun _ => by omega⟩
theorem dropWhile_nil {α : Type} {p : α → Bool} {l : List α} : l.dropWhile p = [] ↔ l.all p = true := by
 induction l with
 | nil => simp
 | cons x r ih =>
  by_cases h : p x = true
  ·simp [List.dropWhile, h, ih]
  ·simp [List.dropWhile, h]
theorem trimS_all (l cs : List UInt8) : Lib.trimS l cs = [] ↔ l.all (inB cs) = true := by
 have e : (inB cs) = (fun b => cs.contains b) := funext (inB_contains cs)
 rw [e]
 unfold Lib.trimS Lib.trimLeftS
 rw [dropWhile_nil]
 unfold Lib.trimRightS
 rw [List.all_reverse]
 have hsplit : l.reverse.takeWhile (cs.contains ·) ++ l.reverse.dropWhile (cs.contains ·) = l.reverse := List.takeWhile_append_dropWhile
 have h1 : l.all (fun b => cs.contains b) = l.reverse.all (fun b => cs.contains b) := by rw [List.all_reverse]
 rw [h1, ← hsplit, List.all_append]
 have h2 : (l.reverse.takeWhile (cs.contains ·)).all (fun b => cs.contains b) = true := List.all_takeWhile
 rw [h2, Bool.true_and, hsplit]
theorem keyF_len {p : ByteArray} (h : (decide (1 ≤ (p.size : Int)) && decide ((p.size : Int) ≤ 40)) = false) : keyF p = false := by
 unfold keyF
 have e1 : decide (1 ≤ p.size) = decide (1 ≤ (p.size : Int)) := by congr 1; exact propext ⟨fun _ => by omega, fun _ => by omega⟩
 have e2 : decide (p.size ≤ 40) = decide ((p.size : Int) ≤ 40) := by congr 1; exact propext ⟨fun _ => by omega, fun _ => by omega⟩
 rw [e1, e2, h]; simp
theorem keyF_ok {p : ByteArray} (h : (decide (1 ≤ (p.size : Int)) && decide ((p.size : Int) ≤ 40)) = true) : keyF p = ((p.data.toList.take 1).all (inB smallsB) && p.data.toList.all (inB keysB)) := by
 unfold keyF
 have e1 : decide (1 ≤ p.size) = decide (1 ≤ (p.size : Int)) := by congr 1; exact propext ⟨fun _ => by omega, fun _ => by omega⟩
 have e2 : decide (p.size ≤ 40) = decide ((p.size : Int) ≤ 40) := by congr 1; exact propext ⟨fun _ => by omega, fun _ => by omega⟩
 rw [e1, e2, h]; simp
theorem kI_0 {p : ByteArray} (h : (!sEq p ⟨#[]⟩) = false) : keyF p = false := by
 have e : p = ⟨#[]⟩ := sEq_eq.1 (by simpa using h)
 subst e; rfl
theorem kI_len {p : ByteArray} (h : decide ((p.size : Int) ≤ 40) = false) : keyF p = false := keyF_len (by rw [h]; simp)
theorem kI_first {p : ByteArray} (h : 0 < p.size) : (p.data.toList.take 1).all (inB smallsB) = decide (0 ≤ Lib.indexByte smallsB ((p[0].toNat : Int)).toNat.toUInt8) := by
 rw [byteAt h]
 have hl := lenB p
 cases e : p.data.toList with
 | nil => rw [e] at hl; simp at hl; omega
 | cons x r => simp [inB]
theorem kI_in {p : ByteArray} (h0 : (!sEq p ⟨#[]⟩) = true) (h1 : decide ((p.size : Int) ≤ 40) = true) : 0 < p.size ∧ (decide (1 ≤ (p.size : Int)) && decide ((p.size : Int) ≤ 40)) = true := by
 have := pos_of_ne (p := p) (by simpa using h0)
 exact ⟨this, by rw [h1, decide_eq_true (by omega)]; rfl⟩
theorem kI_1 {p : ByteArray} (h0 : (!sEq p ⟨#[]⟩) = true) (h1 : decide ((p.size : Int) ≤ 40) = true) {hp : 0 < p.size} (h2 : decide (0 ≤ Lib.indexByte smallsB ((p[0].toNat : Int)).toNat.toUInt8) = false) : keyF p = false := by
 obtain ⟨h3, h4⟩ := kI_in h0 h1
 rw [keyF_ok h4, kI_first h3, h2]; rfl
theorem kI_2 {p : ByteArray} (h0 : (!sEq p ⟨#[]⟩) = true) (h1 : decide ((p.size : Int) ≤ 40) = true) {hp : 0 < p.size} (h2 : decide (0 ≤ Lib.indexByte smallsB ((p[0].toNat : Int)).toNat.toUInt8) = true) : keyF p = sEq ⟨(Lib.trimS p.data.toList keysB).toArray⟩ ⟨#[]⟩ := by
 obtain ⟨h3, h4⟩ := kI_in h0 h1
 rw [keyF_ok h4, kI_first h3, h2, Bool.true_and]
 have ht := trimS_all p.data.toList keysB
 cases h5 : p.data.toList.all (inB keysB) with
 | true => rw [ht.2 h5]; exact (sEq_eq.2 rfl).symm
 | false =>
  cases h6 : sEq ⟨(Lib.trimS p.data.toList keysB).toArray⟩ ⟨#[]⟩ with
  | false => rfl
  | true =>
   have e := congrArg (fun b : ByteArray => b.data.toList) (sEq_eq.1 h6)
   simp at e
   rw [ht.1 e] at h5; cases h5
set_option maxRecDepth 100000 in
theorem kit_IsKey {p : ByteArray} (hp : p.size ≤ 1000000000) :
  SpecN Tryz.prog 113 [avS p] (fun y => y = avB (keyF p)) := by
 refine SpecN.of_VCN Tryz.func113 rfl Tryz.ntmps113 (Nle rfl) fun w A hB => ?_
 have hnew : True := trivial
 refine VC.sr ?_
 refine VO.ma rfl rfl rfl rfl ?_
 refine VO.nil ?_
 refine VC.sr ?_
 refine VO.mv rfl rfl rfl rfl ?_
 refine VO.val rfl rfl (OpV.sneq rfl rfl rfl) ?_
 refine VO.mv rfl rfl rfl rfl ?_
 refine VO.opG rfl rfl rfl rfl (fun aK1b => ?_) (fun aK1b => ?_)
 ·replace aK1b : _ = true := aK1b
  have aK1 := aK1b
  try simp only [qqT, qqF, qqN, qqM, qqL, qqE] at aK1
  refine OpE.val (W := NoB) (OpV.move (.inl rfl) rfl) rfl ?_
  refine VO.opY rfl rfl rfl rfl aK1b ?_
  refine OpE.val (W := NoB) (OpV.len_s rfl Tryz.underlying9 rfl) rfl ?_
  refine VO.opY rfl rfl rfl rfl aK1b ?_
  refine OpE.val (W := NoB) (OpV.leq rfl rfl rfl) rfl ?_
  refine VO.val rfl rfl (OpV.pickT rfl rfl rfl rfl aK1b) ?_
  refine VO.mv rfl rfl rfl rfl ?_
  refine VO.opG rfl rfl rfl rfl (fun aK2b => ?_) (fun aK2b => ?_)
  ·replace aK2b : _ = true := aK2b
   have aK2 := aK2b
   try simp only [qqT, qqF, qqN, qqM, qqL, qqE] at aK2
   refine OpE.val (W := NoB) (OpV.move (.inl rfl) rfl) rfl ?_
   refine VO.opY rfl rfl rfl rfl aK2b ?_
   refine OpE.val (W := NoB) (OpV.index_s rfl Tryz.underlying9 rfl rfl (by omega) (by have h := pos_of_ne (p := p) (by assumption); simpa using h)) rfl ?_
   refine VO.opY rfl rfl rfl rfl aK2b ?_
   refine OpE.call rfl hB rfl Tryz.call151 rfl (SpecN.spec (strings_IndexByte_S)) ?_
   rintro _ rfl
   refine VO.opY rfl rfl rfl rfl aK2b ?_
   refine OpE.val (W := NoB) (OpV.geq rfl rfl rfl) rfl ?_
   refine VO.val rfl rfl (OpV.pickT rfl rfl rfl rfl aK2b) ?_
   refine VO.mv rfl rfl rfl rfl ?_
   refine VO.opG rfl rfl rfl rfl (fun aK3b => ?_) (fun aK3b => ?_)
   ·replace aK3b : _ = true := aK3b
    have aK3 := aK3b
    try simp only [qqT, qqF, qqN, qqM, qqL, qqE] at aK3
    refine OpE.val (W := NoB) (OpV.move (.inl rfl) rfl) rfl ?_
    refine VO.opY rfl rfl rfl rfl aK3b ?_
    refine OpE.call rfl hB rfl Tryz.call152 rfl (SpecN.spec (strings_Trim_S (by omega) (by decide) (ascii_of_all (by decide)))) ?_
    rintro _ rfl
    refine VO.opY rfl rfl rfl rfl aK3b ?_
    refine OpE.val (W := NoB) (OpV.seql rfl rfl rfl) rfl ?_
    refine VO.val rfl rfl (OpV.pickT rfl rfl rfl rfl aK3b) ?_
    refine VO.ma rfl rfl rfl rfl ?_
    refine VO.nil ?_
    refine VC.ret ?_
    exact Exists.intro _ (And.intro (RetN.one Tryz.results113 (ResN.v rfl)) (by first | rw [kI_0 (by assumption)] | rw [kI_len (by assumption)] | (rw [kI_1 (by assumption) (by assumption) (by assumption)]) | (rw [kI_2 (by assumption) (by assumption) (by assumption)]; rfl)))
   ·replace aK3b : _ = false := aK3b
    have aK3 := aK3b
    try simp only [qqT, qqF, qqN, qqM, qqL, qqE] at aK3
    refine VO.opX rfl rfl rfl rfl aK3b ?_
    refine VO.opX rfl rfl rfl rfl aK3b ?_
    refine VO.val rfl rfl (OpV.pickF rfl rfl rfl rfl aK3b) ?_
    refine VO.ma rfl rfl rfl rfl ?_
    refine VO.nil ?_
    refine VC.ret ?_
    exact Exists.intro _ (And.intro (RetN.one Tryz.results113 (ResN.v rfl)) (by first | rw [kI_0 (by assumption)] | rw [kI_len (by assumption)] | (rw [kI_1 (by assumption) (by assumption) (by assumption)]) | (rw [kI_2 (by assumption) (by assumption) (by assumption)]; rfl)))
  ·replace aK2b : _ = false := aK2b
   have aK2 := aK2b
   try simp only [qqT, qqF, qqN, qqM, qqL, qqE] at aK2
   refine VO.opX rfl rfl rfl rfl aK2b ?_
   refine VO.opX rfl rfl rfl rfl aK2b ?_
   refine VO.opX rfl rfl rfl rfl aK2b ?_
   refine VO.val rfl rfl (OpV.pickF rfl rfl rfl rfl aK2b) ?_
   refine VO.mv rfl rfl rfl rfl ?_
   refine VO.opX rfl rfl rfl rfl rfl ?_
   refine VO.opX rfl rfl rfl rfl rfl ?_
   refine VO.opX rfl rfl rfl rfl rfl ?_
   refine VO.val rfl rfl (OpV.pickF rfl rfl rfl rfl rfl) ?_
   refine VO.ma rfl rfl rfl rfl ?_
   refine VO.nil ?_
   refine VC.ret ?_
   exact Exists.intro _ (And.intro (RetN.one Tryz.results113 (ResN.v rfl)) (by first | rw [kI_0 (by assumption)] | rw [kI_len (by assumption)] | (rw [kI_1 (by assumption) (by assumption) (by assumption)]) | (rw [kI_2 (by assumption) (by assumption) (by assumption)]; rfl)))
 ·replace aK1b : _ = false := aK1b
  have aK1 := aK1b
  try simp only [qqT, qqF, qqN, qqM, qqL, qqE] at aK1
  refine VO.opX rfl rfl rfl rfl aK1b ?_
  refine VO.opX rfl rfl rfl rfl aK1b ?_
  refine VO.val rfl rfl (OpV.pickF rfl rfl rfl rfl aK1b) ?_
  refine VO.mv rfl rfl rfl rfl ?_
  refine VO.opX rfl rfl rfl rfl rfl ?_
  refine VO.opX rfl rfl rfl rfl rfl ?_
  refine VO.opX rfl rfl rfl rfl rfl ?_
  refine VO.opX rfl rfl rfl rfl rfl ?_
  refine VO.val rfl rfl (OpV.pickF rfl rfl rfl rfl rfl) ?_
  refine VO.mv rfl rfl rfl rfl ?_
  refine VO.opX rfl rfl rfl rfl rfl ?_
  refine VO.opX rfl rfl rfl rfl rfl ?_
  refine VO.opX rfl rfl rfl rfl rfl ?_
  refine VO.val rfl rfl (OpV.pickF rfl rfl rfl rfl rfl) ?_
  refine VO.ma rfl rfl rfl rfl ?_
  refine VO.nil ?_
  refine VC.ret ?_
  exact Exists.intro _ (And.intro (RetN.one Tryz.results113 (ResN.v rfl)) (by first | rw [kI_0 (by assumption)] | rw [kI_len (by assumption)] | (rw [kI_1 (by assumption) (by assumption) (by assumption)]) | (rw [kI_2 (by assumption) (by assumption) (by assumption)]; rfl)))
end Go.Proofs.YtbbgjeiefmiblaaGreatDoor
namespace Go.Proofs.YtbbgjeiefmiblaaGreatDoor
open Go.RowKit
set_option linter.unusedVariables false
set_option linter.unusedSimpArgs false

theorem bits_Mul_S {x y : Nat} (hx : x < 18446744073709551616) (hy : y < 18446744073709551616) (hxy : x * y < 18446744073709551616) : SpecN Tryz.prog 57 [.v (.int .u64 x), .v (.int .u64 y)] (fun z => z = .tup [.v (.int .u64 0), .v (.int .u64 ((x * y : Nat) : Int))]) := by
 intro w us ha
 rw [argsV2 ha]
 refine (Tryz.bits_Mul x y hx hy w).mono ?_
 rintro e w' ⟨rfl, rfl⟩
 rw [Nat.div_eq_of_lt hxy, Nat.mod_eq_of_lt hxy]
 refine ⟨_, _, rfl, rfl, .tup _ _ rfl fun j hj => ?_, Chg.refl _ _, trivial⟩
 match j, hj with
 | 0, _ => exact .v _
 | 1, _ => exact .v _

def repC (X Z : AV) (k n : Nat) : List AV := List.replicate k X ++ List.replicate (n - k) Z
theorem repC_len {X Z : AV} {k n : Nat} (h : k ≤ n) : (repC X Z k n).length = n := by simp [repC]; omega
theorem repC_get {X Z : AV} {k n j : Nat} (h : k ≤ n) (hj : j < n) : (repC X Z k n)[j]? = some (if j < k then X else Z) := by
 unfold repC
 split
 ·rename_i h1; rw [List.getElem?_append_left (by simpa using h1)]; simp [h1]
 ·rename_i h1
  rw [List.getElem?_append_right (by simpa using h1), List.length_replicate, List.getElem?_replicate, if_pos (by omega)]
theorem repC_step {X Z : AV} {F : Nat → AV} {k c n o q : Nat} (h : k + c ≤ n) (hF : ∀ j, j < c → F j = X) (ho : o = k) (hq : q = c) : (repC X Z k n).take o ++ tab q F ++ (repC X Z k n).drop (o + q) = repC X Z (k + c) n := by
 subst ho; subst hq
 apply List.ext_getElem?
 intro i
 by_cases hi : i < n
 ·rw [repC_get h hi]
  by_cases h1 : i < o
  ·rw [List.append_assoc, List.getElem?_append_left (by rw [List.length_take, repC_len (by omega)]; omega), List.getElem?_take, if_pos h1, repC_get (by omega) hi, if_pos h1, if_pos (by omega)]
  ·by_cases h2 : i < o + q
   ·rw [List.append_assoc, List.getElem?_append_right (by rw [List.length_take, repC_len (by omega)]; omega), List.getElem?_append_left (by rw [List.length_take, repC_len (by omega), tab_len]; omega), if_pos h2]
    rw [List.getElem?_eq_getElem (by rw [List.length_take, repC_len (by omega), tab_len]; omega), tab_get, hF _ (by rw [List.length_take, repC_len (by omega)]; omega)]
   ·rw [List.getElem?_append_right (by rw [List.length_append, List.length_take, repC_len (by omega), tab_len]; omega), List.getElem?_drop, List.length_append, List.length_take, repC_len (by omega), tab_len, repC_get (by omega) (by omega), if_neg (by omega), if_neg h2]
 ·have l1 : ((repC X Z o n).take o ++ tab q F ++ (repC X Z o n).drop (o + q)).length ≤ i := by
   rw [List.length_append, List.length_append, List.length_take, List.length_drop, repC_len (by omega), tab_len]; omega
  have l2 : (repC X Z (o + q) n).length ≤ i := by rw [repC_len h]; omega
  rw [List.getElem?_eq_none l1, List.getElem?_eq_none l2]
theorem repC_0 {z : Value} {n m : Nat} (hz : z.cells = #[z]) (hm : m = n) : (madeCells z.cells (m * 1)).toList.map AV.v = repC (.v z) (.v z) 0 n := by
 subst hm
 rw [hz, Nat.mul_one, toList_madeCells_one]
 simp [repC]
theorem repC_full {X Z : AV} {n : Nat} : repC X Z n n = List.replicate n X := by simp [repC]
theorem repC_zero {X Y Z : AV} {n : Nat} : repC X Z 0 n = repC Y Z 0 n := by simp [repC]
theorem repC_first {X Z : AV} {F : Nat → AV} {n c : Nat} (hc : c = min 1 n) (hF : F 0 = X) : (repC Z Z 0 n).take 0 ++ tab (c * 1) F ++ (repC Z Z 0 n).drop (0 + c * 1) = repC X Z c n := by
 rw [repC_zero (X := Z) (Y := X)]
 have h0 : 0 + c = c := Nat.zero_add c
 rw [← h0]
 rw [h0]
 conv => rhs; rw [← h0]
 exact repC_step (c := c) (by omega) (fun j hj => by rw [show j = 0 by omega]; exact hF) rfl (Nat.mul_one _)
set_option maxRecDepth 100000 in
theorem slices_Repeat_str {x : ByteArray} {n : Nat} (hn : n ≤ 100000) :
  Spec Tryz.prog 55 [avStrs [x], avI (n : Int)] (fun y => y = avStrs (List.replicate n x)) := by
 refine Spec.of_VC Tryz.func55 rfl Tryz.ntmps55 (Nle rfl) fun w A hB => ?_
 have hnew : True := trivial
 refine VC.sr ?_
 refine VO.ma rfl rfl rfl rfl ?_
 refine VO.nil ?_
 refine VC.seq ?_
 refine VC.sr ?_
 refine VO.mv rfl rfl rfl rfl ?_
 refine VO.val rfl rfl (OpV.lss rfl rfl rfl) ?_
 refine VO.nil ?_
 refine VC.cond rfl (fun aH1b => ?_) (fun aH1b => ?_)
 ·have aH1 := aH1b
  try simp only [qqT, qqF, qqN, qqM, qqL, qqE] at aH1
  exact VC.absurd (by omega)
 ·have aH1 := aH1b
  try simp only [qqT, qqF, qqN, qqM, qqL, qqE] at aH1
  refine VC.skip ?_
  refine VC.sr ?_
  refine VO.mv rfl rfl rfl rfl ?_
  refine VO.val rfl rfl (OpV.len_im rfl Tryz.underlying29 rfl) ?_
  refine VO.val rfl rfl (OpV.conv rfl Tryz.underlying3 Tryz.underlying90 rfl (IntWalk.u64_in _ (by simp))) ?_
  refine VO.mv rfl rfl rfl rfl ?_
  refine VO.val rfl rfl (OpV.conv rfl Tryz.underlying3 Tryz.underlying90 rfl (IntWalk.u64_in _ (by omega))) ?_
  refine VO.op rfl (OpE.call rfl hB rfl Tryz.call57 rfl (SpecN.spec (bits_Mul_S (x := 1) (y := n) (by omega) (by omega) (by omega))) ?_)
  rintro _ rfl
  refine VO.mv rfl rfl rfl rfl ?_
  refine VO.val rfl rfl (OpV.extract rfl rfl rfl) ?_
  refine VO.val rfl rfl (OpV.extract rfl rfl rfl) ?_
  refine VO.ma rfl rfl rfl rfl ?_
  refine VO.ma rfl rfl rfl rfl ?_
  refine VO.nil ?_
  refine VC.seq ?_
  refine VC.sr ?_
  refine VO.mv rfl rfl rfl rfl ?_
  refine VO.val rfl rfl (OpV.gtr rfl rfl rfl) ?_
  refine VO.mv rfl rfl rfl rfl ?_
  refine VO.opY rfl rfl rfl rfl rfl ?_
  refine OpE.val (W := NoB) (OpV.move (.inl rfl) rfl) rfl ?_
  refine VO.opY rfl rfl rfl rfl rfl ?_
  refine OpE.val (W := NoB) (OpV.gtr rfl rfl rfl) rfl ?_
  refine VO.val rfl rfl (OpV.pickF rfl rfl rfl rfl rfl) ?_
  refine VO.nil ?_
  refine VC.cond rfl (fun aH2b => ?_) (fun aH2b => ?_)
  ·have aH2 := aH2b
   try simp only [qqT, qqF, qqN, qqM, qqL, qqE] at aH2
   exact VC.absurd (by omega)
  ·have aH2 := aH2b
   try simp only [qqT, qqF, qqN, qqM, qqL, qqE] at aH2
   refine VC.skip ?_
   refine VC.sr ?_
   refine VO.mv rfl rfl rfl rfl ?_
   refine VO.val rfl rfl (OpV.conv rfl Tryz.underlying90 Tryz.underlying3 rfl (IntWalk.i64_in _ (by omega))) ?_
   refine VO.op rfl (OpE.make rfl hB rfl Tryz.underlying29 (infoOf Tryz.t9 1 (by kernel_rfl) rfl rfl) (by decide) rfl rfl (n := n) (by omega) (by omega) (by omega) (repC_0 (n := n) rfl rfl) ?_)
   intro g30
   refine VO.ma rfl rfl rfl rfl ?_
   refine VO.nil ?_
   refine VC.sr ?_
   refine VO.mv rfl rfl rfl rfl ?_
   refine VO.mv rfl rfl rfl rfl ?_
   refine VO.op rfl (OpE.copy (i := 0) rfl hB rfl Tryz.underlying29 Tryz.sizeOf9 rfl rfl (SrcP.im rfl) (c := min 1 n) rfl (fun _ _ => rfl) (by rw [repC_len (by omega)]; omega) (repC_first rfl rfl) trivial ?_)
   refine VO.ma rfl rfl rfl rfl ?_
   refine VO.nil ?_
   refine VC.seq ?_
   refine VC.block ?_
   refine VC.loopK [(7, _)] ⟨rfl, trivial⟩ ({k : Nat // k ≤ n ∧ (k = 0 → n = 0)}) (fun (iZ : {k : Nat // k ≤ n ∧ (k = 0 → n = 0)}) => match iZ with | ⟨k, hk, hk0⟩ => [(8, avI (k : Int))]) (fun (iZ : {k : Nat // k ≤ n ∧ (k = 0 → n = 0)}) => match iZ with | ⟨k, hk, hk0⟩ => [.box g30 ⟨repC (avS x) (.v (.string ⟨#[]⟩)) k n, 9, (repC (.v (.string ⟨#[]⟩)) (.v (.string ⟨#[]⟩)) 0 n).length⟩]) (fun (iZ : {k : Nat // k ≤ n ∧ (k = 0 → n = 0)}) => match iZ with | ⟨k, hk, hk0⟩ => 0) (fun (iZ : {k : Nat // k ≤ n ∧ (k = 0 → n = 0)}) => match iZ with | ⟨k, hk, hk0⟩ => n - k) ⟨min 1 n, by omega, by omega⟩ (Le.mk hB [0] ⟨rfl, rfl, trivial⟩ rfl rfl (Nat.le_refl _)) ?_
   rintro ⟨k, hk, hk0⟩
   show VC _ _ _ _ ⟨[(8, avI (k : Int))] ++ [(7, _)], [.box g30 ⟨repC (avS x) (.v (.string ⟨#[]⟩)) k n, 9, (repC (.v (.string ⟨#[]⟩)) (.v (.string ⟨#[]⟩)) 0 n).length⟩], 0⟩
   refine VC.seq ?_
   refine VC.sr ?_
   refine VO.mv rfl rfl rfl rfl ?_
   refine VO.mv rfl rfl rfl rfl ?_
   refine VO.val rfl rfl (OpV.len_v rfl Tryz.underlying29 rfl) ?_
   refine VO.val rfl rfl (OpV.lss rfl rfl rfl) ?_
   refine VO.nil ?_
   refine VC.cond rfl (fun aH3b => ?_) (fun aH3b => ?_)
   ·have aH3 := aH3b
    try simp only [qqT, qqF, qqN, qqM, qqL, qqE] at aH3
    refine VC.skip ?_
    refine VC.block ?_
    refine VC.draw (fun j b => j = 7 ∧ b = g30) hB (by kernel_rfl) ?_
    refine VA.take (i := 0) rfl (by kernel_rfl) (by kernel_rfl) (by kernel_rfl) rfl rfl (OpV.move (.inl rfl) rfl) ?_
    refine VA.take (i := 1) rfl (by kernel_rfl) (by kernel_rfl) (by kernel_rfl) rfl rfl (OpV.move (.inl rfl) rfl) ?_
    refine VA.take (i := 2) rfl (by kernel_rfl) (by kernel_rfl) (by kernel_rfl) rfl rfl (OpV.move (.inl rfl) rfl) ?_
    refine VA.take (i := 3) rfl (by kernel_rfl) (by kernel_rfl) (by kernel_rfl) rfl rfl (OpV.slice_own (l := k) rfl Tryz.underlying29 Tryz.sizeOf9 rfl ⟨_, _, rfl, rfl⟩ rfl (by omega) (by omega) (by omega)) ?_
    refine VA.take (i := 4) rfl (by kernel_rfl) (by kernel_rfl) (by kernel_rfl) rfl rfl (OpV.move (.inl rfl) rfl) ?_
    refine VA.take (i := 5) rfl (by kernel_rfl) (by kernel_rfl) (by kernel_rfl) rfl rfl (OpV.move (.inl rfl) rfl) ?_
    refine VA.take (i := 6) rfl (by kernel_rfl) (by kernel_rfl) (by kernel_rfl) rfl rfl (OpV.slice_own (h := k) rfl Tryz.underlying29 Tryz.sizeOf9 rfl rfl ⟨_, _, rfl, rfl⟩ (by omega) (by omega) (by omega)) ?_
    refine VA.all (rs := [7]) (by kernel_rfl) (by decide) ?_
    refine ⟨⟨_, rfl, .inl rfl, ?_⟩, trivial⟩
    refine OpE.copy (i := 0) rfl hB rfl Tryz.underlying29 Tryz.sizeOf9 rfl rfl (SrcP.box (i := 0) rfl rfl (by show 0 + 0 * 1 + (k - 0) * 1 ≤ (repC _ _ k n).length; rw [repC_len (by omega)]; omega)) (c := min k (n - k)) (by omega) (fun j hj => by dsimp only; rw [List.getD_eq_getElem?_getD, repC_get (by omega) (by omega), if_pos (by omega)]; rfl) (by show 0 + k * 1 + _ ≤ (repC _ _ k n).length; rw [repC_len (by omega)]; omega) (repC_step (c := min k (n - k)) (by omega) (fun j hj => by dsimp only; rw [List.getD_eq_getElem?_getD, repC_get (by omega) (by omega), if_pos (by omega)]; rfl) (by omega) (by omega)) (by first | exact ⟨rfl, rfl⟩ | exact .inl ⟨rfl, rfl⟩ | exact .inr ⟨rfl, rfl⟩ | exact ⟨rfl, trivial⟩ | exact .inl ⟨rfl, trivial⟩ | exact .inr ⟨rfl, trivial⟩ | exact ⟨by decide, rfl⟩) ?_
    refine VA.take (i := 8) rfl (by kernel_rfl) (by kernel_rfl) (by kernel_rfl) rfl rfl (OpV.add rfl rfl rfl (by unfold fits; omega)) ?_
    refine VA.take (i := 9) rfl (by kernel_rfl) (by kernel_rfl) (by kernel_rfl) rfl rfl (OpV.move (.inr rfl) rfl) ?_
    refine VA.done (by kernel_rfl) ?_
    exact Exists.intro (⟨k + min k (n - k), by omega, by omega⟩) (And.intro (Le.mk hB [0] ⟨rfl, rfl, trivial⟩ rfl rfl (Nat.le_refl _)) (by first | omega | (show _ < _; omega) | (simp only []; omega)))
   ·have aH3 := aH3b
    try simp only [qqT, qqF, qqN, qqM, qqL, qqE] at aH3
    refine VC.exit ?_
    refine VC.sr ?_
    refine VO.mv rfl rfl rfl rfl ?_
    refine VO.ma rfl rfl rfl rfl ?_
    refine VO.nil ?_
    obtain rfl : k = n := by omega
    refine VC.le _ (Le.box (t := 4) (i := 0) (n := k) (sz := 1) (y := avStrs (List.replicate k x)) hB hnew rfl rfl (by show 0 + k * 1 ≤ (repC _ _ k k).length; rw [repC_len (by omega)]; omega) (Nat.le_refl _) (capM (by omega)) (fun w Z u h => Rep.strs (by simp) (h.im_congr fun j hj => by rw [repC_full, strsL, List.map_replicate, Nat.zero_add]))) ?_
    refine VC.ret ?_
    exact Exists.intro _ (And.intro (RetV.one Tryz.results55 (ResV.tmp rfl)) (rfl))
end Go.Proofs.YtbbgjeiefmiblaaGreatDoor
namespace Go.Proofs.YtbbgjeiefmiblaaGreatDoor
open Go.RowKit
set_option linter.unusedVariables false
set_option linter.unusedSimpArgs false

set_option maxRecDepth 100000 in
theorem slices_Index_str {xs : List ByteArray} {v : ByteArray} (hl : xs.length ≤ 1000000000) :
  SpecN Tryz.prog 109 [avStrs xs, avS v] (fun y => y = avI (fidx (fun x => sEq v x) xs)) := by
 refine SpecN.of_VCN Tryz.func109 rfl Tryz.ntmps109 (Nle rfl) fun w A hB => ?_
 have hnew : True := trivial
 refine VC.sr ?_
 refine VO.ma rfl rfl rfl rfl ?_
 refine VO.nil ?_
 refine VC.seq ?_
 refine VC.sr ?_
 refine VO.mv rfl rfl rfl rfl ?_
 refine VO.val rfl rfl (OpV.len_im rfl Tryz.underlying29 rfl) ?_
 refine VO.mv rfl rfl rfl rfl ?_
 refine VO.nil ?_
 refine VC.block ?_
 refine VC.loopK [] trivial ({q : Nat // q ≤ xs.length ∧ ∀ j, j < q → sEq v (xs.getD j ByteArray.empty) = false}) (fun (iZ : {q : Nat // q ≤ xs.length ∧ ∀ j, j < q → sEq v (xs.getD j ByteArray.empty) = false}) => match iZ with | ⟨q, hq, hn⟩ => [(0, avStrs xs), (1, avS v), (6, avStrs xs), (7, avI xs.length), (8, avI (q : Int))]) (fun (iZ : {q : Nat // q ≤ xs.length ∧ ∀ j, j < q → sEq v (xs.getD j ByteArray.empty) = false}) => match iZ with | ⟨q, hq, hn⟩ => []) (fun (iZ : {q : Nat // q ≤ xs.length ∧ ∀ j, j < q → sEq v (xs.getD j ByteArray.empty) = false}) => match iZ with | ⟨q, hq, hn⟩ => 0) (fun (iZ : {q : Nat // q ≤ xs.length ∧ ∀ j, j < q → sEq v (xs.getD j ByteArray.empty) = false}) => match iZ with | ⟨q, hq, hn⟩ => xs.length - q) ⟨0, Nat.zero_le _, fun j hj => absurd hj (Nat.not_lt_zero j)⟩ (Le.mk hB [] ⟨rfl, rfl, rfl, rfl, rfl, trivial⟩ rfl rfl (Nat.le_refl _)) ?_
 rintro ⟨q, hq, hn⟩
 show VC _ _ _ _ ⟨[(0, avStrs xs), (1, avS v), (6, avStrs xs), (7, avI xs.length), (8, avI (q : Int))] ++ [], [], 0⟩
 refine VC.sr ?_
 refine VO.val rfl rfl (OpV.lss rfl rfl rfl) ?_
 refine VO.nil ?_
 refine VC.seq ?_
 refine VC.cond rfl (fun aH1b => ?_) (fun aH1b => ?_)
 ·have aH1 := aH1b
  try simp only [qqT, qqF, qqN, qqM, qqL, qqE] at aH1
  refine VC.skip ?_
  refine VC.seq ?_
  refine VC.block ?_
  refine VC.sr ?_
  refine VO.mv rfl rfl rfl rfl ?_
  refine VO.ma rfl rfl rfl rfl ?_
  refine VO.nil ?_
  refine VC.sr ?_
  refine VO.mv rfl rfl rfl rfl ?_
  refine VO.mv rfl rfl rfl rfl ?_
  refine VO.mv rfl rfl rfl rfl ?_
  refine VO.val rfl rfl (OpV.indexAddr_1 rfl Tryz.underlying29 Tryz.sizeOf9 rfl rfl rfl (by omega)) ?_
  refine VO.val rfl rfl (OpV.load_at rfl hB OutW.no Tryz.isAgg9 rfl rfl) ?_
  refine VO.val rfl rfl (OpV.seql rfl rfl rfl) ?_
  refine VO.nil ?_
  refine VC.cond rfl (fun aH2b => ?_) (fun aH2b => ?_)
  ·have aH2 := aH2b
   try simp only [qqT, qqF, qqN, qqM, qqL, qqE] at aH2
   refine VC.sr ?_
   refine VO.mv rfl rfl rfl rfl ?_
   refine VO.ma rfl rfl rfl rfl ?_
   refine VO.nil ?_
   refine VC.ret ?_
   exact Exists.intro _ (And.intro (RetN.one Tryz.results109 (ResN.v rfl)) (by first | (rw [fidx_found (d := ByteArray.empty) (q := q) (by omega) hn (by assumption)]) | (rw [fidx_none (d := ByteArray.empty) (fun j hj => hn j (by omega))])))
  ·have aH2 := aH2b
   try simp only [qqT, qqF, qqN, qqM, qqL, qqE] at aH2
   refine VC.skip ?_
   refine VC.region ?_
   refine VO.val rfl rfl (OpV.add rfl rfl rfl (by unfold fits; omega)) ?_
   refine VO.mv rfl rfl rfl rfl ?_
   refine VO.nil ?_
   exact Exists.intro (⟨q + 1, by omega, lt_succ_cases hn (by assumption)⟩) (And.intro (Le.mk hB [] ⟨rfl, rfl, rfl, rfl, rfl, trivial⟩ rfl rfl (Nat.le_refl _)) (by first | omega | (show _ < _; omega) | (simp only []; omega)))
 ·have aH1 := aH1b
  try simp only [qqT, qqF, qqN, qqM, qqL, qqE] at aH1
  refine VC.exit ?_
  refine VC.sr ?_
  refine VO.ma rfl rfl rfl rfl ?_
  refine VO.nil ?_
  refine VC.ret ?_
  exact Exists.intro _ (And.intro (RetN.one Tryz.results109 (ResN.v rfl)) (by first | (rw [fidx_found (d := ByteArray.empty) (q := q) (by omega) hn (by assumption)]) | (rw [fidx_none (d := ByteArray.empty) (fun j hj => hn j (by omega))])))
set_option maxRecDepth 100000 in
theorem slices_Contains_str {xs : List ByteArray} {v : ByteArray} (hl : xs.length ≤ 1000000000) :
  SpecN Tryz.prog 54 [avStrs xs, avS v] (fun y => y = avB (xs.any fun x => sEq v x)) := by
 refine SpecN.of_VCN Tryz.func54 rfl Tryz.ntmps54 (Nle rfl) fun w A hB => ?_
 have hnew : True := trivial
 refine VC.sr ?_
 refine VO.ma rfl rfl rfl rfl ?_
 refine VO.nil ?_
 refine VC.sr ?_
 refine VO.mv rfl rfl rfl rfl ?_
 refine VO.mv rfl rfl rfl rfl ?_
 refine VO.op rfl (OpE.call rfl hB rfl Tryz.call109 rfl (SpecN.spec ((slices_Index_str (by omega)))) ?_)
 rintro _ rfl
 refine VO.val rfl rfl (OpV.geq rfl rfl rfl) ?_
 refine VO.ma rfl rfl rfl rfl ?_
 refine VO.nil ?_
 refine VC.ret ?_
 exact Exists.intro _ (And.intro (RetN.one Tryz.results54 (ResN.v rfl)) (by rw [← fidx_any]))

end Go.Proofs.YtbbgjeiefmiblaaGreatDoor
namespace Go.Proofs.YtbbgjeiefmiblaaGreatDoor
open Go.RowKit
set_option linter.unusedVariables false
set_option linter.unusedSimpArgs false

structure Mach where
 key : ByteArray
 each : Int
 fixed : Int
 feeders : Int
 can : List ByteArray
instance : Inhabited Mach := ⟨⟨ByteArray.empty, 0, 0, 0, []⟩⟩
instance : Sxc Mach where
 k := 5
 pos := by decide
 cell m j := match j with
  | 0 => avS m.key
  | 1 => avI m.each
  | 2 => avI m.fixed
  | 3 => avI m.feeders
  | 4 => avStrs m.can
  | _ => .any
structure NeedS where
 key : ByteArray
 count : Int
instance : Inhabited NeedS := ⟨⟨ByteArray.empty, 0⟩⟩
instance : Sxc NeedS where
 k := 2
 pos := by decide
 cell m j := match j with
  | 0 => avS m.key
  | 1 => avI m.count
  | _ => .any

def firstE (e : Nat → Int) : Nat → Int
 | 0 => 0
 | n + 1 => if firstE e n = 0 then e n else firstE e n
theorem firstE_none {e : Nat → Int} : ∀ {n : Nat}, (∀ j, j < n → e j = 0) → firstE e n = 0
 | 0, _ => rfl
 | n + 1, h => by
  rw [firstE, firstE_none (fun j hj => h j (by omega)), if_pos rfl]
  exact h n (by omega)
theorem firstE_found {e : Nat → Int} {q : Nat} (h : ∀ j, j < q → e j = 0) (hq : e q ≠ 0) : ∀ {n : Nat}, q < n → firstE e n = e q
 | 0, hn => by omega
 | n + 1, hn => by
  rw [firstE]
  by_cases hqn : q = n
  ·subst hqn; rw [firstE_none h, if_pos rfl]
  ·have := firstE_found h hq (n := n) (by omega)
   rw [this, if_neg hq]
theorem firstE_zero {e : Nat → Int} : ∀ {n : Nat}, firstE e n = 0 → ∀ j, j < n → e j = 0
 | 0, _, j, hj => by omega
 | n + 1, h, j, hj => by
  rw [firstE] at h
  split at h
  ·rename_i h0
   by_cases hjn : j = n
   ·rw [hjn]; exact h
   ·exact firstE_zero h0 j (by omega)
  ·rename_i h0; exact absurd h h0

def sLe (p q : ByteArray) : Bool := sLt p q || sEq p q
def outR (n a b : Int) : Bool := decide (n < a) || decide (b < n)
def canE (l : List ByteArray) (i : Nat) : Int :=
 if keyF (l.getD i ByteArray.empty) = false then 5
 else if (decide (0 < i) && sLe (l.getD i ByteArray.empty) (l.getD (i - 1) ByteArray.empty)) = true then 7 else 0
def needE (ns : List NeedS) (lo hi : Int) (i : Nat) : Int :=
 if keyF (ns.getD i default).key = false then 5
 else if (decide (0 < i) && sLe (ns.getD i default).key (ns.getD (i - 1) default).key) = true then 7
 else if outR (ns.getD i default).count lo hi = true then 1 else 0
def needsF (ns : List NeedS) (lo hi : Int) : Int := if 1000 < ns.length then 2 else firstE (needE ns lo hi) ns.length
theorem canE_5 {l : List ByteArray} {i : Nat} (h : keyF (l.getD i ByteArray.empty) = false) : canE l i = 5 := by rw [canE, if_pos h]
theorem canE_7 {l : List ByteArray} {i : Nat} (h : keyF (l.getD i ByteArray.empty) = true) (hi : 0 < i) (hs : sLe (l.getD i ByteArray.empty) (l.getD (i - 1) ByteArray.empty) = true) : canE l i = 7 := by
 rw [canE, if_neg (by rw [h]; simp), if_pos (by rw [hs, decide_eq_true hi]; rfl)]
theorem canE_0 {l : List ByteArray} {i : Nat} (h : keyF (l.getD i ByteArray.empty) = true) (hs : i = 0 ∨ sLe (l.getD i ByteArray.empty) (l.getD (i - 1) ByteArray.empty) = false) : canE l i = 0 := by
 rw [canE, if_neg (by rw [h]; simp), if_neg]
 rcases hs with rfl | hs
 ·simp
 ·rw [hs]; simp
theorem needsF_big {l : List NeedS} {lo hi : Int} (h : 1000 < l.length) : needsF l lo hi = 2 := by rw [needsF, if_pos h]
theorem needsF_at {l : List NeedS} {lo hi e : Int} (h : l.length ≤ 1000) {q : Nat} (hq : q < l.length) (hn : ∀ j, j < q → needE l lo hi j = 0) (he : needE l lo hi q = e) (h0 : e ≠ 0) : needsF l lo hi = e := by
 rw [needsF, if_neg (by omega), firstE_found hn (by rw [he]; exact h0) hq, he]
theorem needsF_ok {l : List NeedS} {lo hi : Int} (h : l.length ≤ 1000) (hn : ∀ j, j < l.length → needE l lo hi j = 0) : needsF l lo hi = 0 := by
 rw [needsF, if_neg (by omega), firstE_none hn]
section
variable {l : List NeedS} {lo hi : Int} {i : Nat}
theorem needE_5 (h : keyF (l.getD i default).key = false) : needE l lo hi i = 5 := by rw [needE, if_pos h]
theorem needE_7 (h : keyF (l.getD i default).key = true) (hi' : 0 < i) (hs : sLe (l.getD i default).key (l.getD (i - 1) default).key = true) : needE l lo hi i = 7 := by
 rw [needE, if_neg (by rw [h]; simp), if_pos (by rw [hs, decide_eq_true hi']; rfl)]
theorem needE_x (h : keyF (l.getD i default).key = true) (hs : i = 0 ∨ sLe (l.getD i default).key (l.getD (i - 1) default).key = false) : needE l lo hi i = if outR (l.getD i default).count lo hi = true then 1 else 0 := by
 rw [needE, if_neg (by rw [h]; simp), if_neg]
 rcases hs with rfl | hs
 ·simp
 ·rw [hs]; simp
theorem needE_1 (h : keyF (l.getD i default).key = true) (hs : i = 0 ∨ sLe (l.getD i default).key (l.getD (i - 1) default).key = false) (ho : outR (l.getD i default).count lo hi = true) : needE l lo hi i = 1 := by rw [needE_x h hs, if_pos ho]
theorem needE_0 (h : keyF (l.getD i default).key = true) (hs : i = 0 ∨ sLe (l.getD i default).key (l.getD (i - 1) default).key = false) (ho : outR (l.getD i default).count lo hi = false) : needE l lo hi i = 0 := by rw [needE_x h hs, if_neg (by rw [ho]; simp)]
end
section
variable {ms : List Mach} {i : Nat}
end
theorem or2a {a b : Bool} (h : a = true) : (a || b) = true := by rw [h]; rfl
theorem or2b {a b : Bool} (h : b = true) : (a || b) = true := by rw [h, Bool.or_true]
theorem or2f {a b : Bool} (h : a = false) (h' : b = false) : (a || b) = false := by rw [h, h']; rfl
theorem or3a {a b c : Bool} (h : a = true) : (a || (b || c)) = true := by rw [h]; rfl
theorem or3b {a b c : Bool} (h : b = true) : (a || (b || c)) = true := by rw [h]; cases a <;> rfl
theorem or3c {a b c : Bool} (h : c = true) : (a || (b || c)) = true := by rw [h]; cases a <;> cases b <;> rfl
theorem or3f {a b c : Bool} (h1 : a = false) (h2 : b = false) (h3 : c = false) : (a || (b || c)) = false := by rw [h1, h2, h3]; rfl
end Go.Proofs.YtbbgjeiefmiblaaGreatDoor
namespace Go.Proofs.YtbbgjeiefmiblaaGreatDoor
open Go.RowKit
set_option linter.unusedVariables false
set_option linter.unusedSimpArgs false

abbrev ε : ByteArray := ⟨#[]⟩
def has (s : List ByteArray) (x : ByteArray) : Bool := s.any fun y => sEq x y
def setupE (s : List ByteArray) (i : Nat) : Int :=
 if sEq (s.getD i ByteArray.empty) ε = true then 0 else if keyF (s.getD i ByteArray.empty) = false then 5 else if has (s.take i) (s.getD i ByteArray.empty) = true then 6 else 0
def setupF (s : List ByteArray) : Int := if s.length = 0 then 8 else if 100 < s.length then 2 else firstE (setupE s) s.length
def partE (slots : Int) (l : List ByteArray) : Int := if slots < l.length then 12 else firstE (canE l) l.length
def partsF (slots : Int) (p : List (List ByteArray)) : Int := if outR slots 1 100 = true then 1 else if 200 < p.length then 2 else firstE (fun i => partE slots (p.getD i default)) p.length
def missF (s parts : List ByteArray) : List ByteArray := parts.filter fun x => !has s x
theorem setupF_none {s : List ByteArray} (h : s.length = 0) : setupF s = 8 := by rw [setupF, if_pos h]
theorem setupF_big {s : List ByteArray} (h : 100 < s.length) : setupF s = 2 := by rw [setupF, if_neg (by omega), if_pos h]
theorem setupF_at {s : List ByteArray} {e : Int} (h0 : 0 < s.length) (h : s.length ≤ 100) {q : Nat} (hq : q < s.length) (hn : ∀ j, j < q → setupE s j = 0) (he : setupE s q = e) (h1 : e ≠ 0) : setupF s = e := by
 rw [setupF, if_neg (by omega), if_neg (by omega), firstE_found hn (by rw [he]; exact h1) hq, he]
theorem setupF_ok {s : List ByteArray} (h0 : 0 < s.length) (h : s.length ≤ 100) (hn : ∀ j, j < s.length → setupE s j = 0) : setupF s = 0 := by
 rw [setupF, if_neg (by omega), if_neg (by omega), firstE_none hn]
theorem setupF_len {s : List ByteArray} (h : setupF s = 0) : 0 < s.length ∧ s.length ≤ 100 := by
 rw [setupF] at h
 split at h
 ·cases h
 ·split at h
  ·cases h
  ·omega
theorem setupF_zero {s : List ByteArray} (h : setupF s = 0) : ∀ j, j < s.length → setupE s j = 0 := by
 have hl := setupF_len h
 rw [setupF, if_neg (by omega), if_neg (by omega)] at h
 exact firstE_zero h
section
variable {s : List ByteArray} {i : Nat}
theorem setupE_e (h : sEq (s.getD i ByteArray.empty) ε = true) : setupE s i = 0 := by rw [setupE, if_pos h]
theorem setupE_5 (h : sEq (s.getD i ByteArray.empty) ε = false) (h2 : keyF (s.getD i ByteArray.empty) = false) : setupE s i = 5 := by rw [setupE, if_neg (by rw [h]; simp), if_pos h2]
theorem setupE_6 (h : sEq (s.getD i ByteArray.empty) ε = false) (h2 : keyF (s.getD i ByteArray.empty) = true) (h3 : has (s.take i) (s.getD i ByteArray.empty) = true) : setupE s i = 6 := by
 rw [setupE, if_neg (by rw [h]; simp), if_neg (by rw [h2]; simp), if_pos h3]
theorem setupE_0 (h : sEq (s.getD i ByteArray.empty) ε = false) (h2 : keyF (s.getD i ByteArray.empty) = true) (h3 : has (s.take i) (s.getD i ByteArray.empty) = false) : setupE s i = 0 := by
 rw [setupE, if_neg (by rw [h]; simp), if_neg (by rw [h2]; simp), if_neg (by rw [h3]; simp)]
end
section
variable {slots : Int} {p : List (List ByteArray)} {l : List ByteArray}
theorem partsF_1 (h : outR slots 1 100 = true) : partsF slots p = 1 := by rw [partsF, if_pos h]
theorem partsF_2 (h : outR slots 1 100 = false) (h2 : 200 < p.length) : partsF slots p = 2 := by rw [partsF, if_neg (by rw [h]; simp), if_pos h2]
theorem partsF_at (h : outR slots 1 100 = false) (h2 : p.length ≤ 200) {q : Nat} (hq : q < p.length) (hn : ∀ j, j < q → partE slots (p.getD j default) = 0) {e : Int} (he : partE slots (p.getD q default) = e) (h1 : e ≠ 0) : partsF slots p = e := by
 rw [partsF, if_neg (by rw [h]; simp), if_neg (by omega), firstE_found hn (by rw [he]; exact h1) hq, he]
theorem partsF_ok (h : outR slots 1 100 = false) (h2 : p.length ≤ 200) (hn : ∀ j, j < p.length → partE slots (p.getD j default) = 0) : partsF slots p = 0 := by
 rw [partsF, if_neg (by rw [h]; simp), if_neg (by omega), firstE_none hn]
theorem partsF_zero (h : partsF slots p = 0) : outR slots 1 100 = false ∧ p.length ≤ 200 ∧ ∀ j, j < p.length → partE slots (p.getD j default) = 0 := by
 rw [partsF] at h
 split at h
 ·cases h
 ·rename_i h1
  split at h
  ·cases h
  ·exact ⟨Bool.eq_false_iff.2 h1, by omega, firstE_zero h⟩
theorem partE_12 (h : slots < l.length) : partE slots l = 12 := by rw [partE, if_pos h]
theorem partE_at (h : ¬ slots < l.length) {q : Nat} (hq : q < l.length) (hn : ∀ j, j < q → canE l j = 0) {e : Int} (he : canE l q = e) (h1 : e ≠ 0) : partE slots l = e := by
 rw [partE, if_neg h, firstE_found hn (by rw [he]; exact h1) hq, he]
theorem partE_ok (h : ¬ slots < l.length) (hn : ∀ j, j < l.length → canE l j = 0) : partE slots l = 0 := by rw [partE, if_neg h, firstE_none hn]
theorem partE_zero (h : partE slots l = 0) : (l.length : Int) ≤ slots ∧ ∀ j, j < l.length → canE l j = 0 := by
 rw [partE] at h
 split at h
 ·cases h
 ·exact ⟨by omega, firstE_zero h⟩
end
theorem missF_yes {s p : List ByteArray} {q : Nat} (hq : q < p.length) (h : has s (p.getD q ByteArray.empty) = false) : missF s (p.take (q + 1)) = missF s (p.take q) ++ [p.getD q ByteArray.empty] := by
 rw [List.take_succ_eq_append_getElem hq]
 have e : p.getD q ByteArray.empty = p[q] := by simp [hq]
 rw [e] at h ⊢
 simp only [missF, List.filter_append, List.filter_cons, h, List.filter_nil, Bool.not_false, if_true]
theorem missF_no {s p : List ByteArray} {q : Nat} (hq : q < p.length) (h : has s (p.getD q ByteArray.empty) = true) : missF s (p.take (q + 1)) = missF s (p.take q) := by
 rw [List.take_succ_eq_append_getElem hq]
 have e : p.getD q ByteArray.empty = p[q] := by simp [hq]
 rw [e] at h
 simp only [missF, List.filter_append, List.filter_cons, h, List.filter_nil, Bool.not_true, if_false, List.append_nil, Bool.false_eq_true]
end Go.Proofs.YtbbgjeiefmiblaaGreatDoor
namespace Go.Proofs.YtbbgjeiefmiblaaGreatDoor
open Go.RowKit
set_option linter.unusedVariables false
set_option linter.unusedSimpArgs false

theorem bl_irr : ∀ x : List UInt8, Op.bytesLess x x = false
 | [] => rfl
 | a :: x => by
  rw [Op.bytesLess, bl_irr x]
  have : ¬ a < a := by rw [UInt8.lt_iff_toNat_lt]; omega
  simp [this]
theorem bl_trans : ∀ {x y z : List UInt8}, Op.bytesLess x y = true → Op.bytesLess y z = true → Op.bytesLess x z = true
 | _, [], _, h, _ => by simp [Op.bytesLess] at h
 | _, _ :: _, [], _, h => by simp [Op.bytesLess] at h
 | [], _ :: _, _ :: _, _, _ => rfl
 | a :: x, b :: y, c :: z, h1, h2 => by
  simp only [Op.bytesLess, Bool.or_eq_true, decide_eq_true_eq, Bool.and_eq_true, beq_iff_eq, UInt8.lt_iff_toNat_lt] at h1 h2 ⊢
  rcases h1 with h1 | ⟨rfl, h1⟩
  ·rcases h2 with h2 | ⟨rfl, h2⟩
   ·exact .inl (by omega)
   ·exact .inl h1
  ·rcases h2 with h2 | ⟨rfl, h2⟩
   ·exact .inl h2
   ·exact .inr ⟨rfl, bl_trans h1 h2⟩
theorem bl_total : ∀ {x y : List UInt8}, Op.bytesLess x y = false → x ≠ y → Op.bytesLess y x = true
 | [], [], _, h => absurd rfl h
 | _ :: _, [], _, _ => rfl
 | [], _ :: _, h, _ => by simp [Op.bytesLess] at h
 | a :: x, b :: y, h, hne => by
  simp only [Op.bytesLess, Bool.or_eq_false_iff, decide_eq_false_iff_not, Bool.and_eq_false_iff, beq_eq_false_iff_ne, UInt8.lt_iff_toNat_lt, Bool.or_eq_true, decide_eq_true_eq, Bool.and_eq_true, beq_iff_eq] at h ⊢
  by_cases hab : a = b
  ·subst hab
   have h2 : Op.bytesLess x y = false := by rcases h.2 with h2 | h2; exact absurd rfl h2; exact h2
   exact .inr ⟨rfl, bl_total h2 fun e => hne (by rw [e])⟩
  ·left
   have : a.toNat ≠ b.toNat := fun e => hab (UInt8.toNat_inj.1 e)
   omega
theorem sLt_irr (p : ByteArray) : sLt p p = false := bl_irr _
theorem sLt_trans {p q r : ByteArray} (h1 : sLt p q = true) (h2 : sLt q r = true) : sLt p r = true := bl_trans h1 h2
theorem sLt_of_not {p q : ByteArray} (h : sLe p q = false) : sLt q p = true := by
 unfold sLe at h
 rw [Bool.or_eq_false_iff] at h
 refine bl_total h.1 fun e => ?_
 have : sEq p q = true := by unfold sEq; rw [e]; simp
 rw [this] at h; cases h.2
theorem sEq_refl (p : ByteArray) : sEq p p = true := sEq_eq.2 rfl
def SortS (l : List ByteArray) : Prop := ∀ a b, a < b → b < l.length → sLt (l.getD a ByteArray.empty) (l.getD b ByteArray.empty) = true
section
variable {xs : List ByteArray} {v : ByteArray} {i : Nat}
end

end Go.Proofs.YtbbgjeiefmiblaaGreatDoor
namespace Go.Proofs.YtbbgjeiefmiblaaGreatDoor
open Go.RowKit
set_option linter.unusedVariables false
set_option linter.unusedSimpArgs false

def needF (x : ByteArray) (later : List (List ByteArray)) : Int := if 0 ≤ fidx (fun l => has l x) later then fidx (fun l => has l x) later else later.length
theorem needF_ge (x : ByteArray) (later : List (List ByteArray)) : 0 ≤ needF x later ∧ needF x later ≤ later.length := by
 have := fidx_ge (fun l => has l x) later
 unfold needF
 split
 ·constructor
  ·assumption
  ·have h2 := this.2
   omega
 ·omega
def vic (s parts : List ByteArray) (later : List (List ByteArray)) : Nat → Int × Int
 | 0 => (-1, -1)
 | q + 1 => if has parts (s.getD q ByteArray.empty) = true then vic s parts later q
  else if (vic s parts later q).2 < needF (s.getD q ByteArray.empty) later ∨ (needF (s.getD q ByteArray.empty) later = (vic s parts later q).2 ∧ sLe (s.getD q ByteArray.empty) (s.getD (vic s parts later q).1.toNat ByteArray.empty) = false) then ((q : Int), needF (s.getD q ByteArray.empty) later)
  else vic s parts later q
section
variable {s parts : List ByteArray} {later : List (List ByteArray)}
theorem vic_has {q : Nat} (h : has parts (s.getD q ByteArray.empty) = true) : vic s parts later (q + 1) = vic s parts later q := by rw [vic, if_pos h]
theorem vic_new {q : Nat} (h : has parts (s.getD q ByteArray.empty) = false) (h2 : (vic s parts later q).2 < needF (s.getD q ByteArray.empty) later ∨ (needF (s.getD q ByteArray.empty) later = (vic s parts later q).2 ∧ sLe (s.getD q ByteArray.empty) (s.getD (vic s parts later q).1.toNat ByteArray.empty) = false)) :
  vic s parts later (q + 1) = ((q : Int), needF (s.getD q ByteArray.empty) later) := by rw [vic, if_neg (by rw [h]; simp), if_pos h2]
theorem vic_old {q : Nat} (h : has parts (s.getD q ByteArray.empty) = false) (h2 : ¬ ((vic s parts later q).2 < needF (s.getD q ByteArray.empty) later ∨ (needF (s.getD q ByteArray.empty) later = (vic s parts later q).2 ∧ sLe (s.getD q ByteArray.empty) (s.getD (vic s parts later q).1.toNat ByteArray.empty) = false))) :
  vic s parts later (q + 1) = vic s parts later q := by rw [vic, if_neg (by rw [h]; simp), if_neg h2]
theorem vic_in : ∀ q : Nat, (vic s parts later q = (-1, -1) ∧ ∀ j, j < q → has parts (s.getD j ByteArray.empty) = true) ∨
    (0 ≤ (vic s parts later q).1 ∧ (vic s parts later q).1 < q ∧ 0 ≤ (vic s parts later q).2 ∧ (vic s parts later q).2 ≤ later.length ∧ has parts (s.getD (vic s parts later q).1.toNat ByteArray.empty) = false)
  | 0 => .inl ⟨rfl, fun j hj => by omega⟩
  | q + 1 => by
    have hn := needF_ge (s.getD q ByteArray.empty) later
    cases hh : has parts (s.getD q ByteArray.empty) with
    | true =>
      rw [vic_has hh]
      rcases vic_in q with ⟨h1, h2⟩ | ⟨h1, h2, h3, h4, h5⟩
      · exact .inl ⟨h1, fun j hj => by
          by_cases e : j = q
          · rw [e]; exact hh
          · exact h2 j (by omega)⟩
      · exact .inr ⟨h1, by omega, h3, h4, h5⟩
    | false =>
      by_cases h2 : (vic s parts later q).2 < needF (s.getD q ByteArray.empty) later ∨ (needF (s.getD q ByteArray.empty) later = (vic s parts later q).2 ∧ sLe (s.getD q ByteArray.empty) (s.getD (vic s parts later q).1.toNat ByteArray.empty) = false)
      · rw [vic_new hh h2]
        exact .inr ⟨by simp, by simp; omega, hn.1, hn.2, by simpa using hh⟩
      · rw [vic_old hh h2]
        rcases vic_in q with ⟨h1, _⟩ | ⟨h1, h2, h3, h4, h5⟩
        · exact absurd (.inl (by rw [h1]; exact (by omega : (-1 : Int) < needF (s.getD q ByteArray.empty) later))) h2
        · exact .inr ⟨h1, by omega, h3, h4, h5⟩
end
theorem vic_tie {s parts : List ByteArray} {later : List (List ByteArray)} {q : Nat} {x : ByteArray} (h : needF x later = (vic s parts later q).2) : 0 ≤ (vic s parts later q).1 ∧ (vic s parts later q).1 < q := by
 have h9 := needF_ge x later
 rcases vic_in (s := s) (parts := parts) (later := later) q with ⟨h8, _⟩ | ⟨k1, k2, _⟩
 ·rw [h8] at h
  simp only at h
  omega
 ·exact ⟨k1, k2⟩
def slotF (s parts : List ByteArray) (later : List (List ByteArray)) : Int := if fidx (fun x => sEq ε x) s < 0 then (vic s parts later s.length).1 else fidx (fun x => sEq ε x) s
def nextL (parts : List ByteArray) (later : List (List ByteArray)) : List ByteArray → List ByteArray → List ByteArray
 | s, [] => s
 | s, x :: r => nextL parts later (s.set (slotF s parts later).toNat x) r
def nextF (s parts : List ByteArray) (later : List (List ByteArray)) : List ByteArray := nextL parts later s (missF s parts)
theorem nextL_snoc (parts : List ByteArray) (later : List (List ByteArray)) : ∀ (l s : List ByteArray) (x : ByteArray), nextL parts later s (l ++ [x]) = (nextL parts later s l).set (slotF (nextL parts later s l) parts later).toNat x
 | [], s, x => rfl
 | y :: l, s, x => nextL_snoc parts later l _ x
theorem nextL_len (parts : List ByteArray) (later : List (List ByteArray)) : ∀ (l s : List ByteArray), (nextL parts later s l).length = s.length
 | [], s => rfl
 | y :: l, s => by rw [nextL, nextL_len parts later l]; simp
theorem has_iff {s : List ByteArray} {x : ByteArray} : has s x = true ↔ x ∈ s := by
 unfold has
 rw [List.any_eq_true]
 exact ⟨fun ⟨y, h1, h2⟩ => by rw [sEq_eq.1 h2]; exact h1, fun h => ⟨x, h, sEq_refl x⟩⟩
theorem has_not {s : List ByteArray} {x : ByteArray} : has s x = false ↔ x ∉ s := by
 rw [← has_iff, Bool.not_eq_true]
theorem nodup_sub : ∀ {l m : List ByteArray}, l.Nodup → (∀ x ∈ l, x ∈ m) → l.length ≤ m.length
 | [], m, _, _ => Nat.zero_le _
 | x :: r, m, h, hs => by
  have hx := hs x (by simp)
  have := nodup_sub (l := r) (m := m.erase x) (List.nodup_cons.1 h).2 (fun y hy => (List.mem_erase_of_ne (fun e => by subst e; exact (List.nodup_cons.1 h).1 hy)).2 (hs y (by simp [hy])))
  rw [List.length_erase_of_mem hx] at this
  have : 0 < m.length := List.length_pos_of_mem hx
  simp; omega
structure Fits (s parts : List ByteArray) : Prop where
 once : ∀ i j, i < j → j < s.length → s.getD i ByteArray.empty = s.getD j ByteArray.empty → s.getD j ByteArray.empty = ε
 room : parts.length ≤ s.length
 keys : ∀ x ∈ parts, x ≠ ε
 pnd : parts.Nodup
theorem slotF_in {s parts : List ByteArray} {later : List (List ByteArray)} (h : Fits s parts) {x : ByteArray} (hx : x ∈ parts) (hs : x ∉ s) : 0 ≤ slotF s parts later ∧ slotF s parts later < s.length ∧ has parts (s.getD (slotF s parts later).toNat ByteArray.empty) = false := by
 unfold slotF
 have hge := fidx_ge (fun x => sEq ε x) s
 split
 ·rename_i h1
  have hne : ∀ y ∈ s, y ≠ ε := fun y hy e => by
   have : s.any (fun x => sEq ε x) = true := List.any_eq_true.2 ⟨y, hy, by rw [e]; exact sEq_refl _⟩
   rw [← fidx_any] at this
   have := of_decide_eq_true this
   omega
  rcases vic_in (s := s) (parts := parts) (later := later) s.length with ⟨_, h2⟩ | ⟨k1, k2, _, _, k5⟩
  ·exfalso
   have hnd : s.Nodup := by
    rw [List.Nodup, List.pairwise_iff_getElem]
    intro i j hi hj hij e
    have := h.once i j hij hj (by simp [hi, hj, e])
    exact hne _ (List.getElem_mem hj) (by simpa [hj] using this)
   have := nodup_sub (l := x :: s) (m := parts) (List.nodup_cons.2 ⟨hs, hnd⟩) (fun y hy => by
    rcases List.mem_cons.1 hy with rfl | hy
    ·exact hx
    ·obtain ⟨j, hj, rfl⟩ := List.mem_iff_getElem.1 hy
     have := h2 j hj
     rw [has_iff] at this
     simpa [hj] using this)
   have h7 := h.room
   rw [List.length_cons] at this
   omega
  ·exact ⟨k1, k2, k5⟩
 ·rename_i h1
  have h0 : 0 ≤ fidx (fun x => sEq ε x) s := by omega
  obtain ⟨k1, k2, _⟩ := fidx_at (d := ByteArray.empty) h0
  have k3 := (sEq_eq.1 k2).symm
  refine ⟨h0, by omega, ?_⟩
  rw [k3, has_not]
  exact fun hc => h.keys _ hc rfl
theorem Fits.set {s parts : List ByteArray} (h : Fits s parts) {x : ByteArray} (hs : x ∉ s) (i : Nat) : Fits (s.set i x) parts := by
 refine ⟨fun a b hab hb he => ?_, by rw [List.length_set]; exact h.room, h.keys, h.pnd⟩
 rw [List.length_set] at hb
 have hm : ∀ k, k < s.length → s.getD k ByteArray.empty ∈ s := fun k hk => by simp [hk]
 simp only [List.getD_eq_getElem?_getD, List.getElem?_set] at he ⊢
 have hal : a < s.length := by omega
 by_cases ea : i = a
 ·subst ea
  rw [if_pos rfl, if_pos (by omega), if_neg (by omega)] at he
  have : x ∈ s := by
   have := hm b hb
   rw [List.getD_eq_getElem?_getD] at this
   simp only [Option.getD_some] at he
   rw [he]; exact this
  exact absurd this hs
 ·by_cases eb : i = b
  ·subst eb
   rw [if_neg ea, if_pos rfl, if_pos (by omega)] at he
   have : x ∈ s := by
    have := hm a hal
    rw [List.getD_eq_getElem?_getD] at this
    simp only [Option.getD_some] at he
    rw [← he]; exact this
   exact absurd this hs
  ·rw [if_neg ea, if_neg eb] at he
   rw [if_neg eb]
   have := h.once a b hab hb (by rw [List.getD_eq_getElem?_getD, List.getD_eq_getElem?_getD]; exact he)
   rwa [List.getD_eq_getElem?_getD] at this
end Go.Proofs.YtbbgjeiefmiblaaGreatDoor
namespace Go.Proofs.YtbbgjeiefmiblaaGreatDoor
open Go.RowKit
set_option linter.unusedVariables false
set_option linter.unusedSimpArgs false

def SmS (s : List ByteArray) : Prop := s.length ≤ 1000000000 ∧ ∀ i, (s.getD i ByteArray.empty).size ≤ 1000000000
def SmSS (p : List (List ByteArray)) : Prop := p.length ≤ 1000000000 ∧ ∀ i, SmS (p.getD i default)
set_option maxRecDepth 100000 in
theorem setup_CheckSetup {s : List ByteArray} (hs : SmS s) :
  SpecN Tryz.prog 64 [avStrs s] (fun y => y = avI (setupF s)) := by
 have hl := hs.1
 refine SpecN.of_VCN Tryz.func64 rfl Tryz.ntmps64 (Nle rfl) fun w A hB => ?_
 have hnew : True := trivial
 refine VC.sr ?_
 refine VO.ma rfl rfl rfl rfl ?_
 refine VO.nil ?_
 refine VC.seq ?_
 refine VC.sr ?_
 refine VO.mv rfl rfl rfl rfl ?_
 refine VO.val rfl rfl (OpV.len_im rfl Tryz.underlying29 rfl) ?_
 refine VO.val rfl rfl (OpV.eql rfl rfl rfl) ?_
 refine VO.nil ?_
 refine VC.cond rfl (fun aH1b => ?_) (fun aH1b => ?_)
 ·have aH1 := aH1b
  try simp only [qqT, qqF, qqN, qqM, qqL, qqE] at aH1
  refine VC.sr ?_
  refine VO.ma rfl rfl rfl rfl ?_
  refine VO.nil ?_
  refine VC.ret ?_
  exact Exists.intro _ (And.intro (RetN.one Tryz.results64 (ResN.v rfl)) (by rw [setupF_none (by omega)]))
 ·have aH1 := aH1b
  try simp only [qqT, qqF, qqN, qqM, qqL, qqE] at aH1
  refine VC.skip ?_
  refine VC.seq ?_
  refine VC.sr ?_
  refine VO.mv rfl rfl rfl rfl ?_
  refine VO.val rfl rfl (OpV.len_im rfl Tryz.underlying29 rfl) ?_
  refine VO.val rfl rfl (OpV.gtr rfl rfl rfl) ?_
  refine VO.nil ?_
  refine VC.cond rfl (fun aH2b => ?_) (fun aH2b => ?_)
  ·have aH2 := aH2b
   try simp only [qqT, qqF, qqN, qqM, qqL, qqE] at aH2
   refine VC.sr ?_
   refine VO.ma rfl rfl rfl rfl ?_
   refine VO.nil ?_
   refine VC.ret ?_
   exact Exists.intro _ (And.intro (RetN.one Tryz.results64 (ResN.v rfl)) (by rw [setupF_big (by omega)]))
  ·have aH2 := aH2b
   try simp only [qqT, qqF, qqN, qqM, qqL, qqE] at aH2
   refine VC.skip ?_
   refine VC.seq ?_
   refine VC.sr ?_
   refine VO.mv rfl rfl rfl rfl ?_
   refine VO.val rfl rfl (OpV.len_im rfl Tryz.underlying29 rfl) ?_
   refine VO.mv rfl rfl rfl rfl ?_
   refine VO.nil ?_
   refine VC.block ?_
   refine VC.loopK [(0, _), (11, _), (12, _)] ⟨rfl, rfl, rfl, trivial⟩ ({q : Nat // q ≤ s.length ∧ ∀ j, j < q → setupE s j = 0}) (fun (iZ : {q : Nat // q ≤ s.length ∧ ∀ j, j < q → setupE s j = 0}) => match iZ with | ⟨q, hq, hn⟩ => [(13, avI (q : Int))]) (fun (iZ : {q : Nat // q ≤ s.length ∧ ∀ j, j < q → setupE s j = 0}) => match iZ with | ⟨q, hq, hn⟩ => []) (fun (iZ : {q : Nat // q ≤ s.length ∧ ∀ j, j < q → setupE s j = 0}) => match iZ with | ⟨q, hq, hn⟩ => 0) (fun (iZ : {q : Nat // q ≤ s.length ∧ ∀ j, j < q → setupE s j = 0}) => match iZ with | ⟨q, hq, hn⟩ => s.length - q) ⟨0, Nat.zero_le _, fun j hj => absurd hj (Nat.not_lt_zero j)⟩ (Le.mk hB [] ⟨rfl, rfl, rfl, rfl, trivial⟩ rfl rfl (Nat.le_refl _)) ?_
   rintro ⟨q, hq, hn⟩
   show VC _ _ _ _ ⟨[(13, avI (q : Int))] ++ [(0, _), (11, _), (12, _)], [], 0⟩
   refine VC.sr ?_
   refine VO.val rfl rfl (OpV.lss rfl rfl rfl) ?_
   refine VO.nil ?_
   refine VC.seq ?_
   refine VC.cond rfl (fun aH3b => ?_) (fun aH3b => ?_)
   ·have aH3 := aH3b
    try simp only [qqT, qqF, qqN, qqM, qqL, qqE] at aH3
    refine VC.skip ?_
    refine VC.seq ?_
    refine VC.block ?_
    refine VC.sr ?_
    refine VO.mv rfl rfl rfl rfl ?_
    refine VO.val rfl rfl (OpV.indexAddr_1 rfl Tryz.underlying29 Tryz.sizeOf9 rfl rfl rfl (by omega)) ?_
    refine VO.val rfl rfl (OpV.load_at rfl hB OutW.no Tryz.isAgg9 rfl rfl) ?_
    refine VO.ma rfl rfl rfl rfl ?_
    refine VO.ma rfl rfl rfl rfl ?_
    refine VO.nil ?_
    refine VC.block ?_
    refine VC.sr ?_
    refine VO.mv rfl rfl rfl rfl ?_
    refine VO.val rfl rfl (OpV.seql rfl rfl rfl) ?_
    refine VO.ma rfl rfl rfl rfl ?_
    refine VO.nil ?_
    refine VC.cond rfl (fun h3b => ?_) (fun h3b => ?_)
    ·have h3 := h3b
     try simp only [qqT, qqF, qqN, qqM, qqL, qqE] at h3
     refine VC.skip ?_
     refine VC.region ?_
     refine VO.val rfl rfl (OpV.add rfl rfl rfl (by unfold fits; omega)) ?_
     refine VO.mv rfl rfl rfl rfl ?_
     refine VO.nil ?_
     exact Exists.intro (⟨q + 1, by omega, lt_succ_cases hn (setupE_e h3b)⟩) (And.intro (Le.mk hB [] ⟨rfl, rfl, rfl, rfl, trivial⟩ rfl rfl (Nat.le_refl _)) (by first | omega | (show _ < _; omega) | (simp only []; omega)))
    ·have h3 := h3b
     try simp only [qqT, qqF, qqN, qqM, qqL, qqE] at h3
     refine VC.sr ?_
     refine VO.mv rfl rfl rfl rfl ?_
     refine VO.op rfl (OpE.call rfl hB rfl Tryz.call113 rfl (SpecN.spec (kit_IsKey (hs.2 _))) ?_)
     rintro _ rfl
     refine VO.val rfl rfl (OpV.not rfl rfl) ?_
     refine VO.ma rfl rfl rfl rfl ?_
     refine VO.nil ?_
     refine VC.cond rfl (fun h4b => ?_) (fun h4b => ?_)
     ·have h4 := h4b
      try simp only [qqT, qqF, qqN, qqM, qqL, qqE] at h4
      refine VC.sr ?_
      refine VO.ma rfl rfl rfl rfl ?_
      refine VO.nil ?_
      refine VC.ret ?_
      exact Exists.intro _ (And.intro (RetN.one Tryz.results64 (ResN.v rfl)) (by rw [setupF_at (by omega) (by omega) (by omega) hn (setupE_5 h3b h4) (by decide)]))
     ·have h4 := h4b
      try simp only [qqT, qqF, qqN, qqM, qqL, qqE] at h4
      refine VC.sr ?_
      refine VO.mv rfl rfl rfl rfl ?_
      refine VO.mv rfl rfl rfl rfl ?_
      refine VO.val rfl rfl (OpV.slice_strs (h := q) rfl Tryz.underlying29 Tryz.sizeOf9 rfl rfl ⟨_, _, rfl, rfl⟩ (by omega) (by omega)) ?_
      refine VO.mv rfl rfl rfl rfl ?_
      refine VO.op rfl (OpE.call rfl hB rfl Tryz.call54 rfl (SpecN.spec (slices_Contains_str (by rw [len_cut (by omega)]; omega))) ?_)
      rintro _ rfl
      refine VO.ma rfl rfl rfl rfl ?_
      refine VO.nil ?_
      refine VC.cond rfl (fun h5b => ?_) (fun h5b => ?_)
      ·have h5 := h5b
       try simp only [qqT, qqF, qqN, qqM, qqL, qqE] at h5
       refine VC.sr ?_
       refine VO.ma rfl rfl rfl rfl ?_
       refine VO.nil ?_
       refine VC.ret ?_
       exact Exists.intro _ (And.intro (RetN.one Tryz.results64 (ResN.v rfl)) (by rw [setupF_at (by omega) (by omega) (by omega) hn (setupE_6 h3b h4 h5) (by decide)]))
      ·have h5 := h5b
       try simp only [qqT, qqF, qqN, qqM, qqL, qqE] at h5
       refine VC.skip ?_
       refine VC.region ?_
       refine VO.val rfl rfl (OpV.add rfl rfl rfl (by unfold fits; omega)) ?_
       refine VO.mv rfl rfl rfl rfl ?_
       refine VO.nil ?_
       exact Exists.intro (⟨q + 1, by omega, lt_succ_cases hn (setupE_0 h3b h4 h5)⟩) (And.intro (Le.mk hB [] ⟨rfl, rfl, rfl, rfl, trivial⟩ rfl rfl (Nat.le_refl _)) (by first | omega | (show _ < _; omega) | (simp only []; omega)))
   ·have aH3 := aH3b
    try simp only [qqT, qqF, qqN, qqM, qqL, qqE] at aH3
    refine VC.exit ?_
    refine VC.sr ?_
    refine VO.ma rfl rfl rfl rfl ?_
    refine VO.nil ?_
    refine VC.ret ?_
    exact Exists.intro _ (And.intro (RetN.one Tryz.results64 (ResN.v rfl)) (by rw [setupF_ok (by omega) (by omega) (fun j hj => hn j (by omega))]))
set_option maxRecDepth 100000 in
theorem setup_CheckParts {n : Int} {p : List (List ByteArray)} (hp : SmSS p) :
  SpecN Tryz.prog 58 [avI n, avM p] (fun y => y = avI (partsF n p)) := by
 have hl := hp.1
 refine SpecN.of_VCN Tryz.func58 rfl Tryz.ntmps58 (Nle rfl) fun w A hB => ?_
 have hnew : True := trivial
 refine VC.sr ?_
 refine VO.ma rfl rfl rfl rfl ?_
 refine VO.nil ?_
 refine VC.seq ?_
 refine VC.sr ?_
 refine VO.mv rfl rfl rfl rfl ?_
 refine VO.op rfl (OpE.call rfl hB rfl Tryz.call112 rfl (SpecN.spec (kit_Outside)) ?_)
 rintro _ rfl
 refine VO.nil ?_
 refine VC.cond rfl (fun h0b => ?_) (fun h0b => ?_)
 ·have h0 := h0b
  try simp only [qqT, qqF, qqN, qqM, qqL, qqE] at h0
  refine VC.sr ?_
  refine VO.ma rfl rfl rfl rfl ?_
  refine VO.nil ?_
  refine VC.ret ?_
  exact Exists.intro _ (And.intro (RetN.one Tryz.results58 (ResN.v rfl)) (by rw [partsF_1 h0b]))
 ·have h0 := h0b
  try simp only [qqT, qqF, qqN, qqM, qqL, qqE] at h0
  refine VC.skip ?_
  refine VC.seq ?_
  refine VC.sr ?_
  refine VO.mv rfl rfl rfl rfl ?_
  refine VO.val rfl rfl (OpV.len_im rfl Tryz.underlying27 rfl) ?_
  refine VO.val rfl rfl (OpV.gtr rfl rfl rfl) ?_
  refine VO.nil ?_
  refine VC.cond rfl (fun aH1b => ?_) (fun aH1b => ?_)
  ·have aH1 := aH1b
   try simp only [qqT, qqF, qqN, qqM, qqL, qqE] at aH1
   refine VC.sr ?_
   refine VO.ma rfl rfl rfl rfl ?_
   refine VO.nil ?_
   refine VC.ret ?_
   exact Exists.intro _ (And.intro (RetN.one Tryz.results58 (ResN.v rfl)) (by rw [partsF_2 h0b (by omega)]))
  ·have aH1 := aH1b
   try simp only [qqT, qqF, qqN, qqM, qqL, qqE] at aH1
   refine VC.skip ?_
   refine VC.seq ?_
   refine VC.sr ?_
   refine VO.mv rfl rfl rfl rfl ?_
   refine VO.val rfl rfl (OpV.len_im rfl Tryz.underlying27 rfl) ?_
   refine VO.mv rfl rfl rfl rfl ?_
   refine VO.nil ?_
   refine VC.block ?_
   refine VC.loopK [(0, _), (14, _), (15, _)] ⟨rfl, rfl, rfl, trivial⟩ ({q : Nat // q ≤ p.length ∧ ∀ j, j < q → partE n (p.getD j default) = 0}) (fun (iZ : {q : Nat // q ≤ p.length ∧ ∀ j, j < q → partE n (p.getD j default) = 0}) => match iZ with | ⟨q, hq, hn⟩ => [(16, avI (q : Int))]) (fun (iZ : {q : Nat // q ≤ p.length ∧ ∀ j, j < q → partE n (p.getD j default) = 0}) => match iZ with | ⟨q, hq, hn⟩ => []) (fun (iZ : {q : Nat // q ≤ p.length ∧ ∀ j, j < q → partE n (p.getD j default) = 0}) => match iZ with | ⟨q, hq, hn⟩ => 0) (fun (iZ : {q : Nat // q ≤ p.length ∧ ∀ j, j < q → partE n (p.getD j default) = 0}) => match iZ with | ⟨q, hq, hn⟩ => p.length - q) ⟨0, Nat.zero_le _, fun j hj => absurd hj (Nat.not_lt_zero j)⟩ (Le.mk hB [] ⟨rfl, rfl, rfl, rfl, trivial⟩ rfl rfl (Nat.le_refl _)) ?_
   rintro ⟨q, hq, hn⟩
   show VC _ _ _ _ ⟨[(16, avI (q : Int))] ++ [(0, _), (14, _), (15, _)], [], 0⟩
   refine VC.sr ?_
   refine VO.val rfl rfl (OpV.lss rfl rfl rfl) ?_
   refine VO.nil ?_
   refine VC.seq ?_
   refine VC.cond rfl (fun aH2b => ?_) (fun aH2b => ?_)
   ·have aH2 := aH2b
    try simp only [qqT, qqF, qqN, qqM, qqL, qqE] at aH2
    refine VC.skip ?_
    refine VC.seq ?_
    refine VC.block ?_
    refine VC.sr ?_
    refine VO.val rfl rfl (OpV.indexAddr_1 rfl Tryz.underlying27 Tryz.sizeOf29 rfl rfl rfl (by omega)) ?_
    refine VO.val rfl rfl (OpV.load_at rfl hB OutW.no Tryz.isAgg29 rfl rfl) ?_
    refine VO.ma rfl rfl rfl rfl ?_
    refine VO.nil ?_
    refine VC.seq ?_
    refine VC.sr ?_
    refine VO.mv rfl rfl rfl rfl ?_
    refine VO.val rfl rfl (OpV.len_im rfl Tryz.underlying29 rfl) ?_
    refine VO.mv rfl rfl rfl rfl ?_
    refine VO.val rfl rfl (OpV.gtr rfl rfl rfl) ?_
    refine VO.nil ?_
    refine VC.cond rfl (fun h3b => ?_) (fun h3b => ?_)
    ·have h3 := h3b
     try simp only [qqT, qqF, qqN, qqM, qqL, qqE] at h3
     have hq0 := partE_12 (slots := n) (l := p.getD q default) (by omega)
     refine VC.sr ?_
     refine VO.ma rfl rfl rfl rfl ?_
     refine VO.nil ?_
     refine VC.ret ?_
     exact Exists.intro _ (And.intro (RetN.one Tryz.results58 (ResN.v rfl)) (by rw [partsF_at h0b (by omega) (by omega) hn hq0 (by decide)]))
    ·have h3 := h3b
     try simp only [qqT, qqF, qqN, qqM, qqL, qqE] at h3
     have hlq := (hp.2 q).1
     have h3' : ¬ n < ((p.getD q default).length : Int) := by omega
     refine VC.skip ?_
     refine VC.sr ?_
     refine VO.mv rfl rfl rfl rfl ?_
     refine VO.val rfl rfl (OpV.len_im rfl Tryz.underlying29 rfl) ?_
     refine VO.mv rfl rfl rfl rfl ?_
     refine VO.nil ?_
     refine VC.block ?_
     refine VC.loopK [(0, _), (6, _), (14, _), (15, _), (16, _), (24, _), (25, _)] ⟨rfl, rfl, rfl, rfl, rfl, rfl, rfl, trivial⟩ ({r : Nat // r ≤ (p.getD q default).length ∧ ∀ j, j < r → canE (p.getD q default) j = 0}) (fun (iZ : {r : Nat // r ≤ (p.getD q default).length ∧ ∀ j, j < r → canE (p.getD q default) j = 0}) => match iZ with | ⟨r, hq1, hn1⟩ => [(26, avI (r : Int))]) (fun (iZ : {r : Nat // r ≤ (p.getD q default).length ∧ ∀ j, j < r → canE (p.getD q default) j = 0}) => match iZ with | ⟨r, hq1, hn1⟩ => []) (fun (iZ : {r : Nat // r ≤ (p.getD q default).length ∧ ∀ j, j < r → canE (p.getD q default) j = 0}) => match iZ with | ⟨r, hq1, hn1⟩ => 0) (fun (iZ : {r : Nat // r ≤ (p.getD q default).length ∧ ∀ j, j < r → canE (p.getD q default) j = 0}) => match iZ with | ⟨r, hq1, hn1⟩ => (p.getD q default).length - r) ⟨0, Nat.zero_le _, fun j hj => absurd hj (Nat.not_lt_zero j)⟩ (Le.mk hB [] ⟨rfl, rfl, rfl, rfl, rfl, rfl, rfl, rfl, trivial⟩ rfl rfl (Nat.le_refl _)) ?_
     rintro ⟨r, hq1, hn1⟩
     show VC _ _ _ _ ⟨[(26, avI (r : Int))] ++ [(0, _), (6, _), (14, _), (15, _), (16, _), (24, _), (25, _)], [], 0⟩
     refine VC.sr ?_
     refine VO.val rfl rfl (OpV.lss rfl rfl rfl) ?_
     refine VO.nil ?_
     refine VC.seq ?_
     refine VC.cond rfl (fun aH3b => ?_) (fun aH3b => ?_)
     ·have aH3 := aH3b
      try simp only [qqT, qqF, qqN, qqM, qqL, qqE] at aH3
      refine VC.skip ?_
      refine VC.seq ?_
      refine VC.block ?_
      refine VC.sr ?_
      refine VO.mv rfl rfl rfl rfl ?_
      refine VO.val rfl rfl (OpV.indexAddr_1 rfl Tryz.underlying29 Tryz.sizeOf9 rfl rfl rfl (by omega)) ?_
      refine VO.val rfl rfl (OpV.load_at rfl hB OutW.no Tryz.isAgg9 rfl rfl) ?_
      refine VO.ma rfl rfl rfl rfl ?_
      refine VO.ma rfl rfl rfl rfl ?_
      refine VO.nil ?_
      refine VC.seq ?_
      refine VC.sr ?_
      refine VO.mv rfl rfl rfl rfl ?_
      refine VO.op rfl (OpE.call rfl hB rfl Tryz.call113 rfl (SpecN.spec (kit_IsKey ((hp.2 _).2 _))) ?_)
      rintro _ rfl
      refine VO.val rfl rfl (OpV.not rfl rfl) ?_
      refine VO.nil ?_
      refine VC.cond rfl (fun hkb => ?_) (fun hkb => ?_)
      ·have hk := hkb
       try simp only [qqT, qqF, qqN, qqM, qqL, qqE] at hk
       refine VC.sr ?_
       refine VO.ma rfl rfl rfl rfl ?_
       refine VO.nil ?_
       refine VC.ret ?_
       exact Exists.intro _ (And.intro (RetN.one Tryz.results58 (ResN.v rfl)) (by rw [partsF_at h0b (by omega) (by omega) hn (partE_at h3' (by omega) hn1 (canE_5 hk) (by decide)) (by decide)]))
      ·have hk := hkb
       try simp only [qqT, qqF, qqN, qqM, qqL, qqE] at hk
       refine VC.skip ?_
       refine VC.sr ?_
       refine VO.mv rfl rfl rfl rfl ?_
       refine VO.val rfl rfl (OpV.gtr rfl rfl rfl) ?_
       refine VO.mv rfl rfl rfl rfl ?_
       refine VO.opG rfl rfl rfl rfl (fun aK4b => ?_) (fun aK4b => ?_)
       ·replace aK4b : _ = true := aK4b
        have aK4 := aK4b
        try simp only [qqT, qqF, qqN, qqM, qqL, qqE] at aK4
        refine OpE.val (W := NoB) (OpV.move (.inl rfl) rfl) rfl ?_
        refine VO.opY rfl rfl rfl rfl aK4b ?_
        refine OpE.val (W := NoB) (OpV.move (.inl rfl) rfl) rfl ?_
        refine VO.opY rfl rfl rfl rfl aK4b ?_
        refine OpE.val (W := NoB) (OpV.move (.inl rfl) rfl) rfl ?_
        refine VO.opY rfl rfl rfl rfl aK4b ?_
        refine OpE.val (W := NoB) (OpV.sub rfl rfl rfl (by unfold fits; omega)) rfl ?_
        refine VO.opY rfl rfl rfl rfl aK4b ?_
        refine OpE.val (W := NoB) (OpV.indexAddr_1 rfl Tryz.underlying29 Tryz.sizeOf9 rfl rfl (show ((r : Int) - 1) = ((r - 1 : Nat) : Int) by omega) (by omega)) rfl ?_
        refine VO.opY rfl rfl rfl rfl aK4b ?_
        refine OpE.val (W := NoB) (OpV.load_at rfl hB OutW.no Tryz.isAgg9 rfl rfl) rfl ?_
        refine VO.opY rfl rfl rfl rfl aK4b ?_
        refine OpE.val (W := NoB) (OpV.sleq rfl rfl rfl) rfl ?_
        refine VO.val rfl rfl (OpV.pickT rfl rfl rfl rfl aK4b) ?_
        refine VO.nil ?_
        refine VC.cond rfl (fun hsb => ?_) (fun hsb => ?_)
        ·have hs := hsb
         try simp only [qqT, qqF, qqN, qqM, qqL, qqE] at hs
         refine VC.sr ?_
         refine VO.ma rfl rfl rfl rfl ?_
         refine VO.nil ?_
         refine VC.ret ?_
         exact Exists.intro _ (And.intro (RetN.one Tryz.results58 (ResN.v rfl)) (by rw [partsF_at h0b (by omega) (by omega) hn (partE_at h3' (by omega) hn1 (canE_7 hk (by omega) hs) (by decide)) (by decide)]))
        ·have hs := hsb
         try simp only [qqT, qqF, qqN, qqM, qqL, qqE] at hs
         refine VC.skip ?_
         refine VC.region ?_
         refine VO.val rfl rfl (OpV.add rfl rfl rfl (by unfold fits; omega)) ?_
         refine VO.mv rfl rfl rfl rfl ?_
         refine VO.nil ?_
         exact Exists.intro (⟨r + 1, by omega, lt_succ_cases hn1 (canE_0 hk (.inr hs))⟩) (And.intro (Le.mk hB [] ⟨rfl, rfl, rfl, rfl, rfl, rfl, rfl, rfl, trivial⟩ rfl rfl (Nat.le_refl _)) (by first | omega | (show _ < _; omega) | (simp only []; omega)))
       ·replace aK4b : _ = false := aK4b
        have aK4 := aK4b
        try simp only [qqT, qqF, qqN, qqM, qqL, qqE] at aK4
        refine VO.opX rfl rfl rfl rfl aK4b ?_
        refine VO.opX rfl rfl rfl rfl aK4b ?_
        refine VO.opX rfl rfl rfl rfl aK4b ?_
        refine VO.opX rfl rfl rfl rfl aK4b ?_
        refine VO.opX rfl rfl rfl rfl aK4b ?_
        refine VO.opX rfl rfl rfl rfl aK4b ?_
        refine VO.val rfl rfl (OpV.pickF rfl rfl rfl rfl aK4b) ?_
        refine VO.nil ?_
        refine VC.condF rfl rfl ?_
        refine VC.skip ?_
        refine VC.region ?_
        refine VO.val rfl rfl (OpV.add rfl rfl rfl (by unfold fits; omega)) ?_
        refine VO.mv rfl rfl rfl rfl ?_
        refine VO.nil ?_
        exact Exists.intro (⟨r + 1, by omega, lt_succ_cases hn1 (canE_0 hk (.inl (by omega)))⟩) (And.intro (Le.mk hB [] ⟨rfl, rfl, rfl, rfl, rfl, rfl, rfl, rfl, trivial⟩ rfl rfl (Nat.le_refl _)) (by first | omega | (show _ < _; omega) | (simp only []; omega)))
     ·have aH3 := aH3b
      try simp only [qqT, qqF, qqN, qqM, qqL, qqE] at aH3
      refine VC.exit ?_
      refine VC.region ?_
      refine VO.val rfl rfl (OpV.add rfl rfl rfl (by unfold fits; omega)) ?_
      refine VO.mv rfl rfl rfl rfl ?_
      refine VO.nil ?_
      exact Exists.intro (⟨q + 1, by omega, lt_succ_cases hn (partE_ok h3' (fun j hj => hn1 j (by omega)))⟩) (And.intro (Le.mk hB [] ⟨rfl, rfl, rfl, rfl, trivial⟩ rfl rfl (Nat.le_refl _)) (by first | omega | (show _ < _; omega) | (simp only []; omega)))
   ·have aH2 := aH2b
    try simp only [qqT, qqF, qqN, qqM, qqL, qqE] at aH2
    refine VC.exit ?_
    refine VC.sr ?_
    refine VO.ma rfl rfl rfl rfl ?_
    refine VO.nil ?_
    refine VC.ret ?_
    exact Exists.intro _ (And.intro (RetN.one Tryz.results58 (ResN.v rfl)) (by rw [partsF_ok h0b (by omega) (fun j hj => hn j (by omega))]))
end Go.Proofs.YtbbgjeiefmiblaaGreatDoor
namespace Go.Proofs.YtbbgjeiefmiblaaGreatDoor
open Go.RowKit
set_option linter.unusedVariables false
set_option linter.unusedSimpArgs false

def ShP (m : Nat) (l : List ByteArray) : Prop := l.length ≤ m ∧ ∀ x ∈ l, x.size ≤ 1000
theorem ShP.sms {m : Nat} {l : List ByteArray} (h : ShP m l) (hm : m ≤ 1000) : SmS l := ⟨by have := h.1; omega, fun i => by
 by_cases hi : i < l.length
 ·have := h.2 _ (List.getElem_mem hi)
  simp only [List.getD_eq_getElem?_getD, List.getElem?_eq_getElem hi, Option.getD_some]; omega
 ·simp [List.getD_eq_getElem?_getD, List.getElem?_eq_none (by omega : l.length ≤ i)]⟩
theorem ShP.snoc {m : Nat} {l : List ByteArray} (h : ShP m l) {x : ByteArray} (hx : x.size ≤ 1000) : ShP (m + 1) (l ++ [x]) := ⟨by have := h.1; simp; omega, fun y hy => by
 rcases List.mem_append.1 hy with hy | hy
 ·exact h.2 y hy
 ·simp at hy; subst hy; exact hx⟩
theorem ShP.mono {m n : Nat} {l : List ByteArray} (h : ShP m l) (hn : m ≤ n) : ShP n l := ⟨Nat.le_trans h.1 hn, h.2⟩
def ShSS (p : List (List ByteArray)) : Prop := p.length ≤ 20 ∧ ∀ l ∈ p, ShP 20 l
theorem ShSS.smss {p : List (List ByteArray)} (h : ShSS p) : SmSS p := ⟨by have := h.1; omega, fun i => by
 by_cases hi : i < p.length
 ·have := (h.2 _ (List.getElem_mem hi)).sms (by omega)
  simpa only [List.getD_eq_getElem?_getD, List.getElem?_eq_getElem hi, Option.getD_some] using this
 ·simp only [List.getD_eq_getElem?_getD, List.getElem?_eq_none (by omega : p.length ≤ i), Option.getD_none]
  exact ⟨by decide, fun i => by show (([] : List ByteArray).getD i ByteArray.empty).size ≤ _; simp⟩⟩
theorem size_sixF (q : Nat) : (([⟨#[97]⟩, ⟨#[98]⟩, ⟨#[99]⟩, ⟨#[100]⟩, ⟨#[101]⟩, ⟨#[102]⟩] : List ByteArray).getD q ByteArray.empty).size ≤ 1000 := by
 match q with
 | 0 => decide
 | 1 => decide
 | 2 => decide
 | 3 => decide
 | 4 => decide
 | 5 => decide
 | q + 6 => simp
theorem getD_shs {m : Nat} {p : List (List ByteArray)} (h : ∀ l ∈ p, ShP m l) (i : Nat) : ShP m (p.getD i default) := by
 by_cases hi : i < p.length
 ·have := h _ (List.getElem_mem hi)
  simpa only [List.getD_eq_getElem?_getD, List.getElem?_eq_getElem hi, Option.getD_some] using this
 ·simp only [List.getD_eq_getElem?_getD, List.getElem?_eq_none (by omega : p.length ≤ i), Option.getD_none]
  exact ⟨Nat.zero_le _, fun x h => by cases h⟩
def sixE : List ByteArray := [⟨#[]⟩, ⟨#[97]⟩, ⟨#[98]⟩, ⟨#[99]⟩, ⟨#[100]⟩, ⟨#[101]⟩]
def sixF : List ByteArray := [⟨#[97]⟩, ⟨#[98]⟩, ⟨#[99]⟩, ⟨#[100]⟩, ⟨#[101]⟩, ⟨#[102]⟩]
theorem sixF_size (q : Nat) : (sixF.getD q ByteArray.empty).size ≤ 1000 := size_sixF q
end Go.Proofs.YtbbgjeiefmiblaaGreatDoor
namespace Go.Proofs.YtbbgjeiefmiblaaGreatDoor
open Go.RowKit
set_option linter.unusedVariables false
set_option linter.unusedSimpArgs false

section
variable {P : Program} {B : Bs} {W : Nat → Prop} {s s' : St'} {o : Oper} {K : St' → Prop} {a : Act} {w w' : World} {Q : Exit → St' → Prop}

theorem OpV.cap_v {x : Operand} {T e n c : Nat} {ad : Option Addr} (ho : o.op = .call { callee := .builtin .cap, args := #[x], argTypes := #[T] }) (hu : P.underlying T = some (.slice e))
  (hx : evO s x = some (.v (.slice ad n c))) : OpV P B W s o (.v (.int .i64 c)) :=
 OpV.conc (fun a w hr w' hcw => by simp [execOp, ho, resolve, invoke, builtin, Builtin.cap_, run_underlying hu, hr.evv hx, goInt])

theorem OpV.slice_rowA {t e sz i n l h : Nat} {x : Operand} {u : Value} {cs : List AV} {ty : TypeId} {lo hi : Option Operand} (ho : o.op = .slice t x lo hi none) (hu : P.underlying t = some (.slice e)) (hsz : ∀ w, (sizeOf e).run P w = .ok sz w) (hx : evO s x = some (.v u))
  (hi' : s.hp[i]? = some (.row u n sz cs ty)) (hl : BndO s lo 0 l) (hh : BndO s hi n h) (h1 : l ≤ h) (h2 : h ≤ n) : OpV P B W s o .any := fun a w hr => by
 obtain ⟨_, ⟨rfl, rfl⟩ | ⟨g, cap, c, rfl, k1, _⟩⟩ := hr.blocks _ (List.mem_of_getElem? hi')
 ·have e := fun w' => sliceB_run (P := P) (isS := true) (len := 0) (cap := 0) (l := l) (h := h) (lo := lo.map a.eval) (hi := hi.map a.eval) (dl := (hl.run hr).imp (fun ⟨h1, h2⟩ => ⟨by rw [h1]; rfl, h2⟩) id) (dh := (hh.run hr).imp (fun ⟨h1, h2⟩ => ⟨by rw [h1]; rfl, h2⟩) id) h1 h2 w'
  exact ⟨_, fun w' hc => by simp [execOp, ho, Instr.sliceAt, Instr.slice, run_underlying hu, hr.evv hx, e w', hsz]; rfl, .any _⟩
 ·have e := fun w' => sliceB_run (P := P) (isS := true) (len := n) (cap := cap) (l := l) (h := h) (lo := lo.map a.eval) (hi := hi.map a.eval) (dl := (hl.run hr).imp (fun ⟨h1, h2⟩ => ⟨by rw [h1]; rfl, h2⟩) id) (dh := (hh.run hr).imp (fun ⟨h1, h2⟩ => ⟨by rw [h1]; rfl, h2⟩) id) h1 (by omega) w'
  exact ⟨_, fun w' hc => by simp [execOp, ho, Instr.sliceAt, Instr.slice, run_underlying hu, hr.evv hx, e w', hsz]; rfl, .any _⟩
theorem OpE.appendZ {x y : Operand} {T Tn e sz bytes cap k : Nat} {base : Option Addr} {z : Value} {kn kq : IntKind} {kk : Int} (ho : o.op = .call { callee := .builtin .append, args := #[x, y], argTypes := #[T, Tn] }) (hB : B.Ok) (hd : okd B.nt o.dst = true)
  (hu : P.underlying T = some (.slice e)) (hun : P.underlying Tn = some (.int kn)) (hinfo : (P.info? e).map (fun i => (i.zero, i.size, i.bytes)) = some (some z, sz, bytes)) (hz : z.cells.size = sz) (hsz : 0 < sz) (hby : bytes ≤ 4096)
  (hx : evO s x = some (.v (.slice base 0 cap))) (hy : evO s y = some (.v (.int kq kk))) (hkk : kk = k) (hk : 0 < k) (hcap : cap < k) (hlen : k ≤ 10000000000)
  (hK : ∀ u, K ((St'.mk s.sl (s.hp ++ [.row u k sz (List.replicate (k * sz) .any) e]) s.k).put o.dst (.v u))) : OpE P B W s o K := by
 subst hkk
 obtain ⟨ii, hii, hz0, hz1, hz2⟩ := info_parts hinfo
 subst hz1; subst hz2
 intro a w hr next Qx hn
 have hb47 : k * ii.bytes ≤ 140737488355328 := by
  have : k * ii.bytes ≤ 10000000000 * 4096 := Nat.mul_le_mul hlen hby
  omega
 have hrun := Lib.run_append_grow_zeros (P := P) w T Tn o.type e ii z kq kn hu hun hii hz0 base 0 cap [] (by
  cases base with
  | none => rfl
  | some x0 =>
   have := run_loadCells_list (P := P) w.drew x0 [] (fun j v hj => by simp at hj)
   simpa [Builtin.firstCells] using this) k hk hsz (by omega) (by omega) (by omega) (by rw [Nat.zero_add]; exact growslice_fits hcap hb47)
 simp only [Nat.zero_add] at hrun
 have hge := grownCap_ge w k cap e
 have hcm := grownCap_le_maxLen w k cap e (by simp only [maxLen]; omega)
 have hr' : R B ⟨s.sl, s.hp ++ [.row (.slice (some ⟨w.heap.size, 0, none⟩) k (grownCap w k cap e)) k ii.size (List.replicate (k * ii.size) .any) e], s.k⟩ a _ :=
  hr.newRow hB (((Chg.refl NoB w).drew).alloc (.cells (#[] ++ Builtin.zeroCells z.cells k ++ Builtin.zeroCells z.cells (grownCap w k cap e - k)) e)) (fun g hg => by simp [Ent.blk, Value.ownBlock] at hg; omega) ⟨by simp, .inr ⟨_, _, _, rfl, hge, hcm, heap_alloc_new _ _, by
   simp only [Array.size_append, size_zeroCells, hz, List.size_toArray, List.length_nil]
   rw [Nat.sub_mul]
   have := Nat.mul_le_mul_right ii.size hge
   omega, fun j hj => by
   simp only [List.length_replicate] at hj
   have hlt : j < (#[] ++ Builtin.zeroCells z.cells k ++ Builtin.zeroCells z.cells (grownCap w k cap e - k)).size := by
    simp only [Array.size_append, size_zeroCells, hz, List.size_toArray, List.length_nil]
    omega
   exact ⟨_, Array.getElem?_eq_getElem hlt, by simp only [List.getElem_replicate]; exact .any _⟩⟩⟩
 unfold Oper.wp
 simp only [execOp, ho, resolve, invoke, builtin, List.map_toArray, List.map_cons, List.map_nil, hr.evv hx, hr.evv hy, Sem.run_bind, Sem.run_pure, Result.andThen_ok, hrun]
 exact hn _ _ _ (hK _) (hr'.put _ hd _ _ (.v _)) (.ofN (((Chg.refl NoB w).drew).alloc _))

theorem Le.swap {i : Nat} {e e' : Ent} (hi : s.hp[i]? = some e) (hblk : e'.blk = e.blk) (hE : ∀ w Z, EntR w Z e → EntR w Z e') : Le B s ⟨s.sl, s.hp.set i e', s.k⟩ := fun a w hr => hr.swap hi hblk (hE w)
theorem Le.padBox {i g tot : Nat} {cs : List AV} {ty : TypeId} (m : Nat) (hi : s.hp[i]? = some (.box g ⟨cs, ty, tot⟩)) (hm : cs.length + m ≤ tot) : Le B s ⟨s.sl, s.hp.set i (.box g ⟨cs ++ List.replicate m .any, ty, tot⟩), s.k⟩ :=
 Le.swap hi rfl fun w Z ⟨c, h1, h2, h3, h4⟩ => ⟨c, h1, h2, by simpa using hm, fun j hj => by
  simp only at h2 h3 h4 hj ⊢
  by_cases hjl : j < cs.length
  ·obtain ⟨u, k1, k2⟩ := h4 j hjl
   exact ⟨u, k1, by rw [List.getElem_append_left hjl]; exact k2⟩
  ·rw [List.length_append, List.length_replicate] at hj
   have hlt : j < c.size := by rw [h2]; omega
   exact ⟨_, Array.getElem?_eq_getElem hlt, by rw [List.getElem_append_right (by omega), List.getElem_replicate]; exact .any _⟩⟩
theorem Le.cutBox {i g tot : Nat} {cs : List AV} {ty : TypeId} (m : Nat) (hi : s.hp[i]? = some (.box g ⟨cs, ty, tot⟩)) : Le B s ⟨s.sl, s.hp.set i (.box g ⟨cs.take m, ty, tot⟩), s.k⟩ :=
 Le.swap hi rfl fun w Z ⟨c, h1, h2, h3, h4⟩ => ⟨c, h1, h2, by simp only [List.length_take] at h3 ⊢; omega, fun j hj => by
  simp only [List.length_take] at hj h4 ⊢
  obtain ⟨u, k1, k2⟩ := h4 j (by omega)
  exact ⟨u, k1, by rw [List.getElem_take]; exact k2⟩⟩
theorem Le.cutBoxE {i g tot : Nat} {cs cs' : List AV} {ty : TypeId} (m : Nat) (hi : s.hp[i]? = some (.box g ⟨cs, ty, tot⟩)) (h : cs.take m = cs') : Le B s ⟨s.sl, s.hp.set i (.box g ⟨cs', ty, tot⟩), s.k⟩ := by
 subst h
 exact Le.cutBox m hi
theorem Le.pickH {hp : List Ent} (ix : List Nat) (hix : ndB ix = true) (h3 : keepIx ix s.hp = hp) : Le B s ⟨s.sl, hp, s.k⟩ := fun a w hr => by
 subst h3
 have hm : ∀ p ∈ keepIx ix s.hp, p ∈ s.hp := fun p hp => by
  rw [keepIx_fm] at hp
  obtain ⟨i, _, hi⟩ := List.mem_filterMap.1 hp
  exact List.mem_of_getElem? hi
 have hz : ∀ b, Zn B s.hp w b → Zn B (keepIx ix s.hp) w b := fun b hb => ⟨hb.1, fun p hp' => hb.2.1 p (hm p hp'), hb.2.2⟩
 refine ⟨fun t x hx => (hr.slots t x hx).keep fun b hb _ => ⟨rfl, hz b hb⟩, hr.size, hr.defs, fun p hp' => (hr.blocks p (hm p hp')).keep (fun b hb _ => ⟨rfl, hz b hb⟩) fun _ _ => rfl, ?_, hr.chg, fun p hp' g hg => hr.own p (hm p hp') g hg, hr.res⟩
 show Apart (keepIx ix s.hp)
 unfold Apart
 rw [keepIx_fm, List.pairwise_filterMap]
 refine (ndB_spec hix).imp fun {i j} hij p hp q hq g hg => hr.nodup.get hp hq hij hg
theorem Le.drop (m : Nat) : Le B s ⟨s.sl, s.hp.drop m, s.k⟩ := fun a w hr => hr.drop (fun _ _ h => h) (List.drop_sublist m s.hp)
theorem VO.asBox {ops : Array Oper} {rest : List Oper} {i n sz : Nat} {u : Value} {cs : List AV} {ty : TypeId} (hi : s.hp[i]? = some (.row u n sz cs ty)) (hn : 0 < n)
  (h : ∀ g cap, u = .slice (some ⟨g, 0, none⟩) n cap → n ≤ cap → cap ≤ maxLen → VO P B ops rest Q ⟨s.sl, s.hp.set i (.box g ⟨cs, ty, cap * sz⟩), s.k⟩) : VO P B ops rest Q s := fun a w hr => by
 obtain ⟨g, cap, h1, h2, h3, h4⟩ := hr.rowBox hi hn
 exact h g cap h1 h2 h3 a w h4

theorem VO.rowIs {ops : Array Oper} {rest : List Oper} {i n sz : Nat} {u : Value} {cs : List AV} {ty : TypeId} (hi : s.hp[i]? = some (.row u n sz cs ty)) (h : ∀ b c, u = .slice b n c → VO P B ops rest Q s) : VO P B ops rest Q s := fun a w hr => by
 obtain ⟨_, ⟨rfl, rfl⟩ | ⟨g, cap, c, rfl, _⟩⟩ := hr.blocks _ (List.mem_of_getElem? hi)
 ·exact h none 0 rfl a w hr
 ·exact h _ cap rfl a w hr
theorem VC.rowIs {c0 : Code} {Qc : Exit → St' → Prop} {i n sz : Nat} {u : Value} {cs : List AV} {ty : TypeId} (hi : s.hp[i]? = some (.row u n sz cs ty)) (h : ∀ b c, u = .slice b n c → VC P B c0 Qc s) : VC P B c0 Qc s := fun a w hr => by
 obtain ⟨_, ⟨rfl, rfl⟩ | ⟨g, cap, c, rfl, _⟩⟩ := hr.blocks _ (List.mem_of_getElem? hi)
 ·exact h none 0 rfl a w hr
 ·exact h _ cap rfl a w hr
theorem look_k {l : List (Nat × AV)} {t : Nat} {b want : Bool} (h : look l t = some (.v (.bool b))) (hb : b = want) : look l t = some (.v (.bool want)) := hb ▸ h
theorem SpecH.args {F : FuncId} {xs xs' : List AV} {hp : List Ent} {G : AV → List Ent → Prop} (h : SpecH P F xs hp G) (hl : xs'.length = xs.length) (ha : ∀ (j : Nat) (h1 : j < xs'.length) (h2 : j < xs.length) (w : World) (Z : Nat → Prop) (u : Value), Rep w Z xs'[j] u → Rep w Z xs[j] u) : SpecH P F xs' hp G :=
 fun w A us h1 => h w A us ⟨h1.1.trans hl, fun j hj => ha j (by omega) hj _ _ _ (h1.2 j (by omega))⟩
theorem ArgP.nil {x : Operand} {sz : Nat} {F : Nat → AV} (h : evO s x = some (.v (.slice none 0 0))) : ArgP P B s x (.im 0 sz F) := fun a w hr => by
 rw [hr.evv h]
 exact .nil _ _
theorem Le.recastBox {i g tot : Nat} {cs cs' : List AV} {ty : TypeId} (hi : s.hp[i]? = some (.box g ⟨cs, ty, tot⟩)) (hl : cs'.length = cs.length) (h : ∀ (j : Nat) (h1 : j < cs.length) (h2 : j < cs'.length) (w : World) (Z : Nat → Prop) (u : Value), Rep w Z cs[j] u → Rep w Z cs'[j] u) : Le B s ⟨s.sl, s.hp.set i (.box g ⟨cs', ty, tot⟩), s.k⟩ :=
 Le.swap hi rfl fun w Z ⟨c, h1, h2, h3, h4⟩ => ⟨c, h1, h2, by simp only at h3 ⊢; omega, fun j hj => by
  obtain ⟨u, k1, k2⟩ := h4 j (by simp only at hj ⊢; omega)
  exact ⟨u, k1, h j _ _ _ _ _ k2⟩⟩
theorem OpE.overlaps {x y : Operand} {ts : Array TypeId} {F : FuncId} {T Tr e sz i g off n cap m : Nat} {o' : Own'} {F0 : Nat → AV} (ho : o.op = .call { callee := .value (.func F), args := #[x, y], argTypes := ts }) (hB : B.Ok) (hd : okd B.nt o.dst = true)
  (hcall : ∀ us w, (callFunc F us).run P w = ((Extern.SlicesOverlaps.overlaps #[T, T] #[Tr] us).run P w).andThen fun v w' => .ok (.value v) w') (hu : P.underlying T = some (.slice e)) (hsz : ∀ w, (sizeOf e).run P w = .ok sz w)
  (hx : evO s x = some (.im m sz F0)) (hm : 0 < m) (hy : evO s y = some (.v (.slice (some ⟨g, off, none⟩) n cap))) (hi : s.hp[i]? = some (.box g o')) (ht : 0 < o'.tot) (hK : K (s.put o.dst (avB false))) : OpE P B W s o K := by
 intro a w hr next Qx hn
 have hex := hr.ev hx
 generalize hv : a.eval x = v at hex
 obtain ⟨c, h1, h2, h3, h4⟩ := hr.blocks _ (List.mem_of_getElem? hi)
 cases hex with
 | nil => omega
 | im m sz F b off2 cap2 c2 e2 u hZ k1 k2 hb hc hr2 =>
  have hne : b ≠ g := fun e => hZ.2.1 _ (List.mem_of_getElem? hi) (by rw [e]; rfl)
  have hov := Lib.run_overlaps_apart (P := P) w T Tr e hu sz hsz ⟨b, off2, none⟩ ⟨g, off, none⟩ m cap2 n cap hne e2 o'.ty c2.size c.size (by simp [World.shape?, hb]) (by simp [World.shape?, h1]) (by omega) (by simp [World.frozen?, hb]) (by simp [World.frozen?, hb])
  unfold Oper.wp
  simp only [execOp, ho, resolve, Act.eval, Deferred.ofValue, Sem.run_bind, Sem.run_pure, Result.andThen_ok, invoke, hcall, Array.empty_append, Array.append_empty, List.map_toArray, List.map_cons, List.map_nil]
  have hv' := hv
  simp only [Act.eval] at hv'
  have hy' := hr.evv hy
  simp only [Act.eval] at hy'
  rw [hv', hy', hov]
  exact hn _ _ _ hK (hr.put _ hd _ _ (.v _)) (Ew.rf _)
end
instance : Sx1 (List (List ByteArray)) := ⟨fun x => avM x⟩
instance : Sx1 (List (List Int)) := ⟨fun x => avM x⟩
end Go.Proofs.YtbbgjeiefmiblaaGreatDoor
namespace Go.Proofs.YtbbgjeiefmiblaaGreatDoor
open Go.RowKit
set_option linter.unusedVariables false
set_option linter.unusedSimpArgs false
set_option maxRecDepth 100000 in
theorem flip_X {p0 cap : Nat} {a0 : Option Addr} {p k : Nat} {L : List Int} {n : Int} (hk : k ≤ 1000000) (hn : n ≤ 1000000000) (hp0 : p0 ≤ p) :
  SpecHX (TXI a0 L p0) Tryz.prog 12 [sp p, avI n] [bxStr p a0 cap L k] (fun y hp' => y = avB (decide (nxt L k n = 0)) ∧ hp' = [bxStr p a0 cap L (k + 1)]) := by
 refine SpecHX.of_VC txi_stab Tryz.func12 rfl Tryz.ntmps12 (Nle rfl) fun w A hB hGX => ?_
 have hnew : True := trivial
 refine VC.sr ?_
 refine VO.ma rfl rfl rfl rfl ?_
 refine VO.nil ?_
 refine VC.sr ?_
 refine VO.mv rfl rfl rfl rfl ?_
 refine VO.mv rfl rfl rfl rfl ?_
 refine VO.op rfl (OpE.callHX (rest := []) txi_stab hGX rfl hB rfl Tryz.call51 rfl rfl (next_X hp0 (by omega) (by omega)) (List.Perm.refl _) (fun _ _ => trivial) ?_)
 rintro _ _ ⟨rfl, rfl⟩
 refine VO.val rfl rfl (OpV.eql rfl rfl rfl) ?_
 refine VO.ma rfl rfl rfl rfl ?_
 refine VO.nil ?_
 refine VC.ret ?_
 exact Exists.intro _ (And.intro (RetV.one Tryz.results12 (ResV.tmp rfl)) (⟨rfl, rfl⟩))
set_option maxRecDepth 100000 in
theorem range_X {p0 cap : Nat} {a0 : Option Addr} {p k : Nat} {L : List Int} {lo hi : Int} (hk : k ≤ 1000000) (h0 : 0 ≤ lo) (hlh : lo ≤ hi) (hn : hi ≤ 999999999) (hp0 : p0 ≤ p) :
  SpecHX (TXI a0 L p0) Tryz.prog 7 [sp p, avI lo, avI hi] [bxStr p a0 cap L k] (fun y hp' => y = avI (rng L k lo hi) ∧ hp' = [bxStr p a0 cap L (k + 1)]) := by
 refine SpecHX.of_VC txi_stab Tryz.func7 rfl Tryz.ntmps7 (Nle rfl) fun w A hB hGX => ?_
 have hnew : True := trivial
 refine VC.sr ?_
 refine VO.ma rfl rfl rfl rfl ?_
 refine VO.nil ?_
 refine VC.seq ?_
 refine VC.sr ?_
 refine VO.mv rfl rfl rfl rfl ?_
 refine VO.mv rfl rfl rfl rfl ?_
 refine VO.val rfl rfl (OpV.lss rfl rfl rfl) ?_
 refine VO.nil ?_
 refine VC.cond rfl (fun aH1b => ?_) (fun aH1b => ?_)
 ·have aH1 := aH1b
  try simp only [qqT, qqF, qqN, qqM, qqL, qqE] at aH1
  exact VC.absurd (by omega)
 ·have aH1 := aH1b
  try simp only [qqT, qqF, qqN, qqM, qqL, qqE] at aH1
  refine VC.skip ?_
  refine VC.seq ?_
  have b1 := nxt_lo L k (hi - lo + 1)
  have b2 := nxt_lt L k (hi - lo + 1) (by omega)
  refine VC.region ?_
  refine VO.mv rfl rfl rfl rfl ?_
  refine VO.mv rfl rfl rfl rfl ?_
  refine VO.mv rfl rfl rfl rfl ?_
  refine VO.mv rfl rfl rfl rfl ?_
  refine VO.val rfl rfl (OpV.sub rfl rfl rfl (by unfold fits; omega)) ?_
  refine VO.val rfl rfl (OpV.add rfl rfl rfl (by unfold fits; omega)) ?_
  refine VO.op rfl (OpE.callHX (rest := []) txi_stab hGX rfl hB rfl Tryz.call51 rfl rfl (next_X hp0 (by omega) (by omega)) (List.Perm.refl _) (fun _ _ => trivial) ?_)
  rintro _ _ ⟨rfl, rfl⟩
  refine VO.val rfl rfl (OpV.add rfl rfl rfl (by unfold fits; omega)) ?_
  refine VO.ma rfl rfl rfl rfl ?_
  refine VO.nil ?_
  refine VC.ret ?_
  exact Exists.intro _ (And.intro (RetV.one Tryz.results7 (ResV.tmp rfl)) (⟨rfl, rfl⟩))
def someV (L : List Int) (k : Nat) (xs : List ByteArray) : ByteArray := xs.getD (nxt L k xs.length).toNat ByteArray.empty
set_option maxRecDepth 100000 in
theorem some_X {p0 cap : Nat} {a0 : Option Addr} {p k : Nat} {L : List Int} {xs : List ByteArray} (hk : k ≤ 1000000) (hx : 0 < xs.length ∧ xs.length ≤ 1000000) (hp0 : p0 ≤ p) :
  SpecHX (TXI a0 L p0) Tryz.prog 53 [sp p, avStrs xs] [bxStr p a0 cap L k] (fun y hp' => y = avS (someV L k xs) ∧ hp' = [bxStr p a0 cap L (k + 1)]) := by
 refine SpecHX.of_VC txi_stab Tryz.func53 rfl Tryz.ntmps53 (Nle rfl) fun w A hB hGX => ?_
 have hnew : True := trivial
 refine VC.sr ?_
 refine VO.ma rfl rfl rfl rfl ?_
 refine VO.nil ?_
 refine VC.sr ?_
 refine VO.mv rfl rfl rfl rfl ?_
 refine VO.mv rfl rfl rfl rfl ?_
 refine VO.mv rfl rfl rfl rfl ?_
 refine VO.val rfl rfl (OpV.len_im rfl Tryz.underlying29 rfl) ?_
 refine VO.op rfl (OpE.callHX (rest := []) txi_stab hGX rfl hB rfl Tryz.call51 rfl rfl (next_X hp0 (by omega) (by omega)) (List.Perm.refl _) (fun _ _ => trivial) ?_)
 rintro _ _ ⟨rfl, rfl⟩
 have b1 := nxt_lo L k xs.length
 have b2 := nxt_lt L k xs.length (by omega)
 refine VO.val rfl rfl (OpV.indexAddr_1 rfl Tryz.underlying29 Tryz.sizeOf9 rfl rfl (Int.toNat_of_nonneg (by omega)).symm (by omega)) ?_
 refine VO.val rfl rfl (OpV.load_at rfl hB OutW.no Tryz.isAgg9 rfl rfl) ?_
 refine VO.ma rfl rfl rfl rfl ?_
 refine VO.nil ?_
 refine VC.ret ?_
 exact Exists.intro _ (And.intro (RetV.one Tryz.results53 (ResV.tmp rfl)) (⟨rfl, rfl⟩))
def asX (L : List Int) (k : Nat) (out : List ByteArray) : ByteArray := if (out.any fun y => sEq (someV L k sixE) y) = true then ⟨#[]⟩ else someV L k sixE
def asS (L : List Int) (k : Nat) : Nat → List ByteArray
 | 0 => []
 | q + 1 => asS L k q ++ [asX L (k + q) (asS L k q)]
def thrE3 : List ByteArray := [⟨#[65]⟩, ⟨#[97]⟩, ⟨#[45]⟩]
def asV (L : List Int) (k n : Nat) : List ByteArray :=
 if nxt L (k + n) 15 = 0 then
  if nxt L (k + n + 1) 3 = 0 then [] else if nxt L (k + n + 1) 3 = 1 then asS L k n ++ [someV L (k + n + 2) thrE3] else List.replicate (100 + (rng L (k + n + 2) 0 1).toNat) ⟨#[]⟩
 else asS L k n
def asK (L : List Int) (k n : Nat) : Nat := if nxt L (k + n) 15 = 0 then (if nxt L (k + n + 1) 3 = 0 then k + n + 2 else k + n + 3) else k + n + 1
section
variable {L : List Int} {k n q : Nat}
theorem asS_len : ∀ q, (asS L k q).length = q
 | 0 => rfl
 | q + 1 => by rw [asS, List.length_append, asS_len q]; rfl
theorem asS_y (h : ((asS L k q).any fun y => sEq (someV L (k + q) sixE) y) = true) : asS L k (q + 1) = asS L k q ++ [⟨#[]⟩] := by rw [asS, asX, if_pos h]
theorem asS_n (h : ((asS L k q).any fun y => sEq (someV L (k + q) sixE) y) = false) : asS L k (q + 1) = asS L k q ++ [someV L (k + q) sixE] := by rw [asS, asX, if_neg (by rw [h]; simp)]
theorem someV_size {xs : List ByteArray} {m : Nat} (h : ∀ x ∈ xs, x.size ≤ m) : (someV L k xs).size ≤ m := by
 unfold someV
 rw [List.getD_eq_getElem?_getD]
 cases hj : xs[(nxt L k xs.length).toNat]? with
 | none => exact Nat.zero_le _
 | some x => exact h x (List.mem_of_getElem? hj)
theorem sixE_sm : ∀ x ∈ sixE, x.size ≤ 1000 := by decide
theorem thrE3_sm : ∀ x ∈ thrE3, x.size ≤ 1000 := by decide
theorem asS_sh : ∀ q, ShP q (asS L k q)
 | 0 => ⟨Nat.le_refl _, fun x h => by cases h⟩
 | q + 1 => by
  rw [asS]
  refine (asS_sh q).snoc ?_
  unfold asX
  split
  ·exact Nat.zero_le _
  ·exact someV_size sixE_sm
theorem asV_0 (h : nxt L (k + n) 15 ≠ 0) : asV L k n = asS L k n ∧ asK L k n = k + n + 1 := ⟨if_neg h, if_neg h⟩
theorem asV_1 (h : nxt L (k + n) 15 = 0) (h1 : nxt L (k + n + 1) 3 = 0) : asV L k n = [] ∧ asK L k n = k + n + 2 := ⟨by rw [asV, if_pos h, if_pos h1], by rw [asK, if_pos h, if_pos h1]⟩
theorem asV_2 (h : nxt L (k + n) 15 = 0) (h1 : nxt L (k + n + 1) 3 ≠ 0) (h2 : nxt L (k + n + 1) 3 = 1) : asV L k n = asS L k n ++ [someV L (k + n + 2) thrE3] ∧ asK L k n = k + n + 3 := ⟨by rw [asV, if_pos h, if_neg h1, if_pos h2], by rw [asK, if_pos h, if_neg h1]⟩
theorem asV_3 (h : nxt L (k + n) 15 = 0) (h1 : nxt L (k + n + 1) 3 ≠ 0) (h2 : nxt L (k + n + 1) 3 ≠ 1) : asV L k n = List.replicate (100 + (rng L (k + n + 2) 0 1).toNat) ⟨#[]⟩ ∧ asK L k n = k + n + 3 := ⟨by rw [asV, if_pos h, if_neg h1, if_neg h2], by rw [asK, if_pos h, if_neg h1]⟩
theorem asV_sh (hn : n ≤ 100) : ShP 200 (asV L k n) := by
 have h := asS_sh (L := L) (k := k) n
 unfold asV
 split
 ·split
  ·exact ⟨Nat.zero_le _, fun x h => by cases h⟩
  ·split
   ·exact (h.snoc (someV_size thrE3_sm)).mono (by omega)
   ·have h2 := rng_hi L (k + n + 2) 0 1 (by omega)
    refine ⟨by rw [List.length_replicate]; omega, fun x hx => ?_⟩
    rw [List.eq_of_mem_replicate hx]; exact Nat.zero_le _
 ·exact h.mono (by omega)
theorem asK_le : asK L k n ≤ k + n + 3 := by
 unfold asK
 split
 ·split <;> omega
 ·omega
end
set_option maxRecDepth 100000 in
set_option maxHeartbeats 4000000 in
theorem aSetup_X {p0 cap : Nat} {a0 : Option Addr} {p k n : Nat} {L : List Int} (hk : k ≤ 900000) (hn : n ≤ 20) (hp0 : p0 ≤ p) :
  SpecHX (TXI a0 L p0) Tryz.prog 9 [sp p, avI (n : Int)] [bxStr p a0 cap L k] (fun y hp' => y = avStrs (asV L k n) ∧ hp' = [bxStr p a0 cap L (asK L k n)]) := by
 have h6 : sixE.length = 6 := rfl
 have h3 : thrE3.length = 3 := rfl
 refine SpecHX.of_VC txi_stab Tryz.func9 rfl Tryz.ntmps9 (Nle rfl) fun w A hB hGX => ?_
 have hnew : True := trivial
 refine VC.sr ?_
 refine VO.ma rfl rfl rfl rfl ?_
 refine VO.nil ?_
 refine VC.sr ?_
 refine VO.ma rfl rfl rfl rfl ?_
 refine VO.nil ?_
 refine VC.seq ?_
 refine VC.sr ?_
 refine VO.mv rfl rfl rfl rfl ?_
 refine VO.mv rfl rfl rfl rfl ?_
 refine VO.nil ?_
 refine VC.block ?_
 refine VC.le _ (Le.nilRow 1 9) ?_
 refine VC.loopK [(0, _), (7, _)] ⟨rfl, rfl, trivial⟩ ({z : Value × Nat // z.2 ≤ n}) (fun (iZ : {z : Value × Nat // z.2 ≤ n}) => match iZ with | ⟨⟨u, q⟩, hq⟩ => [(5, .v u), (8, avI (q : Int))]) (fun (iZ : {z : Value × Nat // z.2 ≤ n}) => match iZ with | ⟨⟨u, q⟩, hq⟩ => [bxStr p a0 cap L (k + q), .row u (asS L k q).length 1 (strsL (asS L k q)) 9]) (fun (iZ : {z : Value × Nat // z.2 ≤ n}) => match iZ with | ⟨⟨u, q⟩, hq⟩ => 0) (fun (iZ : {z : Value × Nat // z.2 ≤ n}) => match iZ with | ⟨⟨u, q⟩, hq⟩ => n - q) ⟨(.slice none 0 0, 0), Nat.zero_le _⟩ (Le.mk hB [0, 1] ⟨rfl, rfl, rfl, rfl, trivial⟩ rfl rfl (Nat.le_refl _)) ?_
 rintro ⟨⟨u, q⟩, hq⟩
 show VC _ _ _ _ ⟨[(5, .v u), (8, avI (q : Int))] ++ [(0, _), (7, _)], [bxStr p a0 cap L (k + q), .row u (asS L k q).length 1 (strsL (asS L k q)) 9], 0⟩
 simp only at hq
 have hll := asS_len (L := L) (k := k) q
 refine VC.sr ?_
 refine VO.val rfl rfl (OpV.lss rfl rfl rfl) ?_
 refine VO.nil ?_
 refine VC.seq ?_
 refine VC.cond rfl (fun aH1b => ?_) (fun aH1b => ?_)
 ·have aH1 := aH1b
  try simp only [qqT, qqF, qqN, qqM, qqL, qqE] at aH1
  refine VC.skip ?_
  refine VC.seq ?_
  refine VC.block ?_
  refine VC.sr ?_
  refine VO.mv rfl rfl rfl rfl ?_
  refine VO.op rfl (OpE.buildSlice (zc := #[.string ⟨#[]⟩, .string ⟨#[]⟩, .string ⟨#[]⟩, .string ⟨#[]⟩, .string ⟨#[]⟩, .string ⟨#[]⟩]) rfl hB rfl Tryz.underlying29 Tryz.sizeOf9 Tryz.zeroValue9 (by decide) (by decide) (by kernel_rfl) rfl rfl ?_)
  refine VO.le _ (Le.recast (t := 11) (y := avStrs sixE) rfl (fun w Z u h => Rep.strs (xs := sixE) rfl h)) ?_
  refine VO.op rfl (OpE.callHX (rest := [_]) txi_stab hGX rfl hB rfl Tryz.call53 rfl rfl (some_X (xs := sixE) (by omega) (by omega) hp0) (List.Perm.refl _) (fun _ _ => trivial) ?_)
  rintro _ _ ⟨rfl, rfl⟩
  refine VO.ma rfl rfl rfl rfl ?_
  refine VO.nil ?_
  refine VC.seq ?_
  refine VC.sr ?_
  refine VO.mv rfl rfl rfl rfl ?_
  refine VO.mv rfl rfl rfl rfl ?_
  refine VO.op rfl (OpE.callL rfl hB rfl Tryz.call54 (slices_Contains_str (by omega)) (ArgsP.cons (ArgP.rowS (i := 1) rfl rfl rfl) (ArgsP.cons (ArgP.ev rfl) (ArgsP.nil))) ?_)
  rintro _ rfl
  refine VO.nil ?_
  refine VC.cond rfl (fun aH2b => ?_) (fun aH2b => ?_)
  ·have aH2 := aH2b
   try simp only [qqT, qqF, qqN, qqM, qqL, qqE] at aH2
   refine VC.region ?_
   refine VO.ma rfl rfl rfl rfl ?_
   refine VO.nil ?_
   refine VC.region ?_
   refine VO.mv rfl rfl rfl rfl ?_
   refine VO.mv rfl rfl rfl rfl ?_
   refine VO.op rfl (OpE.buildSlice (zc := #[.string ⟨#[]⟩]) rfl hB rfl Tryz.underlying29 Tryz.sizeOf9 Tryz.zeroValue9 (by decide) (by decide) (by kernel_rfl) rfl rfl ?_)
   refine VO.op rfl (OpE.append1 (i := 1) rfl hB rfl Tryz.underlying29 (infoOf Tryz.t9 1 (by kernel_rfl) rfl rfl) rfl (by decide) (by decide) rfl rfl rfl rfl (strsL_snoc _ _) (by omega) (fun _ _ => trivial) ?_)
   intro u19
   refine VO.ma rfl rfl rfl rfl ?_
   refine VO.nil ?_
   refine VC.region ?_
   refine VO.val rfl rfl (OpV.add rfl rfl rfl (by unfold fits; omega)) ?_
   refine VO.mv rfl rfl rfl rfl ?_
   refine VO.nil ?_
   exact Exists.intro (⟨(u19, q + 1), by show q + 1 ≤ _; omega⟩) (And.intro (Le.mk hB [0, 1] ⟨rfl, rfl, rfl, rfl, trivial⟩ rfl (by dsimp only; first | (rw [asS_y (by assumption), List.length_append]; rfl) | (rw [asS_n (by assumption), List.length_append]; rfl)) (Nat.le_refl _)) (by first | omega | (show _ < _; omega) | (simp only []; omega)))
  ·have aH2 := aH2b
   try simp only [qqT, qqF, qqN, qqM, qqL, qqE] at aH2
   refine VC.skip ?_
   refine VC.region ?_
   refine VO.mv rfl rfl rfl rfl ?_
   refine VO.mv rfl rfl rfl rfl ?_
   refine VO.op rfl (OpE.buildSlice (zc := #[.string ⟨#[]⟩]) rfl hB rfl Tryz.underlying29 Tryz.sizeOf9 Tryz.zeroValue9 (by decide) (by decide) (by kernel_rfl) rfl rfl ?_)
   refine VO.op rfl (OpE.append1 (i := 1) rfl hB rfl Tryz.underlying29 (infoOf Tryz.t9 1 (by kernel_rfl) rfl rfl) rfl (by decide) (by decide) rfl rfl rfl rfl (strsL_snoc _ _) (by omega) (fun _ _ => trivial) ?_)
   intro u19
   refine VO.ma rfl rfl rfl rfl ?_
   refine VO.nil ?_
   refine VC.region ?_
   refine VO.val rfl rfl (OpV.add rfl rfl rfl (by unfold fits; omega)) ?_
   refine VO.mv rfl rfl rfl rfl ?_
   refine VO.nil ?_
   exact Exists.intro (⟨(u19, q + 1), by show q + 1 ≤ _; omega⟩) (And.intro (Le.mk hB [0, 1] ⟨rfl, rfl, rfl, rfl, trivial⟩ rfl (by dsimp only; first | (rw [asS_y (by assumption), List.length_append]; rfl) | (rw [asS_n (by assumption), List.length_append]; rfl)) (Nat.le_refl _)) (by first | omega | (show _ < _; omega) | (simp only []; omega)))
 ·have aH1 := aH1b
  try simp only [qqT, qqF, qqN, qqM, qqL, qqE] at aH1
  obtain rfl : q = n := by omega
  refine VC.exit ?_
  refine VC.seq ?_
  refine VC.sr ?_
  refine VO.mv rfl rfl rfl rfl ?_
  refine VO.op rfl (OpE.callHX (rest := [_]) txi_stab hGX rfl hB rfl Tryz.call12 rfl rfl (flip_X (by omega) (by omega) hp0) (List.Perm.refl _) (fun _ _ => trivial) ?_)
  rintro _ _ ⟨rfl, rfl⟩
  refine VO.nil ?_
  refine VC.cond rfl (fun h2b => ?_) (fun h2b => ?_)
  ·have h2 := h2b
   try simp only [qqT, qqF, qqN, qqM, qqL, qqE] at h2
   refine VC.sr ?_
   refine VO.mv rfl rfl rfl rfl ?_
   refine VO.op rfl (OpE.callHX (rest := [_]) txi_stab hGX rfl hB rfl Tryz.call51 rfl rfl (next_X hp0 (by omega) (by omega)) (List.Perm.refl _) (fun _ _ => trivial) ?_)
   rintro _ _ ⟨rfl, rfl⟩
   refine VO.nil ?_
   refine VC.block ?_
   refine VC.sr ?_
   refine VO.val rfl rfl (OpV.eql rfl rfl rfl) ?_
   refine VO.ma rfl rfl rfl rfl ?_
   refine VO.nil ?_
   refine VC.cond rfl (fun h3'b => ?_) (fun h3'b => ?_)
   ·have h3' := h3'b
    try simp only [qqT, qqF, qqN, qqM, qqL, qqE] at h3'
    refine VC.sr ?_
    refine VO.ma rfl rfl rfl rfl ?_
    refine VO.nil ?_
    refine VC.le _ (Le.recast (t := 4) (y := avStrs []) rfl (fun w Z u h => by rw [h.eq_v]; exact .nil _ _)) ?_
    refine VC.le _ (Le.pickH [0] rfl rfl) ?_
    refine VC.ret ?_
    exact Exists.intro _ (And.intro (RetV.one Tryz.results9 (ResV.tmp rfl)) (⟨by rw [(asV_1 (by omega) (by omega)).1], by rw [(asV_1 (by omega) (by omega)).2]; rfl⟩))
   ·have h3' := h3'b
    try simp only [qqT, qqF, qqN, qqM, qqL, qqE] at h3'
    refine VC.sr ?_
    refine VO.val rfl rfl (OpV.eql rfl rfl rfl) ?_
    refine VO.ma rfl rfl rfl rfl ?_
    refine VO.nil ?_
    refine VC.cond rfl (fun h4b => ?_) (fun h4b => ?_)
    ·have h4 := h4b
     try simp only [qqT, qqF, qqN, qqM, qqL, qqE] at h4
     refine VC.sr ?_
     refine VO.mv rfl rfl rfl rfl ?_
     refine VO.mv rfl rfl rfl rfl ?_
     refine VO.op rfl (OpE.buildSlice (zc := #[.string ⟨#[]⟩, .string ⟨#[]⟩, .string ⟨#[]⟩]) rfl hB rfl Tryz.underlying29 Tryz.sizeOf9 Tryz.zeroValue9 (by decide) (by decide) (by kernel_rfl) rfl rfl ?_)
     refine VO.le _ (Le.recast (t := 36) (y := avStrs thrE3) rfl (fun w Z u h => Rep.strs (xs := thrE3) rfl h)) ?_
     refine VO.op rfl (OpE.callHX (rest := [_]) txi_stab hGX rfl hB rfl Tryz.call53 rfl rfl (some_X (xs := thrE3) (by omega) (by omega) hp0) (List.Perm.refl _) (fun _ _ => trivial) ?_)
     rintro _ _ ⟨rfl, rfl⟩
     refine VO.op rfl (OpE.buildSlice (zc := #[.string ⟨#[]⟩]) rfl hB rfl Tryz.underlying29 Tryz.sizeOf9 Tryz.zeroValue9 (by decide) (by decide) (by kernel_rfl) rfl rfl ?_)
     refine VO.op rfl (OpE.append1 (i := 1) rfl hB rfl Tryz.underlying29 (infoOf Tryz.t9 1 (by kernel_rfl) rfl rfl) rfl (by decide) (by decide) rfl rfl rfl rfl (strsL_snoc _ _) (by omega) (fun _ _ => trivial) ?_)
     intro u39
     refine VO.ma rfl rfl rfl rfl ?_
     refine VO.nil ?_
     refine VC.le _ (Le.rowS (t := 4) (i := 1) (xs := asS L k q ++ [someV L (k + q + 2) thrE3]) hB hnew rfl rfl (by simp)) ?_
     refine VC.ret ?_
     exact Exists.intro _ (And.intro (RetV.one Tryz.results9 (ResV.tmp rfl)) (⟨by rw [(asV_2 (by omega) (by omega) (by omega)).1], by rw [(asV_2 (by omega) (by omega) (by omega)).2]; rfl⟩))
    ·have h4 := h4b
     try simp only [qqT, qqF, qqN, qqM, qqL, qqE] at h4
     refine VC.sr ?_
     refine VO.op rfl (OpE.buildSlice (zc := #[.string ⟨#[]⟩]) rfl hB rfl Tryz.underlying29 Tryz.sizeOf9 Tryz.zeroValue9 (by decide) (by decide) (by kernel_rfl) rfl rfl ?_)
     refine VO.le _ (Le.recast (t := 25) (y := avStrs [⟨#[]⟩]) rfl (fun w Z u h => Rep.strs (xs := [⟨#[]⟩]) rfl h)) ?_
     refine VO.mv rfl rfl rfl rfl ?_
     refine VO.op rfl (OpE.callHX (rest := [_]) txi_stab hGX rfl hB rfl Tryz.call7 rfl rfl (range_X (by omega) (by omega) (by omega) (by omega) hp0) (List.Perm.refl _) (fun _ _ => trivial) ?_)
     rintro _ _ ⟨rfl, rfl⟩
     obtain ⟨m, hm⟩ : ∃ m : Nat, rng L (k + q + 1 + 1) 0 1 = m := ⟨(rng L (k + q + 1 + 1) 0 1).toNat, by have := rng_lo L (k + q + 1 + 1) 0 1; omega⟩
     have hm2 := rng_hi L (k + q + 1 + 1) 0 1 (by omega)
     refine VO.val rfl rfl (OpV.add rfl rfl rfl (by unfold fits; omega)) ?_
     refine VO.le _ (Le.recast (t := 28) (y := avI ((100 + m : Nat) : Int)) rfl (fun w Z u h => by rw [show ((100 + m : Nat) : Int) = 100 + rng L (k + q + 1 + 1) 0 1 by omega]; exact h)) ?_
     refine VO.op rfl (OpE.call rfl hB rfl Tryz.call55 rfl (slices_Repeat_str (x := ⟨#[]⟩) (n := 100 + m) (by omega)) ?_)
     rintro _ rfl
     refine VO.ma rfl rfl rfl rfl ?_
     refine VO.nil ?_
     refine VC.le _ (Le.pickH [0] rfl rfl) ?_
     refine VC.ret ?_
     exact Exists.intro _ (And.intro (RetV.one Tryz.results9 (ResV.tmp rfl)) (⟨by rw [(asV_3 (by omega) (by omega) (by omega)).1, show rng L (k + q + 2) 0 1 = m from hm, Int.toNat_natCast], by rw [(asV_3 (by omega) (by omega) (by omega)).2]; rfl⟩))
  ·have h2 := h2b
   try simp only [qqT, qqF, qqN, qqM, qqL, qqE] at h2
   refine VC.skip ?_
   refine VC.sr ?_
   refine VO.mv rfl rfl rfl rfl ?_
   refine VO.ma rfl rfl rfl rfl ?_
   refine VO.nil ?_
   refine VC.le _ (Le.rowS (t := 4) (i := 1) hB hnew rfl rfl rfl) ?_
   refine VC.ret ?_
   exact Exists.intro _ (And.intro (RetV.one Tryz.results9 (ResV.tmp rfl)) (⟨by rw [(asV_0 (by omega)).1], by rw [(asV_0 (by omega)).2]; rfl⟩))
def gpI (L : List Int) (slots k : Nat) : Nat → List ByteArray
 | 0 => []
 | j + 1 => if nxt L (k + j) 3 = 0 ∧ (gpI L slots k j).length < slots then gpI L slots k j ++ [sixF.getD j ByteArray.empty] else gpI L slots k j
def gpO (L : List Int) (slots k : Nat) : Nat → List (List ByteArray)
 | 0 => []
 | q + 1 => gpO L slots k q ++ [gpI L slots (k + 6 * q) 6]
def fourE : List ByteArray := [⟨#[97]⟩, ⟨#[]⟩, ⟨#[122, 122]⟩, ⟨#[65]⟩]
def gpM (L : List Int) (k m : Nat) : Nat := (rng L k 0 m).toNat
def gpX (L : List Int) (k1 : Nat) (o : List (List ByteArray)) : List (List ByteArray) :=
 if 0 < o.length ∧ nxt L k1 15 = 0 then o.set (nxt L (k1 + 1) o.length).toNat (o.getD (nxt L (k1 + 1) o.length).toNat default ++ [someV L (k1 + 2) fourE]) else o
def gpV (L : List Int) (k slots m : Nat) : List (List ByteArray) := gpX L (k + 1 + 6 * gpM L k m) (gpO L slots (k + 1) (gpM L k m))
def gpK (L : List Int) (k m : Nat) : Nat := if 0 < gpM L k m then (if nxt L (k + 1 + 6 * gpM L k m) 15 = 0 then k + 1 + 6 * gpM L k m + 3 else k + 1 + 6 * gpM L k m + 1) else k + 1 + 6 * gpM L k m
section
variable {L : List Int} {k slots m q j : Nat}
theorem gpI_y (h1 : nxt L (k + j) 3 = 0) (h2 : (gpI L slots k j).length < slots) : gpI L slots k (j + 1) = gpI L slots k j ++ [sixF.getD j ByteArray.empty] := by rw [gpI, if_pos ⟨h1, h2⟩]
theorem gpI_n (h : ¬ (nxt L (k + j) 3 = 0 ∧ (gpI L slots k j).length < slots)) : gpI L slots k (j + 1) = gpI L slots k j := by rw [gpI, if_neg h]
theorem gpI_sh : ∀ j, ShP j (gpI L slots k j)
 | 0 => ⟨Nat.le_refl _, fun x h => by cases h⟩
 | j + 1 => by
  have ih := gpI_sh j
  rw [gpI]
  split
  ·exact ih.snoc (sixF_size j)
  ·exact ih.mono (by omega)
theorem gpO_len : ∀ q, (gpO L slots k q).length = q
 | 0 => rfl
 | q + 1 => by rw [gpO, List.length_append, gpO_len q]; rfl
theorem gpO_snoc : gpO L slots k (q + 1) = gpO L slots k q ++ [gpI L slots (k + 6 * q) 6] := rfl
theorem gpO_sh : ∀ q, ∀ l ∈ gpO L slots k q, ShP 6 l
 | 0 => fun l h => by cases h
 | q + 1 => fun l h => by
  rw [gpO] at h
  rcases List.mem_append.1 h with h | h
  ·exact gpO_sh q l h
  ·simp at h; subst h; exact gpI_sh 6
theorem fourE_sm : ∀ x ∈ fourE, x.size ≤ 1000 := by decide
theorem gpV_sh (hm : m ≤ 10) : ShSS (gpV L k slots m) ∧ (gpV L k slots m).length ≤ m := by
 have h0 := rng_lo L k 0 m
 have h1 := rng_hi L k 0 m (by omega)
 have hM : gpM L k m ≤ m := by unfold gpM; omega
 have hl := gpO_len (L := L) (slots := slots) (k := k + 1) (gpM L k m)
 have hs := gpO_sh (L := L) (slots := slots) (k := k + 1) (gpM L k m)
 unfold gpV
 generalize gpO L slots (k + 1) (gpM L k m) = o at hl hs
 unfold gpX
 split
 ·refine ⟨⟨by rw [List.length_set]; omega, fun l h => ?_⟩, by rw [List.length_set]; omega⟩
  rcases List.mem_or_eq_of_mem_set h with h | rfl
  ·exact (hs l h).mono (by omega)
  ·exact ((getD_shs hs _).snoc (someV_size fourE_sm)).mono (by omega)
 ·exact ⟨⟨by omega, fun l h => (hs l h).mono (by omega)⟩, by omega⟩
theorem gpX_no {k1 : Nat} {o : List (List ByteArray)} (h : ¬ (0 < o.length ∧ nxt L k1 15 = 0)) : gpX L k1 o = o := if_neg h
theorem gpX_yes {k1 i : Nat} {o : List (List ByteArray)} (h : 0 < o.length) (h2 : nxt L k1 15 = 0) (hi : nxt L (k1 + 1) o.length = i) : gpX L k1 o = o.set i (o.getD i default ++ [someV L (k1 + 2) fourE]) := by
 rw [gpX, if_pos ⟨h, h2⟩, hi, Int.toNat_natCast]
end
set_option maxRecDepth 100000 in
set_option maxHeartbeats 8000000 in
theorem partLists_X {p0 cap : Nat} {a0 : Option Addr} {p k n m : Nat} {L : List Int} (hk : k ≤ 900000) (hn : n ≤ 1000) (hm : m ≤ 10) (hp0 : p0 ≤ p) :
  SpecHX (TXI a0 L p0) Tryz.prog 8 [sp p, avI (n : Int), avI (m : Int)] [bxStr p a0 cap L k] (fun y hp' => y = avM (gpV L k n m) ∧ hp' = [bxStr p a0 cap L (gpK L k m)]) := by
 have h6 : sixF.length = 6 := rfl
 have h4 : fourE.length = 4 := rfl
 have hr0 := rng_lo L k 0 m
 have hr1 := rng_hi L k 0 m (by omega)
 obtain ⟨N, hN⟩ : ∃ N, gpM L k m = N := ⟨_, rfl⟩
 have hNr : rng L k 0 m = (N : Int) := by unfold gpM at hN; omega
 refine SpecHX.of_VC txi_stab Tryz.func8 rfl Tryz.ntmps8 (Nle rfl) fun w A hB hGX => ?_
 have hnew : True := trivial
 refine VC.sr ?_
 refine VO.ma rfl rfl rfl rfl ?_
 refine VO.nil ?_
 refine VC.sr ?_
 refine VO.ma rfl rfl rfl rfl ?_
 refine VO.nil ?_
 refine VC.seq ?_
 refine VC.sr ?_
 refine VO.mv rfl rfl rfl rfl ?_
 refine VO.mv rfl rfl rfl rfl ?_
 refine VO.op rfl (OpE.callHX (rest := []) txi_stab hGX rfl hB rfl Tryz.call7 rfl rfl (range_X (by omega) (by omega) (by omega) (by omega) hp0) (List.Perm.refl _) (fun _ _ => trivial) ?_)
 rintro _ _ ⟨rfl, rfl⟩
 refine VO.le _ (Le.recast (t := 14) (y := avI (N : Int)) rfl (fun w Z u h => by rw [← hNr]; exact h)) ?_
 refine VO.mv rfl rfl rfl rfl ?_
 refine VO.nil ?_
 refine VC.block ?_
 refine VC.le _ (Le.nilRow 1 29) ?_
 refine VC.loopK [(0, _), (1, _), (14, _)] ⟨rfl, rfl, rfl, trivial⟩ ({z : Value × Nat // z.2 ≤ N}) (fun (iZ : {z : Value × Nat // z.2 ≤ N}) => match iZ with | ⟨⟨uo, q⟩, hq⟩ => [(7, .v uo), (15, avI (q : Int))]) (fun (iZ : {z : Value × Nat // z.2 ≤ N}) => match iZ with | ⟨⟨uo, q⟩, hq⟩ => [bxStr p a0 cap L (k + 1 + 6 * q), .row uo (gpO L n (k + 1) q).length 1 (listM (gpO L n (k + 1) q)) 29]) (fun (iZ : {z : Value × Nat // z.2 ≤ N}) => match iZ with | ⟨⟨uo, q⟩, hq⟩ => 0) (fun (iZ : {z : Value × Nat // z.2 ≤ N}) => match iZ with | ⟨⟨uo, q⟩, hq⟩ => N - q) ⟨(.slice none 0 0, 0), Nat.zero_le _⟩ (Le.mk hB [0, 1] ⟨rfl, rfl, rfl, rfl, rfl, trivial⟩ rfl rfl (Nat.le_refl _)) ?_
 rintro ⟨⟨uo, q⟩, hq⟩
 show VC _ _ _ _ ⟨[(7, .v uo), (15, avI (q : Int))] ++ [(0, _), (1, _), (14, _)], [bxStr p a0 cap L (k + 1 + 6 * q), .row uo (gpO L n (k + 1) q).length 1 (listM (gpO L n (k + 1) q)) 29], 0⟩
 simp only at hq
 have hol := gpO_len (L := L) (slots := n) (k := k + 1) q
 refine VC.sr ?_
 refine VO.val rfl rfl (OpV.lss rfl rfl rfl) ?_
 refine VO.nil ?_
 refine VC.seq ?_
 refine VC.cond rfl (fun aH1b => ?_) (fun aH1b => ?_)
 ·have aH1 := aH1b
  try simp only [qqT, qqF, qqN, qqM, qqL, qqE] at aH1
  refine VC.skip ?_
  refine VC.seq ?_
  refine VC.block ?_
  refine VC.sr ?_
  refine VO.ma rfl rfl rfl rfl ?_
  refine VO.nil ?_
  refine VC.seq ?_
  refine VC.sr ?_
  refine VO.op rfl (OpE.buildSlice (zc := #[.string ⟨#[]⟩, .string ⟨#[]⟩, .string ⟨#[]⟩, .string ⟨#[]⟩, .string ⟨#[]⟩, .string ⟨#[]⟩]) rfl hB rfl Tryz.underlying29 Tryz.sizeOf9 Tryz.zeroValue9 (by decide) (by decide) (by kernel_rfl) rfl rfl ?_)
  refine VO.le _ (Le.recast (t := 17) (y := avStrs sixF) rfl (fun w Z u h => Rep.strs (xs := sixF) rfl h)) ?_
  refine VO.val rfl rfl (OpV.len_im rfl Tryz.underlying29 rfl) ?_
  refine VO.mv rfl rfl rfl rfl ?_
  refine VO.nil ?_
  refine VC.block ?_
  refine VC.le _ (Le.nilRow 1 9) ?_
  refine VC.loopK [(0, _), (1, _), (7, _), (14, _), (15, _), (17, _), (18, _)] ⟨rfl, rfl, rfl, rfl, rfl, rfl, rfl, trivial⟩ ({z : Value × Nat // z.2 ≤ 6}) (fun (iZ : {z : Value × Nat // z.2 ≤ 6}) => match iZ with | ⟨⟨u, r⟩, hr⟩ => [(8, .v u), (19, avI (r : Int))]) (fun (iZ : {z : Value × Nat // z.2 ≤ 6}) => match iZ with | ⟨⟨u, r⟩, hr⟩ => [bxStr p a0 cap L (k + 1 + 6 * q + r), .row uo (gpO L n (k + 1) q).length 1 (listM (gpO L n (k + 1) q)) 29, .row u (gpI L n (k + 1 + 6 * q) r).length 1 (strsL (gpI L n (k + 1 + 6 * q) r)) 9]) (fun (iZ : {z : Value × Nat // z.2 ≤ 6}) => match iZ with | ⟨⟨u, r⟩, hr⟩ => 0) (fun (iZ : {z : Value × Nat // z.2 ≤ 6}) => match iZ with | ⟨⟨u, r⟩, hr⟩ => 6 - r) ⟨(.slice none 0 0, 0), Nat.zero_le _⟩ (Le.mk hB [0, 1, 2] ⟨rfl, rfl, rfl, rfl, rfl, rfl, rfl, rfl, rfl, trivial⟩ rfl rfl (Nat.le_refl _)) ?_
  rintro ⟨⟨u, r⟩, hr⟩
  show VC _ _ _ _ ⟨[(8, .v u), (19, avI (r : Int))] ++ [(0, _), (1, _), (7, _), (14, _), (15, _), (17, _), (18, _)], [bxStr p a0 cap L (k + 1 + 6 * q + r), .row uo (gpO L n (k + 1) q).length 1 (listM (gpO L n (k + 1) q)) 29, .row u (gpI L n (k + 1 + 6 * q) r).length 1 (strsL (gpI L n (k + 1 + 6 * q) r)) 9], 0⟩
  simp only at hr
  have hll := (gpI_sh (L := L) (slots := n) (k := k + 1 + 6 * q) r).1
  refine VC.sr ?_
  refine VO.val rfl rfl (OpV.lss rfl rfl rfl) ?_
  refine VO.nil ?_
  refine VC.seq ?_
  refine VC.cond rfl (fun aH2b => ?_) (fun aH2b => ?_)
  ·have aH2 := aH2b
   try simp only [qqT, qqF, qqN, qqM, qqL, qqE] at aH2
   refine VC.skip ?_
   refine VC.seq ?_
   refine VC.block ?_
   refine VC.sr ?_
   refine VO.val rfl rfl (OpV.indexAddr_1 rfl Tryz.underlying29 Tryz.sizeOf9 rfl rfl rfl (by show _ < sixF.length; omega)) ?_
   refine VO.val rfl rfl (OpV.load_at rfl hB OutW.no Tryz.isAgg9 rfl rfl) ?_
   refine VO.ma rfl rfl rfl rfl ?_
   refine VO.nil ?_
   refine VC.sr ?_
   refine VO.mv rfl rfl rfl rfl ?_
   refine VO.op rfl (OpE.callHX (rest := [_, _]) txi_stab hGX rfl hB rfl Tryz.call12 rfl rfl (flip_X (by omega) (by omega) hp0) (List.Perm.refl _) (fun _ _ => trivial) ?_)
   rintro _ _ ⟨rfl, rfl⟩
   refine VO.mv rfl rfl rfl rfl ?_
   refine VO.opG rfl rfl rfl rfl (fun aK3b => ?_) (fun aK3b => ?_)
   ·replace aK3b : _ = true := aK3b
    have aK3 := aK3b
    try simp only [qqT, qqF, qqN, qqM, qqL, qqE] at aK3
    refine OpE.val (W := NoB) (OpV.move (.inl rfl) rfl) rfl ?_
    refine VO.opY rfl rfl rfl rfl aK3b ?_
    refine OpE.val (W := NoB) (OpV.len_row (i := 2) rfl Tryz.underlying29 rfl rfl) rfl ?_
    refine VO.opY rfl rfl rfl rfl aK3b ?_
    refine OpE.val (W := NoB) (OpV.move (.inl rfl) rfl) rfl ?_
    refine VO.opY rfl rfl rfl rfl aK3b ?_
    refine OpE.val (W := NoB) (OpV.lss rfl rfl rfl) rfl ?_
    refine VO.val rfl rfl (OpV.pickT rfl rfl rfl rfl aK3b) ?_
    refine VO.nil ?_
    refine VC.cond rfl (fun h2b => ?_) (fun h2b => ?_)
    ·have h2 := h2b
     try simp only [qqT, qqF, qqN, qqM, qqL, qqE] at h2
     refine VC.region ?_
     refine VO.mv rfl rfl rfl rfl ?_
     refine VO.mv rfl rfl rfl rfl ?_
     refine VO.op rfl (OpE.buildSlice (zc := #[.string ⟨#[]⟩]) rfl hB rfl Tryz.underlying29 Tryz.sizeOf9 Tryz.zeroValue9 (by decide) (by decide) (by kernel_rfl) rfl rfl ?_)
     refine VO.op rfl (OpE.append1 (i := 2) rfl hB rfl Tryz.underlying29 (infoOf Tryz.t9 1 (by kernel_rfl) rfl rfl) rfl (by decide) (by decide) rfl rfl rfl rfl (strsL_snoc _ _) (by omega) (fun _ _ => trivial) ?_)
     intro u2
     refine VO.ma rfl rfl rfl rfl ?_
     refine VO.nil ?_
     refine VC.region ?_
     refine VO.val rfl rfl (OpV.add rfl rfl rfl (by unfold fits; omega)) ?_
     refine VO.mv rfl rfl rfl rfl ?_
     refine VO.nil ?_
     exact Exists.intro (⟨(u2, r + 1), by show r + 1 ≤ 6; omega⟩) (And.intro (Le.mk hB [0, 1, 2] ⟨rfl, rfl, rfl, rfl, rfl, rfl, rfl, rfl, rfl, trivial⟩ rfl (by dsimp only; first | (rw [gpI_y (by omega) (by omega), List.length_append]; rfl) | (rw [gpI_n (by omega)]; rfl)) (Nat.le_refl _)) (by first | omega | (show _ < _; omega) | (simp only []; omega)))
    ·have h2 := h2b
     try simp only [qqT, qqF, qqN, qqM, qqL, qqE] at h2
     refine VC.skip ?_
     refine VC.region ?_
     refine VO.val rfl rfl (OpV.add rfl rfl rfl (by unfold fits; omega)) ?_
     refine VO.mv rfl rfl rfl rfl ?_
     refine VO.nil ?_
     exact Exists.intro (⟨(u, r + 1), by show r + 1 ≤ 6; omega⟩) (And.intro (Le.mk hB [0, 1, 2] ⟨rfl, rfl, rfl, rfl, rfl, rfl, rfl, rfl, rfl, trivial⟩ rfl (by dsimp only; first | (rw [gpI_y (by omega) (by omega), List.length_append]; rfl) | (rw [gpI_n (by omega)]; rfl)) (Nat.le_refl _)) (by first | omega | (show _ < _; omega) | (simp only []; omega)))
   ·replace aK3b : _ = false := aK3b
    have aK3 := aK3b
    try simp only [qqT, qqF, qqN, qqM, qqL, qqE] at aK3
    refine VO.opX rfl rfl rfl rfl aK3b ?_
    refine VO.opX rfl rfl rfl rfl aK3b ?_
    refine VO.opX rfl rfl rfl rfl aK3b ?_
    refine VO.val rfl rfl (OpV.pickF rfl rfl rfl rfl aK3b) ?_
    refine VO.nil ?_
    refine VC.condF rfl rfl ?_
    refine VC.skip ?_
    refine VC.region ?_
    refine VO.val rfl rfl (OpV.add rfl rfl rfl (by unfold fits; omega)) ?_
    refine VO.mv rfl rfl rfl rfl ?_
    refine VO.nil ?_
    exact Exists.intro (⟨(u, r + 1), by show r + 1 ≤ 6; omega⟩) (And.intro (Le.mk hB [0, 1, 2] ⟨rfl, rfl, rfl, rfl, rfl, rfl, rfl, rfl, rfl, trivial⟩ rfl (by dsimp only; first | (rw [gpI_y (by omega) (by omega), List.length_append]; rfl) | (rw [gpI_n (by omega)]; rfl)) (Nat.le_refl _)) (by first | omega | (show _ < _; omega) | (simp only []; omega)))
  ·have aH2 := aH2b
   try simp only [qqT, qqF, qqN, qqM, qqL, qqE] at aH2
   obtain rfl : r = 6 := by omega
   refine VC.exit ?_
   refine VC.region ?_
   refine VO.mv rfl rfl rfl rfl ?_
   refine VO.le _ (Le.recast (t := 36) (y := .v uo) rfl (fun w Z u h => h)) ?_
   refine VO.mv rfl rfl rfl rfl ?_
   refine VO.le _ (Le.rowS (t := 37) (i := 2) hB hnew rfl rfl (by first | rfl | simp)) ?_
   refine VO.op rfl (OpE.buildSlice (zc := #[.slice none 0 0]) rfl hB rfl Tryz.underlying27 Tryz.sizeOf29 Tryz.zeroValue29 (by decide) (by decide) (by kernel_rfl) rfl rfl ?_)
   refine VO.op rfl (OpE.append1 (i := 1) rfl hB rfl Tryz.underlying27 (infoOf Tryz.t29 1 (by kernel_rfl) rfl rfl) rfl (by decide) (by decide) rfl rfl rfl rfl (listM_snoc (gpO L n (k + 1) q) _) (by omega) (fun _ _ => trivial) ?_)
   intro uo2
   refine VO.ma rfl rfl rfl rfl ?_
   refine VO.nil ?_
   refine VC.region ?_
   refine VO.val rfl rfl (OpV.add rfl rfl rfl (by unfold fits; omega)) ?_
   refine VO.mv rfl rfl rfl rfl ?_
   refine VO.nil ?_
   exact Exists.intro (⟨(uo2, q + 1), by show q + 1 ≤ N; omega⟩) (And.intro (Le.mk hB [0, 1] ⟨rfl, rfl, rfl, rfl, rfl, trivial⟩ rfl (by dsimp only; rw [gpO_snoc, List.length_append]; rfl) (Nat.le_refl _)) (by first | omega | (show _ < _; omega) | (simp only []; omega)))
 ·have aH1 := aH1b
  try simp only [qqT, qqF, qqN, qqM, qqL, qqE] at aH1
  obtain rfl : q = N := by omega
  obtain ⟨o, ho⟩ : ∃ o, gpO L n (k + 1) q = o := ⟨_, rfl⟩
  have hos := gpO_sh (L := L) (slots := n) (k := k + 1) q
  rw [ho] at hol hos ⊢
  obtain ⟨k1, hk1⟩ : ∃ k1, k + 1 + 6 * q = k1 := ⟨_, rfl⟩
  rw [hk1]
  have hV : gpV L k n m = gpX L k1 o := by unfold gpV; rw [hN, hk1, ho]
  have hK0 : q = 0 → gpK L k m = k1 := fun e => by unfold gpK; rw [hN, if_neg (by omega), hk1]
  have hK1 : 0 < q → nxt L k1 15 ≠ 0 → gpK L k m = k1 + 1 := fun e h => by unfold gpK; rw [hN, if_pos e, hk1, if_neg h]
  have hK2 : 0 < q → nxt L k1 15 = 0 → gpK L k m = k1 + 3 := fun e h => by unfold gpK; rw [hN, if_pos e, hk1, if_pos h]
  refine VC.exit ?_
  refine VC.seq ?_
  refine VC.sr ?_
  refine VO.mv rfl rfl rfl rfl ?_
  refine VO.val rfl rfl (OpV.len_row (i := 1) rfl Tryz.underlying27 rfl rfl) ?_
  refine VO.val rfl rfl (OpV.gtr rfl rfl rfl) ?_
  refine VO.mv rfl rfl rfl rfl ?_
  refine VO.opG rfl rfl rfl rfl (fun aK4b => ?_) (fun aK4b => ?_)
  ·replace aK4b : _ = true := aK4b
   have aK4 := aK4b
   try simp only [qqT, qqF, qqN, qqM, qqL, qqE] at aK4
   refine OpE.val (W := NoB) (OpV.move (.inl rfl) rfl) rfl ?_
   refine VO.opY rfl rfl rfl rfl aK4b ?_
   refine OpE.callHX (rest := [_]) txi_stab hGX rfl hB rfl Tryz.call12 rfl rfl (flip_X (by omega) (by omega) hp0) (List.Perm.refl _) (fun _ _ => trivial) ?_
   rintro _ _ ⟨rfl, rfl⟩
   refine VO.val rfl rfl (OpV.pickT rfl rfl rfl rfl aK4b) ?_
   refine VO.nil ?_
   refine VC.cond rfl (fun h3b => ?_) (fun h3b => ?_)
   ·have h3 := h3b
    try simp only [qqT, qqF, qqN, qqM, qqL, qqE] at h3
    have hn15 : nxt L k1 15 = 0 := by omega
    refine VC.seq ?_
    refine VC.asBox (i := 1) rfl (by omega) (fun g capO hu hcap hmx => ?_)
    subst hu
    refine VC.region ?_
    refine VO.mv rfl rfl rfl rfl ?_
    refine VO.mv rfl rfl rfl rfl ?_
    refine VO.mv rfl rfl rfl rfl ?_
    refine VO.val rfl rfl (OpV.len_v rfl Tryz.underlying27 rfl) ?_
    refine VO.op rfl (OpE.callHX (rest := [_]) txi_stab hGX rfl hB rfl Tryz.call51 rfl rfl (next_X hp0 (by omega) (by omega)) (List.Perm.refl _) (fun _ _ => trivial) ?_)
    rintro _ _ ⟨rfl, rfl⟩
    have hx1 := nxt_lo L (k1 + 1) o.length
    have hx2 := nxt_lt L (k1 + 1) o.length (by omega)
    obtain ⟨i, hi⟩ : ∃ i : Nat, nxt L (k1 + 1) o.length = i := ⟨(nxt L (k1 + 1) o.length).toNat, by omega⟩
    have hil : i < o.length := by omega
    refine VO.le _ (Le.recast (t := 52) (y := avI (i : Int)) rfl (fun w Z u h => by rw [← hi]; exact h)) ?_
    refine VO.val rfl rfl (OpV.indexAddr_o rfl Tryz.underlying27 Tryz.sizeOf29 rfl rfl rfl (by omega)) ?_
    refine VO.ma rfl rfl rfl rfl ?_
    refine VO.nil ?_
    refine VC.region ?_
    refine VO.mv rfl rfl rfl rfl ?_
    refine VO.mv rfl rfl rfl rfl ?_
    refine VO.val rfl rfl (OpV.nilCheck rfl rfl) ?_
    refine VO.val rfl rfl (OpV.load_own (i := 1) rfl hB Tryz.isAgg29 rfl rfl (listM_get (by omega)) (fun h => h)) ?_
    refine VO.op rfl (OpE.callR rfl hB rfl Tryz.call52 (slices_CloneS_R (by have := (getD_shs hos i).1; omega)) (ArgsP.cons (ArgP.ev rfl) (ArgsP.nil)) ?_)
    intro u58
    refine VO.mv rfl rfl rfl rfl ?_
    refine VO.op rfl (OpE.buildSlice (zc := #[.string ⟨#[]⟩, .string ⟨#[]⟩, .string ⟨#[]⟩, .string ⟨#[]⟩]) rfl hB rfl Tryz.underlying29 Tryz.sizeOf9 Tryz.zeroValue9 (by decide) (by decide) (by kernel_rfl) rfl rfl ?_)
    refine VO.le _ (Le.recast (t := 60) (y := avStrs fourE) rfl (fun w Z u h => Rep.strs (xs := fourE) rfl h)) ?_
    refine VO.op rfl (OpE.callHX (rest := [_, _]) txi_stab hGX rfl hB rfl Tryz.call53 rfl rfl (some_X (xs := fourE) (by omega) (by omega) hp0) (List.Perm.refl _) (fun _ _ => trivial) ?_)
    rintro _ _ ⟨rfl, rfl⟩
    refine VO.op rfl (OpE.buildSlice (zc := #[.string ⟨#[]⟩]) rfl hB rfl Tryz.underlying29 Tryz.sizeOf9 Tryz.zeroValue9 (by decide) (by decide) (by kernel_rfl) rfl rfl ?_)
    refine VO.op rfl (OpE.append1 (i := 2) rfl hB rfl Tryz.underlying29 (infoOf Tryz.t9 1 (by kernel_rfl) rfl rfl) rfl (by decide) (by decide) rfl rfl rfl rfl (strsL_snoc _ _) (by have := (getD_shs hos i).1; omega) (fun _ _ => trivial) ?_)
    intro u63
    refine VO.le _ (Le.rowS (t := 63) (i := 2) hB hnew rfl rfl (by first | rfl | simp)) ?_
    refine VO.val rfl rfl (OpV.nilCheck rfl rfl) ?_
    refine VO.op rfl (OpE.store1 (i := 1) rfl hB rfl Tryz.sizeOf29 rfl rfl rfl rfl rfl rfl (by rw [listM_len]; omega) (listM_set _ _ _) trivial ?_)
    refine VO.nil ?_
    refine VC.sr ?_
    refine VO.mv rfl rfl rfl rfl ?_
    refine VO.ma rfl rfl rfl rfl ?_
    refine VO.nil ?_
    refine VC.le _ (Le.boxM (t := 6) (i := 1) (n := o.length) hB hnew rfl rfl (by simp) hcap hmx) ?_
    refine VC.ret ?_
    exact Exists.intro _ (And.intro (RetV.one Tryz.results8 (ResV.tmp rfl)) (by first | exact ⟨congrArg avM (hV.trans (gpX_yes (by omega) hn15 hi)).symm, congrArg (fun z => [bxStr p a0 cap L z]) (hK2 (by omega) hn15).symm⟩ | exact ⟨congrArg avM (hV.trans (gpX_no (by omega))).symm, congrArg (fun z => [bxStr p a0 cap L z]) (hK1 (by omega) (by omega)).symm⟩ | exact ⟨congrArg avM (hV.trans (gpX_no (by omega))).symm, congrArg (fun z => [bxStr p a0 cap L z]) (hK0 (by omega)).symm⟩))
   ·have h3 := h3b
    try simp only [qqT, qqF, qqN, qqM, qqL, qqE] at h3
    refine VC.skip ?_
    refine VC.sr ?_
    refine VO.mv rfl rfl rfl rfl ?_
    refine VO.ma rfl rfl rfl rfl ?_
    refine VO.nil ?_
    refine VC.le _ (Le.rowsM (t := 6) (i := 1) hB hnew rfl rfl rfl) ?_
    refine VC.ret ?_
    exact Exists.intro _ (And.intro (RetV.one Tryz.results8 (ResV.tmp rfl)) (by first | exact ⟨congrArg avM (hV.trans (gpX_yes (by omega) hn15 hi)).symm, congrArg (fun z => [bxStr p a0 cap L z]) (hK2 (by omega) hn15).symm⟩ | exact ⟨congrArg avM (hV.trans (gpX_no (by omega))).symm, congrArg (fun z => [bxStr p a0 cap L z]) (hK1 (by omega) (by omega)).symm⟩ | exact ⟨congrArg avM (hV.trans (gpX_no (by omega))).symm, congrArg (fun z => [bxStr p a0 cap L z]) (hK0 (by omega)).symm⟩))
  ·replace aK4b : _ = false := aK4b
   have aK4 := aK4b
   try simp only [qqT, qqF, qqN, qqM, qqL, qqE] at aK4
   refine VO.opX rfl rfl rfl rfl aK4b ?_
   refine VO.val rfl rfl (OpV.pickF rfl rfl rfl rfl aK4b) ?_
   refine VO.nil ?_
   refine VC.condF rfl rfl ?_
   refine VC.skip ?_
   refine VC.sr ?_
   refine VO.mv rfl rfl rfl rfl ?_
   refine VO.ma rfl rfl rfl rfl ?_
   refine VO.nil ?_
   refine VC.le _ (Le.rowsM (t := 6) (i := 1) hB hnew rfl rfl rfl) ?_
   refine VC.ret ?_
   exact Exists.intro _ (And.intro (RetV.one Tryz.results8 (ResV.tmp rfl)) (by first | exact ⟨congrArg avM (hV.trans (gpX_yes (by omega) hn15 hi)).symm, congrArg (fun z => [bxStr p a0 cap L z]) (hK2 (by omega) hn15).symm⟩ | exact ⟨congrArg avM (hV.trans (gpX_no (by omega))).symm, congrArg (fun z => [bxStr p a0 cap L z]) (hK1 (by omega) (by omega)).symm⟩ | exact ⟨congrArg avM (hV.trans (gpX_no (by omega))).symm, congrArg (fun z => [bxStr p a0 cap L z]) (hK0 (by omega)).symm⟩))
end Go.Proofs.YtbbgjeiefmiblaaGreatDoor
namespace Go.Proofs.YtbbgjeiefmiblaaGreatDoor
open Go.RowKit
set_option linter.unusedVariables false
set_option linter.unusedSimpArgs false

inductive EqFs (P : Program) : Nat → List Field → List AV → List AV → Bool → Prop where
 | nil (off : Nat) : EqFs P off [] [] [] true
 | int {off : Nat} {f : Field} {fs : List Field} {k k' : IntKind} {a b : Int} {xs ys : List AV} {r : Bool} (hu : P.underlying f.type = some (.int k')) (hag : ∀ w, (isAgg f.type).run P w = .ok false w) (ho : f.offset = off) (hn : f.name ≠ "_") (h : EqFs P (off + 1) fs xs ys r) :
   EqFs P off (f :: fs) (.v (.int k a) :: xs) (.v (.int k b) :: ys) (decide (a = b) && r)
 | str {off : Nat} {f : Field} {fs : List Field} {a b : ByteArray} {xs ys : List AV} {r : Bool} (hu : P.underlying f.type = some .string) (hag : ∀ w, (isAgg f.type).run P w = .ok false w) (ho : f.offset = off) (hn : f.name ≠ "_") (h : EqFs P (off + 1) fs xs ys r) :
   EqFs P off (f :: fs) (.v (.string a) :: xs) (.v (.string b) :: ys) (sEq a b && r)
 | bool {off : Nat} {f : Field} {fs : List Field} {a b : Bool} {xs ys : List AV} {r : Bool} (hu : P.underlying f.type = some .bool) (hag : ∀ w, (isAgg f.type).run P w = .ok false w) (ho : f.offset = off) (hn : f.name ≠ "_") (h : EqFs P (off + 1) fs xs ys r) :
   EqFs P off (f :: fs) (.v (.bool a) :: xs) (.v (.bool b) :: ys) ((a == b) && r)

theorem EqFs.run {P : Program} {w : World} {Z : Nat → Prop} {us vs : Array Value} {d : Nat} : ∀ {off : Nat} {fs : List Field} {xs ys : List AV} {r : Bool}, EqFs P off fs xs ys r →
  (∀ j, (h : j < xs.length) → off + j < us.size ∧ Rep w Z xs[j] (us.getD (off + j) undef)) → (∀ j, (h : j < ys.length) → off + j < vs.size ∧ Rep w Z ys[j] (vs.getD (off + j) undef)) → ∀ w', (Op.eqFields (d + 1) us vs fs).run P w' = .ok r w' := by
 intro off fs xs ys r h
 have cellP : ∀ (t : TypeId) (us : Array Value) (off : Nat) (v : Value) (w' : World), (∀ w, (isAgg t).run P w = .ok false w) → off < us.size → us.getD off undef = v → (part t us off).run P w' = .ok v w' := fun t us off v w' hag hl hv => by
  have : us[off]? = some v := by rw [← hv, Array.getD_eq_getD_getElem?, Array.getElem?_eq_getElem hl]; rfl
  simp [part, hag, this]
 have sh : ∀ n j : Nat, n + (j + 1) = n + 1 + j := fun n j => by omega
 induction h with
 | nil off => intro _ _ w'; rfl
 | int hu hag ho hn h ih =>
  intro h1 h2 w'
  obtain ⟨k1, k2⟩ := h1 0 (by simp)
  obtain ⟨k3, k4⟩ := h2 0 (by simp)
  subst ho
  have e1 := cellP _ us _ _ w' hag k1 k2.eq_v
  have e2 := cellP _ vs _ _ w' hag k3 k4.eq_v
  have ih' := ih (fun j hj => by have := h1 (j + 1) (by simpa using hj); rw [sh] at this; exact this) (fun j hj => by have := h2 (j + 1) (by simpa using hj); rw [sh] at this; exact this) w'
  simp only [Nat.add_zero] at e1 e2
  rename_i a b _ _ _
  have e3 := fun k => run_equalIn_int (P := P) w' d _ k _ a b hu
  simp only [Op.eqFields, hn, ne_eq, not_false_eq_true, if_true, Sem.run_bind, e1, e2, e3, Result.andThen_ok]
  by_cases hab : a = b
  ·subst hab; simpa using ih'
  ·simp [hab]
 | str hu hag ho hn h ih =>
  intro h1 h2 w'
  obtain ⟨k1, k2⟩ := h1 0 (by simp)
  obtain ⟨k3, k4⟩ := h2 0 (by simp)
  subst ho
  have e1 := cellP _ us _ _ w' hag k1 k2.eq_v
  have e2 := cellP _ vs _ _ w' hag k3 k4.eq_v
  have ih' := ih (fun j hj => by have := h1 (j + 1) (by simpa using hj); rw [sh] at this; exact this) (fun j hj => by have := h2 (j + 1) (by simpa using hj); rw [sh] at this; exact this) w'
  simp only [Nat.add_zero] at e1 e2
  rename_i a b _ _ _
  have e3 := run_equalIn_string (P := P) w' d _ a b hu
  simp only [Op.eqFields, hn, ne_eq, not_false_eq_true, if_true, Sem.run_bind, e1, e2, e3, Result.andThen_ok]
  cases hab : sEq a b with
  | true => unfold sEq at hab; rw [hab]; simpa using ih'
  | false => unfold sEq at hab; rw [hab]; simp
 | bool hu hag ho hn h ih =>
  intro h1 h2 w'
  obtain ⟨k1, k2⟩ := h1 0 (by simp)
  obtain ⟨k3, k4⟩ := h2 0 (by simp)
  subst ho
  have e1 := cellP _ us _ _ w' hag k1 k2.eq_v
  have e2 := cellP _ vs _ _ w' hag k3 k4.eq_v
  have ih' := ih (fun j hj => by have := h1 (j + 1) (by simpa using hj); rw [sh] at this; exact this) (fun j hj => by have := h2 (j + 1) (by simpa using hj); rw [sh] at this; exact this) w'
  simp only [Nat.add_zero] at e1 e2
  rename_i a b _ _ _
  have e3 := run_equalIn_bool' (P := P) w' d _ a b hu
  simp only [Op.eqFields, hn, ne_eq, not_false_eq_true, if_true, Sem.run_bind, e1, e2, e3, Result.andThen_ok]
  cases hab : (a == b) with
  | true => simpa using ih'
  | false => simp

section
variable {P : Program} {B : Bs} {W : Nat → Prop} {s : St'} {o : Oper}
theorem agg_eq {w : World} {Z : Nat → Prop} {t : TypeId} {xs ys : List AV} {u v : Value} {r : Bool} (hu : P.underlying t = some (.struct (P.fieldsOf t))) (hs : P.stoodInHeld t = false) (h : EqFs P 0 (P.fieldsOf t).toList xs ys r) (hx : Rep w Z (.agg xs) u) (hy : Rep w Z (.agg ys) v) :
  ∃ us vs, u = .agg us ∧ v = .agg vs ∧ ∀ w', (Op.equalIn 10000 t u v).run P w' = .ok r w' := by
 cases hx with
 | agg _ us l1 r1 =>
  cases hy with
  | agg _ vs l2 r2 =>
   refine ⟨us, vs, rfl, rfl, fun w' => ?_⟩
   rw [run_equalIn_struct w' 9999 t us vs hu hs]
   exact h.run (w := w) (Z := Z) (fun j hj => ⟨by omega, by rw [Nat.zero_add]; exact r1 j hj⟩) (fun j hj => ⟨by omega, by rw [Nat.zero_add]; exact r2 j hj⟩) w'
end
end Go.Proofs.YtbbgjeiefmiblaaGreatDoor
namespace Go.Proofs.YtbbgjeiefmiblaaGreatDoor
open Go.RowKit
set_option linter.unusedVariables false
set_option linter.unusedSimpArgs false
theorem not_true_false {b : Bool} (h : (!b) = true) : b = false := by cases b <;> simp_all
theorem not_false_true {b : Bool} (h : (!b) = false) : b = true := by cases b <;> simp_all
def eqLs {α : Type} (e : α → α → Bool) : List α → List α → Bool
 | [], [] => true
 | x :: l, y :: r => e x y && eqLs e l r
 | _, _ => false
theorem eqLs_self {α : Type} {e : α → α → Bool} (h : ∀ x, e x x = true) : ∀ l : List α, eqLs e l l = true
 | [] => rfl
 | x :: l => by rw [eqLs, h, eqLs_self h l]; rfl
theorem eqLs_len {α : Type} {e : α → α → Bool} : ∀ {l r : List α}, l.length ≠ r.length → eqLs e l r = false
 | [], [], h => absurd rfl h
 | [], _ :: _, _ => rfl
 | _ :: _, [], _ => rfl
 | x :: l, y :: r, h => by rw [eqLs, eqLs_len (by simpa using h), Bool.and_false]
theorem eqLs_at {α : Type} {e : α → α → Bool} {d : α} : ∀ {l r : List α} {q : Nat}, q < l.length → e (l.getD q d) (r.getD q d) = false → eqLs e l r = false
 | [], _, q, h, _ => by simp at h
 | x :: l, [], q, h, _ => rfl
 | x :: l, y :: r, 0, _, h2 => by simp at h2; rw [eqLs, h2]; rfl
 | x :: l, y :: r, q + 1, h1, h2 => by rw [eqLs, eqLs_at (d := d) (q := q) (by simpa using h1) (by simpa using h2), Bool.and_false]
theorem eqLs_all {α : Type} {e : α → α → Bool} {d : α} : ∀ {l r : List α}, l.length = r.length → (∀ j, j < l.length → e (l.getD j d) (r.getD j d) = true) → eqLs e l r = true
 | [], [], _, _ => rfl
 | [], _ :: _, h, _ => by simp at h
 | _ :: _, [], h, _ => by simp at h
 | x :: l, y :: r, h, h2 => by
  have h0 := h2 0 (by simp)
  simp at h0
  rw [eqLs, h0, eqLs_all (d := d) (by simpa using h) (fun j hj => by simpa using h2 (j + 1) (by simpa using hj))]
  rfl
set_option maxRecDepth 100000 in
theorem slices_Equal_str {xs ys : List ByteArray} (hl : xs.length ≤ 1000000000) (hl' : ys.length ≤ 1000000000) :
  SpecN Tryz.prog 26 [avStrs xs, avStrs ys] (fun y => y = avB (eqLs sEq xs ys)) := by
 refine SpecN.of_VCN Tryz.func26 rfl Tryz.ntmps26 (Nle rfl) fun w A hB => ?_
 have hnew : True := trivial
 refine VC.sr ?_
 refine VO.ma rfl rfl rfl rfl ?_
 refine VO.nil ?_
 refine VC.seq ?_
 refine VC.sr ?_
 refine VO.mv rfl rfl rfl rfl ?_
 refine VO.val rfl rfl (OpV.len_im rfl Tryz.underlying29 rfl) ?_
 refine VO.mv rfl rfl rfl rfl ?_
 refine VO.val rfl rfl (OpV.len_im rfl Tryz.underlying29 rfl) ?_
 refine VO.val rfl rfl (OpV.neq rfl rfl rfl) ?_
 refine VO.nil ?_
 refine VC.cond rfl (fun aH1b => ?_) (fun aH1b => ?_)
 ·have aH1 := aH1b
  try simp only [qqT, qqF, qqN, qqM, qqL, qqE] at aH1
  refine VC.sr ?_
  refine VO.ma rfl rfl rfl rfl ?_
  refine VO.nil ?_
  refine VC.ret ?_
  exact Exists.intro _ (And.intro (RetN.one Tryz.results26 (ResN.v rfl)) (by first | rw [eqLs_len (by omega)] | rw [eqLs_at (d := ByteArray.empty) (q := q) (by omega) (not_true_false h2b)] | rw [eqLs_all (d := ByteArray.empty) (by omega) (fun j hj => hn j (by omega))]))
 ·have aH1 := aH1b
  try simp only [qqT, qqF, qqN, qqM, qqL, qqE] at aH1
  refine VC.skip ?_
  refine VC.seq ?_
  refine VC.sr ?_
  refine VO.mv rfl rfl rfl rfl ?_
  refine VO.val rfl rfl (OpV.len_im rfl Tryz.underlying29 rfl) ?_
  refine VO.mv rfl rfl rfl rfl ?_
  refine VO.nil ?_
  refine VC.block ?_
  refine VC.loopK [(0, _), (1, _), (12, _)] ⟨rfl, rfl, rfl, trivial⟩ ({q : Nat // q ≤ xs.length ∧ ∀ j, j < q → sEq (xs.getD j ByteArray.empty) (ys.getD j ByteArray.empty) = true}) (fun (iZ : {q : Nat // q ≤ xs.length ∧ ∀ j, j < q → sEq (xs.getD j ByteArray.empty) (ys.getD j ByteArray.empty) = true}) => match iZ with | ⟨q, hq, hn⟩ => [(13, avI (q : Int))]) (fun (iZ : {q : Nat // q ≤ xs.length ∧ ∀ j, j < q → sEq (xs.getD j ByteArray.empty) (ys.getD j ByteArray.empty) = true}) => match iZ with | ⟨q, hq, hn⟩ => []) (fun (iZ : {q : Nat // q ≤ xs.length ∧ ∀ j, j < q → sEq (xs.getD j ByteArray.empty) (ys.getD j ByteArray.empty) = true}) => match iZ with | ⟨q, hq, hn⟩ => 0) (fun (iZ : {q : Nat // q ≤ xs.length ∧ ∀ j, j < q → sEq (xs.getD j ByteArray.empty) (ys.getD j ByteArray.empty) = true}) => match iZ with | ⟨q, hq, hn⟩ => xs.length - q) ⟨0, Nat.zero_le _, fun j hj => absurd hj (Nat.not_lt_zero j)⟩ (Le.mk hB [] ⟨rfl, rfl, rfl, rfl, trivial⟩ rfl rfl (Nat.le_refl _)) ?_
  rintro ⟨q, hq, hn⟩
  show VC _ _ _ _ ⟨[(13, avI (q : Int))] ++ [(0, _), (1, _), (12, _)], [], 0⟩
  refine VC.sr ?_
  refine VO.val rfl rfl (OpV.lss rfl rfl rfl) ?_
  refine VO.nil ?_
  refine VC.seq ?_
  refine VC.cond rfl (fun aH2b => ?_) (fun aH2b => ?_)
  ·have aH2 := aH2b
   try simp only [qqT, qqF, qqN, qqM, qqL, qqE] at aH2
   refine VC.skip ?_
   refine VC.seq ?_
   refine VC.block ?_
   refine VC.sr ?_
   refine VO.mv rfl rfl rfl rfl ?_
   refine VO.ma rfl rfl rfl rfl ?_
   refine VO.nil ?_
   refine VC.seq ?_
   refine VC.draw (fun _ => NoB) hB (by kernel_rfl) ?_
   refine VA.take (i := 0) rfl (by kernel_rfl) (by kernel_rfl) (by kernel_rfl) rfl rfl (OpV.move (.inl rfl) rfl) ?_
   refine VA.take (i := 1) rfl (by kernel_rfl) (by kernel_rfl) (by kernel_rfl) rfl rfl (OpV.move (.inl rfl) rfl) ?_
   refine VA.take (i := 2) rfl (by kernel_rfl) (by kernel_rfl) (by kernel_rfl) rfl rfl (OpV.indexAddr_1 rfl Tryz.underlying29 Tryz.sizeOf9 rfl rfl rfl (by omega)) ?_
   refine VA.take (i := 3) rfl (by kernel_rfl) (by kernel_rfl) (by kernel_rfl) rfl rfl (OpV.load_at rfl hB OutW.wi0 Tryz.isAgg9 rfl rfl) ?_
   refine VA.take (i := 4) rfl (by kernel_rfl) (by kernel_rfl) (by kernel_rfl) rfl rfl (OpV.move (.inl rfl) rfl) ?_
   refine VA.take (i := 5) rfl (by kernel_rfl) (by kernel_rfl) (by kernel_rfl) rfl rfl (OpV.move (.inl rfl) rfl) ?_
   refine VA.take (i := 6) rfl (by kernel_rfl) (by kernel_rfl) (by kernel_rfl) rfl rfl (OpV.indexAddr_1 rfl Tryz.underlying29 Tryz.sizeOf9 rfl rfl rfl (by omega)) ?_
   refine VA.take (i := 7) rfl (by kernel_rfl) (by kernel_rfl) (by kernel_rfl) rfl rfl (OpV.load_at rfl hB OutW.wi0 Tryz.isAgg9 rfl rfl) ?_
   refine VA.take (i := 8) rfl (by kernel_rfl) (by kernel_rfl) (by kernel_rfl) rfl rfl (OpV.sneq rfl rfl rfl) ?_
   refine VA.done (by kernel_rfl) ?_
   refine VC.cond rfl (fun h2b => ?_) (fun h2b => ?_)
   ·have h2 := h2b
    try simp only [qqT, qqF, qqN, qqM, qqL, qqE] at h2
    refine VC.sr ?_
    refine VO.ma rfl rfl rfl rfl ?_
    refine VO.nil ?_
    refine VC.ret ?_
    exact Exists.intro _ (And.intro (RetN.one Tryz.results26 (ResN.v rfl)) (by first | rw [eqLs_len (by omega)] | rw [eqLs_at (d := ByteArray.empty) (q := q) (by omega) (not_true_false h2b)] | rw [eqLs_all (d := ByteArray.empty) (by omega) (fun j hj => hn j (by omega))]))
   ·have h2 := h2b
    try simp only [qqT, qqF, qqN, qqM, qqL, qqE] at h2
    refine VC.skip ?_
    refine VC.region ?_
    refine VO.val rfl rfl (OpV.add rfl rfl rfl (by unfold fits; omega)) ?_
    refine VO.mv rfl rfl rfl rfl ?_
    refine VO.nil ?_
    exact Exists.intro (⟨q + 1, by omega, lt_succ_cases hn (not_false_true h2b)⟩) (And.intro (Le.mk hB [] ⟨rfl, rfl, rfl, rfl, trivial⟩ rfl rfl (Nat.le_refl _)) (by first | omega | (show _ < _; omega) | (simp only []; omega)))
  ·have aH2 := aH2b
   try simp only [qqT, qqF, qqN, qqM, qqL, qqE] at aH2
   refine VC.exit ?_
   refine VC.sr ?_
   refine VO.ma rfl rfl rfl rfl ?_
   refine VO.nil ?_
   refine VC.ret ?_
   exact Exists.intro _ (And.intro (RetN.one Tryz.results26 (ResN.v rfl)) (by first | rw [eqLs_len (by omega)] | rw [eqLs_at (d := ByteArray.empty) (q := q) (by omega) (not_true_false h2b)] | rw [eqLs_all (d := ByteArray.empty) (by omega) (fun j hj => hn j (by omega))]))
end Go.Proofs.YtbbgjeiefmiblaaGreatDoor
namespace Go.Proofs.YtbbgjeiefmiblaaGreatDoor
open Go.RowKit
set_option linter.unusedVariables false
set_option linter.unusedSimpArgs false

abbrev pt (g : Nat) : AV := .v (.pointer (some ⟨g, 0, none⟩))
abbrev ptv (g : Nat) : Value := .pointer (some ⟨g, 0, none⟩)
set_option maxRecDepth 100000 in
theorem slices_IndexFuncO_str {xs : List ByteArray} {u : Value} {ty : TypeId} {F : FuncId} {caps : Array Value} {hpC : List Ent} {p : ByteArray → Bool} (hl : xs.length ≤ 1000000000) (hcall : ∀ us w, (callFunc F us).run Tryz.prog w = .ok (.enter F us) w) (hF : ∀ x, SpecH Tryz.prog F ([avS x] ++ caps.toList.map .v) hpC (fun y hp' => y = avB (p x) ∧ hp' = hpC)) :
  SpecH Tryz.prog 114 [.v u, .v (.func (.func F) #[] caps)] (.row u xs.length 1 (strsL xs) ty :: hpC) (fun y hp' => y = avI (fidx p xs) ∧ hp' = .row u xs.length 1 (strsL xs) ty :: hpC) := by
 refine SpecH.of_VC Tryz.func114 rfl Tryz.ntmps114 (Nle rfl) fun w A hB => ?_
 have hnew : True := trivial
 refine VC.sr ?_
 refine VO.ma rfl rfl rfl rfl ?_
 refine VO.nil ?_
 refine VC.seq ?_
 refine VC.sr ?_
 refine VO.mv rfl rfl rfl rfl ?_
 refine VO.val rfl rfl (OpV.len_row (i := 0) rfl Tryz.underlying29 rfl rfl) ?_
 refine VO.mv rfl rfl rfl rfl ?_
 refine VO.nil ?_
 refine VC.block ?_
 refine VC.loopK [(0, _), (1, _), (7, _)] ⟨rfl, rfl, rfl, trivial⟩ ({q : Nat // q ≤ xs.length ∧ ∀ j, j < q → p (xs.getD j ByteArray.empty) = false}) (fun (iZ : {q : Nat // q ≤ xs.length ∧ ∀ j, j < q → p (xs.getD j ByteArray.empty) = false}) => match iZ with | ⟨q, hq, hn⟩ => [(8, avI (q : Int))]) (fun (iZ : {q : Nat // q ≤ xs.length ∧ ∀ j, j < q → p (xs.getD j ByteArray.empty) = false}) => match iZ with | ⟨q, hq, hn⟩ => (.row u xs.length 1 (strsL xs) ty :: hpC)) (fun (iZ : {q : Nat // q ≤ xs.length ∧ ∀ j, j < q → p (xs.getD j ByteArray.empty) = false}) => match iZ with | ⟨q, hq, hn⟩ => 0) (fun (iZ : {q : Nat // q ≤ xs.length ∧ ∀ j, j < q → p (xs.getD j ByteArray.empty) = false}) => match iZ with | ⟨q, hq, hn⟩ => xs.length - q) ⟨0, Nat.zero_le _, fun j hj => absurd hj (Nat.not_lt_zero j)⟩ (Le.mkP hB ⟨rfl, rfl, rfl, rfl, trivial⟩ (List.Sublist.refl _) (List.Perm.refl _) (Nat.le_refl _)) ?_
 rintro ⟨q, hq, hn⟩
 show VC _ _ _ _ ⟨[(8, avI (q : Int))] ++ [(0, _), (1, _), (7, _)], (.row u xs.length 1 (strsL xs) ty :: hpC), 0⟩
 refine VC.sr ?_
 refine VO.val rfl rfl (OpV.lss rfl rfl rfl) ?_
 refine VO.nil ?_
 refine VC.seq ?_
 refine VC.cond rfl (fun aH1b => ?_) (fun aH1b => ?_)
 ·have aH1 := aH1b
  try simp only [qqT, qqF, qqN, qqM, qqL, qqE] at aH1
  refine VC.skip ?_
  refine VC.seq ?_
  refine VC.block ?_
  refine VC.seq ?_
  refine VC.asBox (i := 0) rfl (by omega) (fun g cap hu hcap hmx => ?_)
  subst hu
  refine VC.region ?_
  refine VO.mv rfl rfl rfl rfl ?_
  refine VO.ma rfl rfl rfl rfl ?_
  refine VO.nil ?_
  refine VC.sr ?_
  refine VO.mv rfl rfl rfl rfl ?_
  refine VO.mv rfl rfl rfl rfl ?_
  refine VO.mv rfl rfl rfl rfl ?_
  refine VO.val rfl rfl (OpV.indexAddr_o rfl Tryz.underlying29 Tryz.sizeOf9 rfl rfl rfl (by omega)) ?_
  refine VO.val rfl rfl (OpV.load_own (i := 0) rfl hB Tryz.isAgg9 rfl rfl (strsL_get (by omega)) (fun h => h)) ?_
  refine VO.op rfl (OpE.callH (rest := [_]) rfl hB rfl hcall rfl rfl (hF _) (List.perm_append_comm (l₁ := [_])) (fun _ _ => trivial) ?_)
  rintro _ _ ⟨rfl, rfl⟩
  refine VO.le _ (Le.front rfl) ?_
  refine VO.nil ?_
  refine VC.cond rfl (fun h1b => ?_) (fun h1b => ?_)
  ·have h1 := h1b
   try simp only [qqT, qqF, qqN, qqM, qqL, qqE] at h1
   refine VC.le _ (Le.boxRow (i := 0) (n := xs.length) rfl (by rw [strsL_len]; omega) hcap hmx) ?_
   refine VC.sr ?_
   refine VO.mv rfl rfl rfl rfl ?_
   refine VO.ma rfl rfl rfl rfl ?_
   refine VO.nil ?_
   refine VC.ret ?_
   exact Exists.intro _ (And.intro (RetV.one Tryz.results114 (ResV.tmp rfl)) (⟨by first | (rw [fidx_found (d := ByteArray.empty) (q := q) (by omega) hn (by assumption)]) | (rw [fidx_none (d := ByteArray.empty) (fun j hj => hn j (by omega))]), rfl⟩))
  ·have h1 := h1b
   try simp only [qqT, qqF, qqN, qqM, qqL, qqE] at h1
   refine VC.le _ (Le.boxRow (i := 0) (n := xs.length) rfl (by rw [strsL_len]; omega) hcap hmx) ?_
   refine VC.skip ?_
   refine VC.region ?_
   refine VO.val rfl rfl (OpV.add rfl rfl rfl (by unfold fits; omega)) ?_
   refine VO.mv rfl rfl rfl rfl ?_
   refine VO.nil ?_
   exact Exists.intro (⟨q + 1, by omega, lt_succ_cases hn (by assumption)⟩) (And.intro (Le.mkP hB ⟨rfl, rfl, rfl, rfl, trivial⟩ (List.Sublist.refl _) (List.Perm.refl _) (Nat.le_refl _)) (by first | omega | (show _ < _; omega) | (simp only []; omega)))
 ·have aH1 := aH1b
  try simp only [qqT, qqF, qqN, qqM, qqL, qqE] at aH1
  refine VC.exit ?_
  refine VC.sr ?_
  refine VO.ma rfl rfl rfl rfl ?_
  refine VO.nil ?_
  refine VC.ret ?_
  exact Exists.intro _ (And.intro (RetV.one Tryz.results114 (ResV.tmp rfl)) (⟨by first | (rw [fidx_found (d := ByteArray.empty) (q := q) (by omega) hn (by assumption)]) | (rw [fidx_none (d := ByteArray.empty) (fun j hj => hn j (by omega))]), rfl⟩))
theorem filt_all {α : Type} {p : α → Bool} {d : α} {xs : List α} (h : fidx p xs = -1) : xs.filter (fun x => !p x) = xs := by
 apply List.filter_eq_self.2
 intro x hx
 have := fidx_any p xs
 rw [h] at this
 have h2 : xs.any p = false := this.symm.trans (by decide)
 rw [List.any_eq_false] at h2
 simpa using h2 x hx
theorem take_succ_getD {α : Type} {xs : List α} {q : Nat} {d : α} (h : q < xs.length) : xs.take (q + 1) = xs.take q ++ [xs.getD q d] := by
 rw [List.take_succ_eq_append_getElem h]
 simp [h]
theorem filt_start {α : Type} {p : α → Bool} {d : α} {xs : List α} (h : 0 ≤ fidx p xs) : (xs.take ((fidx p xs).toNat + 1)).filter (fun x => !p x) = xs.take (fidx p xs).toNat := by
 obtain ⟨h1, h2, h3⟩ := fidx_at (d := d) h
 rw [take_succ_getD (d := d) h1, List.filter_append, List.filter_cons, h2]
 simp only [Bool.not_true, Bool.false_eq_true, if_false, List.filter_nil, List.append_nil]
 apply List.filter_eq_self.2
 intro x hx
 obtain ⟨j, hj, rfl⟩ := List.mem_iff_getElem.1 hx
 have hj' : j < (fidx p xs).toNat ∧ j < xs.length := by simp at hj; omega
 have := h3 j hj'.1
 rw [List.getD_eq_getElem?_getD, List.getElem?_eq_getElem hj'.2] at this
 simpa using this
theorem filt_yes {α : Type} {p : α → Bool} {d : α} {xs : List α} {q : Nat} (hq : q < xs.length) (h : p (xs.getD q d) = false) : (xs.take (q + 1)).filter (fun x => !p x) = (xs.take q).filter (fun x => !p x) ++ [xs.getD q d] := by
 rw [take_succ_getD (d := d) hq, List.filter_append, List.filter_cons, h]
 rfl
theorem filt_no {α : Type} {p : α → Bool} {d : α} {xs : List α} {q : Nat} (hq : q < xs.length) (h : p (xs.getD q d) = true) : (xs.take (q + 1)).filter (fun x => !p x) = (xs.take q).filter (fun x => !p x) := by
 rw [take_succ_getD (d := d) hq, List.filter_append, List.filter_cons, h]
 simp
theorem take_set_snoc {α : Type} {b : List α} {i : Nat} {x : α} (h : i < b.length) : (b.set i x).take (i + 1) = b.take i ++ [x] := by
 rw [List.take_succ_eq_append_getElem (by rw [List.length_set]; exact h), List.take_set_of_le (Nat.le_refl _)]
 simp
theorem getD_set_ne {α : Type} {b : List α} {i k : Nat} {x d : α} (h : i ≠ k) : (b.set i x).getD k d = b.getD k d := by
 simp only [List.getD_eq_getElem?_getD, List.getElem?_set, if_neg h]
set_option maxRecDepth 100000 in
theorem slices_DeleteFunc_str {xs : List ByteArray} {u : Value} {ty : TypeId} {F : FuncId} {caps : Array Value} {hpC : List Ent} {p : ByteArray → Bool} (hl : xs.length ≤ 1000000000) (hcall : ∀ us w, (callFunc F us).run Tryz.prog w = .ok (.enter F us) w) (hF : ∀ x, SpecH Tryz.prog F ([avS x] ++ caps.toList.map .v) hpC (fun y hp' => y = avB (p x) ∧ hp' = hpC)) :
  SpecH Tryz.prog 60 [.v u, .v (.func (.func F) #[] caps)] (.row u xs.length 1 (strsL xs) ty :: hpC) (fun y hp' => ∃ u', y = .v u' ∧ hp' = .row u' (xs.filter fun x => !p x).length 1 (strsL (xs.filter fun x => !p x)) ty :: hpC) := by
 refine SpecH.of_VC Tryz.func60 rfl Tryz.ntmps60 (Nle rfl) fun w A hB => ?_
 have hnew : True := trivial
 refine VC.sr ?_
 refine VO.ma rfl rfl rfl rfl ?_
 refine VO.nil ?_
 refine VC.sr ?_
 refine VO.mv rfl rfl rfl rfl ?_
 refine VO.mv rfl rfl rfl rfl ?_
 refine VO.op rfl (OpE.callH0 rfl hB rfl Tryz.call114 rfl rfl (slices_IndexFuncO_str hl hcall hF) (List.Perm.refl _) (fun _ _ => trivial) ?_)
 rintro _ _ ⟨rfl, rfl⟩
 refine VO.ma rfl rfl rfl rfl ?_
 refine VO.nil ?_
 refine VC.seq ?_
 refine VC.sr ?_
 refine VO.mv rfl rfl rfl rfl ?_
 refine VO.val rfl rfl (OpV.eql rfl rfl rfl) ?_
 refine VO.nil ?_
 refine VC.cond rfl (fun h0b => ?_) (fun h0b => ?_)
 ·have h0 := h0b
  try simp only [qqT, qqF, qqN, qqM, qqL, qqE] at h0
  refine VC.sr ?_
  refine VO.mv rfl rfl rfl rfl ?_
  refine VO.ma rfl rfl rfl rfl ?_
  refine VO.nil ?_
  refine VC.ret ?_
  exact Exists.intro _ (And.intro (RetV.one Tryz.results60 (ResV.tmp rfl)) (⟨_, rfl, by rw [filt_all (d := ByteArray.empty) h0]; rfl⟩))
 ·have h0 := h0b
  try simp only [qqT, qqF, qqN, qqM, qqL, qqE] at h0
  have hge := fidx_ge p xs
  obtain ⟨k1, k2, k3⟩ := fidx_at (d := ByteArray.empty) (p := p) (xs := xs) (by omega)
  obtain ⟨i0, hi0⟩ : ∃ i0 : Nat, fidx p xs = i0 := ⟨(fidx p xs).toNat, by omega⟩
  have hst := filt_start (d := ByteArray.empty) (p := p) (xs := xs) (by omega)
  rw [hi0] at k1 k2 k3 hst ⊢
  simp only [Int.toNat_natCast] at k1 k2 k3 hst
  refine VC.asBox (i := 0) rfl (by omega) (fun g cap hu hcap hmx => ?_)
  subst hu
  refine VC.skip ?_
  refine VC.seq ?_
  refine VC.sr ?_
  refine VO.mv rfl rfl rfl rfl ?_
  refine VO.val rfl rfl (OpV.add rfl rfl rfl (by unfold fits; omega)) ?_
  refine VO.ma rfl rfl rfl rfl ?_
  refine VO.nil ?_
  refine VC.block ?_
  refine VC.loopK [(0, _), (1, _)] ⟨rfl, rfl, trivial⟩ ({t : Nat × Nat × List ByteArray // t.2.1 ≤ xs.length ∧ t.1 < t.2.1 ∧ t.2.2.length = xs.length ∧ t.2.2.take t.1 = (xs.take t.2.1).filter (fun x => !p x) ∧ ∀ k, t.2.1 ≤ k → t.2.2.getD k ByteArray.empty = xs.getD k ByteArray.empty}) (fun (iZ : {t : Nat × Nat × List ByteArray // t.2.1 ≤ xs.length ∧ t.1 < t.2.1 ∧ t.2.2.length = xs.length ∧ t.2.2.take t.1 = (xs.take t.2.1).filter (fun x => !p x) ∧ ∀ k, t.2.1 ≤ k → t.2.2.getD k ByteArray.empty = xs.getD k ByteArray.empty}) => match iZ with | ⟨⟨i, j, b⟩, hj, hij, hbl, hbt, hbr⟩ => [(5, avI (i : Int)), (6, avI (j : Int))]) (fun (iZ : {t : Nat × Nat × List ByteArray // t.2.1 ≤ xs.length ∧ t.1 < t.2.1 ∧ t.2.2.length = xs.length ∧ t.2.2.take t.1 = (xs.take t.2.1).filter (fun x => !p x) ∧ ∀ k, t.2.1 ≤ k → t.2.2.getD k ByteArray.empty = xs.getD k ByteArray.empty}) => match iZ with | ⟨⟨i, j, b⟩, hj, hij, hbl, hbt, hbr⟩ => (.box g ⟨strsL b, ty, cap * 1⟩ :: hpC)) (fun (iZ : {t : Nat × Nat × List ByteArray // t.2.1 ≤ xs.length ∧ t.1 < t.2.1 ∧ t.2.2.length = xs.length ∧ t.2.2.take t.1 = (xs.take t.2.1).filter (fun x => !p x) ∧ ∀ k, t.2.1 ≤ k → t.2.2.getD k ByteArray.empty = xs.getD k ByteArray.empty}) => match iZ with | ⟨⟨i, j, b⟩, hj, hij, hbl, hbt, hbr⟩ => 0) (fun (iZ : {t : Nat × Nat × List ByteArray // t.2.1 ≤ xs.length ∧ t.1 < t.2.1 ∧ t.2.2.length = xs.length ∧ t.2.2.take t.1 = (xs.take t.2.1).filter (fun x => !p x) ∧ ∀ k, t.2.1 ≤ k → t.2.2.getD k ByteArray.empty = xs.getD k ByteArray.empty}) => match iZ with | ⟨⟨i, j, b⟩, hj, hij, hbl, hbt, hbr⟩ => xs.length - j) ⟨(i0, i0 + 1, xs), k1, by show i0 < i0 + 1; omega, rfl, hst.symm, fun k _ => rfl⟩ (Le.mkP hB ⟨rfl, rfl, rfl, rfl, trivial⟩ (List.Sublist.refl _) (List.Perm.refl _) (Nat.le_refl _)) ?_
  rintro ⟨⟨i, j, b⟩, hj, hij, hbl, hbt, hbr⟩
  show VC _ _ _ _ ⟨[(5, avI (i : Int)), (6, avI (j : Int))] ++ [(0, _), (1, _)], (.box g ⟨strsL b, ty, cap * 1⟩ :: hpC), 0⟩
  simp only at hj hij hbl hbt hbr
  refine VC.seq ?_
  refine VC.sr ?_
  refine VO.mv rfl rfl rfl rfl ?_
  refine VO.mv rfl rfl rfl rfl ?_
  refine VO.val rfl rfl (OpV.len_v rfl Tryz.underlying29 rfl) ?_
  refine VO.val rfl rfl (OpV.lss rfl rfl rfl) ?_
  refine VO.nil ?_
  refine VC.cond rfl (fun aH1b => ?_) (fun aH1b => ?_)
  ·have aH1 := aH1b
   try simp only [qqT, qqF, qqN, qqM, qqL, qqE] at aH1
   refine VC.skip ?_
   refine VC.seq ?_
   refine VC.block ?_
   refine VC.sr ?_
   refine VO.mv rfl rfl rfl rfl ?_
   refine VO.mv rfl rfl rfl rfl ?_
   refine VO.val rfl rfl (OpV.indexAddr_o rfl Tryz.underlying29 Tryz.sizeOf9 rfl rfl rfl (by omega)) ?_
   refine VO.val rfl rfl (OpV.load_own (i := 0) rfl hB Tryz.isAgg9 rfl rfl (strsL_get (by omega)) (fun h => h)) ?_
   refine VO.ma rfl rfl rfl rfl ?_
   refine VO.nil ?_
   refine VC.sr ?_
   refine VO.mv rfl rfl rfl rfl ?_
   refine VO.mv rfl rfl rfl rfl ?_
   refine VO.op rfl (OpE.callH (rest := [_]) rfl hB rfl hcall rfl rfl (hF _) (List.perm_append_comm (l₁ := [_])) (fun _ _ => trivial) ?_)
   rintro _ _ ⟨rfl, rfl⟩
   refine VO.le _ (Le.front rfl) ?_
   refine VO.val rfl rfl (OpV.not rfl rfl) ?_
   refine VO.nil ?_
   refine VC.cond rfl (fun h2b => ?_) (fun h2b => ?_)
   ·have h2 := h2b
    try simp only [qqT, qqF, qqN, qqM, qqL, qqE] at h2
    refine VC.sr ?_
    refine VO.mv rfl rfl rfl rfl ?_
    refine VO.mv rfl rfl rfl rfl ?_
    refine VO.mv rfl rfl rfl rfl ?_
    refine VO.val rfl rfl (OpV.indexAddr_o rfl Tryz.underlying29 Tryz.sizeOf9 rfl rfl rfl (by omega)) ?_
    refine VO.op rfl (OpE.store1 (i := 0) rfl hB rfl Tryz.sizeOf9 rfl rfl rfl rfl rfl rfl (by rw [strsL_len]; omega) (strsL_set _ _ _) trivial ?_)
    refine VO.nil ?_
    refine VC.region ?_
    refine VO.mv rfl rfl rfl rfl ?_
    refine VO.val rfl rfl (OpV.add rfl rfl rfl (by unfold fits; omega)) ?_
    refine VO.ma rfl rfl rfl rfl ?_
    refine VO.nil ?_
    refine VC.region ?_
    refine VO.mv rfl rfl rfl rfl ?_
    refine VO.val rfl rfl (OpV.add rfl rfl rfl (by unfold fits; omega)) ?_
    refine VO.ma rfl rfl rfl rfl ?_
    refine VO.nil ?_
    exact Exists.intro (⟨(i + 1, j + 1, b.set i (b.getD j ByteArray.empty)), by show j + 1 ≤ _; omega, by show i + 1 < j + 1; omega, by show (b.set _ _).length = _; rw [List.length_set]; exact hbl, by show (b.set i _).take (i + 1) = _; rw [take_set_snoc (by omega), hbt, hbr j (Nat.le_refl _)]; exact (filt_yes (by omega) (by rw [← hbr j (Nat.le_refl _)]; first | assumption | simpa using h2)).symm, fun k hk => by show (b.set i _).getD k _ = _; rw [getD_set_ne (by have : j + 1 ≤ k := hk; omega)]; exact hbr k (by have : j + 1 ≤ k := hk; omega)⟩) (And.intro (Le.mkP hB ⟨rfl, rfl, rfl, rfl, trivial⟩ (List.Sublist.refl _) (List.Perm.refl _) (Nat.le_refl _)) (by first | omega | (show _ < _; omega) | (simp only []; omega)))
   ·have h2 := h2b
    try simp only [qqT, qqF, qqN, qqM, qqL, qqE] at h2
    refine VC.skip ?_
    refine VC.region ?_
    refine VO.mv rfl rfl rfl rfl ?_
    refine VO.val rfl rfl (OpV.add rfl rfl rfl (by unfold fits; omega)) ?_
    refine VO.ma rfl rfl rfl rfl ?_
    refine VO.nil ?_
    exact Exists.intro (⟨(i, j + 1, b), by show j + 1 ≤ _; omega, by show i < j + 1; omega, hbl, by show b.take i = _; rw [hbt]; exact (filt_no (by omega) (by rw [← hbr j (Nat.le_refl _)]; first | assumption | simpa using h2)).symm, fun k hk => hbr k (by have : j + 1 ≤ k := hk; omega)⟩) (And.intro (Le.mkP hB ⟨rfl, rfl, rfl, rfl, trivial⟩ (List.Sublist.refl _) (List.Perm.refl _) (Nat.le_refl _)) (by first | omega | (show _ < _; omega) | (simp only []; omega)))
  ·have aH1 := aH1b
   try simp only [qqT, qqF, qqN, qqM, qqL, qqE] at aH1
   refine VC.exit ?_
   refine VC.sr ?_
   refine VO.mv rfl rfl rfl rfl ?_
   refine VO.mv rfl rfl rfl rfl ?_
   refine VO.val rfl rfl (OpV.slice_own rfl Tryz.underlying29 Tryz.sizeOf9 rfl ⟨_, _, rfl, rfl⟩ rfl (by omega) (by omega) (by omega)) ?_
   refine VO.op rfl (OpE.clear (i := 0) rfl hB rfl Tryz.underlying29 Tryz.zeroValue9 rfl (by decide) rfl rfl (by show 0 + i * 1 + (xs.length - i) * 1 ≤ (strsL b).length; rw [strsL_len]; omega) trivial ?_)
   refine VO.nil ?_
   refine VC.sr ?_
   refine VO.mv rfl rfl rfl rfl ?_
   refine VO.mv rfl rfl rfl rfl ?_
   refine VO.val rfl rfl (OpV.slice_own rfl Tryz.underlying29 Tryz.sizeOf9 rfl rfl ⟨_, _, rfl, rfl⟩ (by omega) (by omega) (by omega)) ?_
   refine VO.ma rfl rfl rfl rfl ?_
   refine VO.nil ?_
   have e1 : (strsL b).take (0 + i * 1) = strsL ((xs.filter fun x => !p x)) := by
    rw [show 0 + i * 1 = i by omega, strsL, ← List.map_take, hbt, List.take_of_length_le (by omega)]; rfl
   have e2 : i = (xs.filter fun x => !p x).length := by
    have := congrArg List.length hbt
    rw [List.take_of_length_le (l := xs) (by omega), List.length_take] at this
    omega
   refine VC.le _ (Le.boxRow (i := 0) (n := i) (sz := 1) (cap := cap) rfl (by simp [strsL_len]; omega) (by omega) hmx) ?_
   refine VC.ret ?_
   exact Exists.intro _ (And.intro (RetV.one Tryz.results60 (ResV.tmp rfl)) (⟨_, rfl, by show [_] ++ _ = [_] ++ _; congr 2; first | (rw [e1, ← e2]; rfl) | skip⟩))
end Go.Proofs.YtbbgjeiefmiblaaGreatDoor
namespace Go.Proofs.YtbbgjeiefmiblaaGreatDoor
open Go.RowKit
set_option linter.unusedVariables false
set_option linter.unusedSimpArgs false

def setsF (s : List ByteArray) (p : List (List ByteArray)) : Int := if setupF s ≠ 0 then setupF s else partsF s.length p
set_option maxRecDepth 100000 in
theorem setup_fault {s : List ByteArray} {p : List (List ByteArray)} (hs : SmS s) (hp : SmSS p) :
  SpecN Tryz.prog 86 [avStrs s, avM p] (fun y => y = avI (setsF s p)) := by
 refine SpecN.of_VCN Tryz.func86 rfl Tryz.ntmps86 (Nle rfl) fun w A hB => ?_
 have hnew : True := trivial
 refine VC.sr ?_
 refine VO.ma rfl rfl rfl rfl ?_
 refine VO.nil ?_
 refine VC.seq ?_
 refine VC.sr ?_
 refine VO.mv rfl rfl rfl rfl ?_
 refine VO.op rfl (OpE.call rfl hB rfl Tryz.call64 rfl (SpecN.spec (setup_CheckSetup hs)) ?_)
 rintro _ rfl
 refine VO.ma rfl rfl rfl rfl ?_
 refine VO.nil ?_
 refine VC.sr ?_
 refine VO.mv rfl rfl rfl rfl ?_
 refine VO.val rfl rfl (OpV.neq rfl rfl rfl) ?_
 refine VO.nil ?_
 refine VC.cond rfl (fun h0b => ?_) (fun h0b => ?_)
 ·have h0 := h0b
  try simp only [qqT, qqF, qqN, qqM, qqL, qqE] at h0
  refine VC.sr ?_
  refine VO.mv rfl rfl rfl rfl ?_
  refine VO.ma rfl rfl rfl rfl ?_
  refine VO.nil ?_
  refine VC.ret ?_
  exact Exists.intro _ (And.intro (RetN.one Tryz.results86 (ResN.v rfl)) (by first | rw [setsF, if_pos h0] | rw [setsF, if_neg (by omega)]))
 ·have h0 := h0b
  try simp only [qqT, qqF, qqN, qqM, qqL, qqE] at h0
  refine VC.skip ?_
  refine VC.sr ?_
  refine VO.mv rfl rfl rfl rfl ?_
  refine VO.val rfl rfl (OpV.len_im rfl Tryz.underlying29 rfl) ?_
  refine VO.mv rfl rfl rfl rfl ?_
  refine VO.op rfl (OpE.call rfl hB rfl Tryz.call58 rfl (SpecN.spec (setup_CheckParts hp)) ?_)
  rintro _ rfl
  refine VO.ma rfl rfl rfl rfl ?_
  refine VO.nil ?_
  refine VC.ret ?_
  exact Exists.intro _ (And.intro (RetN.one Tryz.results86 (ResN.v rfl)) (by first | rw [setsF, if_pos h0] | rw [setsF, if_neg (by omega)]))
set_option maxRecDepth 100000 in
theorem setup_missing {s p : List ByteArray} (hs : SmS s) (hp : SmS p) :
  SpecH Tryz.prog 87 [avStrs s, avStrs p] [] (fun y hp' => ∃ u, y = .v u ∧ hp' = [.row u ((missF s p).length) (1) (strsL (missF s p)) (9)]) := by
 have hl := hp.1
 refine SpecH.of_VC Tryz.func87 rfl Tryz.ntmps87 (Nle rfl) fun w A hB => ?_
 have hnew : True := trivial
 refine VC.sr ?_
 refine VO.ma rfl rfl rfl rfl ?_
 refine VO.nil ?_
 refine VC.sr ?_
 refine VO.ma rfl rfl rfl rfl ?_
 refine VO.nil ?_
 refine VC.seq ?_
 refine VC.sr ?_
 refine VO.mv rfl rfl rfl rfl ?_
 refine VO.val rfl rfl (OpV.len_im rfl Tryz.underlying29 rfl) ?_
 refine VO.mv rfl rfl rfl rfl ?_
 refine VO.nil ?_
 refine VC.block ?_
 refine VC.le _ (Le.nilRow 1 9) ?_
 refine VC.loopK [(0, _), (8, _), (9, _)] ⟨rfl, rfl, rfl, trivial⟩ ({zz : Value × Nat // zz.2 ≤ p.length}) (fun (iZ : {zz : Value × Nat // zz.2 ≤ p.length}) => match iZ with | ⟨⟨u, q⟩, hq⟩ => [(5, .v u), (10, avI (q : Int))]) (fun (iZ : {zz : Value × Nat // zz.2 ≤ p.length}) => match iZ with | ⟨⟨u, q⟩, hq⟩ => [.row u (missF s (p.take q)).length 1 (strsL (missF s (p.take q))) 9]) (fun (iZ : {zz : Value × Nat // zz.2 ≤ p.length}) => match iZ with | ⟨⟨u, q⟩, hq⟩ => 0) (fun (iZ : {zz : Value × Nat // zz.2 ≤ p.length}) => match iZ with | ⟨⟨u, q⟩, hq⟩ => p.length - q) ⟨(.slice none 0 0, 0), Nat.zero_le _⟩ (Le.mk hB [0] ⟨rfl, rfl, rfl, rfl, rfl, trivial⟩ rfl rfl (Nat.le_refl _)) ?_
 rintro ⟨⟨u, q⟩, hq⟩
 show VC _ _ _ _ ⟨[(5, .v u), (10, avI (q : Int))] ++ [(0, _), (8, _), (9, _)], [.row u (missF s (p.take q)).length 1 (strsL (missF s (p.take q))) 9], 0⟩
 simp only at hq
 refine VC.sr ?_
 refine VO.val rfl rfl (OpV.lss rfl rfl rfl) ?_
 refine VO.nil ?_
 refine VC.seq ?_
 refine VC.cond rfl (fun aH1b => ?_) (fun aH1b => ?_)
 ·have aH1 := aH1b
  try simp only [qqT, qqF, qqN, qqM, qqL, qqE] at aH1
  refine VC.skip ?_
  refine VC.seq ?_
  refine VC.block ?_
  refine VC.sr ?_
  refine VO.val rfl rfl (OpV.indexAddr_1 rfl Tryz.underlying29 Tryz.sizeOf9 rfl rfl rfl (by omega)) ?_
  refine VO.val rfl rfl (OpV.load_at rfl hB OutW.no Tryz.isAgg9 rfl rfl) ?_
  refine VO.ma rfl rfl rfl rfl ?_
  refine VO.nil ?_
  refine VC.sr ?_
  refine VO.mv rfl rfl rfl rfl ?_
  refine VO.mv rfl rfl rfl rfl ?_
  refine VO.op rfl (OpE.call rfl hB rfl Tryz.call54 rfl (SpecN.spec (slices_Contains_str hs.1)) ?_)
  rintro _ rfl
  refine VO.val rfl rfl (OpV.not rfl rfl) ?_
  refine VO.nil ?_
  refine VC.cond rfl (fun h1b => ?_) (fun h1b => ?_)
  ·have h1 := h1b
   try simp only [qqT, qqF, qqN, qqM, qqL, qqE] at h1
   have e1 := missF_yes (s := s) (p := p) (q := q) (by omega) h1
   have hm1 : (missF s (p.take q)).length ≤ q := Nat.le_trans (List.length_filter_le _ _) (by simp; omega)
   refine VC.region ?_
   refine VO.mv rfl rfl rfl rfl ?_
   refine VO.mv rfl rfl rfl rfl ?_
   refine VO.op rfl (OpE.buildSlice (zc := #[.string ⟨#[]⟩]) rfl hB rfl Tryz.underlying29 Tryz.sizeOf9 Tryz.zeroValue9 (by decide) (by decide) (by kernel_rfl) rfl rfl ?_)
   refine VO.op rfl (OpE.append1 (i := 0) rfl hB rfl Tryz.underlying29 (infoOf Tryz.t9 1 (by kernel_rfl) rfl rfl) rfl (by decide) (by decide) rfl rfl rfl rfl (strsL_snoc _ _) (by omega) (fun _ _ => trivial) ?_)
   intro u2
   refine VO.ma rfl rfl rfl rfl ?_
   refine VO.nil ?_
   refine VC.region ?_
   refine VO.val rfl rfl (OpV.add rfl rfl rfl (by unfold fits; omega)) ?_
   refine VO.mv rfl rfl rfl rfl ?_
   refine VO.nil ?_
   exact Exists.intro (⟨(u2, q + 1), by show _ ≤ _; omega⟩) (And.intro (Le.mk hB [0] ⟨rfl, rfl, rfl, rfl, rfl, trivial⟩ rfl (by dsimp only; first | (rw [e1]; rfl) | (rw [e1, List.length_append]; rfl)) (Nat.le_refl _)) (by first | omega | (show _ < _; omega) | (simp only []; omega)))
  ·have h1 := h1b
   try simp only [qqT, qqF, qqN, qqM, qqL, qqE] at h1
   have e1 := missF_no (s := s) (p := p) (q := q) (by omega) h1
   refine VC.skip ?_
   refine VC.region ?_
   refine VO.val rfl rfl (OpV.add rfl rfl rfl (by unfold fits; omega)) ?_
   refine VO.mv rfl rfl rfl rfl ?_
   refine VO.nil ?_
   exact Exists.intro (⟨(u, q + 1), by show _ ≤ _; omega⟩) (And.intro (Le.mk hB [0] ⟨rfl, rfl, rfl, rfl, rfl, trivial⟩ rfl (by dsimp only; first | (rw [e1]; rfl) | (rw [e1, List.length_append]; rfl)) (Nat.le_refl _)) (by first | omega | (show _ < _; omega) | (simp only []; omega)))
 ·have aH1 := aH1b
  try simp only [qqT, qqF, qqN, qqM, qqL, qqE] at aH1
  obtain rfl : q = p.length := by omega
  rw [List.take_length]
  refine VC.exit ?_
  refine VC.sr ?_
  refine VO.mv rfl rfl rfl rfl ?_
  refine VO.ma rfl rfl rfl rfl ?_
  refine VO.nil ?_
  refine VC.le ⟨[(4, _)], [_], 0⟩ (Le.pick hB [0] ⟨rfl, trivial⟩ rfl rfl (Nat.le_refl _)) ?_
  refine VC.ret ?_
  exact Exists.intro _ (And.intro (RetV.one Tryz.results87 (ResV.tmp rfl)) (⟨_, rfl, rfl⟩))
theorem setup_missing_N {s p : List ByteArray} (hs : SmS s) (hp : SmS p) : SpecN Tryz.prog 87 [avStrs s, avStrs p] (fun y => y = avStrs (missF s p)) :=
 SpecN.ofRow (setup_missing hs hp) (flat_strs _) fun w Z u h => Rep.strs rfl h


theorem SmS.nil : SmS [] := ⟨by simp, fun i => by simp [List.getD_eq_getElem?_getD]⟩
theorem SmSS.one {p : List ByteArray} (hp : SmS p) : SmSS [p] := ⟨by simp, fun i => by cases i with | zero => exact hp | succ i => exact SmS.nil⟩
def missE (s p : List ByteArray) : Int := setsF s [p]
set_option maxRecDepth 100000 in
theorem setup_Missing {s p : List ByteArray} (hs : SmS s) (hp : SmS p) :
  SpecH Tryz.prog 31 [avStrs s, avStrs p] [] (fun y hp' => ∃ u, y = .tup [.v u, avI (missE s p)] ∧ hp' = [.row u ((if missE s p = 0 then missF s p else []).length) (1) (strsL (if missE s p = 0 then missF s p else [])) (9)]) := by
 have hpp : SmSS [p] := SmSS.one hp
 refine SpecH.of_VC Tryz.func31 rfl Tryz.ntmps31 (Nle rfl) fun w A hB => ?_
 have hnew : True := trivial
 refine VC.sr ?_
 refine VO.ma rfl rfl rfl rfl ?_
 refine VO.ma rfl rfl rfl rfl ?_
 refine VO.nil ?_
 refine VC.seq ?_
 refine VC.sr ?_
 refine VO.mv rfl rfl rfl rfl ?_
 refine VO.mv rfl rfl rfl rfl ?_
 refine VO.op rfl (OpE.buildSlice (zc := #[.slice none 0 0]) rfl hB rfl Tryz.underlying27 Tryz.sizeOf29 Tryz.zeroValue29 (by decide) (by decide) (by kernel_rfl) rfl rfl ?_)
 refine VO.le _ (Le.recast (t := 9) (y := avM [p]) rfl (fun w Z u h => Rep.listM (xs := [p]) rfl h)) ?_
 refine VO.op rfl (OpE.call rfl hB rfl Tryz.call86 rfl (SpecN.spec ((setup_fault (by omega) (by omega)))) ?_)
 rintro _ rfl
 refine VO.ma rfl rfl rfl rfl ?_
 refine VO.nil ?_
 refine VC.sr ?_
 refine VO.mv rfl rfl rfl rfl ?_
 refine VO.val rfl rfl (OpV.neq rfl rfl rfl) ?_
 refine VO.nil ?_
 refine VC.cond rfl (fun h0b => ?_) (fun h0b => ?_)
 ·have h0 := h0b
  try simp only [qqT, qqF, qqN, qqM, qqL, qqE] at h0
  have h0' : ¬ missE s p = 0 := h0
  rw [if_neg h0']
  refine VC.sr ?_
  refine VO.mv rfl rfl rfl rfl ?_
  refine VO.ma rfl rfl rfl rfl ?_
  refine VO.ma rfl rfl rfl rfl ?_
  refine VO.nil ?_
  refine VC.le _ (Le.nilRow 1 9) ?_
  refine VC.le ⟨[(4, _), (5, _)], [_], 0⟩ (Le.pick hB [0] ⟨rfl, rfl, trivial⟩ rfl rfl (Nat.le_refl _)) ?_
  refine VC.ret ?_
  exact Exists.intro _ (And.intro (RetV.two Tryz.results31 (ResV.tmp rfl) (ResV.tmp rfl)) (⟨_, rfl, rfl⟩))
 ·have h0 := h0b
  try simp only [qqT, qqF, qqN, qqM, qqL, qqE] at h0
  have h0' : missE s p = 0 := by show setsF s [p] = 0; omega
  rw [if_pos h0', h0']
  refine VC.skip ?_
  refine VC.sr ?_
  refine VO.mv rfl rfl rfl rfl ?_
  refine VO.mv rfl rfl rfl rfl ?_
  refine VO.op rfl (OpE.callH (hp := []) (rest := _) rfl hB rfl Tryz.call87 rfl rfl ((setup_missing (by omega) (by omega))) (List.Perm.refl _) (fun _ h => by obtain ⟨e, he, _⟩ := h; cases he) ?_)
  rintro _ _ ⟨u16, rfl, rfl⟩
  refine VO.ma rfl rfl rfl rfl ?_
  refine VO.ma rfl rfl rfl rfl ?_
  refine VO.nil ?_
  refine VC.le ⟨[(4, _), (5, _)], [_], 0⟩ (Le.pick hB [0] ⟨rfl, rfl, trivial⟩ rfl rfl (Nat.le_refl _)) ?_
  refine VC.ret ?_
  exact Exists.intro _ (And.intro (RetV.two Tryz.results31 (ResV.tmp rfl) (ResV.tmp rfl)) (⟨_, rfl, rfl⟩))
end Go.Proofs.YtbbgjeiefmiblaaGreatDoor
namespace Go.Proofs.YtbbgjeiefmiblaaGreatDoor
open Go.RowKit
set_option linter.unusedVariables false
set_option linter.unusedSimpArgs false

theorem missF_mem {s p : List ByteArray} {x : ByteArray} : x ∈ missF s p ↔ x ∈ p ∧ x ∉ s := by
 unfold missF
 rw [List.mem_filter]
 constructor
 ·rintro ⟨h1, h2⟩; exact ⟨h1, has_not.1 (by simpa using h2)⟩
 ·rintro ⟨h1, h2⟩; exact ⟨h1, by rw [has_not.2 h2]; rfl⟩
theorem missF_nodup {s p : List ByteArray} (h : p.Nodup) : (missF s p).Nodup := h.sublist List.filter_sublist
theorem missF_len (s p : List ByteArray) : (missF s p).length ≤ p.length := List.length_filter_le _ _
section
variable {parts : List ByteArray} {later : List (List ByteArray)}
theorem nextL_mem : ∀ (l s : List ByteArray) (x : ByteArray), x ∈ nextL parts later s l → x ∈ s ∨ x ∈ l
 | [], s, x, h => .inl h
 | y :: l, s, x, h => by
  rcases nextL_mem l _ x h with h1 | h1
  ·rcases List.mem_or_eq_of_mem_set h1 with h2 | h2
   ·exact .inl h2
   ·exact .inr (by simp [h2])
  ·exact .inr (by simp [h1])
theorem nextL_take_succ {s l : List ByteArray} {q : Nat} (h : q < l.length) : nextL parts later s (l.take (q + 1)) = (nextL parts later s (l.take q)).set (slotF (nextL parts later s (l.take q)) parts later).toNat (l.getD q ByteArray.empty) := by
 rw [take_succ_getD (d := ByteArray.empty) h, nextL_snoc]
theorem nextL_fits {s l : List ByteArray} (hf : Fits s parts) (hl : l.Nodup) (hs : ∀ x ∈ l, x ∉ s) : ∀ q, q ≤ l.length → Fits (nextL parts later s (l.take q)) parts
 | 0, _ => by simpa [nextL] using hf
 | q + 1, hq => by
  rw [nextL_take_succ (by omega)]
  refine (nextL_fits hf hl hs q (by omega)).set (fun hc => ?_) _
  have hx : l.getD q ByteArray.empty ∈ l := by simp [show q < l.length by omega]
  rcases nextL_mem _ _ _ hc with h1 | h1
  ·exact hs _ hx h1
  ·obtain ⟨j, hj, e⟩ := List.mem_iff_getElem.1 h1
   have hj' : j < q ∧ j < l.length := by simp at hj; omega
   rw [List.getElem_take] at e
   have hd := List.pairwise_iff_getElem.1 hl j q hj'.2 (by omega) hj'.1
   apply hd
   rw [e]
   simp [show q < l.length by omega]
theorem nextL_not {s l : List ByteArray} (hl : l.Nodup) (hs : ∀ x ∈ l, x ∉ s) {q : Nat} (hq : q < l.length) : l.getD q ByteArray.empty ∉ nextL parts later s (l.take q) := fun hc => by
 have hx : l.getD q ByteArray.empty ∈ l := by simp [hq]
 rcases nextL_mem _ _ _ hc with h1 | h1
 ·exact hs _ hx h1
 ·obtain ⟨j, hj, e⟩ := List.mem_iff_getElem.1 h1
  have hj' : j < q ∧ j < l.length := by simp at hj; omega
  rw [List.getElem_take] at e
  have hd := List.pairwise_iff_getElem.1 hl j q hj'.2 (by omega) hj'.1
  apply hd
  rw [e]
  simp [hq]
end
theorem slotF_of_neg {s parts : List ByteArray} {later : List (List ByteArray)} (h : fidx (fun x => sEq ε x) s < 0) : slotF s parts later = (vic s parts later s.length).1 := by rw [slotF, if_pos h]
theorem slotF_of_pos {s parts : List ByteArray} {later : List (List ByteArray)} (h : 0 ≤ fidx (fun x => sEq ε x) s) : slotF s parts later = fidx (fun x => sEq ε x) s := by rw [slotF, if_neg (by omega)]
theorem keyF_size {x : ByteArray} (h : keyF x = true) : 1 ≤ x.size ∧ x.size ≤ 40 := by
 unfold keyF at h
 simp only [Bool.and_eq_true, decide_eq_true_eq] at h
 exact ⟨h.1.1.1, h.1.1.2⟩
theorem canE_key {l : List ByteArray} {i : Nat} (h : canE l i = 0) : keyF (l.getD i ByteArray.empty) = true := by
 cases hk : keyF (l.getD i ByteArray.empty) with
 | true => rfl
 | false => rw [canE_5 hk] at h; cases h
theorem canE_lt {l : List ByteArray} {i : Nat} (h : canE l i = 0) (h0 : 0 < i) : sLt (l.getD (i - 1) ByteArray.empty) (l.getD i ByteArray.empty) = true := by
 have hk := canE_key h
 cases hs : sLe (l.getD i ByteArray.empty) (l.getD (i - 1) ByteArray.empty) with
 | true => rw [canE_7 hk h0 hs] at h; cases h
 | false => exact sLt_of_not hs
theorem can_sort {l : List ByteArray} (h : ∀ j, j < l.length → canE l j = 0) : SortS l := by
 intro a b hab hb
 induction b with
 | zero => omega
 | succ b ih =>
  have h1 := canE_lt (h (b + 1) hb) (by omega)
  simp only [Nat.add_sub_cancel] at h1
  by_cases e : a = b
  ·subst e; exact h1
  ·exact sLt_trans (ih (by omega) (by omega)) h1
theorem sort_nodup {l : List ByteArray} (h : SortS l) : l.Nodup := by
 rw [List.Nodup, List.pairwise_iff_getElem]
 intro i j hi hj hij e
 have := h i j hij hj
 simp only [List.getD_eq_getElem?_getD, List.getElem?_eq_getElem hi, List.getElem?_eq_getElem hj, Option.getD_some, e] at this
 rw [sLt_irr] at this; cases this
theorem getD_mem {l : List ByteArray} {x : ByteArray} (h : x ∈ l) : ∃ j, j < l.length ∧ l.getD j ByteArray.empty = x := by
 obtain ⟨j, hj, rfl⟩ := List.mem_iff_getElem.1 h
 exact ⟨j, hj, by simp [hj]⟩
theorem size_getD {l : List ByteArray} {m : Nat} (h : ∀ x ∈ l, x.size ≤ m) (i : Nat) : (l.getD i ByteArray.empty).size ≤ m := by
 by_cases hi : i < l.length
 ·have := h _ (List.getElem_mem hi)
  simpa [hi] using this
 ·simp [List.getD_eq_getElem?_getD, List.getElem?_eq_none (by omega : l.length ≤ i)]
structure RightP (n : Nat) (l : List ByteArray) : Prop where
 len : l.length ≤ n
 can : ∀ j, j < l.length → canE l j = 0
theorem RightP.of {n : Int} {m : Nat} (hn : n = m) {p : List (List ByteArray)} (h : partsF n p = 0) {q : Nat} (hq : q < p.length) : RightP m (p.getD q default) := by
 obtain ⟨_, _, h3⟩ := partsF_zero h
 obtain ⟨k1, k2⟩ := partE_zero (h3 q hq)
 exact ⟨by omega, k2⟩
theorem RightP.nil (n : Nat) : RightP n [] := ⟨by simp, fun j hj => by simp at hj⟩
section
variable {n : Nat} {l s : List ByteArray}
theorem RightP.keys (h : RightP n l) : ∀ x ∈ l, 1 ≤ x.size ∧ x.size ≤ 40 := fun x hx => by
 obtain ⟨j, hj, rfl⟩ := getD_mem hx
 exact keyF_size (canE_key (h.can j hj))
theorem RightP.sms (h : RightP n l) (hn : n ≤ 1000000000) : SmS l := ⟨by have := h.len; omega, size_getD fun x hx => by have := h.keys x hx; omega⟩
theorem setup_once (h : setupF s = 0) : ∀ i j, i < j → j < s.length → s.getD i ByteArray.empty = s.getD j ByteArray.empty → s.getD j ByteArray.empty = ε := fun i j hij hj e => by
 have h0 := setupF_zero h j hj
 cases he : sEq (s.getD j ByteArray.empty) ε with
 | true => exact sEq_eq.1 he
 | false =>
  exfalso
  cases hk : keyF (s.getD j ByteArray.empty) with
  | false => rw [setupE_5 he hk] at h0; cases h0
  | true =>
   have hh : has (s.take j) (s.getD j ByteArray.empty) = true := by
    rw [has_iff, ← e]
    have hi : i < (s.take j).length := by simp; omega
    have : (s.take j)[i] = s.getD i ByteArray.empty := by simp [show i < s.length by omega]
    rw [← this]; exact List.getElem_mem hi
   rw [setupE_6 he hk hh] at h0; cases h0
theorem setup_size (h : setupF s = 0) : ∀ x ∈ s, x.size ≤ 40 := fun x hx => by
 obtain ⟨j, hj, rfl⟩ := getD_mem hx
 have h0 := setupF_zero h j hj
 cases he : sEq (s.getD j ByteArray.empty) ε with
 | true => rw [sEq_eq.1 he]; decide
 | false =>
  cases hk : keyF (s.getD j ByteArray.empty) with
  | false => rw [setupE_5 he hk] at h0; cases h0
  | true => exact (keyF_size hk).2
theorem RightP.fits (h : RightP s.length l) (ho : ∀ i j, i < j → j < s.length → s.getD i ByteArray.empty = s.getD j ByteArray.empty → s.getD j ByteArray.empty = ε) : Fits s l :=
 ⟨ho, h.len, fun x hx e => by have := h.keys x hx; rw [e] at this; exact absurd this.1 (by decide), sort_nodup (can_sort h.can)⟩
end
structure Good' (s : List ByteArray) : Prop where
 pos : 0 < s.length
 len : s.length ≤ 100
 once : ∀ i j, i < j → j < s.length → s.getD i ByteArray.empty = s.getD j ByteArray.empty → s.getD j ByteArray.empty = ε
 size : ∀ x ∈ s, x.size ≤ 40
theorem Good'.of {s : List ByteArray} (h : setupF s = 0) : Good' s := ⟨(setupF_len h).1, (setupF_len h).2, setup_once h, setup_size h⟩
theorem Good'.sms {s : List ByteArray} (h : Good' s) : SmS s := ⟨by have := h.len; omega, size_getD fun x hx => by have := h.size x hx; omega⟩
theorem Good'.next {s l : List ByteArray} (h : Good' s) (hl : RightP s.length l) (later : List (List ByteArray)) (q : Nat) (hq : q ≤ (missF s l).length) : Good' (nextL l later s ((missF s l).take q)) := by
 have hf := hl.fits h.once
 have hn := nextL_fits (later := later) hf (missF_nodup hf.pnd) (fun x hx => (missF_mem.1 hx).2) q hq
 refine ⟨by rw [nextL_len]; exact h.pos, by rw [nextL_len]; exact h.len, hn.once, fun x hx => ?_⟩
 rcases nextL_mem _ _ _ hx with h1 | h1
 ·exact h.size x h1
 ·exact (hl.keys x (missF_mem.1 (List.mem_of_mem_take h1)).1).2
theorem Good'.nextF {s l : List ByteArray} (h : Good' s) (hl : RightP s.length l) (later : List (List ByteArray)) : Good' (nextF s l later) := by
 have := h.next hl later (missF s l).length (Nat.le_refl _)
 rwa [List.take_length] at this
theorem nextF_len (s l : List ByteArray) (later : List (List ByteArray)) : (nextF s l later).length = s.length := nextL_len _ _ _ _
def stF (s : List ByteArray) (p : List (List ByteArray)) : Nat → List ByteArray
 | 0 => s
 | q + 1 => nextF (stF s p q) (p.getD q default) (p.drop (q + 1))
def totF (s : List ByteArray) (p : List (List ByteArray)) : Nat → Int
 | 0 => 0
 | q + 1 => totF s p q + (missF (stF s p q) (p.getD q default)).length
theorem stF_len (s : List ByteArray) (p : List (List ByteArray)) : ∀ q, (stF s p q).length = s.length
 | 0 => rfl
 | q + 1 => by rw [stF, nextF_len, stF_len s p q]
theorem stF_good {s : List ByteArray} {p : List (List ByteArray)} (h : Good' s) (hp : ∀ q, q < p.length → RightP s.length (p.getD q default)) : ∀ q, q ≤ p.length → Good' (stF s p q)
 | 0, _ => h
 | q + 1, hq => (stF_good h hp q (by omega)).nextF (by rw [stF_len]; exact hp q (by omega)) _
theorem totF_in {s : List ByteArray} {p : List (List ByteArray)} (hs : s.length ≤ 100) (hp : ∀ q, q < p.length → RightP s.length (p.getD q default)) : ∀ q, q ≤ p.length → 0 ≤ totF s p q ∧ totF s p q ≤ 100 * q
 | 0, _ => by simp [totF]
 | q + 1, hq => by
  have ih := totF_in hs hp q (by omega)
  have h1 := missF_len (stF s p q) (p.getD q default)
  have h2 := (hp q (by omega)).len
  rw [totF]
  omega
theorem totF_mono {s : List ByteArray} {p : List (List ByteArray)} {a b : Nat} (h : a ≤ b) : totF s p a ≤ totF s p b := by
 induction b with
 | zero => rw [show a = 0 by omega]; exact Int.le_refl _
 | succ b ih =>
  by_cases e : a = b + 1
  ·rw [e]; exact Int.le_refl _
  ·have := ih (by omega)
   rw [totF]; omega
def totalF (s : List ByteArray) (p : List (List ByteArray)) (most : Int) : Int := if p.length = 0 then 0 else if most ≤ totF s p p.length then most else totF s p p.length
end Go.Proofs.YtbbgjeiefmiblaaGreatDoor
namespace Go.Proofs.YtbbgjeiefmiblaaGreatDoor
open Go.RowKit
set_option linter.unusedVariables false
set_option linter.unusedSimpArgs false
set_option maxRecDepth 100000 in
theorem slices_IndexFunc_LL {xs : List (List ByteArray)} {F : FuncId} {cs : List AV} {p : List ByteArray → Bool} (hl : xs.length ≤ 1000000000) (hcall : ∀ us w, (callFunc F us).run Tryz.prog w = .ok (.enter F us) w) (hF : ∀ i, i < xs.length → Spec Tryz.prog F ([avStrs (xs.getD i default)] ++ cs) (fun y => y = avB (p (xs.getD i default)))) :
  SpecN Tryz.prog 115 [avM xs, .fn F cs] (fun y => y = avI (fidx p xs)) := by
 refine SpecN.of_VCN Tryz.func115 rfl Tryz.ntmps115 (Nle rfl) fun w A hB => ?_
 have hnew : True := trivial
 refine VC.sr ?_
 refine VO.ma rfl rfl rfl rfl ?_
 refine VO.nil ?_
 refine VC.seq ?_
 refine VC.sr ?_
 refine VO.mv rfl rfl rfl rfl ?_
 refine VO.val rfl rfl (OpV.len_im rfl Tryz.underlying27 rfl) ?_
 refine VO.mv rfl rfl rfl rfl ?_
 refine VO.nil ?_
 refine VC.block ?_
 refine VC.loopK [(0, _), (1, _), (7, _)] ⟨rfl, rfl, rfl, trivial⟩ ({q : Nat // q ≤ xs.length ∧ ∀ j, j < q → p (xs.getD j default) = false}) (fun (iZ : {q : Nat // q ≤ xs.length ∧ ∀ j, j < q → p (xs.getD j default) = false}) => match iZ with | ⟨q, hq, hn⟩ => [(8, avI (q : Int))]) (fun (iZ : {q : Nat // q ≤ xs.length ∧ ∀ j, j < q → p (xs.getD j default) = false}) => match iZ with | ⟨q, hq, hn⟩ => []) (fun (iZ : {q : Nat // q ≤ xs.length ∧ ∀ j, j < q → p (xs.getD j default) = false}) => match iZ with | ⟨q, hq, hn⟩ => 0) (fun (iZ : {q : Nat // q ≤ xs.length ∧ ∀ j, j < q → p (xs.getD j default) = false}) => match iZ with | ⟨q, hq, hn⟩ => xs.length - q) ⟨0, Nat.zero_le _, fun j hj => absurd hj (Nat.not_lt_zero j)⟩ (Le.mk hB [] ⟨rfl, rfl, rfl, rfl, trivial⟩ rfl rfl (Nat.le_refl _)) ?_
 rintro ⟨q, hq, hn⟩
 show VC _ _ _ _ ⟨[(8, avI (q : Int))] ++ [(0, _), (1, _), (7, _)], [], 0⟩
 refine VC.sr ?_
 refine VO.val rfl rfl (OpV.lss rfl rfl rfl) ?_
 refine VO.nil ?_
 refine VC.seq ?_
 refine VC.cond rfl (fun aH1b => ?_) (fun aH1b => ?_)
 ·have aH1 := aH1b
  try simp only [qqT, qqF, qqN, qqM, qqL, qqE] at aH1
  refine VC.skip ?_
  refine VC.seq ?_
  refine VC.block ?_
  refine VC.sr ?_
  refine VO.mv rfl rfl rfl rfl ?_
  refine VO.ma rfl rfl rfl rfl ?_
  refine VO.nil ?_
  refine VC.sr ?_
  refine VO.mv rfl rfl rfl rfl ?_
  refine VO.mv rfl rfl rfl rfl ?_
  refine VO.mv rfl rfl rfl rfl ?_
  refine VO.val rfl rfl (OpV.indexAddr_1 rfl Tryz.underlying27 Tryz.sizeOf29 rfl rfl rfl (by omega)) ?_
  refine VO.val rfl rfl (OpV.load_at rfl hB OutW.no Tryz.isAgg29 rfl rfl) ?_
  refine VO.op rfl (OpE.callF rfl hB rfl hcall rfl rfl (hF q (by omega)) ?_)
  rintro _ rfl
  refine VO.nil ?_
  refine VC.cond rfl (fun aH2b => ?_) (fun aH2b => ?_)
  ·have aH2 := aH2b
   try simp only [qqT, qqF, qqN, qqM, qqL, qqE] at aH2
   refine VC.sr ?_
   refine VO.mv rfl rfl rfl rfl ?_
   refine VO.ma rfl rfl rfl rfl ?_
   refine VO.nil ?_
   refine VC.ret ?_
   exact Exists.intro _ (And.intro (RetN.one Tryz.results115 (ResN.v rfl)) (by first | (rw [fidx_found (d := default) (q := q) (by omega) hn (by assumption)]) | (rw [fidx_none (d := default) (fun j hj => hn j (by omega))])))
  ·have aH2 := aH2b
   try simp only [qqT, qqF, qqN, qqM, qqL, qqE] at aH2
   refine VC.skip ?_
   refine VC.region ?_
   refine VO.val rfl rfl (OpV.add rfl rfl rfl (by unfold fits; omega)) ?_
   refine VO.mv rfl rfl rfl rfl ?_
   refine VO.nil ?_
   exact Exists.intro (⟨q + 1, by omega, lt_succ_cases hn (by assumption)⟩) (And.intro (Le.mk hB [] ⟨rfl, rfl, rfl, rfl, trivial⟩ rfl rfl (Nat.le_refl _)) (by first | omega | (show _ < _; omega) | (simp only []; omega)))
 ·have aH1 := aH1b
  try simp only [qqT, qqF, qqN, qqM, qqL, qqE] at aH1
  refine VC.exit ?_
  refine VC.sr ?_
  refine VO.ma rfl rfl rfl rfl ?_
  refine VO.nil ?_
  refine VC.ret ?_
  exact Exists.intro _ (And.intro (RetN.one Tryz.results115 (ResN.v rfl)) (by first | (rw [fidx_found (d := default) (q := q) (by omega) hn (by assumption)]) | (rw [fidx_none (d := default) (fun j hj => hn j (by omega))])))
set_option maxRecDepth 100000 in
theorem setup_needed1 {l : List ByteArray} {x : ByteArray} (hl : l.length ≤ 1000000000) :
  SpecN Tryz.prog 209 [avStrs l, .at_ 1 (fun _ => avS x)] (fun y => y = avB (has l x)) := by
 refine SpecN.of_VCN Tryz.func209 rfl Tryz.ntmps209 (Nle rfl) fun w A hB => ?_
 have hnew : True := trivial
 refine VC.sr ?_
 refine VO.ma rfl rfl rfl rfl ?_
 refine VO.nil ?_
 refine VC.sr ?_
 refine VO.mv rfl rfl rfl rfl ?_
 refine VO.val rfl rfl (OpV.load_at rfl hB OutW.no Tryz.isAgg9 rfl rfl) ?_
 refine VO.op rfl (OpE.call rfl hB rfl Tryz.call54 rfl (SpecN.spec (slices_Contains_str hl)) ?_)
 rintro _ rfl
 refine VO.ma rfl rfl rfl rfl ?_
 refine VO.nil ?_
 refine VC.ret ?_
 exact Exists.intro _ (And.intro (RetN.one Tryz.results209 (ResN.v rfl)) (rfl))
set_option maxRecDepth 100000 in
theorem setup_needed {x : ByteArray} {later : List (List ByteArray)} (hp : SmSS later) :
  SpecN Tryz.prog 171 [avS x, avM later] (fun y => y = avI (needF x later)) := by
 have hl := hp.1
 refine SpecN.of_VCN Tryz.func171 rfl Tryz.ntmps171 (Nle rfl) fun w A hB => ?_
 have hnew : True := trivial
 refine VC.sr ?_
 refine VO.op rfl (OpE.box rfl hB rfl rfl rfl ?_)
 intro g2
 refine VO.ma rfl rfl rfl rfl ?_
 refine VO.nil ?_
 refine VC.seq ?_
 refine VC.sr ?_
 refine VO.mv rfl rfl rfl rfl ?_
 refine VO.val rfl rfl (OpV.makeFunc1 rfl rfl) ?_
 refine VO.op rfl (OpE.callL rfl hB rfl Tryz.call115 (slices_IndexFunc_LL (p := fun l => has l x) hl Tryz.call209 (fun i hi => (setup_needed1 (hp.2 i).1).spec)) (ArgsP.cons (ArgP.ev rfl) (ArgsP.cons (ArgP.fn1 (i := 0) (m := 1) (f := fun _ => avS x) rfl rfl (Nle rfl) (lt1 rfl)) (ArgsP.nil))) ?_)
 rintro _ rfl
 refine VO.ma rfl rfl rfl rfl ?_
 refine VO.nil ?_
 refine VC.sr ?_
 refine VO.mv rfl rfl rfl rfl ?_
 refine VO.val rfl rfl (OpV.geq rfl rfl rfl) ?_
 refine VO.nil ?_
 refine VC.cond rfl (fun h0b => ?_) (fun h0b => ?_)
 ·have h0 := h0b
  try simp only [qqT, qqF, qqN, qqM, qqL, qqE] at h0
  refine VC.sr ?_
  refine VO.mv rfl rfl rfl rfl ?_
  refine VO.ma rfl rfl rfl rfl ?_
  refine VO.nil ?_
  refine VC.ret ?_
  exact Exists.intro _ (And.intro (RetN.one Tryz.results171 (ResN.v rfl)) (by first | rw [needF, if_pos h0] | rw [needF, if_neg (by omega)]))
 ·have h0 := h0b
  try simp only [qqT, qqF, qqN, qqM, qqL, qqE] at h0
  refine VC.skip ?_
  refine VC.sr ?_
  refine VO.mv rfl rfl rfl rfl ?_
  refine VO.val rfl rfl (OpV.len_im rfl Tryz.underlying27 rfl) ?_
  refine VO.ma rfl rfl rfl rfl ?_
  refine VO.nil ?_
  refine VC.ret ?_
  exact Exists.intro _ (And.intro (RetN.one Tryz.results171 (ResN.v rfl)) (by first | rw [needF, if_pos h0] | rw [needF, if_neg (by omega)]))
set_option maxRecDepth 100000 in
theorem setup_victim {s parts : List ByteArray} {later : List (List ByteArray)} (hs : s.length ≤ 1000000000) (hp : parts.length ≤ 1000000000) (hl : SmSS later) :
  SpecN Tryz.prog 128 [avStrs s, avStrs parts, avM later] (fun y => y = avI (vic s parts later s.length).1) := by
 have hll := hl.1
 refine SpecN.of_VCN Tryz.func128 rfl Tryz.ntmps128 (Nle rfl) fun w A hB => ?_
 have hnew : True := trivial
 refine VC.sr ?_
 refine VO.ma rfl rfl rfl rfl ?_
 refine VO.nil ?_
 refine VC.sr ?_
 refine VO.ma rfl rfl rfl rfl ?_
 refine VO.ma rfl rfl rfl rfl ?_
 refine VO.nil ?_
 refine VC.seq ?_
 refine VC.sr ?_
 refine VO.mv rfl rfl rfl rfl ?_
 refine VO.val rfl rfl (OpV.len_im rfl Tryz.underlying29 rfl) ?_
 refine VO.mv rfl rfl rfl rfl ?_
 refine VO.nil ?_
 refine VC.block ?_
 refine VC.loopK [(0, _), (1, _), (2, _), (12, _), (13, _)] ⟨rfl, rfl, rfl, rfl, rfl, trivial⟩ ({q : Nat // q ≤ s.length}) (fun (iZ : {q : Nat // q ≤ s.length}) => match iZ with | ⟨q, hq⟩ => [(7, avI (vic s parts later q).1), (8, avI (vic s parts later q).2), (14, avI (q : Int))]) (fun (iZ : {q : Nat // q ≤ s.length}) => match iZ with | ⟨q, hq⟩ => []) (fun (iZ : {q : Nat // q ≤ s.length}) => match iZ with | ⟨q, hq⟩ => 0) (fun (iZ : {q : Nat // q ≤ s.length}) => match iZ with | ⟨q, hq⟩ => s.length - q) ⟨0, Nat.zero_le _⟩ (Le.mk hB [] ⟨rfl, rfl, rfl, rfl, rfl, rfl, rfl, rfl, trivial⟩ rfl rfl (Nat.le_refl _)) ?_
 rintro ⟨q, hq⟩
 show VC _ _ _ _ ⟨[(7, avI (vic s parts later q).1), (8, avI (vic s parts later q).2), (14, avI (q : Int))] ++ [(0, _), (1, _), (2, _), (12, _), (13, _)], [], 0⟩
 refine VC.sr ?_
 refine VO.val rfl rfl (OpV.lss rfl rfl rfl) ?_
 refine VO.nil ?_
 refine VC.seq ?_
 refine VC.cond rfl (fun aH1b => ?_) (fun aH1b => ?_)
 ·have aH1 := aH1b
  try simp only [qqT, qqF, qqN, qqM, qqL, qqE] at aH1
  refine VC.skip ?_
  refine VC.seq ?_
  refine VC.block ?_
  refine VC.sr ?_
  refine VO.mv rfl rfl rfl rfl ?_
  refine VO.val rfl rfl (OpV.indexAddr_1 rfl Tryz.underlying29 Tryz.sizeOf9 rfl rfl rfl (by omega)) ?_
  refine VO.val rfl rfl (OpV.load_at rfl hB OutW.no Tryz.isAgg9 rfl rfl) ?_
  refine VO.ma rfl rfl rfl rfl ?_
  refine VO.ma rfl rfl rfl rfl ?_
  refine VO.nil ?_
  refine VC.seq ?_
  refine VC.sr ?_
  refine VO.mv rfl rfl rfl rfl ?_
  refine VO.mv rfl rfl rfl rfl ?_
  refine VO.op rfl (OpE.call rfl hB rfl Tryz.call54 rfl (SpecN.spec (slices_Contains_str hp)) ?_)
  rintro _ rfl
  refine VO.nil ?_
  refine VC.cond rfl (fun h1b => ?_) (fun h1b => ?_)
  ·have h1 := h1b
   try simp only [qqT, qqF, qqN, qqM, qqL, qqE] at h1
   refine VC.exit ?_
   refine VC.region ?_
   refine VO.val rfl rfl (OpV.add rfl rfl rfl (by unfold fits; omega)) ?_
   refine VO.mv rfl rfl rfl rfl ?_
   refine VO.nil ?_
   exact Exists.intro (⟨q + 1, by omega⟩) (And.intro (Le.mk hB [] ⟨(by dsimp only; first | (rw [vic_has h1]; rfl) | (rw [vic_new h1 (.inl (by assumption))]; rfl) | (rw [vic_new h1 (.inr ⟨by assumption, not_true_false h2b⟩)]; rfl) | (rw [vic_old (s := s) (parts := parts) (later := later) (q := q) h1 (by rintro (h8 | ⟨h8, h9⟩); exact absurd h8 (by omega); exact absurd (h9.symm.trans (not_false_true h2b)) Bool.false_ne_true)]; rfl) | (rw [vic_old (s := s) (parts := parts) (later := later) (q := q) h1 (by rintro (h8 | ⟨h8, h9⟩); omega; omega)]; rfl)), (by dsimp only; first | (rw [vic_has h1]; rfl) | (rw [vic_new h1 (.inl (by assumption))]; rfl) | (rw [vic_new h1 (.inr ⟨by assumption, not_true_false h2b⟩)]; rfl) | (rw [vic_old (s := s) (parts := parts) (later := later) (q := q) h1 (by rintro (h8 | ⟨h8, h9⟩); exact absurd h8 (by omega); exact absurd (h9.symm.trans (not_false_true h2b)) Bool.false_ne_true)]; rfl) | (rw [vic_old (s := s) (parts := parts) (later := later) (q := q) h1 (by rintro (h8 | ⟨h8, h9⟩); omega; omega)]; rfl)), rfl, rfl, rfl, rfl, rfl, rfl, trivial⟩ rfl rfl (Nat.le_refl _)) (by first | omega | (show _ < _; omega) | (simp only []; omega)))
  ·have h1 := h1b
   try simp only [qqT, qqF, qqN, qqM, qqL, qqE] at h1
   refine VC.skip ?_
   refine VC.sr ?_
   refine VO.mv rfl rfl rfl rfl ?_
   refine VO.mv rfl rfl rfl rfl ?_
   refine VO.op rfl (OpE.call rfl hB rfl Tryz.call171 rfl (SpecN.spec (setup_needed hl)) ?_)
   rintro _ rfl
   refine VO.ma rfl rfl rfl rfl ?_
   refine VO.nil ?_
   refine VC.sr ?_
   refine VO.mv rfl rfl rfl rfl ?_
   refine VO.mv rfl rfl rfl rfl ?_
   refine VO.val rfl rfl (OpV.gtr rfl rfl rfl) ?_
   refine VO.mv rfl rfl rfl rfl ?_
   refine VO.opG rfl rfl rfl rfl (fun aK2b => ?_) (fun aK2b => ?_)
   ·replace aK2b : _ = false := aK2b
    have aK2 := aK2b
    try simp only [qqT, qqF, qqN, qqM, qqL, qqE] at aK2
    refine OpE.val (W := NoB) (OpV.move (.inl rfl) rfl) rfl ?_
    refine VO.opY rfl rfl rfl rfl aK2b ?_
    refine OpE.val (W := NoB) (OpV.move (.inl rfl) rfl) rfl ?_
    refine VO.opY rfl rfl rfl rfl aK2b ?_
    refine OpE.val (W := NoB) (OpV.eql rfl rfl rfl) rfl ?_
    refine VO.opY rfl rfl rfl rfl aK2b ?_
    refine OpE.val (W := NoB) (OpV.move (.inl rfl) rfl) rfl ?_
    refine VO.opG rfl rfl rfl rfl (fun aK3b => ?_) (fun aK3b => ?_)
    ·replace aK3b : _ = true := aK3b
     have aK3 := aK3b
     try simp only [qqT, qqF, qqN, qqM, qqL, qqE] at aK3
     refine OpE.val (W := NoB) (OpV.move (.inl rfl) rfl) rfl ?_
     refine VO.opY rfl rfl rfl rfl aK3b ?_
     refine OpE.val (W := NoB) (OpV.move (.inl rfl) rfl) rfl ?_
     refine VO.opY rfl rfl rfl rfl aK3b ?_
     refine OpE.val (W := NoB) (OpV.move (.inl rfl) rfl) rfl ?_
     refine VO.opY rfl rfl rfl rfl aK3b ?_
     refine OpE.val (W := NoB) (OpV.indexAddr_1 rfl Tryz.underlying29 Tryz.sizeOf9 rfl rfl (Int.toNat_of_nonneg (vic_tie (by assumption)).1).symm (by have h7 := vic_tie (s := s) (parts := parts) (by assumption); omega)) rfl ?_
     refine VO.opY rfl rfl rfl rfl aK3b ?_
     refine OpE.val (W := NoB) (OpV.load_at rfl hB OutW.no Tryz.isAgg9 rfl rfl) rfl ?_
     refine VO.opY rfl rfl rfl rfl aK3b ?_
     refine OpE.val (W := NoB) (OpV.sgtr rfl rfl rfl) rfl ?_
     refine VO.opY rfl rfl rfl rfl aK2b ?_
     refine OpE.val (W := NoB) (OpV.pickT rfl rfl rfl rfl aK3b) rfl ?_
     refine VO.val rfl rfl (OpV.pickF rfl rfl rfl rfl aK2b) ?_
     refine VO.nil ?_
     refine VC.cond rfl (fun h2b => ?_) (fun h2b => ?_)
     ·have h2 := h2b
      try simp only [qqT, qqF, qqN, qqM, qqL, qqE] at h2
      refine VC.region ?_
      refine VO.mv rfl rfl rfl rfl ?_
      refine VO.mv rfl rfl rfl rfl ?_
      refine VO.ma rfl rfl rfl rfl ?_
      refine VO.ma rfl rfl rfl rfl ?_
      refine VO.nil ?_
      refine VC.region ?_
      refine VO.val rfl rfl (OpV.add rfl rfl rfl (by unfold fits; omega)) ?_
      refine VO.mv rfl rfl rfl rfl ?_
      refine VO.nil ?_
      exact Exists.intro (⟨q + 1, by omega⟩) (And.intro (Le.mk hB [] ⟨(by dsimp only; first | (rw [vic_has h1]; rfl) | (rw [vic_new h1 (.inl (by assumption))]; rfl) | (rw [vic_new h1 (.inr ⟨by assumption, not_true_false h2b⟩)]; rfl) | (rw [vic_old (s := s) (parts := parts) (later := later) (q := q) h1 (by rintro (h8 | ⟨h8, h9⟩); exact absurd h8 (by omega); exact absurd (h9.symm.trans (not_false_true h2b)) Bool.false_ne_true)]; rfl) | (rw [vic_old (s := s) (parts := parts) (later := later) (q := q) h1 (by rintro (h8 | ⟨h8, h9⟩); omega; omega)]; rfl)), (by dsimp only; first | (rw [vic_has h1]; rfl) | (rw [vic_new h1 (.inl (by assumption))]; rfl) | (rw [vic_new h1 (.inr ⟨by assumption, not_true_false h2b⟩)]; rfl) | (rw [vic_old (s := s) (parts := parts) (later := later) (q := q) h1 (by rintro (h8 | ⟨h8, h9⟩); exact absurd h8 (by omega); exact absurd (h9.symm.trans (not_false_true h2b)) Bool.false_ne_true)]; rfl) | (rw [vic_old (s := s) (parts := parts) (later := later) (q := q) h1 (by rintro (h8 | ⟨h8, h9⟩); omega; omega)]; rfl)), rfl, rfl, rfl, rfl, rfl, rfl, trivial⟩ rfl rfl (Nat.le_refl _)) (by first | omega | (show _ < _; omega) | (simp only []; omega)))
     ·have h2 := h2b
      try simp only [qqT, qqF, qqN, qqM, qqL, qqE] at h2
      refine VC.skip ?_
      refine VC.region ?_
      refine VO.val rfl rfl (OpV.add rfl rfl rfl (by unfold fits; omega)) ?_
      refine VO.mv rfl rfl rfl rfl ?_
      refine VO.nil ?_
      exact Exists.intro (⟨q + 1, by omega⟩) (And.intro (Le.mk hB [] ⟨(by dsimp only; first | (rw [vic_has h1]; rfl) | (rw [vic_new h1 (.inl (by assumption))]; rfl) | (rw [vic_new h1 (.inr ⟨by assumption, not_true_false h2b⟩)]; rfl) | (rw [vic_old (s := s) (parts := parts) (later := later) (q := q) h1 (by rintro (h8 | ⟨h8, h9⟩); exact absurd h8 (by omega); exact absurd (h9.symm.trans (not_false_true h2b)) Bool.false_ne_true)]; rfl) | (rw [vic_old (s := s) (parts := parts) (later := later) (q := q) h1 (by rintro (h8 | ⟨h8, h9⟩); omega; omega)]; rfl)), (by dsimp only; first | (rw [vic_has h1]; rfl) | (rw [vic_new h1 (.inl (by assumption))]; rfl) | (rw [vic_new h1 (.inr ⟨by assumption, not_true_false h2b⟩)]; rfl) | (rw [vic_old (s := s) (parts := parts) (later := later) (q := q) h1 (by rintro (h8 | ⟨h8, h9⟩); exact absurd h8 (by omega); exact absurd (h9.symm.trans (not_false_true h2b)) Bool.false_ne_true)]; rfl) | (rw [vic_old (s := s) (parts := parts) (later := later) (q := q) h1 (by rintro (h8 | ⟨h8, h9⟩); omega; omega)]; rfl)), rfl, rfl, rfl, rfl, rfl, rfl, trivial⟩ rfl rfl (Nat.le_refl _)) (by first | omega | (show _ < _; omega) | (simp only []; omega)))
    ·replace aK3b : _ = false := aK3b
     have aK3 := aK3b
     try simp only [qqT, qqF, qqN, qqM, qqL, qqE] at aK3
     refine VO.opX rfl rfl rfl rfl aK3b ?_
     refine VO.opX rfl rfl rfl rfl aK3b ?_
     refine VO.opX rfl rfl rfl rfl aK3b ?_
     refine VO.opX rfl rfl rfl rfl aK3b ?_
     refine VO.opX rfl rfl rfl rfl aK3b ?_
     refine VO.opY rfl rfl rfl rfl aK2b ?_
     refine OpE.val (W := NoB) (OpV.pickF rfl rfl rfl rfl aK3b) rfl ?_
     refine VO.val rfl rfl (OpV.pickF rfl rfl rfl rfl aK2b) ?_
     refine VO.nil ?_
     refine VC.condF rfl rfl ?_
     refine VC.skip ?_
     refine VC.region ?_
     refine VO.val rfl rfl (OpV.add rfl rfl rfl (by unfold fits; omega)) ?_
     refine VO.mv rfl rfl rfl rfl ?_
     refine VO.nil ?_
     exact Exists.intro (⟨q + 1, by omega⟩) (And.intro (Le.mk hB [] ⟨(by dsimp only; first | (rw [vic_has h1]; rfl) | (rw [vic_new h1 (.inl (by assumption))]; rfl) | (rw [vic_new h1 (.inr ⟨by assumption, not_true_false h2b⟩)]; rfl) | (rw [vic_old (s := s) (parts := parts) (later := later) (q := q) h1 (by rintro (h8 | ⟨h8, h9⟩); exact absurd h8 (by omega); exact absurd (h9.symm.trans (not_false_true h2b)) Bool.false_ne_true)]; rfl) | (rw [vic_old (s := s) (parts := parts) (later := later) (q := q) h1 (by rintro (h8 | ⟨h8, h9⟩); omega; omega)]; rfl)), (by dsimp only; first | (rw [vic_has h1]; rfl) | (rw [vic_new h1 (.inl (by assumption))]; rfl) | (rw [vic_new h1 (.inr ⟨by assumption, not_true_false h2b⟩)]; rfl) | (rw [vic_old (s := s) (parts := parts) (later := later) (q := q) h1 (by rintro (h8 | ⟨h8, h9⟩); exact absurd h8 (by omega); exact absurd (h9.symm.trans (not_false_true h2b)) Bool.false_ne_true)]; rfl) | (rw [vic_old (s := s) (parts := parts) (later := later) (q := q) h1 (by rintro (h8 | ⟨h8, h9⟩); omega; omega)]; rfl)), rfl, rfl, rfl, rfl, rfl, rfl, trivial⟩ rfl rfl (Nat.le_refl _)) (by first | omega | (show _ < _; omega) | (simp only []; omega)))
   ·replace aK2b : _ = true := aK2b
    have aK2 := aK2b
    try simp only [qqT, qqF, qqN, qqM, qqL, qqE] at aK2
    refine VO.opX rfl rfl rfl rfl aK2b ?_
    refine VO.opX rfl rfl rfl rfl aK2b ?_
    refine VO.opX rfl rfl rfl rfl aK2b ?_
    refine VO.opU rfl rfl rfl rfl ?_
    refine VO.opU rfl rfl rfl rfl ?_
    refine VO.opU rfl rfl rfl rfl ?_
    refine VO.opU rfl rfl rfl rfl ?_
    refine VO.opU rfl rfl rfl rfl ?_
    refine VO.opU rfl rfl rfl rfl ?_
    refine VO.opX rfl rfl rfl rfl aK2b ?_
    refine VO.val rfl rfl (OpV.pickT rfl rfl rfl rfl aK2b) ?_
    refine VO.nil ?_
    refine VC.condT rfl rfl ?_
    refine VC.region ?_
    refine VO.mv rfl rfl rfl rfl ?_
    refine VO.mv rfl rfl rfl rfl ?_
    refine VO.ma rfl rfl rfl rfl ?_
    refine VO.ma rfl rfl rfl rfl ?_
    refine VO.nil ?_
    refine VC.region ?_
    refine VO.val rfl rfl (OpV.add rfl rfl rfl (by unfold fits; omega)) ?_
    refine VO.mv rfl rfl rfl rfl ?_
    refine VO.nil ?_
    exact Exists.intro (⟨q + 1, by omega⟩) (And.intro (Le.mk hB [] ⟨(by dsimp only; first | (rw [vic_has h1]; rfl) | (rw [vic_new h1 (.inl (by assumption))]; rfl) | (rw [vic_new h1 (.inr ⟨by assumption, not_true_false h2b⟩)]; rfl) | (rw [vic_old (s := s) (parts := parts) (later := later) (q := q) h1 (by rintro (h8 | ⟨h8, h9⟩); exact absurd h8 (by omega); exact absurd (h9.symm.trans (not_false_true h2b)) Bool.false_ne_true)]; rfl) | (rw [vic_old (s := s) (parts := parts) (later := later) (q := q) h1 (by rintro (h8 | ⟨h8, h9⟩); omega; omega)]; rfl)), (by dsimp only; first | (rw [vic_has h1]; rfl) | (rw [vic_new h1 (.inl (by assumption))]; rfl) | (rw [vic_new h1 (.inr ⟨by assumption, not_true_false h2b⟩)]; rfl) | (rw [vic_old (s := s) (parts := parts) (later := later) (q := q) h1 (by rintro (h8 | ⟨h8, h9⟩); exact absurd h8 (by omega); exact absurd (h9.symm.trans (not_false_true h2b)) Bool.false_ne_true)]; rfl) | (rw [vic_old (s := s) (parts := parts) (later := later) (q := q) h1 (by rintro (h8 | ⟨h8, h9⟩); omega; omega)]; rfl)), rfl, rfl, rfl, rfl, rfl, rfl, trivial⟩ rfl rfl (Nat.le_refl _)) (by first | omega | (show _ < _; omega) | (simp only []; omega)))
 ·have aH1 := aH1b
  try simp only [qqT, qqF, qqN, qqM, qqL, qqE] at aH1
  refine VC.exit ?_
  refine VC.sr ?_
  refine VO.mv rfl rfl rfl rfl ?_
  refine VO.ma rfl rfl rfl rfl ?_
  refine VO.nil ?_
  refine VC.ret ?_
  exact Exists.intro _ (And.intro (RetN.one Tryz.results128 (ResN.v rfl)) (by rw [show q = s.length by omega]))
end Go.Proofs.YtbbgjeiefmiblaaGreatDoor
namespace Go.Proofs.YtbbgjeiefmiblaaGreatDoor
open Go.RowKit
set_option linter.unusedVariables false
set_option linter.unusedSimpArgs false
set_option maxRecDepth 100000 in
theorem setup_next {s parts : List ByteArray} {later : List (List ByteArray)} {u : Value} (hg : Good' s) (hp : RightP s.length parts) (hl : SmSS later) :
  SpecH Tryz.prog 85 [.v u, avStrs parts, avM later] [.row u s.length 1 (strsL s) 9] (fun y hp' => y = avI (missF s parts).length ∧ hp' = [.row u s.length 1 (strsL (nextF s parts later)) 9]) := by
 have hls := hg.len
 have hlp := hp.len
 have hps := hp.sms (by omega)
 have hml := missF_len s parts
 have hf := hp.fits hg.once
 have hnd := missF_nodup (s := s) hf.pnd
 have hns : ∀ x ∈ missF s parts, x ∉ s := fun x hx => (missF_mem.1 hx).2
 refine SpecH.of_VC Tryz.func85 rfl Tryz.ntmps85 (Nle rfl) fun w A hB => ?_
 have hnew : True := trivial
 refine VC.sr ?_
 refine VO.ma rfl rfl rfl rfl ?_
 refine VO.nil ?_
 refine VC.sr ?_
 refine VO.mv rfl rfl rfl rfl ?_
 refine VO.mv rfl rfl rfl rfl ?_
 refine VO.op rfl (OpE.callL rfl hB rfl Tryz.call87 (setup_missing_N hg.sms hps) (ArgsP.cons (ArgP.rowS (i := 0) rfl rfl rfl) (ArgsP.cons (ArgP.ev rfl) (ArgsP.nil))) ?_)
 rintro _ rfl
 refine VO.ma rfl rfl rfl rfl ?_
 refine VO.nil ?_
 refine VC.seq ?_
 refine VC.sr ?_
 refine VO.mv rfl rfl rfl rfl ?_
 refine VO.val rfl rfl (OpV.len_im rfl Tryz.underlying29 rfl) ?_
 refine VO.mv rfl rfl rfl rfl ?_
 refine VO.nil ?_
 refine VC.block ?_
 refine VC.loopK [(0, _), (1, _), (2, _), (7, _), (14, _), (15, _)] ⟨rfl, rfl, rfl, rfl, rfl, rfl, trivial⟩ ({q : Nat // q ≤ (missF s parts).length}) (fun (iZ : {q : Nat // q ≤ (missF s parts).length}) => match iZ with | ⟨q, hq⟩ => [(16, avI (q : Int))]) (fun (iZ : {q : Nat // q ≤ (missF s parts).length}) => match iZ with | ⟨q, hq⟩ => [.row u s.length 1 (strsL (nextL parts later s ((missF s parts).take q))) 9]) (fun (iZ : {q : Nat // q ≤ (missF s parts).length}) => match iZ with | ⟨q, hq⟩ => 0) (fun (iZ : {q : Nat // q ≤ (missF s parts).length}) => match iZ with | ⟨q, hq⟩ => (missF s parts).length - q) ⟨0, Nat.zero_le _⟩ (Le.mk hB [0] ⟨rfl, rfl, rfl, rfl, rfl, rfl, rfl, trivial⟩ rfl rfl (Nat.le_refl _)) ?_
 rintro ⟨q, hq⟩
 show VC _ _ _ _ ⟨[(16, avI (q : Int))] ++ [(0, _), (1, _), (2, _), (7, _), (14, _), (15, _)], [.row u s.length 1 (strsL (nextL parts later s ((missF s parts).take q))) 9], 0⟩
 refine VC.sr ?_
 refine VO.val rfl rfl (OpV.lss rfl rfl rfl) ?_
 refine VO.nil ?_
 refine VC.seq ?_
 refine VC.cond rfl (fun aH1b => ?_) (fun aH1b => ?_)
 ·have aH1 := aH1b
  try simp only [qqT, qqF, qqN, qqM, qqL, qqE] at aH1
  have hq' : q < (missF s parts).length := by omega
  have hcur := hg.next hp later q (by omega)
  have hcl : (nextL parts later s ((missF s parts).take q)).length = s.length := nextL_len _ _ _ _
  have hx := nextL_not (parts := parts) (later := later) hnd hns hq'
  have hxp : (missF s parts).getD q ByteArray.empty ∈ parts := (missF_mem.1 (by simp [hq'] : (missF s parts).getD q ByteArray.empty ∈ missF s parts)).1
  obtain ⟨k1, k2, k3⟩ := slotF_in (later := later) (nextL_fits (later := later) hf hnd hns q (by omega)) hxp hx
  rw [hcl] at k2
  refine VC.asBox (i := 0) rfl (by omega) (fun g cap hu hcap hmx => ?_)
  subst hu
  refine VC.skip ?_
  refine VC.seq ?_
  refine VC.block ?_
  refine VC.sr ?_
  refine VO.val rfl rfl (OpV.indexAddr_1 rfl Tryz.underlying29 Tryz.sizeOf9 rfl rfl rfl (by omega)) ?_
  refine VO.val rfl rfl (OpV.load_at rfl hB OutW.no Tryz.isAgg9 rfl rfl) ?_
  refine VO.ma rfl rfl rfl rfl ?_
  refine VO.nil ?_
  refine VC.sr ?_
  refine VO.mv rfl rfl rfl rfl ?_
  refine VO.op rfl (OpE.callL rfl hB rfl Tryz.call109 (slices_Index_str (by rw [hcl]; omega)) (ArgsP.cons (ArgP.boxS (i := 0) rfl rfl hcl.symm hcap hmx) (ArgsP.cons (ArgP.ev rfl) (ArgsP.nil))) ?_)
  rintro _ rfl
  refine VO.ma rfl rfl rfl rfl ?_
  refine VO.nil ?_
  refine VC.seq ?_
  refine VC.sr ?_
  refine VO.mv rfl rfl rfl rfl ?_
  refine VO.val rfl rfl (OpV.lss rfl rfl rfl) ?_
  refine VO.nil ?_
  refine VC.cond rfl (fun h1b => ?_) (fun h1b => ?_)
  ·have h1 := h1b
   try simp only [qqT, qqF, qqN, qqM, qqL, qqE] at h1
   have hsl := slotF_of_neg (parts := parts) (later := later) h1
   rw [hsl] at k1 k2 k3
   refine VC.region ?_
   refine VO.mv rfl rfl rfl rfl ?_
   refine VO.mv rfl rfl rfl rfl ?_
   refine VO.mv rfl rfl rfl rfl ?_
   refine VO.op rfl (OpE.callL rfl hB rfl Tryz.call128 (setup_victim (by rw [hcl]; omega) hps.1 hl) (ArgsP.cons (ArgP.boxS (i := 0) rfl rfl hcl.symm hcap hmx) (ArgsP.cons (ArgP.ev rfl) (ArgsP.cons (ArgP.ev rfl) (ArgsP.nil)))) ?_)
   rintro _ rfl
   refine VO.ma rfl rfl rfl rfl ?_
   refine VO.nil ?_
   refine VC.region ?_
   refine VO.mv rfl rfl rfl rfl ?_
   refine VO.mv rfl rfl rfl rfl ?_
   refine VO.mv rfl rfl rfl rfl ?_
   refine VO.val rfl rfl (OpV.indexAddr_o rfl Tryz.underlying29 Tryz.sizeOf9 rfl rfl (Int.toNat_of_nonneg k1).symm (by omega)) ?_
   refine VO.op rfl (OpE.store1 (i := 0) rfl hB rfl Tryz.sizeOf9 rfl rfl rfl rfl rfl rfl (by rw [strsL_len]; omega) (strsL_set _ _ _) trivial ?_)
   refine VO.nil ?_
   refine VC.le _ (Le.boxRow (i := 0) (n := s.length) (sz := 1) (cap := cap) rfl (by rw [strsL_len, List.length_set]; omega) hcap hmx) ?_
   have e1 := nextL_take_succ (parts := parts) (later := later) (s := s) hq'
   rw [hsl] at e1
   refine VC.region ?_
   refine VO.val rfl rfl (OpV.add rfl rfl rfl (by unfold fits; omega)) ?_
   refine VO.mv rfl rfl rfl rfl ?_
   refine VO.nil ?_
   exact Exists.intro (⟨q + 1, by omega⟩) (And.intro (Le.mk hB [0] ⟨rfl, rfl, rfl, rfl, rfl, rfl, rfl, trivial⟩ rfl (by dsimp only; rw [e1]; first | rfl | (rw [hcl]; rfl)) (Nat.le_refl _)) (by first | omega | (show _ < _; omega) | (simp only []; omega)))
  ·have h1 := h1b
   try simp only [qqT, qqF, qqN, qqM, qqL, qqE] at h1
   have hsl := slotF_of_pos (parts := parts) (later := later) h1
   rw [hsl] at k1 k2 k3
   refine VC.skip ?_
   refine VC.region ?_
   refine VO.mv rfl rfl rfl rfl ?_
   refine VO.mv rfl rfl rfl rfl ?_
   refine VO.mv rfl rfl rfl rfl ?_
   refine VO.val rfl rfl (OpV.indexAddr_o rfl Tryz.underlying29 Tryz.sizeOf9 rfl rfl (Int.toNat_of_nonneg k1).symm (by omega)) ?_
   refine VO.op rfl (OpE.store1 (i := 0) rfl hB rfl Tryz.sizeOf9 rfl rfl rfl rfl rfl rfl (by rw [strsL_len]; omega) (strsL_set _ _ _) trivial ?_)
   refine VO.nil ?_
   refine VC.le _ (Le.boxRow (i := 0) (n := s.length) (sz := 1) (cap := cap) rfl (by rw [strsL_len, List.length_set]; omega) hcap hmx) ?_
   have e1 := nextL_take_succ (parts := parts) (later := later) (s := s) hq'
   rw [hsl] at e1
   refine VC.region ?_
   refine VO.val rfl rfl (OpV.add rfl rfl rfl (by unfold fits; omega)) ?_
   refine VO.mv rfl rfl rfl rfl ?_
   refine VO.nil ?_
   exact Exists.intro (⟨q + 1, by omega⟩) (And.intro (Le.mk hB [0] ⟨rfl, rfl, rfl, rfl, rfl, rfl, rfl, trivial⟩ rfl (by dsimp only; rw [e1]; first | rfl | (rw [hcl]; rfl)) (Nat.le_refl _)) (by first | omega | (show _ < _; omega) | (simp only []; omega)))
 ·have aH1 := aH1b
  try simp only [qqT, qqF, qqN, qqM, qqL, qqE] at aH1
  obtain rfl : q = (missF s parts).length := by omega
  refine VC.exit ?_
  refine VC.sr ?_
  refine VO.mv rfl rfl rfl rfl ?_
  refine VO.val rfl rfl (OpV.len_im rfl Tryz.underlying29 rfl) ?_
  refine VO.ma rfl rfl rfl rfl ?_
  refine VO.nil ?_
  refine VC.ret ?_
  exact Exists.intro _ (And.intro (RetV.one Tryz.results85 (ResV.tmp rfl)) (⟨rfl, by rw [nextF, List.take_length]; rfl⟩))
theorem SmSS.drop {p : List (List ByteArray)} (h : SmSS p) (k : Nat) : SmSS (p.drop k) := ⟨by have := h.1; simp; omega, fun i => by
 have : (p.drop k).getD i default = p.getD (k + i) default := by simp [List.getD_eq_getElem?_getD]
 rw [this]; exact h.2 _⟩
theorem SmSS.take {p : List (List ByteArray)} (h : SmSS p) (k : Nat) : SmSS (p.take k) := ⟨by have := h.1; simp; omega, fun i => by
 by_cases hi : i < k
 ·have : (p.take k).getD i default = p.getD i default := by simp [List.getD_eq_getElem?_getD, List.getElem?_take, hi]
  rw [this]; exact h.2 _
 ·have : (p.take k).getD i default = default := by simp [List.getD_eq_getElem?_getD, List.getElem?_take, hi]
  rw [this]; exact SmS.nil⟩
set_option maxRecDepth 100000 in
theorem setup_total {s : List ByteArray} {p : List (List ByteArray)} {most : Int} (hg : Good' s) (hp : ∀ q, q < p.length → RightP s.length (p.getD q default)) (hl : SmSS p) (hl2 : p.length ≤ 200) (hmost : -1000000 ≤ most ∧ most ≤ 1000000) :
  SpecN Tryz.prog 90 [avStrs s, avM p, avI most] (fun y => y = avI (totalF s p most)) := by
 have hls := hg.len
 refine SpecN.of_VCN Tryz.func90 rfl Tryz.ntmps90 (Nle rfl) fun w A hB => ?_
 have hnew : True := trivial
 refine VC.sr ?_
 refine VO.ma rfl rfl rfl rfl ?_
 refine VO.nil ?_
 refine VC.sr ?_
 refine VO.mv rfl rfl rfl rfl ?_
 refine VO.op rfl (OpE.callR rfl hB rfl Tryz.call52 (slices_CloneS_R (by omega)) (ArgsP.cons (ArgP.ev rfl) (ArgsP.nil)) ?_)
 intro u
 refine VO.ma rfl rfl rfl rfl ?_
 refine VO.nil ?_
 refine VC.sr ?_
 refine VO.ma rfl rfl rfl rfl ?_
 refine VO.nil ?_
 refine VC.seq ?_
 refine VC.sr ?_
 refine VO.mv rfl rfl rfl rfl ?_
 refine VO.val rfl rfl (OpV.len_im rfl Tryz.underlying27 rfl) ?_
 refine VO.mv rfl rfl rfl rfl ?_
 refine VO.nil ?_
 refine VC.block ?_
 refine VC.loopK [(0, _), (1, _), (2, _), (12, _), (13, _)] ⟨rfl, rfl, rfl, rfl, rfl, trivial⟩ ({q : Nat // q ≤ p.length ∧ (q = 0 ∨ totF s p q < most)}) (fun (iZ : {q : Nat // q ≤ p.length ∧ (q = 0 ∨ totF s p q < most)}) => match iZ with | ⟨q, hq, hlt⟩ => [(7, avI (totF s p q)), (14, avI (q : Int))]) (fun (iZ : {q : Nat // q ≤ p.length ∧ (q = 0 ∨ totF s p q < most)}) => match iZ with | ⟨q, hq, hlt⟩ => [.row u (stF s p q).length 1 (strsL (stF s p q)) 9]) (fun (iZ : {q : Nat // q ≤ p.length ∧ (q = 0 ∨ totF s p q < most)}) => match iZ with | ⟨q, hq, hlt⟩ => 0) (fun (iZ : {q : Nat // q ≤ p.length ∧ (q = 0 ∨ totF s p q < most)}) => match iZ with | ⟨q, hq, hlt⟩ => p.length - q) ⟨0, Nat.zero_le _, .inl rfl⟩ (Le.mk hB [0] ⟨rfl, rfl, rfl, rfl, rfl, rfl, rfl, trivial⟩ rfl rfl (Nat.le_refl _)) ?_
 rintro ⟨q, hq, hlt⟩
 show VC _ _ _ _ ⟨[(7, avI (totF s p q)), (14, avI (q : Int))] ++ [(0, _), (1, _), (2, _), (12, _), (13, _)], [.row u (stF s p q).length 1 (strsL (stF s p q)) 9], 0⟩
 refine VC.sr ?_
 refine VO.val rfl rfl (OpV.lss rfl rfl rfl) ?_
 refine VO.nil ?_
 refine VC.seq ?_
 refine VC.cond rfl (fun aH1b => ?_) (fun aH1b => ?_)
 ·have aH1 := aH1b
  try simp only [qqT, qqF, qqN, qqM, qqL, qqE] at aH1
  have hst := stF_good hg hp q (by omega)
  have hsl := stF_len s p q
  have hti := totF_in hls hp q (by omega)
  have hms := missF_len (stF s p q) (p.getD q default)
  have hpl := (hp q (by omega)).len
  refine VC.skip ?_
  refine VC.seq ?_
  refine VC.block ?_
  refine VC.sr ?_
  refine VO.mv rfl rfl rfl rfl ?_
  refine VO.val rfl rfl (OpV.indexAddr_1 rfl Tryz.underlying27 Tryz.sizeOf29 rfl rfl rfl (by omega)) ?_
  refine VO.val rfl rfl (OpV.load_at rfl hB OutW.no Tryz.isAgg29 rfl rfl) ?_
  refine VO.ma rfl rfl rfl rfl ?_
  refine VO.ma rfl rfl rfl rfl ?_
  refine VO.nil ?_
  refine VC.sr ?_
  refine VO.mv rfl rfl rfl rfl ?_
  refine VO.mv rfl rfl rfl rfl ?_
  refine VO.mv rfl rfl rfl rfl ?_
  refine VO.mv rfl rfl rfl rfl ?_
  refine VO.mv rfl rfl rfl rfl ?_
  refine VO.val rfl rfl (OpV.add rfl rfl rfl (by unfold fits; omega)) ?_
  refine VO.val rfl rfl (OpV.slice_M (l := q + 1) rfl Tryz.underlying27 Tryz.sizeOf29 rfl ⟨_, _, rfl, (by omega)⟩ rfl (by omega) (by omega)) ?_
  refine VO.op rfl (OpE.callH0 rfl hB rfl Tryz.call85 rfl rfl (setup_next hst (by rw [hsl]; exact hp q (by omega)) ((hl.take _).drop _)) (List.Perm.refl _) (fun _ _ => trivial) ?_)
  rintro _ _ ⟨rfl, rfl⟩
  refine VO.val rfl rfl (OpV.add rfl rfl rfl (by unfold fits; omega)) ?_
  refine VO.ma rfl rfl rfl rfl ?_
  refine VO.nil ?_
  refine VC.sr ?_
  refine VO.mv rfl rfl rfl rfl ?_
  refine VO.mv rfl rfl rfl rfl ?_
  refine VO.val rfl rfl (OpV.geq rfl rfl rfl) ?_
  refine VO.nil ?_
  refine VC.cond rfl (fun h1b => ?_) (fun h1b => ?_)
  ·have h1 := h1b
   try simp only [qqT, qqF, qqN, qqM, qqL, qqE] at h1
   have hmono := totF_mono (s := s) (p := p) (a := q + 1) (b := p.length) (by omega)
   have h1' : most ≤ totF s p (q + 1) := h1
   refine VC.sr ?_
   refine VO.mv rfl rfl rfl rfl ?_
   refine VO.ma rfl rfl rfl rfl ?_
   refine VO.nil ?_
   refine VC.ret ?_
   exact Exists.intro _ (And.intro (RetN.one Tryz.results90 (ResN.v rfl)) (by rw [totalF, if_neg (by omega), if_pos (by omega)]))
  ·have h1 := h1b
   try simp only [qqT, qqF, qqN, qqM, qqL, qqE] at h1
   refine VC.skip ?_
   refine VC.region ?_
   refine VO.val rfl rfl (OpV.add rfl rfl rfl (by unfold fits; omega)) ?_
   refine VO.mv rfl rfl rfl rfl ?_
   refine VO.nil ?_
   exact Exists.intro (⟨q + 1, by omega, .inr h1⟩) (And.intro (Le.mk hB [0] ⟨rfl, rfl, rfl, rfl, rfl, rfl, rfl, trivial⟩ rfl (by dsimp only; rw [List.take_length, show (stF s p (q + 1)).length = (stF s p q).length by rw [stF_len, stF_len]]; rfl) (Nat.le_refl _)) (by first | omega | (show _ < _; omega) | (simp only []; omega)))
 ·have aH1 := aH1b
  try simp only [qqT, qqF, qqN, qqM, qqL, qqE] at aH1
  obtain rfl : q = p.length := by omega
  refine VC.exit ?_
  refine VC.sr ?_
  refine VO.mv rfl rfl rfl rfl ?_
  refine VO.ma rfl rfl rfl rfl ?_
  refine VO.nil ?_
  refine VC.ret ?_
  exact Exists.intro _ (And.intro (RetN.one Tryz.results90 (ResN.v rfl)) (by rw [totalF]; split; (rw [show p.length = 0 by assumption]; rfl); rw [if_neg (by omega)]))
def totE (s : List ByteArray) (p : List (List ByteArray)) : Int := if setsF s p = 0 then totF s p p.length else 0
theorem setsF_zero {s : List ByteArray} {p : List (List ByteArray)} (h : setsF s p = 0) : setupF s = 0 ∧ Good' s ∧ p.length ≤ 200 ∧ (∀ q, q < p.length → RightP s.length (p.getD q default)) ∧ partsF s.length p = 0 := by
 rw [setsF] at h
 split at h
 ·rename_i h1; exact absurd h h1
 ·rename_i h1
  have h0 : setupF s = 0 := by omega
  exact ⟨h0, Good'.of h0, (partsF_zero h).2.1, fun q hq => RightP.of rfl h hq, h⟩
theorem totalF_big {s : List ByteArray} {p : List (List ByteArray)} (hs : s.length ≤ 100) (hl : p.length ≤ 200) (hp : ∀ q, q < p.length → RightP s.length (p.getD q default)) : totalF s p 20001 = totF s p p.length := by
 have := totF_in hs hp p.length (Nat.le_refl _)
 rw [totalF]
 split
 ·rename_i h; rw [h]; rfl
 ·rw [if_neg (by omega)]
set_option maxRecDepth 100000 in
theorem setup_Total {s : List ByteArray} {p : List (List ByteArray)} (hs : SmS s) (hl : SmSS p) :
  SpecN Tryz.prog 82 [avStrs s, avM p] (fun y => y = .tup [avI (totE s p), avI (setsF s p)]) := by
 refine SpecN.of_VCN Tryz.func82 rfl Tryz.ntmps82 (Nle rfl) fun w A hB => ?_
 have hnew : True := trivial
 refine VC.sr ?_
 refine VO.ma rfl rfl rfl rfl ?_
 refine VO.ma rfl rfl rfl rfl ?_
 refine VO.nil ?_
 refine VC.seq ?_
 refine VC.sr ?_
 refine VO.mv rfl rfl rfl rfl ?_
 refine VO.mv rfl rfl rfl rfl ?_
 refine VO.op rfl (OpE.call rfl hB rfl Tryz.call86 rfl (SpecN.spec (setup_fault hs hl)) ?_)
 rintro _ rfl
 refine VO.ma rfl rfl rfl rfl ?_
 refine VO.nil ?_
 refine VC.sr ?_
 refine VO.mv rfl rfl rfl rfl ?_
 refine VO.val rfl rfl (OpV.neq rfl rfl rfl) ?_
 refine VO.nil ?_
 refine VC.cond rfl (fun h0b => ?_) (fun h0b => ?_)
 ·have h0 := h0b
  try simp only [qqT, qqF, qqN, qqM, qqL, qqE] at h0
  refine VC.sr ?_
  refine VO.mv rfl rfl rfl rfl ?_
  refine VO.ma rfl rfl rfl rfl ?_
  refine VO.ma rfl rfl rfl rfl ?_
  refine VO.nil ?_
  refine VC.ret ?_
  exact Exists.intro _ (And.intro (RetN.two Tryz.results82 (ResN.v rfl) (ResN.v rfl)) (by rw [totE, if_neg h0]))
 ·have h0 := h0b
  try simp only [qqT, qqF, qqN, qqM, qqL, qqE] at h0
  obtain ⟨z1, z2, z3, z4, z5⟩ := setsF_zero (s := s) (p := p) (by omega)
  refine VC.skip ?_
  refine VC.sr ?_
  refine VO.mv rfl rfl rfl rfl ?_
  refine VO.mv rfl rfl rfl rfl ?_
  refine VO.op rfl (OpE.call rfl hB rfl Tryz.call90 rfl (SpecN.spec (setup_total z2 z4 hl z3 (by decide))) ?_)
  rintro _ rfl
  refine VO.ma rfl rfl rfl rfl ?_
  refine VO.ma rfl rfl rfl rfl ?_
  refine VO.nil ?_
  refine VC.ret ?_
  exact Exists.intro _ (And.intro (RetN.two Tryz.results82 (ResN.v rfl) (ResN.v rfl)) (by rw [totE, if_pos (by omega), totalF_big z2.len z3 z4, show setsF s p = 0 by omega]))
end Go.Proofs.YtbbgjeiefmiblaaGreatDoor
namespace Go.Proofs.YtbbgjeiefmiblaaGreatDoor
open Go.RowKit
set_option linter.unusedVariables false
set_option linter.unusedSimpArgs false
def errsF (xs : List Int) : Int := match xs.find? (fun x => decide (x ≠ 0)) with | some x => x | none => 0
theorem errsF_at {xs : List Int} {q : Nat} (hq : q < xs.length) (hn : ∀ j, j < q → xs.getD j 0 = 0) (h : xs.getD q 0 ≠ 0) : errsF xs = xs.getD q 0 := by
 induction xs generalizing q with
 | nil => simp at hq
 | cons x r ih =>
  cases q with
  | zero => simp at h; simp [errsF, h]
  | succ q =>
   have h0 := hn 0 (by omega)
   simp at h0
   have := ih (q := q) (by simpa using hq) (fun j hj => by simpa using hn (j + 1) (by omega)) (by simpa using h)
   simpa [errsF, h0] using this
theorem errsF_none {xs : List Int} (hn : ∀ j, j < xs.length → xs.getD j 0 = 0) : errsF xs = 0 := by
 induction xs with
 | nil => rfl
 | cons x r ih =>
  have h0 := hn 0 (by simp)
  simp at h0
  have := ih (fun j hj => by simpa using hn (j + 1) (by simpa using hj))
  simpa [errsF, h0] using this
theorem Le.lits {B : Bs} {s : St'} {t n : Nat} {xs : List Int} (hn : n = xs.length) (ht : look s.sl t = some (.im n 1 fun j => (intsL xs).getD j .any)) : Le B s ⟨(t, avInts xs) :: s.sl, s.hp, s.k⟩ := Le.recast ht fun w Z u h => Rep.ints hn h
end Go.Proofs.YtbbgjeiefmiblaaGreatDoor
namespace Go.Proofs.YtbbgjeiefmiblaaGreatDoor
open Go.RowKit
set_option linter.unusedVariables false
set_option linter.unusedSimpArgs false
def loadS : List ByteArray := [ε]
def loadP : List (List ByteArray) := [[⟨#[97]⟩], [⟨#[98]⟩]]
theorem load_sms : SmS loadS := ⟨by decide, fun i => by cases i with | zero => decide | succ i => simp [loadS]⟩
theorem load_smss : SmSS loadP := ⟨by decide, fun i => by
 match i with
 | 0 => exact ⟨by decide, fun i => by cases i with | zero => decide | succ i => simp [loadP]⟩
 | 1 => exact ⟨by decide, fun i => by cases i with | zero => decide | succ i => simp [loadP]⟩
 | i + 2 => exact SmS.nil⟩
theorem load_ok : setsF loadS loadP = 0 := by decide +kernel
theorem load_two : totE loadS loadP = 2 := by decide +kernel
end Go.Proofs.YtbbgjeiefmiblaaGreatDoor
namespace Go.Proofs.YtbbgjeiefmiblaaGreatDoor
open Go.RowKit
set_option linter.unusedVariables false
set_option linter.unusedSimpArgs false

section
variable {s parts : List ByteArray} {later : List (List ByteArray)}
end
def stsF (s : List ByteArray) (p : List (List ByteArray)) (q : Nat) : List (List ByteArray) := (List.range q).map fun j => stF s p (j + 1)
theorem stsF_len (s : List ByteArray) (p : List (List ByteArray)) (q : Nat) : (stsF s p q).length = q := by simp [stsF]
theorem stsF_succ (s : List ByteArray) (p : List (List ByteArray)) (q : Nat) : stsF s p (q + 1) = stsF s p q ++ [stF s p (q + 1)] := by simp [stsF, List.range_succ]
end Go.Proofs.YtbbgjeiefmiblaaGreatDoor
namespace Go.Proofs.YtbbgjeiefmiblaaGreatDoor
open Go.RowKit
set_option linter.unusedVariables false
set_option linter.unusedSimpArgs false

theorem Le.erase {B : Bs} {s : St'} (i : Nat) : Le B s ⟨s.sl, s.hp.eraseIdx i, s.k⟩ := fun a w hr => hr.erase i
set_option maxRecDepth 100000 in
theorem slices_CloneM {xs : List (List ByteArray)} (hl : xs.length ≤ 1000000000) :
  SpecH Tryz.prog 84 [avM xs] [] (fun y hp' => ∃ u, y = .v u ∧ hp' = [.row u (xs.length) (1) (listM xs) (29)]) := by
 refine SpecH.of_VC Tryz.func84 rfl Tryz.ntmps84 (Nle rfl) fun w A hB => ?_
 have hnew : True := trivial
 refine VC.sr ?_
 refine VO.ma rfl rfl rfl rfl ?_
 refine VO.nil ?_
 refine VC.seq ?_
 refine VC.sr ?_
 refine VO.mv rfl rfl rfl rfl ?_
 refine VO.op rfl (OpE.eqNil rfl rfl Tryz.underlying27 rfl ?_)
 intro b4 hb4
 refine VO.nil ?_
 refine VC.cond rfl (fun h0b => ?_) (fun h0b => ?_)
 ·have h0 := h0b
  try simp only [qqT, qqF, qqN, qqM, qqL, qqE] at h0
  refine VC.sr ?_
  refine VO.ma rfl rfl rfl rfl ?_
  refine VO.nil ?_
  obtain rfl : xs = [] := List.eq_nil_of_length_eq_zero (hb4 h0)
  refine VC.le _ (Le.nilRow 1 29) ?_
  refine VC.le ⟨[(2, _)], [_], 0⟩ (Le.pick hB [0] ⟨rfl, trivial⟩ rfl rfl (Nat.le_refl _)) ?_
  refine VC.ret ?_
  exact Exists.intro _ (And.intro (RetV.one Tryz.results84 (ResV.tmp rfl)) (⟨_, rfl, rfl⟩))
 ·have h0 := h0b
  try simp only [qqT, qqF, qqN, qqM, qqL, qqE] at h0
  refine VC.skip ?_
  refine VC.sr ?_
  refine VO.op rfl (OpE.buildSlice0 rfl hB rfl Tryz.underlying27 Tryz.sizeOf29 ?_)
  intro g5
  refine VO.mv rfl rfl rfl rfl ?_
  refine VO.op rfl (OpE.appendP (i := 0) rfl hB rfl Tryz.underlying27 (infoOf Tryz.t29 1 (by kernel_rfl) rfl rfl) rfl (by decide) (by decide) rfl rfl (.im rfl) (fun _ _ => rfl) (by omega) (tab_M xs) (fun _ _ => trivial) ?_)
  intro u7
  refine VO.ma rfl rfl rfl rfl ?_
  refine VO.nil ?_
  rw [Nat.zero_add]
  refine VC.le ⟨[(2, _)], [_], 0⟩ (Le.pick hB [0] ⟨rfl, trivial⟩ rfl rfl (Nat.le_refl _)) ?_
  refine VC.ret ?_
  exact Exists.intro _ (And.intro (RetV.one Tryz.results84 (ResV.tmp rfl)) (⟨_, rfl, rfl⟩))

theorem ins_one {l : List AV} {F : Nat → AV} {X : AV} (hF : F 0 = X) : l.take (0 + 0 * 1) ++ tab (1 * 1) F ++ l.drop (0 + 0 * 1 + 1 * 1) = X :: l.drop 1 := by
 simp [tab, hF]
theorem ins_many {p : List (List ByteArray)} {l : List AV} {F : Nat → AV} (hl : l.length = p.length + 1) (hF : ∀ j, j < p.length → F j = Sx1.cell (p.getD j default)) :
  l.take (0 + 1 * 1) ++ tab (p.length * 1) F ++ l.drop (0 + 1 * 1 + p.length * 1) = l.take 1 ++ listM p := by
 have h1 : l.drop (0 + 1 * 1 + p.length * 1) = [] := List.drop_eq_nil_of_le (by omega)
 have h2 : tab (p.length * 1) F = listM p := by
  apply List.ext_getElem (by rw [tab_len, listM_len, Nat.mul_one])
  intro i h1 h2
  rw [tab_get]
  rw [listM_len] at h2
  rw [hF i h2]
  simp [listM, h2]
 rw [h1, h2, List.append_nil]
theorem ins_last {x : List ByteArray} {p : List (List ByteArray)} {l : List AV} {F : Nat → AV} (hF : F 0 = Sx1.cell x) (hl : 0 < l.length) : (l.take 1 ++ listM p).take (0 + 0 * 1) ++ tab (1 * 1) F ++ (l.take 1 ++ listM p).drop (0 + 0 * 1 + 1 * 1) = listM (x :: p) := by
 rw [ins_one hF]
 match l, hl with
 | y :: l, _ => simp [listM]
set_option maxRecDepth 100000 in
set_option maxHeartbeats 4000000 in
theorem slices_InsertM {p : List (List ByteArray)} {x : List ByteArray} {u : Value} (hl : p.length ≤ 1000000000) :
  SpecH Tryz.prog 83 [.v u, avI 0, avM [x]] [.row u p.length 1 (listM p) 29] (fun y hp' => ∃ u', y = .v u' ∧ hp' = [.row u' (p.length + 1) 1 (listM (x :: p)) 29]) := by
 have hx1 : [x].length = 1 := rfl
 refine SpecH.of_VC Tryz.func83 rfl Tryz.ntmps83 (Nle rfl) fun w A hB => ?_
 have hnew : True := trivial
 refine VC.sr ?_
 refine VO.ma rfl rfl rfl rfl ?_
 refine VO.nil ?_
 refine VC.sr ?_
 refine VO.mv rfl rfl rfl rfl ?_
 refine VO.mv rfl rfl rfl rfl ?_
 refine VO.val rfl rfl (OpV.slice_rowA (i := 0) (l := 0) rfl Tryz.underlying27 Tryz.sizeOf29 rfl rfl ⟨_, _, rfl, rfl⟩ rfl (by omega) (by omega)) ?_
 refine VO.nil ?_
 refine VC.sr ?_
 refine VO.mv rfl rfl rfl rfl ?_
 refine VO.val rfl rfl (OpV.len_im rfl Tryz.underlying27 rfl) ?_
 refine VO.ma rfl rfl rfl rfl ?_
 refine VO.nil ?_
 refine VC.seq ?_
 refine VC.sr ?_
 refine VO.mv rfl rfl rfl rfl ?_
 refine VO.val rfl rfl (OpV.eql rfl rfl rfl) ?_
 refine VO.nil ?_
 refine VC.cond rfl (fun aH1b => ?_) (fun aH1b => ?_)
 ·have aH1 := aH1b
  try simp only [qqT, qqF, qqN, qqM, qqL, qqE] at aH1
  exact VC.absurd (by omega)
 ·have aH1 := aH1b
  try simp only [qqT, qqF, qqN, qqM, qqL, qqE] at aH1
  refine VC.skip ?_
  refine VC.sr ?_
  refine VO.mv rfl rfl rfl rfl ?_
  refine VO.val rfl rfl (OpV.len_row (i := 0) rfl Tryz.underlying27 rfl rfl) ?_
  refine VO.ma rfl rfl rfl rfl ?_
  refine VO.nil ?_
  refine VC.seq ?_
  refine VC.sr ?_
  refine VO.mv rfl rfl rfl rfl ?_
  refine VO.mv rfl rfl rfl rfl ?_
  refine VO.val rfl rfl (OpV.eql rfl rfl rfl) ?_
  refine VO.nil ?_
  refine VC.cond rfl (fun h1b => ?_) (fun h1b => ?_)
  ·have h1 := h1b
   try simp only [qqT, qqF, qqN, qqM, qqL, qqE] at h1
   obtain rfl : p = [] := List.eq_nil_of_length_eq_zero (by omega)
   refine VC.sr ?_
   refine VO.mv rfl rfl rfl rfl ?_
   refine VO.mv rfl rfl rfl rfl ?_
   refine VO.op rfl (OpE.appendP (i := 0) rfl hB rfl Tryz.underlying27 (infoOf Tryz.t29 1 (by kernel_rfl) rfl rfl) rfl (by decide) (by decide) rfl rfl (.im rfl) (fun _ _ => rfl) (by omega) (tab_M [x]) (fun _ _ => trivial) ?_)
   intro u25
   refine VO.ma rfl rfl rfl rfl ?_
   refine VO.nil ?_
   refine VC.ret ?_
   exact Exists.intro _ (And.intro (RetV.one Tryz.results83 (ResV.tmp rfl)) (⟨_, rfl, rfl⟩))
  ·have h1 := h1b
   try simp only [qqT, qqF, qqN, qqM, qqL, qqE] at h1
   refine VC.asBox (i := 0) rfl (by omega) (fun g cap hu hcap hmx => ?_)
   subst hu
   refine VC.skip ?_
   refine VC.seq ?_
   refine VC.sr ?_
   refine VO.mv rfl rfl rfl rfl ?_
   refine VO.mv rfl rfl rfl rfl ?_
   refine VO.val rfl rfl (OpV.add rfl rfl rfl (by unfold fits; omega)) ?_
   refine VO.mv rfl rfl rfl rfl ?_
   refine VO.val rfl rfl (OpV.cap_v rfl Tryz.underlying27 rfl) ?_
   refine VO.val rfl rfl (OpV.gtr rfl rfl rfl) ?_
   refine VO.nil ?_
   refine VC.cond rfl (fun h2b => ?_) (fun h2b => ?_)
   ·have h2 := h2b
    try simp only [qqT, qqF, qqN, qqM, qqL, qqE] at h2
    refine VC.sr ?_
    refine VO.mv rfl rfl rfl rfl ?_
    refine VO.mv rfl rfl rfl rfl ?_
    refine VO.val rfl rfl (OpV.slice_own (h := 0) rfl Tryz.underlying27 Tryz.sizeOf29 rfl rfl ⟨_, _, rfl, rfl⟩ (by omega) (by omega) (by omega)) ?_
    refine VO.mv rfl rfl rfl rfl ?_
    refine VO.mv rfl rfl rfl rfl ?_
    refine VO.val rfl rfl (OpV.add rfl rfl rfl (by unfold fits; omega)) ?_
    refine VO.mv rfl rfl rfl rfl ?_
    refine VO.val rfl rfl (OpV.sub rfl rfl rfl (by unfold fits; omega)) ?_
    refine VO.op rfl (OpE.appendZ (k := p.length + 1) rfl hB rfl Tryz.underlying27 Tryz.underlying3 (infoOf Tryz.t29 1 (by kernel_rfl) rfl rfl) rfl (by decide) (by decide) rfl rfl (by omega) (by omega) (by omega) (by omega) ?_)
    intro u40
    refine VO.asBox (i := 1) rfl (by omega) (fun g3 cap3 hu3 hcap3 hmx3 => ?_)
    subst hu3
    refine VO.ma rfl rfl rfl rfl ?_
    refine VO.nil ?_
    refine VC.sr ?_
    refine VO.mv rfl rfl rfl rfl ?_
    refine VO.mv rfl rfl rfl rfl ?_
    refine VO.val rfl rfl (OpV.slice_own (l := 0) rfl Tryz.underlying27 Tryz.sizeOf29 rfl ⟨_, _, rfl, rfl⟩ rfl (by omega) (by omega) (by omega)) ?_
    refine VO.mv rfl rfl rfl rfl ?_
    refine VO.op rfl (OpE.copy (i := 1) rfl hB rfl Tryz.underlying27 Tryz.sizeOf29 rfl rfl (SrcP.im rfl) (c := 1) (by omega) (fun _ _ => rfl) (by simp) (ins_one (X := Sx1.cell x) rfl) trivial ?_)
    refine VO.nil ?_
    refine VC.seq ?_
    refine VC.draw (fun j b => j = 8 ∧ b = g3) hB (by kernel_rfl) ?_
    refine VA.take (i := 0) rfl (by kernel_rfl) (by kernel_rfl) (by kernel_rfl) rfl rfl (OpV.move (.inl rfl) rfl) ?_
    refine VA.take (i := 1) rfl (by kernel_rfl) (by kernel_rfl) (by kernel_rfl) rfl rfl (OpV.move (.inl rfl) rfl) ?_
    refine VA.take (i := 2) rfl (by kernel_rfl) (by kernel_rfl) (by kernel_rfl) rfl rfl (OpV.move (.inl rfl) rfl) ?_
    refine VA.take (i := 3) rfl (by kernel_rfl) (by kernel_rfl) (by kernel_rfl) rfl rfl (OpV.add rfl rfl rfl (by unfold fits; omega)) ?_
    refine VA.take (i := 4) rfl (by kernel_rfl) (by kernel_rfl) (by kernel_rfl) rfl rfl (OpV.slice_own (l := 1) rfl Tryz.underlying27 Tryz.sizeOf29 rfl ⟨_, _, rfl, by omega⟩ rfl (by omega) (by omega) (by omega)) ?_
    refine VA.take (i := 5) rfl (by kernel_rfl) (by kernel_rfl) (by kernel_rfl) rfl rfl (OpV.move (.inl rfl) rfl) ?_
    refine VA.take (i := 6) rfl (by kernel_rfl) (by kernel_rfl) (by kernel_rfl) rfl rfl (OpV.move (.inl rfl) rfl) ?_
    refine VA.take (i := 7) rfl (by kernel_rfl) (by kernel_rfl) (by kernel_rfl) rfl rfl (OpV.slice_own (l := 0) rfl Tryz.underlying27 Tryz.sizeOf29 rfl ⟨_, _, rfl, rfl⟩ rfl (by omega) (by omega) (by omega)) ?_
    refine VA.all (rs := [8]) (by kernel_rfl) (by decide) ?_
    refine ⟨⟨_, rfl, .inl rfl, ?_⟩, trivial⟩
    refine OpE.copy (i := 1) rfl hB rfl Tryz.underlying27 Tryz.sizeOf29 rfl rfl (SrcP.box (i := 0) rfl rfl (by rw [listM_len]; omega)) (c := p.length) (by omega) (fun j hj => by dsimp only; rw [List.getD_eq_getElem?_getD, show 0 + 0 * 1 + j = j by omega, listM_get (by omega)]; rfl) (by first | (simp; done) | (simp; omega)) (ins_many (p := p) (by simp) (fun j hj => by dsimp only; rw [List.getD_eq_getElem?_getD, show 0 + 0 * 1 + j = j by omega, listM_get (by omega)]; rfl)) (by first | exact ⟨rfl, rfl⟩ | exact .inl ⟨rfl, rfl⟩ | exact .inr ⟨rfl, rfl⟩ | exact ⟨rfl, trivial⟩ | exact .inl ⟨rfl, trivial⟩ | exact .inr ⟨rfl, trivial⟩ | exact ⟨by decide, rfl⟩) ?_
    refine VA.done (by kernel_rfl) ?_
    refine VC.sr ?_
    refine VO.mv rfl rfl rfl rfl ?_
    refine VO.ma rfl rfl rfl rfl ?_
    refine VO.nil ?_
    refine VC.le _ ((Le.erase 0).trans (Le.boxRow (i := 0) (n := p.length + 1) (sz := 1) (cap := cap3) rfl (by first | (simp [listM_len]; done) | (simp [listM_len]; omega)) hcap3 hmx3)) ?_
    refine VC.ret ?_
    exact Exists.intro _ (And.intro (RetV.one Tryz.results83 (ResV.tmp rfl)) (⟨_, rfl, rfl⟩))
   ·have h2 := h2b
    try simp only [qqT, qqF, qqN, qqM, qqL, qqE] at h2
    refine VC.le _ (Le.padBox (i := 0) 1 rfl (by rw [listM_len]; omega)) ?_
    refine VC.skip ?_
    refine VC.sr ?_
    refine VO.mv rfl rfl rfl rfl ?_
    refine VO.mv rfl rfl rfl rfl ?_
    refine VO.mv rfl rfl rfl rfl ?_
    refine VO.val rfl rfl (OpV.add rfl rfl rfl (by unfold fits; omega)) ?_
    refine VO.val rfl rfl (OpV.slice_own (h := p.length + 1) rfl Tryz.underlying27 Tryz.sizeOf29 rfl rfl ⟨_, _, rfl, by omega⟩ (by omega) (by omega) (by omega)) ?_
    refine VO.ma rfl rfl rfl rfl ?_
    refine VO.nil ?_
    refine VC.seq ?_
    refine VC.sr ?_
    refine VO.mv rfl rfl rfl rfl ?_
    refine VO.mv rfl rfl rfl rfl ?_
    refine VO.mv rfl rfl rfl rfl ?_
    refine VO.mv rfl rfl rfl rfl ?_
    refine VO.val rfl rfl (OpV.add rfl rfl rfl (by unfold fits; omega)) ?_
    refine VO.val rfl rfl (OpV.slice_own (l := 1) rfl Tryz.underlying27 Tryz.sizeOf29 rfl ⟨_, _, rfl, by omega⟩ rfl (by omega) (by omega) (by omega)) ?_
    refine VO.op rfl (OpE.overlaps (i := 0) rfl hB rfl (fun us w => run_callFunc_extern Tryz.func126 (by kernel_rfl) (by kernel_rfl) (by kernel_rfl) (e := Extern.SlicesOverlaps.overlaps #[27, 27] #[4]) (by kernel_rfl) us w) Tryz.underlying27 Tryz.sizeOf29 rfl (Nat.succ_pos _) rfl rfl (by show 0 < cap * 1; omega) ?_)
    refine VO.val rfl rfl (OpV.not rfl rfl) ?_
    refine VO.nil ?_
    refine VC.condT rfl rfl ?_
    refine VC.seq ?_
    refine VC.draw (fun j b => j = 8 ∧ b = g) hB (by kernel_rfl) ?_
    refine VA.take (i := 0) rfl (by kernel_rfl) (by kernel_rfl) (by kernel_rfl) rfl rfl (OpV.move (.inl rfl) rfl) ?_
    refine VA.take (i := 1) rfl (by kernel_rfl) (by kernel_rfl) (by kernel_rfl) rfl rfl (OpV.move (.inl rfl) rfl) ?_
    refine VA.take (i := 2) rfl (by kernel_rfl) (by kernel_rfl) (by kernel_rfl) rfl rfl (OpV.move (.inl rfl) rfl) ?_
    refine VA.take (i := 3) rfl (by kernel_rfl) (by kernel_rfl) (by kernel_rfl) rfl rfl (OpV.add rfl rfl rfl (by unfold fits; omega)) ?_
    refine VA.take (i := 4) rfl (by kernel_rfl) (by kernel_rfl) (by kernel_rfl) rfl rfl (OpV.slice_own (l := 1) rfl Tryz.underlying27 Tryz.sizeOf29 rfl ⟨_, _, rfl, by omega⟩ rfl (by omega) (by omega) (by omega)) ?_
    refine VA.take (i := 5) rfl (by kernel_rfl) (by kernel_rfl) (by kernel_rfl) rfl rfl (OpV.move (.inl rfl) rfl) ?_
    refine VA.take (i := 6) rfl (by kernel_rfl) (by kernel_rfl) (by kernel_rfl) rfl rfl (OpV.move (.inl rfl) rfl) ?_
    refine VA.take (i := 7) rfl (by kernel_rfl) (by kernel_rfl) (by kernel_rfl) rfl rfl (OpV.slice_own (l := 0) rfl Tryz.underlying27 Tryz.sizeOf29 rfl ⟨_, _, rfl, rfl⟩ rfl (by omega) (by omega) (by omega)) ?_
    refine VA.all (rs := [8]) (by kernel_rfl) (by decide) ?_
    refine ⟨⟨_, rfl, .inl rfl, ?_⟩, trivial⟩
    refine OpE.copy (i := 0) rfl hB rfl Tryz.underlying27 Tryz.sizeOf29 rfl rfl (SrcP.box (i := 0) rfl rfl (by simp [listM_len])) (c := p.length) (by omega) (fun j hj => by dsimp only; rw [List.getD_eq_getElem?_getD, show 0 + 0 * 1 + j = j by omega, List.getElem?_append_left (by rw [listM_len]; omega), listM_get (by omega)]; rfl) (by first | (simp [listM_len]; done) | (simp [listM_len]; omega)) (ins_many (p := p) (by simp [listM_len]) (fun j hj => by dsimp only; rw [List.getD_eq_getElem?_getD, show 0 + 0 * 1 + j = j by omega, List.getElem?_append_left (by rw [listM_len]; omega), listM_get (by omega)]; rfl)) (by first | exact ⟨rfl, rfl⟩ | exact .inl ⟨rfl, rfl⟩ | exact .inr ⟨rfl, rfl⟩ | exact ⟨rfl, trivial⟩ | exact .inl ⟨rfl, trivial⟩ | exact .inr ⟨rfl, trivial⟩ | exact ⟨by decide, rfl⟩) ?_
    refine VA.done (by kernel_rfl) ?_
    refine VC.sr ?_
    refine VO.mv rfl rfl rfl rfl ?_
    refine VO.mv rfl rfl rfl rfl ?_
    refine VO.val rfl rfl (OpV.slice_own (l := 0) rfl Tryz.underlying27 Tryz.sizeOf29 rfl ⟨_, _, rfl, rfl⟩ rfl (by omega) (by omega) (by omega)) ?_
    refine VO.mv rfl rfl rfl rfl ?_
    refine VO.op rfl (OpE.copy (i := 0) rfl hB rfl Tryz.underlying27 Tryz.sizeOf29 rfl rfl (SrcP.im rfl) (c := 1) (cs' := listM (x :: p)) (by omega) (fun _ _ => rfl) (by first | (simp [listM_len]; done) | (simp [listM_len]; omega)) (ins_last (x := x) rfl (by simp)) trivial ?_)
    refine VO.nil ?_
    refine VC.sr ?_
    refine VO.mv rfl rfl rfl rfl ?_
    refine VO.ma rfl rfl rfl rfl ?_
    refine VO.nil ?_
    refine VC.le _ (Le.boxRow (i := 0) (n := p.length + 1) (sz := 1) (cap := cap) rfl (by first | (simp [listM_len]; done) | (simp [listM_len]; omega)) (by omega) hmx) ?_
    refine VC.ret ?_
    exact Exists.intro _ (And.intro (RetV.one Tryz.results83 (ResV.tmp rfl)) (⟨_, rfl, rfl⟩))
end Go.Proofs.YtbbgjeiefmiblaaGreatDoor
namespace Go.Proofs.YtbbgjeiefmiblaaGreatDoor
open Go.RowKit
set_option linter.unusedVariables false
set_option linter.unusedSimpArgs false
def nextE (s parts : List ByteArray) (later : List (List ByteArray)) : Int := if setupF s ≠ 0 then setupF s else partsF s.length (parts :: later)
def nextR (s parts : List ByteArray) (later : List (List ByteArray)) : List ByteArray := if nextE s parts later = 0 then nextF s parts later else []
set_option maxRecDepth 100000 in
theorem setup_Next {s parts : List ByteArray} {later : List (List ByteArray)} (hs : SmS s) (hp : SmSS (parts :: later)) (hl : SmSS later) :
  SpecH Tryz.prog 28 [avStrs s, avStrs parts, avM later] [] (fun y hp' => ∃ u, y = .tup [.v u, avI (nextE s parts later)] ∧ hp' = [.row u ((nextR s parts later).length) (1) (strsL (nextR s parts later)) (9)]) := by
 have hl1 := hl.1
 refine SpecH.of_VC Tryz.func28 rfl Tryz.ntmps28 (Nle rfl) fun w A hB => ?_
 have hnew : True := trivial
 refine VC.sr ?_
 refine VO.ma rfl rfl rfl rfl ?_
 refine VO.ma rfl rfl rfl rfl ?_
 refine VO.nil ?_
 refine VC.seq ?_
 refine VC.sr ?_
 refine VO.mv rfl rfl rfl rfl ?_
 refine VO.op rfl (OpE.call rfl hB rfl Tryz.call64 rfl (SpecN.spec (setup_CheckSetup hs)) ?_)
 rintro _ rfl
 refine VO.ma rfl rfl rfl rfl ?_
 refine VO.nil ?_
 refine VC.sr ?_
 refine VO.mv rfl rfl rfl rfl ?_
 refine VO.val rfl rfl (OpV.neq rfl rfl rfl) ?_
 refine VO.nil ?_
 refine VC.cond rfl (fun h0b => ?_) (fun h0b => ?_)
 ·have h0 := h0b
  try simp only [qqT, qqF, qqN, qqM, qqL, qqE] at h0
  have he : nextE s parts later = setupF s := by rw [nextE, if_pos h0]
  have hR : nextR s parts later = [] := by rw [nextR, if_neg (by rw [he]; exact h0)]
  rw [hR, he]
  refine VC.sr ?_
  refine VO.mv rfl rfl rfl rfl ?_
  refine VO.ma rfl rfl rfl rfl ?_
  refine VO.ma rfl rfl rfl rfl ?_
  refine VO.nil ?_
  refine VC.le _ (Le.nilRow 1 9) ?_
  refine VC.le ⟨[(6, _), (7, _)], [_], 0⟩ (Le.pick hB [0] ⟨rfl, rfl, trivial⟩ rfl rfl (Nat.le_refl _)) ?_
  refine VC.ret ?_
  exact Exists.intro _ (And.intro (RetV.two Tryz.results28 (ResV.tmp rfl) (ResV.tmp rfl)) (⟨_, rfl, rfl⟩))
 ·have h0 := h0b
  try simp only [qqT, qqF, qqN, qqM, qqL, qqE] at h0
  have h00 : setupF s = 0 := by omega
  refine VC.skip ?_
  refine VC.seq ?_
  refine VC.sr ?_
  refine VO.mv rfl rfl rfl rfl ?_
  refine VO.val rfl rfl (OpV.len_im rfl Tryz.underlying29 rfl) ?_
  refine VO.mv rfl rfl rfl rfl ?_
  refine VO.op rfl (OpE.callH (hp := []) (rest := _) rfl hB rfl Tryz.call84 rfl rfl (slices_CloneM hl.1) (List.Perm.refl _) (fun _ h => by obtain ⟨e, he, _⟩ := h; cases he) ?_)
  rintro _ _ ⟨u18, rfl, rfl⟩
  refine VO.mv rfl rfl rfl rfl ?_
  refine VO.op rfl (OpE.buildSlice (zc := #[.slice none 0 0]) rfl hB rfl Tryz.underlying27 Tryz.sizeOf29 Tryz.zeroValue29 (by decide) (by decide) (by kernel_rfl) rfl rfl ?_)
  refine VO.le _ (Le.recast (t := 20) (y := avM [parts]) rfl (fun w Z u h => Rep.listM (xs := [parts]) rfl h)) ?_
  refine VO.op rfl (OpE.callH0 rfl hB rfl Tryz.call83 rfl rfl (slices_InsertM hl.1) (List.Perm.refl _) (fun _ _ => trivial) ?_)
  rintro _ _ ⟨u21, rfl, rfl⟩
  refine VO.le _ (Le.rowsM (t := 21) (i := 0) hB hnew rfl rfl (by first | rfl | simp)) ?_
  refine VO.op rfl (OpE.call rfl hB rfl Tryz.call58 rfl (SpecN.spec (setup_CheckParts hp)) ?_)
  rintro _ rfl
  refine VO.ma rfl rfl rfl rfl ?_
  refine VO.nil ?_
  refine VC.sr ?_
  refine VO.mv rfl rfl rfl rfl ?_
  refine VO.val rfl rfl (OpV.neq rfl rfl rfl) ?_
  refine VO.nil ?_
  refine VC.cond rfl (fun h1b => ?_) (fun h1b => ?_)
  ·have h1 := h1b
   try simp only [qqT, qqF, qqN, qqM, qqL, qqE] at h1
   have he : nextE s parts later = partsF s.length (parts :: later) := by rw [nextE, if_neg (by omega)]
   have hR : nextR s parts later = [] := by rw [nextR, if_neg (by rw [he]; exact h1)]
   rw [hR, he]
   refine VC.sr ?_
   refine VO.mv rfl rfl rfl rfl ?_
   refine VO.ma rfl rfl rfl rfl ?_
   refine VO.ma rfl rfl rfl rfl ?_
   refine VO.nil ?_
   refine VC.le _ (Le.nilRow 1 9) ?_
   refine VC.le ⟨[(6, _), (7, _)], [_], 0⟩ (Le.pick hB [0] ⟨rfl, rfl, trivial⟩ rfl rfl (Nat.le_refl _)) ?_
   refine VC.ret ?_
   exact Exists.intro _ (And.intro (RetV.two Tryz.results28 (ResV.tmp rfl) (ResV.tmp rfl)) (⟨_, rfl, rfl⟩))
  ·have h1 := h1b
   try simp only [qqT, qqF, qqN, qqM, qqL, qqE] at h1
   have hpa : partsF s.length (parts :: later) = 0 := by omega
   have he : nextE s parts later = 0 := by rw [nextE, if_neg (by omega), hpa]
   have hR : nextR s parts later = nextF s parts later := by rw [nextR, if_pos he]
   have hr0 : RightP s.length parts := RightP.of (q := 0) rfl hpa (by simp)
   rw [hR, he, nextF_len]
   refine VC.skip ?_
   refine VC.sr ?_
   refine VO.mv rfl rfl rfl rfl ?_
   refine VO.op rfl (OpE.callR rfl hB rfl Tryz.call52 (slices_CloneS_R hs.1) (ArgsP.cons (ArgP.ev rfl) (ArgsP.nil)) ?_)
   intro u
   refine VO.ma rfl rfl rfl rfl ?_
   refine VO.nil ?_
   refine VC.sr ?_
   refine VO.mv rfl rfl rfl rfl ?_
   refine VO.mv rfl rfl rfl rfl ?_
   refine VO.mv rfl rfl rfl rfl ?_
   refine VO.op rfl (OpE.callH0 rfl hB rfl Tryz.call85 rfl rfl (setup_next (Good'.of h00) hr0 hl) (List.Perm.refl _) (fun _ _ => trivial) ?_)
   rintro _ _ ⟨rfl, rfl⟩
   refine VO.nil ?_
   refine VC.sr ?_
   refine VO.mv rfl rfl rfl rfl ?_
   refine VO.ma rfl rfl rfl rfl ?_
   refine VO.ma rfl rfl rfl rfl ?_
   refine VO.nil ?_
   refine VC.le ⟨[(6, _), (7, _)], [_], 0⟩ (Le.pick hB [0] ⟨rfl, rfl, trivial⟩ rfl rfl (Nat.le_refl _)) ?_
   refine VC.ret ?_
   exact Exists.intro _ (And.intro (RetV.two Tryz.results28 (ResV.tmp rfl) (ResV.tmp rfl)) (⟨_, rfl, rfl⟩))
def setsR (s : List ByteArray) (p : List (List ByteArray)) : List (List ByteArray) := if setsF s p = 0 then stsF s p p.length else []
set_option maxRecDepth 100000 in
theorem slices_EqualFunc_LL {xs ys : List (List ByteArray)} {F : FuncId} {cs : List AV} {e : List ByteArray → List ByteArray → Bool} (hl : xs.length ≤ 1000000000) (hl' : ys.length ≤ 1000000000) (hcall : ∀ us w, (callFunc F us).run Tryz.prog w = .ok (.enter F us) w) (hF : ∀ i, i < xs.length → Spec Tryz.prog F ([avStrs (xs.getD i default), avStrs (ys.getD i default)] ++ cs) (fun y => y = avB (e (xs.getD i default) (ys.getD i default)))) :
  SpecN Tryz.prog 34 [avM xs, avM ys, .fn F cs] (fun y => y = avB (eqLs e xs ys)) := by
 refine SpecN.of_VCN Tryz.func34 rfl Tryz.ntmps34 (Nle rfl) fun w A hB => ?_
 have hnew : True := trivial
 refine VC.sr ?_
 refine VO.ma rfl rfl rfl rfl ?_
 refine VO.nil ?_
 refine VC.seq ?_
 refine VC.sr ?_
 refine VO.mv rfl rfl rfl rfl ?_
 refine VO.val rfl rfl (OpV.len_im rfl Tryz.underlying27 rfl) ?_
 refine VO.mv rfl rfl rfl rfl ?_
 refine VO.val rfl rfl (OpV.len_im rfl Tryz.underlying27 rfl) ?_
 refine VO.val rfl rfl (OpV.neq rfl rfl rfl) ?_
 refine VO.nil ?_
 refine VC.cond rfl (fun aH1b => ?_) (fun aH1b => ?_)
 ·have aH1 := aH1b
  try simp only [qqT, qqF, qqN, qqM, qqL, qqE] at aH1
  refine VC.sr ?_
  refine VO.ma rfl rfl rfl rfl ?_
  refine VO.nil ?_
  refine VC.ret ?_
  exact Exists.intro _ (And.intro (RetN.one Tryz.results34 (ResN.v rfl)) (by first | rw [eqLs_len (by omega)] | rw [eqLs_at (d := default) (q := q) (by omega) (not_true_false h2b)] | rw [eqLs_all (d := default) (by omega) (fun j hj => hn j (by omega))]))
 ·have aH1 := aH1b
  try simp only [qqT, qqF, qqN, qqM, qqL, qqE] at aH1
  refine VC.skip ?_
  refine VC.seq ?_
  refine VC.sr ?_
  refine VO.mv rfl rfl rfl rfl ?_
  refine VO.val rfl rfl (OpV.len_im rfl Tryz.underlying27 rfl) ?_
  refine VO.mv rfl rfl rfl rfl ?_
  refine VO.nil ?_
  refine VC.block ?_
  refine VC.loopK [(1, _), (2, _), (15, _), (16, _)] ⟨rfl, rfl, rfl, rfl, trivial⟩ ({q : Nat // q ≤ xs.length ∧ ∀ j, j < q → e (xs.getD j default) (ys.getD j default) = true}) (fun (iZ : {q : Nat // q ≤ xs.length ∧ ∀ j, j < q → e (xs.getD j default) (ys.getD j default) = true}) => match iZ with | ⟨q, hq, hn⟩ => [(17, avI (q : Int))]) (fun (iZ : {q : Nat // q ≤ xs.length ∧ ∀ j, j < q → e (xs.getD j default) (ys.getD j default) = true}) => match iZ with | ⟨q, hq, hn⟩ => []) (fun (iZ : {q : Nat // q ≤ xs.length ∧ ∀ j, j < q → e (xs.getD j default) (ys.getD j default) = true}) => match iZ with | ⟨q, hq, hn⟩ => 0) (fun (iZ : {q : Nat // q ≤ xs.length ∧ ∀ j, j < q → e (xs.getD j default) (ys.getD j default) = true}) => match iZ with | ⟨q, hq, hn⟩ => xs.length - q) ⟨0, Nat.zero_le _, fun j hj => absurd hj (Nat.not_lt_zero j)⟩ (Le.mk hB [] ⟨rfl, rfl, rfl, rfl, rfl, trivial⟩ rfl rfl (Nat.le_refl _)) ?_
  rintro ⟨q, hq, hn⟩
  show VC _ _ _ _ ⟨[(17, avI (q : Int))] ++ [(1, _), (2, _), (15, _), (16, _)], [], 0⟩
  refine VC.sr ?_
  refine VO.val rfl rfl (OpV.lss rfl rfl rfl) ?_
  refine VO.nil ?_
  refine VC.seq ?_
  refine VC.cond rfl (fun aH2b => ?_) (fun aH2b => ?_)
  ·have aH2 := aH2b
   try simp only [qqT, qqF, qqN, qqM, qqL, qqE] at aH2
   refine VC.skip ?_
   refine VC.seq ?_
   refine VC.block ?_
   refine VC.sr ?_
   refine VO.mv rfl rfl rfl rfl ?_
   refine VO.val rfl rfl (OpV.indexAddr_1 rfl Tryz.underlying27 Tryz.sizeOf29 rfl rfl rfl (by omega)) ?_
   refine VO.val rfl rfl (OpV.load_at rfl hB OutW.no Tryz.isAgg29 rfl rfl) ?_
   refine VO.ma rfl rfl rfl rfl ?_
   refine VO.ma rfl rfl rfl rfl ?_
   refine VO.nil ?_
   refine VC.sr ?_
   refine VO.mv rfl rfl rfl rfl ?_
   refine VO.mv rfl rfl rfl rfl ?_
   refine VO.val rfl rfl (OpV.indexAddr_1 rfl Tryz.underlying27 Tryz.sizeOf29 rfl rfl rfl (by omega)) ?_
   refine VO.val rfl rfl (OpV.load_at rfl hB OutW.no Tryz.isAgg29 rfl rfl) ?_
   refine VO.ma rfl rfl rfl rfl ?_
   refine VO.nil ?_
   refine VC.sr ?_
   refine VO.mv rfl rfl rfl rfl ?_
   refine VO.mv rfl rfl rfl rfl ?_
   refine VO.mv rfl rfl rfl rfl ?_
   refine VO.op rfl (OpE.callF rfl hB rfl hcall rfl rfl (hF q (by omega)) ?_)
   rintro _ rfl
   refine VO.val rfl rfl (OpV.not rfl rfl) ?_
   refine VO.nil ?_
   refine VC.cond rfl (fun h2b => ?_) (fun h2b => ?_)
   ·have h2 := h2b
    try simp only [qqT, qqF, qqN, qqM, qqL, qqE] at h2
    refine VC.sr ?_
    refine VO.ma rfl rfl rfl rfl ?_
    refine VO.nil ?_
    refine VC.ret ?_
    exact Exists.intro _ (And.intro (RetN.one Tryz.results34 (ResN.v rfl)) (by first | rw [eqLs_len (by omega)] | rw [eqLs_at (d := default) (q := q) (by omega) (not_true_false h2b)] | rw [eqLs_all (d := default) (by omega) (fun j hj => hn j (by omega))]))
   ·have h2 := h2b
    try simp only [qqT, qqF, qqN, qqM, qqL, qqE] at h2
    refine VC.skip ?_
    refine VC.region ?_
    refine VO.val rfl rfl (OpV.add rfl rfl rfl (by unfold fits; omega)) ?_
    refine VO.mv rfl rfl rfl rfl ?_
    refine VO.nil ?_
    exact Exists.intro (⟨q + 1, by omega, lt_succ_cases hn (not_false_true h2b)⟩) (And.intro (Le.mk hB [] ⟨rfl, rfl, rfl, rfl, rfl, trivial⟩ rfl rfl (Nat.le_refl _)) (by first | omega | (show _ < _; omega) | (simp only []; omega)))
  ·have aH2 := aH2b
   try simp only [qqT, qqF, qqN, qqM, qqL, qqE] at aH2
   refine VC.exit ?_
   refine VC.sr ?_
   refine VO.ma rfl rfl rfl rfl ?_
   refine VO.nil ?_
   refine VC.ret ?_
   exact Exists.intro _ (And.intro (RetN.one Tryz.results34 (ResN.v rfl)) (by first | rw [eqLs_len (by omega)] | rw [eqLs_at (d := default) (q := q) (by omega) (not_true_false h2b)] | rw [eqLs_all (d := default) (by omega) (fun j hj => hn j (by omega))]))
end Go.Proofs.YtbbgjeiefmiblaaGreatDoor
namespace Go.Proofs.YtbbgjeiefmiblaaGreatDoor
open Go.RowKit
set_option linter.unusedVariables false
set_option linter.unusedSimpArgs false

def mE {κ α : Type} (kv : κ → Value) (E : α → AV) : List (κ × α) → Nat → List (Value × AV × Nat)
 | [], _ => []
 | p :: r, j => (kv p.1, E p.2, j) :: mE kv E r (j + 1)
abbrev mapE {κ α : Type} (kv : κ → Value) (g : Nat) (E : α → AV) (l : List (κ × α)) : Ent := .mp g (mE kv E l 0) l.length
def mget {κ α : Type} [DecidableEq κ] : List (κ × α) → κ → Option α
 | [], _ => none
 | p :: r, k => if k = p.1 then some p.2 else mget r k
def mput {κ α : Type} [DecidableEq κ] : List (κ × α) → κ → α → List (κ × α)
 | [], k, x => [(k, x)]
 | p :: r, k, x => if k = p.1 then (k, x) :: r else p :: mput r k x
def mpos {κ α : Type} [DecidableEq κ] : List (κ × α) → κ → Nat
 | [], _ => 0
 | p :: r, k => if k = p.1 then 0 else mpos r k + 1
section
variable {κ α : Type} {kv : κ → Value} {E : α → AV}
theorem mE_len : ∀ (l : List (κ × α)) (i : Nat), (mE kv E l i).length = l.length
 | [], _ => rfl
 | _ :: r, i => by simp [mE, mE_len r]
theorem mE_get : ∀ (l : List (κ × α)) (i j : Nat) (h : j < l.length), (mE kv E l i)[j]? = some (kv (l[j]).1, E (l[j]).2, i + j)
 | [], _, _, h => by simp at h
 | p :: r, i, 0, _ => by simp [mE]
 | p :: r, i, j + 1, h => by
  simp only [mE, List.getElem?_cons_succ, List.getElem_cons_succ]
  rw [mE_get r (i + 1) j (by simpa using h)]
  congr 3; omega
theorem mE_born : ∀ (l : List (κ × α)) (i : Nat), (mE kv E l i).map (·.2.2) = List.range' i l.length
 | [], _ => rfl
 | p :: r, i => by simp [mE, mE_born r, List.range'_succ]
variable [DecidableEq κ]
theorem mpos_le : ∀ (l : List (κ × α)) (k : κ), mpos l k ≤ l.length
 | [], _ => Nat.le_refl _
 | p :: r, k => by
  have := mpos_le r k
  simp only [mpos, List.length_cons]; split <;> omega
theorem mget_pos : ∀ (l : List (κ × α)) (k : κ), mget l k = (l[mpos l k]?).map (·.2)
 | [], _ => rfl
 | p :: r, k => by
  simp only [mget, mpos]
  split
  ·rfl
  ·rw [mget_pos r k]; simp
theorem mpos_key : ∀ (l : List (κ × α)) (k : κ) (h : mpos l k < l.length), (l[mpos l k]).1 = k
 | [], _, h => by simp at h
 | p :: r, k, h => by
  by_cases e : k = p.1
  ·simp [mpos, e]
  ·simp only [mpos, if_neg e, List.getElem_cons_succ]
   exact mpos_key r k (by simp only [mpos, if_neg e, List.length_cons] at h; omega)
theorem mpos_ne : ∀ (l : List (κ × α)) (k : κ) (j : Nat) (h : j < mpos l k), ∃ h' : j < l.length, (l[j]).1 ≠ k
 | [], _, j, h => by simp [mpos] at h
 | p :: r, k, j, h => by
  by_cases e : k = p.1
  ·simp [mpos, e] at h
  ·simp only [mpos, if_neg e] at h
   cases j with
   | zero => exact ⟨by simp, fun h' => e h'.symm⟩
   | succ j => obtain ⟨h1, h2⟩ := mpos_ne r k j (by omega); exact ⟨by simpa using h1, by simpa using h2⟩
theorem mput_new : ∀ (l : List (κ × α)) (k : κ) (x : α), mpos l k = l.length → mput l k x = l ++ [(k, x)]
 | [], _, _, _ => rfl
 | p :: r, k, x, h => by
  by_cases e : k = p.1
  ·simp [mpos, e] at h
  ·simp only [mpos, if_neg e, List.length_cons] at h
   simp only [mput, if_neg e, List.cons_append]
   rw [mput_new r k x (by omega)]
theorem mput_old : ∀ (l : List (κ × α)) (k : κ) (x : α), mpos l k < l.length → mput l k x = l.set (mpos l k) (k, x)
 | [], _, _, h => by simp at h
 | p :: r, k, x, h => by
  by_cases e : k = p.1
  ·simp [mput, mpos, e]
  ·simp only [mpos, if_neg e, List.length_cons] at h
   simp only [mput, mpos, if_neg e, List.set_cons_succ]
   rw [mput_old r k x (by omega)]
theorem mput_len (l : List (κ × α)) (k : κ) (x : α) : (mput l k x).length = if mpos l k < l.length then l.length else l.length + 1 := by
 split
 ·rename_i h; rw [mput_old l k x h]; simp
 ·rename_i h; rw [mput_new l k x (by have := mpos_le l k; omega)]; simp
end

structure KeyOk (P : Program) (kt : TypeId) {κ : Type} [DecidableEq κ] (kv : κ → Value) : Prop where
 check : ∀ (e : Bool) (k : κ) (w : World), (Instr.checkKey e 10000 kt (kv k)).run P w = .ok () w
 find : ∀ {α : Type} (l : List (κ × α)) (c : List MapEntry) (k : κ) (w : World), c.length = l.length → (∀ j (h : j < l.length), ∃ e, c[j]? = some e ∧ e.key = kv (l[j]).1) →
  (Instr.findKey kt (kv k) c).run P w = .ok (if mpos l k < l.length then (c[mpos l k]?).map fun e => (mpos l k, e.val) else none) w
 stay : ∀ (k : κ) (w : World), (Instr.keyThatStays (kv k) (kv k)).run P w = .ok (kv k) w
theorem findNow_str {α : Type} : ∀ (l : List (ByteArray × α)) (c : List MapEntry) (k : ByteArray), c.length = l.length → (∀ j (h : j < l.length), ∃ e, c[j]? = some e ∧ e.key = .string (l[j]).1) →
  ∀ i, Instr.findNow .string (.string k) c i = some (if mpos l k < l.length then (c[mpos l k]?).map fun e => (i + mpos l k, e.val) else none)
 | [], c, k, hl, h, i => by
  have : c = [] := List.eq_nil_of_length_eq_zero (by simpa using hl)
  subst this; rfl
 | p :: r, [], k, hl, h, i => by simp at hl
 | p :: r, e :: c, k, hl, h, i => by
  obtain ⟨e0, h1, h2⟩ := h 0 (by simp)
  simp at h1 h2
  subst h1
  simp only [Instr.findNow, h2, Instr.sameNow]
  by_cases ek : k = p.1
  ·have : (k == p.1) = true := by rw [bA_beq]; exact decide_eq_true ek
   rw [this]
   simp [mpos, ek]
  ·have : (k == p.1) = false := by rw [bA_beq]; exact decide_eq_false ek
   rw [this]
   simp only
   rw [findNow_str r c k (by simpa using hl) (fun j hj => h (j + 1) (Nat.succ_lt_succ hj)) (i + 1)]
   simp only [mpos, if_neg ek, List.length_cons, Nat.add_lt_add_iff_right, List.getElem?_cons_succ]
   rw [show i + 1 + mpos r k = i + (mpos r k + 1) by omega]
theorem KeyOk.str {P : Program} {kt : TypeId} (hk : P.underlying kt = some .string) : KeyOk P kt (fun k : ByteArray => Value.string k) where
 check e k w := by
  rw [show (10000 : Nat) = 9999 + 1 from rfl, Instr.checkKey]
  simp only [Sem.run_bind, run_underlying hk, Result.andThen_ok, Sem.run_pure]
 find l c k w hl h := by
  have := findNow_str l c k hl h 0
  simp only [Nat.zero_add] at this
  simp only [Instr.findKey, Sem.run_bind, run_underlying hk, Result.andThen_ok, this, Sem.run_pure]
 stay k w := by
  have : Instr.sameBits 10000 (.string k) (.string k) = true := by
   simp only [Instr.sameBits, bA_beq, decide_true]
  simp [Instr.keyThatStays, this]
end Go.Proofs.YtbbgjeiefmiblaaGreatDoor
namespace Go.Proofs.YtbbgjeiefmiblaaGreatDoor
open Go.RowKit
set_option linter.unusedVariables false
set_option linter.unusedSimpArgs false

theorem getMap {P : Program} {w : World} {r : Nat} {es : Array MapEntry} {clock : Nat} (hb : w.heap[r]? = some (.map es clock)) : (getObj r).run P w = .ok (.map es clock) w := by
 simp [getObj, Sem.run, hb]
theorem putMap {P : Program} {w : World} {r : Nat} {es : Array MapEntry} {clock : Nat} (c : Array MapEntry) (clk : Nat) (hb : w.heap[r]? = some (.map es clock)) : (setObj r (.map c clk)).run P w = .ok () { w with heap := w.heap.setIfInBounds r (.map c clk) } := by
 simp [setObj, Sem.run, hb]
def _root_.Go.World.setMp (w : World) (g : Nat) (c : Array MapEntry) (clk : Nat) : World := { w with heap := w.heap.setIfInBounds g (.map c clk) }
theorem setMp_heap (w : World) (g : Nat) (c c' : Array MapEntry) (clk clk' : Nat) (h : w.heap[g]? = some (.map c clk)) : (w.setMp g c' clk').heap[g]? = some (.map c' clk') := by
 have := (Array.getElem?_eq_some_iff.1 h).1
 simp [World.setMp, this]
theorem setMp_other (w : World) (g b : Nat) (c' : Array MapEntry) (clk' : Nat) (h : b ≠ g) : (w.setMp g c' clk').heap[b]? = w.heap[b]? := by
 simp only [World.setMp]
 exact Array.getElem?_setIfInBounds_ne (fun e => h e.symm)
theorem chg_setMp (w : World) (g : Nat) (c : Array MapEntry) (clk : Nat) : Chg (fun b => some g = some b) w (w.setMp g c clk) :=
 ⟨rfl, rfl, rfl, by simp [World.setMp], fun k _ hk => setMp_other w g k c clk (fun e => hk (by rw [e]))⟩
section
variable {P : Program} {B : Bs} {W : Nat → Prop} {s s' : St'} {o : Oper} {K : St' → Prop} {a : Act} {w w' : World}
variable {κ α : Type} {kv : κ → Value} {E : α → AV}

def KeyE (B : Bs) (s : St') (x : Operand) (v : Value) : Prop := ∀ a w, R B s a w → a.eval x = v
theorem KeyE.v {x : Operand} {v : Value} (h : evO s x = some (.v v)) : KeyE B s x v := fun a w hr => hr.evv h
theorem KeyE.agg2 {x : Operand} {v1 v2 : Value} (h : evO s x = some (.agg [.v v1, .v v2])) : KeyE B s x (.agg #[v1, v2]) := fun a w hr => by
 have := hr.ev h
 generalize hv : a.eval x = u at this
 cases this with
 | agg cs us hl hr =>
  have h0 := (hr 0 (by simp)).eq_v
  have h1 := (hr 1 (by simp)).eq_v
  simp at hl
  congr 1
  apply Array.ext (by simp [hl])
  intro i hi1 hi2
  simp [hl] at hi1
  match i, hi1 with
  | 0, _ => simpa [hl] using h0
  | 1, _ => simpa [hl] using h1

theorem EntR.toMap {g : Nat} {l : List (κ × α)} {Z : Nat → Prop} (h : EntR w Z (mapE kv g E l)) : ∃ c : Array MapEntry, w.heap[g]? = some (.map c l.length) ∧ c.size = l.length ∧ ∀ j (hj : j < l.length), (c[j]!).key = kv (l[j]).1 ∧ (c[j]!).born = j ∧ Rep w Z (E (l[j]).2) (c[j]!).val := by
 obtain ⟨c, h1, h2, h3, h4⟩ := h
 rw [mE_len] at h2
 refine ⟨c, h1, h2, fun j hj => ?_⟩
 obtain ⟨k1, k2, k3, k4⟩ := h4 j (by rw [mE_len]; exact hj)
 have e := mE_get (kv := kv) (E := E) l 0 j hj
 rw [List.getElem?_eq_getElem (by rw [mE_len]; exact hj)] at e
 have e := Option.some.inj e
 rw [e] at k1 k2 k4
 exact ⟨k1, by simpa using k2, k4⟩
theorem EntR.ofMap {g : Nat} {l : List (κ × α)} {Z : Nat → Prop} {c : Array MapEntry} (h1 : w.heap[g]? = some (.map c l.length)) (h2 : c.size = l.length) (h3 : ∀ j (hj : j < l.length), (c[j]!).key = kv (l[j]).1 ∧ (c[j]!).born = j ∧ Rep w Z (E (l[j]).2) (c[j]!).val) : EntR w Z (mapE kv g E l) := by
 refine ⟨c, h1, by rw [mE_len]; exact h2, by rw [mE_born]; exact List.nodup_range', fun j hj => ?_⟩
 have hj' := hj
 rw [mE_len] at hj'
 have e := mE_get (kv := kv) (E := E) l 0 j hj'
 rw [List.getElem?_eq_getElem hj] at e
 have e := Option.some.inj e
 rw [e]
 obtain ⟨k1, k2, k3⟩ := h3 j hj'
 exact ⟨k1, by simp [k2], by simpa using hj', k3⟩
theorem map_find [DecidableEq κ] {kt : TypeId} (hk : KeyOk P kt kv) {l : List (κ × α)} {Z : Nat → Prop} {c : Array MapEntry} (h2 : c.size = l.length) (h3 : ∀ j (hj : j < l.length), (c[j]!).key = kv (l[j]).1 ∧ (c[j]!).born = j ∧ Rep w Z (E (l[j]).2) (c[j]!).val) (k : κ) (w0 : World) :
  (Instr.findKey kt (kv k) c.toList).run P w0 = .ok (if mpos l k < l.length then some (mpos l k, (c[mpos l k]!).val) else none) w0 := by
 have := hk.find l c.toList k w0 (by simpa using h2) (fun j hj => ⟨c[j]!, by rw [Array.getElem?_toList, getElem!_pos c j (by omega)]; exact Array.getElem?_eq_getElem _, (h3 j hj).1⟩)
 rw [this]
 split
 ·rename_i h
  rw [Array.getElem?_toList, getElem!_pos c _ (by omega), Array.getElem?_eq_getElem (by omega)]
  rfl
 ·rfl

theorem OpE.makeMap {t : TypeId} (kv : κ → Value) (E : α → AV) (ho : o.op = .makeMap t none) (hB : B.Ok) (hd : okd B.nt o.dst = true)
  (hK : ∀ g, K ((St'.mk s.sl (s.hp ++ [mapE kv g E []]) s.k).put o.dst (.v (.map (some g))))) : OpE P B W s o K := by
 intro a w hr next Qx hn
 have h1 := hr.new hB (.map #[] 0) (mapE kv w.heap.size E []) rfl (EntR.ofMap (l := ([] : List (κ × α))) (c := #[]) (heap_alloc_new w _) rfl fun j hj => by simp at hj)
 have hrun : (execOp a.eval o).run P w = .ok (.value (.map (some w.heap.size))) (w.alloc (.map #[] 0)) := by
  simp [execOp, ho, Instr.makeMap, run_newObj_alloc]
 unfold Oper.wp
 rw [hrun]
 exact hn _ _ _ (hK _) (h1.put _ hd _ _ (.v _)) (.ofN ((Chg.refl _ _).alloc _))

theorem OpV.lookup_own [DecidableEq κ] {x y : Operand} {T kt e g i : Nat} {k : κ} {l : List (κ × α)} {z : Value} (ho : o.op = .lookup T x y false) (hB : B.Ok) (hu : P.underlying T = some (.map kt e)) (hko : KeyOk P kt kv) (hz : ∀ w, (zeroValue e).run P w = .ok z w)
  (hx : evO s x = some (.v (.map (some g)))) (hk : KeyE B s y (kv k)) (hi : s.hp[i]? = some (mapE kv g E l)) (hW : ¬ W g) : OpV P B W s o (match mget l k with | some v => E v | none => .v z) := fun a w hr => by
 have hm := List.mem_of_getElem? hi
 obtain ⟨c, h1, h2, h3⟩ := EntR.toMap (hr.blocks _ hm)
 have hf := map_find hko h2 h3 k
 have hg := mget_pos l k
 have hle := mpos_le l k
 by_cases hp : mpos l k < l.length
 ·have e : mget l k = some (l[mpos l k]).2 := by rw [hg, List.getElem?_eq_getElem hp]; rfl
  rw [e]
  refine ⟨(c[mpos l k]!).val, fun w' hcw => ?_, (h3 _ hp).2.2⟩
  have h1' : w'.heap[g]? = some (.map c l.length) := (hcw.block g (hr.lt _ hm g rfl) fun h => h.elim (hr.notStr hB hm rfl) hW).trans h1
  simp [execOp, ho, Instr.lookup, run_underlying hu, hr.evv hx, hk a w hr, getMap h1', hko.check, hf, hp]
 ·have e : mget l k = none := by rw [hg, List.getElem?_eq_none (by omega)]; rfl
  rw [e]
  refine ⟨z, fun w' hcw => ?_, .v _⟩
  have h1' : w'.heap[g]? = some (.map c l.length) := (hcw.block g (hr.lt _ hm g rfl) fun h => h.elim (hr.notStr hB hm rfl) hW).trans h1
  simp [execOp, ho, Instr.lookup, run_underlying hu, hr.evv hx, hk a w hr, getMap h1', hko.check, hf, hp, hz]
theorem modify_at {c : Array MapEntry} {i j : Nat} {f : MapEntry → MapEntry} (h : j < c.size) : (c.modify i f)[j]! = if i = j then f (c[j]!) else c[j]! := by
 rw [getElem!_pos _ j (by simpa using h), getElem!_pos c j h, Array.getElem_modify]
theorem push_at {c : Array MapEntry} {j : Nat} {x : MapEntry} (h : j < c.size + 1) : (c.push x)[j]! = if j < c.size then c[j]! else x := by
 rw [getElem!_pos _ j (by simpa using h), Array.getElem_push]
 split
 ·rename_i h1; rw [getElem!_pos c j h1]
 ·rfl
theorem R.setMap (hB : B.Ok) (hr : R B s a w) {i g : Nat} {l l' : List (κ × α)} {c c' : Array MapEntry} (hi : s.hp[i]? = some (mapE kv g E l)) (h1 : w.heap[g]? = some (.map c l.length)) (h2' : c'.size = l'.length)
  (h3' : ∀ j (hj : j < l'.length), (c'[j]!).key = kv (l'[j]).1 ∧ (c'[j]!).born = j ∧ Rep w (Zn B s.hp w) (E (l'[j]).2) (c'[j]!).val) : R B ⟨s.sl, s.hp.set i (mapE kv g E l'), s.k⟩ a (w.setMp g c' l'.length) := by
 have hm := List.mem_of_getElem? hi
 refine hr.set hB hi (chg_setMp w g c' l'.length) (.inl rfl) (EntR.ofMap (setMp_heap w g c c' _ _ h1) h2' fun j hj => ?_)
 obtain ⟨k1, k2, k3⟩ := h3' j hj
 refine ⟨k1, k2, k3.keep fun b hb hbl => ⟨setMp_other w g b c' _ fun e => hb.2.1 _ hm (by rw [e]; rfl), by simp [World.setMp]; exact hbl, fun p hp => ?_, hb.2.2⟩⟩
 rcases List.mem_or_eq_of_mem_set hp with hp | hp
 ·exact hb.2.1 p hp
 ·subst hp; exact hb.2.1 (mapE kv g E l) hm
theorem OpE.mapUpdate [DecidableEq κ] {x y v : Operand} {T kt e g i : Nat} {k : κ} {xx : α} {l : List (κ × α)} (ho : o.op = .mapUpdate T x y v) (hB : B.Ok) (hd : okd B.nt o.dst = true) (hu : P.underlying T = some (.map kt e)) (hko : KeyOk P kt kv)
  (hx : evO s x = some (.v (.map (some g)))) (hk : KeyE B s y (kv k)) (hv : evO s v = some (E xx)) (hi : s.hp[i]? = some (mapE kv g E l)) (hW : W g)
  (hK : K ((St'.mk s.sl (s.hp.set i (mapE kv g E (mput l k xx))) s.k).put o.dst (.v undef))) : OpE P B W s o K := by
 intro a w hr next Qx hn
 have hm := List.mem_of_getElem? hi
 obtain ⟨c, h1, h2, h3⟩ := EntR.toMap (hr.blocks _ hm)
 have hf := map_find hko h2 h3 k w
 have hle := mpos_le l k
 have hvv := hr.ev hv
 generalize hu' : a.eval v = u at hvv
 by_cases hp : mpos l k < l.length
 ·have hput := mput_old l k xx hp
  have hkey : (((c[mpos l k]?).map (·.key)).getD (kv k)) = kv k := by
   rw [Array.getElem?_eq_getElem (by omega)]
   have := (h3 _ hp).1
   rw [getElem!_pos c _ (by omega)] at this
   simp only [Option.map_some, Option.getD_some, this, mpos_key l k hp]
  have hr' := hr.setMap hB (l' := mput l k xx) (c' := c.modify (mpos l k) fun e => { e with key := kv k, val := u }) hi h1 (by rw [hput]; simp [h2]) (fun j hj => by
   have hj' : j < l.length := by rw [hput] at hj; simpa using hj
   simp only [hput]
   rw [modify_at (by omega)]
   by_cases ej : mpos l k = j
   ·rw [if_pos ej]
    subst ej
    exact ⟨by simp, (h3 _ hp).2.1, by simpa using hvv⟩
   ·rw [if_neg ej, List.getElem_set_ne ej]
    exact h3 j hj')
  have hlen : (mput l k xx).length = l.length := by rw [hput]; simp
  have hrun : (execOp a.eval o).run P w = .ok .skip (w.setMp g (c.modify (mpos l k) fun e => { e with key := kv k, val := u }) (mput l k xx).length) := by
   simp [execOp, ho, Instr.mapUpdate, run_underlying hu, hr.evv hx, hk a w hr, getMap h1, hko.check, hf, hp, hkey, hko.stay, hu', putMap _ _ h1, hlen, World.setMp]
  unfold Oper.wp
  rw [hrun]
  exact hn _ _ _ hK (hr'.put _ hd _ _ (.v _)) ((chg_setMp w g _ _).mono fun b _ h => .inr (by cases h; exact hW))
 ·have hput := mput_new l k xx (by omega)
  have hr' := hr.setMap hB (l' := mput l k xx) (c' := c.push { key := kv k, val := u, born := l.length }) hi h1 (by rw [hput]; simp [h2]) (fun j hj => by
   have hj' : j < l.length + 1 := by rw [hput] at hj; simpa using hj
   simp only [hput]
   rw [push_at (by omega)]
   by_cases ej : j < l.length
   ·rw [if_pos (by omega), List.getElem_append_left ej]
    exact h3 j ej
   ·obtain rfl : j = l.length := by omega
    rw [if_neg (by omega)]
    simpa using hvv)
  have hlen : (mput l k xx).length = l.length + 1 := by rw [hput]; simp
  have hrun : (execOp a.eval o).run P w = .ok .skip (w.setMp g (c.push { key := kv k, val := u, born := l.length }) (mput l k xx).length) := by
   simp [execOp, ho, Instr.mapUpdate, run_underlying hu, hr.evv hx, hk a w hr, getMap h1, hko.check, hf, hp, hu', putMap _ _ h1, hlen, World.setMp]
  unfold Oper.wp
  rw [hrun]
  exact hn _ _ _ hK (hr'.put _ hd _ _ (.v _)) ((chg_setMp w g _ _).mono fun b _ h => .inr (by cases h; exact hW))
def mgetD [DecidableEq κ] (l : List (κ × α)) (k : κ) (z : α) : α := (mget l k).getD z
end
end Go.Proofs.YtbbgjeiefmiblaaGreatDoor
namespace Go.Proofs
open Go.Shelf
def Tryz.keys107_ren : Go.Shelf.Ren := ⟨fun | 7 => 107 | 10 => 150 | n => n, fun | 23 => 163 | 26 => 9 | 3 => 3 | 28 => 166 | 0 => 0 | 27 => 165 | 33 => 99 | 4 => 4 | n => n, fun | n => n⟩
theorem Tryz.keys107 : Go.Proofs.SlLaysZ.n7 Tryz.prog Tryz.keys107_ren := {
 mixed := by kernel_rfl
 f7 := ⟨Tryz.f107.name, by decide, Tryz.func107.trans (congrArg some (by kernel_rfl))⟩
 f10 := ⟨Tryz.f150.name, by decide, Tryz.func150.trans (congrArg some (by kernel_rfl))⟩
 t0 := Tryz.underlying0
 a0 := Tryz.isAgg0
 z0 := Tryz.sizeOf0
 v0 := Tryz.zeroValue0
 t4 := Tryz.underlying4
 a4 := Tryz.isAgg4
 z4 := Tryz.sizeOf4
 v4 := Tryz.zeroValue4
 t23 := Tryz.underlying163
 a23 := Tryz.isAgg163
 z23 := Tryz.sizeOf163
 v23 := Tryz.zeroValue163
 t26 := Tryz.underlying9
 a26 := Tryz.isAgg9
 z26 := Tryz.sizeOf9
 v26 := Tryz.zeroValue9
 t27 := Tryz.underlying165
 a27 := Tryz.isAgg165
 z27 := Tryz.sizeOf165
 v27 := Tryz.zeroValue165
 t28 := Tryz.underlying166
 a28 := Tryz.isAgg166
 z28 := Tryz.sizeOf166
 v28 := Tryz.zeroValue166
 t33 := Tryz.underlying99
 a33 := Tryz.isAgg99
 z33 := Tryz.sizeOf99
 v33 := Tryz.zeroValue99 }
def Tryz.sorted106_ren : Go.Shelf.Ren := ⟨fun | 6 => 106 | 8 => 149 | 9 => 73 | 11 => 186 | 13 => 121 | 12 => 120 | 23 => 164 | 24 => 165 | 14 => 155 | 15 => 156 | 16 => 157 | 17 => 158 | 18 => 159 | 19 => 160 | 20 => 161 | 21 => 162 | 22 => 163 | 25 => 196 | 26 => 197 | 27 => 198 | 28 => 199 | 29 => 200 | 30 => 201 | 31 => 233 | n => n, fun | 26 => 9 | 28 => 166 | 24 => 29 | 0 => 0 | 3 => 3 | 37 => 90 | 48 => 169 | 50 => 172 | 4 => 4 | 40 => 221 | 39 => 220 | 45 => 115 | 5 => 5 | 9 => 9 | 51 => 252 | 55 => 256 | 57 => 278 | 58 => 279 | 33 => 99 | n => n, fun | n => n⟩
theorem Tryz.sorted106 : Go.Proofs.SlLaysZ.n6 Tryz.prog Tryz.sorted106_ren := {
 mixed := by kernel_rfl
 f6 := ⟨Tryz.f106.name, by decide, Tryz.func106.trans (congrArg some (by kernel_rfl))⟩
 f8 := ⟨Tryz.f149.name, by decide, Tryz.func149.trans (congrArg some (by kernel_rfl))⟩
 f11 := ⟨Tryz.f186.name, by decide, Tryz.func186.trans (congrArg some (by kernel_rfl))⟩
 t0 := Tryz.underlying0
 a0 := Tryz.isAgg0
 z0 := Tryz.sizeOf0
 v0 := Tryz.zeroValue0
 t24 := Tryz.underlying29
 a24 := Tryz.isAgg29
 z24 := Tryz.sizeOf29
 v24 := Tryz.zeroValue29
 t26 := Tryz.underlying9
 a26 := Tryz.isAgg9
 z26 := Tryz.sizeOf9
 v26 := Tryz.zeroValue9
 t28 := Tryz.underlying166
 a28 := Tryz.isAgg166
 z28 := Tryz.sizeOf166
 v28 := Tryz.zeroValue166
 i26 := by kernel_rfl }
def Tryz.sort73_ren : Go.Shelf.Ren := ⟨fun | 6 => 73 | 8 => 121 | 9 => 120 | 19 => 164 | 20 => 165 | 21 => 155 | 22 => 156 | 23 => 157 | 24 => 158 | 25 => 159 | 26 => 160 | 27 => 161 | 28 => 162 | 29 => 163 | 36 => 196 | 31 => 197 | 32 => 198 | 37 => 199 | 38 => 200 | 39 => 201 | 41 => 233 | n => n, fun | 27 => 29 | 29 => 9 | 3 => 3 | 32 => 90 | 26 => 29 | 0 => 0 | 44 => 169 | 46 => 172 | 4 => 4 | 36 => 221 | 35 => 220 | 41 => 115 | 5 => 5 | 9 => 9 | 53 => 252 | 57 => 256 | 63 => 278 | 64 => 279 | n => n, fun | n => n⟩
theorem Tryz.sort73 : Go.Proofs.SlLaysM.n6 Tryz.prog Tryz.sort73_ren := {
 mixed := by kernel_rfl
 f6 := ⟨Tryz.f73.name, by decide, Tryz.func73.trans (congrArg some (by kernel_rfl))⟩
 f8 := Tryz.func121.trans (congrArg some (by kernel_rfl))
 f9 := ⟨Tryz.f120.name, by decide, Tryz.func120.trans (congrArg some (by kernel_rfl))⟩
 f19 := Tryz.func164.trans (congrArg some (by kernel_rfl))
 f20 := Tryz.func165.trans (congrArg some (by kernel_rfl))
 f21 := ⟨Tryz.f155.name, by decide, Tryz.func155.trans (congrArg some (by kernel_rfl))⟩
 f22 := ⟨Tryz.f156.name, by decide, Tryz.func156.trans (congrArg some (by kernel_rfl))⟩
 f23 := ⟨Tryz.f157.name, by decide, Tryz.func157.trans (congrArg some (by kernel_rfl))⟩
 f24 := ⟨Tryz.f158.name, by decide, Tryz.func158.trans (congrArg some (by kernel_rfl))⟩
 f25 := ⟨Tryz.f159.name, by decide, Tryz.func159.trans (congrArg some (by kernel_rfl))⟩
 f26 := ⟨Tryz.f160.name, by decide, Tryz.func160.trans (congrArg some (by kernel_rfl))⟩
 f27 := ⟨Tryz.f161.name, by decide, Tryz.func161.trans (congrArg some (by kernel_rfl))⟩
 f28 := ⟨Tryz.f162.name, by decide, Tryz.func162.trans (congrArg some (by kernel_rfl))⟩
 f29 := ⟨Tryz.f163.name, by decide, Tryz.func163.trans (congrArg some (by kernel_rfl))⟩
 f31 := Tryz.func197.trans (congrArg some (by kernel_rfl))
 f32 := Tryz.func198.trans (congrArg some (by kernel_rfl))
 f36 := ⟨Tryz.f196.name, by decide, Tryz.func196.trans (congrArg some (by kernel_rfl))⟩
 f37 := ⟨Tryz.f199.name, by decide, Tryz.func199.trans (congrArg some (by kernel_rfl))⟩
 f38 := ⟨Tryz.f200.name, by decide, Tryz.func200.trans (congrArg some (by kernel_rfl))⟩
 f39 := ⟨Tryz.f201.name, by decide, Tryz.func201.trans (congrArg some (by kernel_rfl))⟩
 f41 := ⟨Tryz.f233.name, by decide, Tryz.func233.trans (congrArg some (by kernel_rfl))⟩
 t0 := Tryz.underlying0
 a0 := Tryz.isAgg0
 z0 := Tryz.sizeOf0
 v0 := Tryz.zeroValue0
 t3 := Tryz.underlying3
 a3 := Tryz.isAgg3
 z3 := Tryz.sizeOf3
 v3 := Tryz.zeroValue3
 t4 := Tryz.underlying4
 a4 := Tryz.isAgg4
 z4 := Tryz.sizeOf4
 v4 := Tryz.zeroValue4
 t5 := Tryz.underlying5
 a5 := Tryz.isAgg5
 z5 := Tryz.sizeOf5
 v5 := Tryz.zeroValue5
 t9 := Tryz.underlying9
 a9 := Tryz.isAgg9
 z9 := Tryz.sizeOf9
 v9 := Tryz.zeroValue9
 t26 := Tryz.underlying29
 a26 := Tryz.isAgg29
 z26 := Tryz.sizeOf29
 v26 := Tryz.zeroValue29
 t27 := Tryz.underlying29
 a27 := Tryz.isAgg29
 z27 := Tryz.sizeOf29
 v27 := Tryz.zeroValue29
 t29 := Tryz.underlying9
 a29 := Tryz.isAgg9
 z29 := Tryz.sizeOf9
 v29 := Tryz.zeroValue9
 t32 := Tryz.underlying90
 a32 := Tryz.isAgg90
 z32 := Tryz.sizeOf90
 v32 := Tryz.zeroValue90
 t35 := Tryz.underlying220
 a35 := Tryz.isAgg220
 z35 := Tryz.sizeOf220
 v35 := Tryz.zeroValue220
 t36 := Tryz.underlying221
 a36 := Tryz.isAgg221
 z36 := Tryz.sizeOf221
 v36 := Tryz.zeroValue221
 t41 := Tryz.underlying115
 a41 := Tryz.isAgg115
 z41 := Tryz.sizeOf115
 v41 := Tryz.zeroValue115
 t44 := Tryz.underlying169
 a44 := Tryz.isAgg169
 z44 := Tryz.sizeOf169
 v44 := Tryz.zeroValue169
 t46 := Tryz.underlying172
 a46 := Tryz.isAgg172
 z46 := Tryz.sizeOf172
 v46 := Tryz.zeroValue172
 t53 := Tryz.underlying252
 a53 := Tryz.isAgg252
 z53 := Tryz.sizeOf252
 v53 := Tryz.zeroValue252
 t57 := Tryz.underlying256
 a57 := Tryz.isAgg256
 z57 := Tryz.sizeOf256
 v57 := Tryz.zeroValue256
 t63 := Tryz.underlying278
 a63 := Tryz.isAgg278
 z63 := Tryz.sizeOf278
 v63 := Tryz.zeroValue278
 t64 := Tryz.underlying279
 a64 := Tryz.isAgg279
 z64 := Tryz.sizeOf279
 v64 := Tryz.zeroValue279 }
end Go.Proofs
namespace Go.Proofs.YtbbgjeiefmiblaaGreatDoor
open Go.RowKit Go.Maps Go.Sort Go.Shelf
set_option linter.unusedVariables false
set_option linter.unusedSimpArgs false

def bytesOf (l : List UInt8) : ByteArray := ⟨l.toArray⟩
def sKeys {α : Type} (l : List (ByteArray × α)) : List ByteArray := ((l.map fun p => p.1.data.toList).mergeSort (fun x y => decide (x ≤ y))).map bytesOf
theorem sKeys_len {α : Type} (l : List (ByteArray × α)) : (sKeys l).length = l.length := by simp [sKeys]
theorem mput_keys {α : Type} (l : List (ByteArray × α)) (k : ByteArray) (x : α) : (mput l k x).map (·.1) = if mpos l k < l.length then l.map (·.1) else l.map (·.1) ++ [k] := by
 split
 ·rename_i h
  rw [mput_old l k x h, List.map_set]
  have := mpos_key l k h
  refine List.ext_getElem (by simp) fun i h1 h2 => ?_
  simp only [List.length_set, List.length_map] at h1
  rw [List.getElem_set]
  split
  ·rename_i e; subst e; simp [this]
  ·simp
 ·rename_i h
  rw [mput_new l k x (by have := mpos_le l k; omega)]; simp
theorem mpos_mem {α : Type} {l : List (ByteArray × α)} {k : ByteArray} : mpos l k < l.length ↔ k ∈ l.map (·.1) := by
 constructor
 ·intro h; exact List.mem_map.2 ⟨_, List.getElem_mem h, mpos_key l k h⟩
 ·intro h
  obtain ⟨p, hp, e⟩ := List.mem_map.1 h
  obtain ⟨j, hj, ej⟩ := List.getElem_of_mem hp
  by_cases h1 : mpos l k < l.length
  ·exact h1
  ·have hle := mpos_le l k
   obtain ⟨_, h2⟩ := mpos_ne l k j (by omega)
   exact absurd (by rw [ej]; exact e) h2
theorem mput_nodup {α : Type} {l : List (ByteArray × α)} (h : (l.map (·.1)).Nodup) (k : ByteArray) (x : α) : ((mput l k x).map (·.1)).Nodup := by
 rw [mput_keys]
 split
 ·exact h
 ·rename_i h1
  rw [mpos_mem] at h1
  exact List.nodup_append.2 ⟨h, by simp, fun a ha b hb => by simp at hb; subst hb; exact fun e => h1 (e ▸ ha)⟩
theorem mput_mem {α : Type} {l : List (ByteArray × α)} {k : ByteArray} {x : α} {q : ByteArray} : q ∈ (mput l k x).map (·.1) ↔ q ∈ l.map (·.1) ∨ q = k := by
 rw [mput_keys]
 split
 ·rename_i h1
  rw [mpos_mem] at h1
  exact ⟨.inl, fun h => h.elim id fun e => e ▸ h1⟩
 ·simp

section
variable {P : Program} {w : World} {kt : TypeId}
theorem own_of_mapE {α : Type} {E : α → AV} {g : Nat} {l : List (ByteArray × α)} {Z : Nat → Prop} (hk : P.underlying kt = some .string) (h : EntR w Z (mapE (fun k : ByteArray => Value.string k) g E l)) (hnd : (l.map (·.1)).Nodup) (hs : ∀ p ∈ l, p.1.size ≤ maxLen) (hl : l.length ≤ maxLen) :
  ∃ D : DataW Unit, w.ownsMap P kt (fun _ => some (.nil, [])) g l.length D ∧ Maps.size D = l.length ∧ (strKeys D).Perm (l.map fun p => p.1.data.toList) := by
 obtain ⟨c, h1, h2, h3⟩ := h.toMap
 have hmem : ∀ x ∈ c.toList, ∃ j, ∃ hj : j < l.length, x = c[j]! := fun x hx => by
  obtain ⟨j, hj, rfl⟩ := List.getElem_of_mem hx
  simp at hj
  exact ⟨j, by omega, by rw [getElem!_pos c j hj]; simp⟩
 have hrd : ∀ x ∈ c.toList, ∀ j (hj : j < l.length), x = c[j]! → WideElems.rd (H := Unit) P kt (fun _ => some (.nil, [])) x = some (.string (l[j]).1.data.toList, .nil) := fun x hx j hj e => by
  have hk1 := (h3 j hj).1
  obtain ⟨key, val, born⟩ := x
  have : key = .string (l[j]).1 := by rw [← hk1, ← e]
  subst this
  exact WideElems.rd_mk (R := fun _ => some (.nil, [])) (yv := (.nil, [])) (Go.WideMaps.keyOf_string_mk hk (hs _ (List.getElem_mem hj))) rfl
 have hF : WideElems.Fit (H := Unit) P kt (fun _ => some (.nil, [])) c l.length := ⟨by omega, (MapKept.stamped_iff _ _).2 ⟨fun x hx => by
   obtain ⟨j, hj, rfl⟩ := hmem x hx
   rw [(h3 j hj).2.1]; exact hj, by
   have : c.toList.map (·.born) = List.range' 0 l.length := by
    refine List.ext_getElem (by simp [h2]) fun i k1 k2 => ?_
    simp at k1
    have := (h3 i (by omega)).2.1
    rw [getElem!_pos c i k1] at this
    simp [this]
   rw [this]; exact List.nodup_range', by
   rw [List.pairwise_iff_getElem]
   intro i j hi hj hij e
   simp at hi hj
   have k1 := (h3 i (by omega)).1
   have k2 := (h3 j (by omega)).1
   rw [getElem!_pos c i hi] at k1
   rw [getElem!_pos c j hj] at k2
   simp only [Array.getElem_toList] at e
   rw [k1, k2] at e
   have e' : (l[i]'(by omega)).1 = (l[j]'(by omega)).1 := by injection e
   have := (List.pairwise_iff_getElem.1 hnd) i j (by simp; omega) (by simp; omega) hij
   simp at this
   exact this e'⟩, fun x hx => by
   obtain ⟨j, hj, e⟩ := hmem x hx
   exact ⟨_, hrd x hx j hj e⟩⟩
 refine ⟨_, ⟨c, l.length, h1, hF, by omega, rfl⟩, ?_, ?_⟩
 ·simp [Maps.size, (WideShapes.sorted_perm _).length_eq, h2]
 ·have hp := (WideShapes.sorted_perm (c.toList.map (WideElems.rg (H := Unit) P kt fun _ => some (.nil, []))))
  refine (hp.map (fun p => Go.strOf p.1)).trans (.of_eq ?_)
  refine List.ext_getElem (by simp [h2]) fun i k1 k2 => ?_
  simp at k1 k2
  have := hrd (c[i]!) (by rw [getElem!_pos c i (by omega)]; simp) i (by omega) rfl
  rw [getElem!_pos c i (by omega)] at this
  simp [WideElems.rg_of this]
  rfl
end

section
theorem sortsK (m : Nat) : AnyZ.SortsIn Tryz.prog Tryz.sorted106_ren Fence.wide m :=
  ⟨fun blk off cap ss W hH hblk hsz => callsIn_wide.2 (AnyM.slices_Sort_string Tryz.sort73 blk off cap ss W hH hblk hsz),
   fun p cap W => callsIn_wide.2 (AnyM.slices_Sort_string_none Tryz.sort73 p cap W)⟩
theorem maps_Keys_int (mb : Option Nat) : SpecH Tryz.prog 107 [.v (.map mb)] [] (fun y hp' => ∃ g, y = .v (.func (.func 150) #[] #[.pointer (some ⟨g, 0, none⟩)]) ∧ hp' = [.box g ⟨[.v (.map mb)], 163, 1⟩]) := fun w A us ha _ _ _ => by
 have hu : us = #[.map mb] := by
  have h0 := ha.2 0 (by simp)
  have h1 : us.size = 1 := ha.1
  have h2 := h0.eq_v
  apply Array.ext (by simp [h1])
  intro i hi1 hi2
  obtain rfl : i = 0 := by omega
  rw [Array.getD_eq_getD_getElem?, Array.getElem?_eq_getElem (by omega)] at h2
  simpa using h2
 subst hu
 refine ((callsIn_wide (n := 5)).1 (AnyZ.keys_in Tryz.keys107 Fence.wide 5 trivial rfl mb w)).mono ?_
 rintro e w' ⟨rfl, rfl⟩
 refine ⟨_, _, _, ⟨w.heap.size, rfl, rfl⟩, rfl, List.pairwise_singleton _ _, .v _, fun e he => ?_, fun b ⟨e, he, hb⟩ hl => ?_, ((Chg.refl NoB w).alloc _).any⟩
 ·simp at he; subst he
  exact ⟨_, heap_alloc_new w _, rfl, Nat.le_refl _, fun j hj => by simp at hj; subst hj; exact ⟨_, rfl, .v _⟩⟩
 ·simp at he; subst he
  simp [Ent.blk] at hb; omega
set_option maxHeartbeats 1000000 in
theorem slices_Sorted_int {α : Type} {E : α → AV} {g mg : Nat} {l : List (ByteArray × α)} (hnd : (l.map (·.1)).Nodup) (hs : ∀ p ∈ l, p.1.size ≤ maxLen) (hl : l.length ≤ 1000000) :
    SpecH Tryz.prog 106 [.v (.func (.func 150) #[] #[.pointer (some ⟨g, 0, none⟩)])] [.box g ⟨[.v (.map (some mg))], 163, 1⟩, mapE (fun k : ByteArray => Value.string k) mg E l]
      (fun y hp' => ∃ u, y = .v u ∧ hp' = [.row u l.length 1 (strsL (sKeys l)) 9, .box g ⟨[.v (.map (some mg))], 163, 1⟩, mapE (fun k : ByteArray => Value.string k) mg E l]) := fun w A us ha hap hA hE => by
  have hu : us = #[.func (.func 150) #[] #[.pointer (some ⟨g, 0, none⟩)]] := by
    have h0 := ha.2 0 (by simp)
    have h1 : us.size = 1 := ha.1
    have h2 := h0.eq_v
    apply Array.ext (by simp [h1])
    intro i hi1 hi2
    obtain rfl : i = 0 := by omega
    rw [Array.getD_eq_getD_getElem?, Array.getElem?_eq_getElem (by omega)] at h2
    simpa using h2
  subst hu
  have hB := hE _ (List.mem_cons_self ..)
  have hM := hE _ (List.mem_cons_of_mem _ (List.mem_cons_self ..))
  obtain ⟨c, b1, b2, b3, b4⟩ := hB
  have hc : c = #[.map (some mg)] := by
    obtain ⟨u, q1, q2⟩ := b4 0 (by simp)
    have := q2.eq_v
    simp at b2 this
    apply Array.ext (by simp [b2])
    intro i hi1 hi2
    obtain rfl : i = 0 := by omega
    rw [Array.getElem?_eq_getElem (by omega)] at q1
    cases q1
    simpa using this
  subst hc
  have hlen : l.length ≤ maxLen := by simp only [maxLen]; omega
  obtain ⟨D, d1, d2, d3⟩ := own_of_mapE (kt := 9) Tryz.underlying9 hM hnd hs hlen
  have hgl : g < w.heap.size := (Array.getElem?_eq_some_iff.1 b1).1
  have hcell : w.cell? ⟨g, 0, none⟩ = some (.map (some mg)) := by simp [World.cell?, b1]
  have hseq : SeqGives Fence.wide 2 Tryz.prog 150 #[.pointer (some ⟨g, 0, none⟩)] encStr (fun ss => ss.Perm (strKeys D)) (Maps.size D) w :=
    AnyZ.keys_gives (ρ := Tryz.keys107_ren) { Tryz.keys107 with } Fence.wide _ trivial rfl (by omega) g mg l.length D _ hgl hcell d1
  have hsz : Maps.size D ≤ maxLen := by rw [d2]; exact hlen
  have hby : Maps.size D * 16 ≤ 140737488355328 := by rw [d2]; omega
  refine ((callsIn_wide (n := 5)).1 (AnyZ.sorted_in Tryz.sorted106 Fence.wide 5 trivial trivial trivial trivial rfl (by omega) (sortsK _) (enters_of Tryz.func73 (by kernel_rfl) rfl) 150 #[.pointer (some ⟨g, 0, none⟩)] trivial (enters_of Tryz.func150 (by kernel_rfl) rfl) _ _ hsz hby _ hseq)).mono ?_
  rintro e w' ⟨v, ss, rfl, hS, hrow, hnil, hb⟩
  have hS' : ss.Perm (l.map fun p => p.1.data.toList) := hS.trans d3
  have hssl : ss.length = l.length := by simpa using hS'.length_eq
  have hkeys : (ss.mergeSort (fun x y => decide (x ≤ y))).map encStr = (sKeys l).map fun k => Value.string k := by
    have := mergeSort_of_perm hS'
    unfold leB at this
    rw [this, sKeys, List.map_map]
    rfl
  rw [hkeys] at hrow
  have hchg : Chg NoB w w' := (Chg.ofBelow hb).mono fun k h1 h2 => absurd h1 (Nat.not_lt.2 h2)
  obtain ⟨r1, r2⟩ := hrow
  have hZ : ∀ b, b < w.heap.size ∧ A b → Zh w A [.box g ⟨[.v (.map (some mg))], 163, 1⟩, mapE (fun k : ByteArray => Value.string k) mg E l] [.row v l.length 1 (strsL (sKeys l)) 9, .box g ⟨[.v (.map (some mg))], 163, 1⟩, mapE (fun k : ByteArray => Value.string k) mg E l] w' b := fun b ⟨hb1, hb2⟩ => by
    refine ⟨Nat.lt_of_lt_of_le hb1 hchg.size, fun ⟨e, he, heb⟩ => ?_, fun _ => .inl hb2⟩
    rcases List.mem_cons.1 he with rfl | he
    · rcases r2 with ⟨rfl, _⟩ | ⟨g2, cap, cur, rfl, hge, _⟩
      · simp [Ent.blk, Value.ownBlock] at heb
      · simp [Ent.blk, Value.ownBlock] at heb; omega
    · exact hA b ⟨e, he, heb⟩ hb2
  have hold : ∀ e ∈ [Ent.box g ⟨[.v (.map (some mg))], 163, 1⟩, mapE (fun k : ByteArray => Value.string k) mg E l], ∀ b, e.blk = some b → b < w.heap.size := fun e he b heb => by
    rcases List.mem_cons.1 he with rfl | he
    · simp [Ent.blk] at heb; omega
    · simp at he; subst he
      simp [Ent.blk] at heb
      obtain ⟨c2, k1, _⟩ := hM
      have := (Array.getElem?_eq_some_iff.1 k1).1
      omega
  refine ⟨_, _, _, ⟨v, rfl, rfl⟩, rfl, ?_, .v _, fun e he => ?_, fun b ⟨e, he, heb⟩ hl => ?_, hchg.any⟩
  · refine List.pairwise_cons.2 ⟨fun q hq b h1 h2 => ?_, hap⟩
    rcases r2 with ⟨rfl, _⟩ | ⟨g2, cap, cur, rfl, hge, _⟩
    · simp [Ent.blk, Value.ownBlock] at h1
    · simp [Ent.blk, Value.ownBlock] at h1
      have := hold q hq b h2
      omega
  · rcases List.mem_cons.1 he with rfl | he
    · refine ⟨by simp [strsL, sKeys_len], ?_⟩
      rcases r2 with ⟨rfl, hz⟩ | ⟨g2, cap, cur, rfl, hge, k1, k2, k3, k4, k5⟩
      · exact .inl ⟨rfl, by omega⟩
      · refine .inr ⟨g2, cap, cur, by rw [hssl], by omega, k3, k1, k4, fun j hj => ?_⟩
        have hj' : j < (sKeys l).length := by simpa [strsL] using hj
        have hcur : cur[j]? = some (.string ((sKeys l)[j])) := by
          have := congrArg (fun z => z[j]?) k5
          simp only [List.getElem?_map, List.getElem?_eq_getElem hj', Option.map_some] at this
          rw [List.getElem?_take] at this
          split at this
          · simpa using this
          · cases this
        exact ⟨_, hcur, by simp only [strsL, List.getElem_map]; exact .v _⟩
    · exact (hE e he).keep (fun b hb _ => ⟨hchg.block b hb.1 (fun h => h), hZ b hb⟩) fun b hb => hchg.block b (hold e he b hb) (fun h => h)
  · rcases List.mem_cons.1 he with rfl | he
    · rcases r2 with ⟨rfl, _⟩ | ⟨g2, cap, cur, rfl, hge, _⟩
      · simp [Ent.blk, Value.ownBlock] at heb
      · simp [Ent.blk, Value.ownBlock] at heb; omega
    · exact ⟨e, he, heb⟩
end
end Go.Proofs.YtbbgjeiefmiblaaGreatDoor
