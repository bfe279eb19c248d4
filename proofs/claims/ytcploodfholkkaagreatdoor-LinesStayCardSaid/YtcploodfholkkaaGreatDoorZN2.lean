/- Part 2 of a proof: the walks and laws that it needs. -/
import Derived.Lib.Strings
import Derived.Lib.SlTrimSet
import Derived.Test.YtcploodfholkkaaGreatDoorProg
import Derived.Lib.AppendZerosOnto
import Derived.Lib.Overlaps
import Derived.Test.YtcploodfholkkaaGreatDoorZN1
set_option linter.unusedVariables false
set_option linter.unusedSimpArgs false
namespace Go.Proofs.YtcploodfholkkaaGreatDoor
open Go.RowKit
set_option maxRecDepth 100000
section
theorem bA_beq (a b : ByteArray) : (a == b) = decide (a = b) := by
 cases a with | mk x => cases b with | mk y =>
 have : ((⟨x⟩ : ByteArray) == ⟨y⟩) = (x == y) := rfl
 rw [this, Bool.eq_iff_iff, beq_iff_eq, decide_eq_true_eq]
 exact ⟨fun h => by rw [h], fun h => by cases h; rfl⟩
instance : LawfulBEq ByteArray where
 eq_of_beq h := by rw [bA_beq] at h; exact of_decide_eq_true h
 rfl {a} := by rw [bA_beq]; exact decide_eq_true rfl
def fidx {α : Type} (p : α → Bool) : List α → Int
 | [] => -1
 | x :: r => match p x with
  | true => 0
  | false => match fidx p r with
   | Int.ofNat n => Int.ofNat (n + 1)
   | i => i
theorem fidx_found {α : Type} {p : α → Bool} {d : α} : ∀ {xs : List α} {q : Nat}, q < xs.length → (∀ j, j < q → p (xs.getD j d) = false) → p (xs.getD q d) = true → fidx p xs = q
 | [], q, h, _, _ => by simp at h
 | x :: r, 0, h, h1, h2 => by simp at h2; simp [fidx, h2]
 | x :: r, q + 1, h, h1, h2 => by
  have h0 := h1 0 (by omega)
  simp at h0
  have ih := fidx_found (d := d) (xs := r) (q := q) (by simpa using h) (fun j hj => by simpa using h1 (j + 1) (by omega)) (by simpa using h2)
  simp only [fidx, h0, ih]
  rfl
theorem fidx_none {α : Type} {p : α → Bool} {d : α} : ∀ {xs : List α}, (∀ j, j < xs.length → p (xs.getD j d) = false) → fidx p xs = -1
 | [], _ => rfl
 | x :: r, h => by
  have h0 := h 0 (by simp)
  simp at h0
  have ih := fidx_none (d := d) (xs := r) (fun j hj => by simpa using h (j + 1) (by simpa using hj))
  simp only [fidx, h0, ih]
theorem fidx_at {α : Type} {p : α → Bool} {d : α} : ∀ {xs : List α}, 0 ≤ fidx p xs → (fidx p xs).toNat < xs.length ∧ p (xs.getD (fidx p xs).toNat d) = true ∧ ∀ j, j < (fidx p xs).toNat → p (xs.getD j d) = false
 | [], h => by simp [fidx] at h
 | x :: r, h => by
  cases hx : p x with
  | true =>
   have e : fidx p (x :: r) = 0 := by simp [fidx, hx]
   rw [e]
   exact ⟨by simp, by simpa using hx, fun j hj => by simp at hj⟩
  | false =>
   cases hf : fidx p r with
   | ofNat n =>
    have e : fidx p (x :: r) = Int.ofNat (n + 1) := by simp [fidx, hx, hf]
    have ih := fidx_at (d := d) (xs := r) (by rw [hf]; exact Int.natCast_nonneg n)
    rw [hf] at ih
    rw [e]
    refine ⟨Nat.succ_lt_succ ih.1, by simpa using ih.2.1, fun j hj => ?_⟩
    cases j with
    | zero => simpa using hx
    | succ j => simpa using ih.2.2 j (Nat.lt_of_succ_lt_succ hj)
   | negSucc n =>
    have e : fidx p (x :: r) = Int.negSucc n := by simp [fidx, hx, hf]
    rw [e] at h
    exact absurd h (by simp)
theorem fidx_ge {α : Type} (p : α → Bool) : ∀ xs : List α, -1 ≤ fidx p xs ∧ fidx p xs < xs.length + 1
 | [] => by simp [fidx]
 | x :: r => by
  have ih := fidx_ge p r
  simp only [fidx]
  split
  ·simp; omega
  ·split
   ·rename_i n h; rw [h] at ih; simp at ih ⊢; omega
   ·simp; omega
theorem fidx_any {α : Type} (p : α → Bool) : ∀ xs : List α, decide (0 ≤ fidx p xs) = xs.any p
 | [] => rfl
 | x :: r => by
  have ih := fidx_any p r
  cases hp : p x with
  | true => simp [fidx, hp]
  | false =>
   rw [List.any_cons, hp, Bool.false_or, ← ih]
   simp only [fidx, hp]
   cases fidx p r with
   | ofNat n => simp; omega
   | negSucc n => rfl
theorem any_found {α : Type} {p : α → Bool} {d : α} {xs : List α} {q : Nat} (hq : q < xs.length) (h : p (xs.getD q d) = true) : xs.any p = true :=
 List.any_eq_true.2 ⟨_, List.getElem_mem hq, by simpa [hq] using h⟩
theorem any_none {α : Type} {p : α → Bool} {d : α} {xs : List α} (h : ∀ j, j < xs.length → p (xs.getD j d) = false) : xs.any p = false := by
 apply Bool.eq_false_iff.2
 intro hc
 obtain ⟨x, hx, hp⟩ := List.any_eq_true.1 hc
 obtain ⟨j, hj, rfl⟩ := List.mem_iff_getElem.1 hx
 have := h j hj
 simp [hj] at this
 rw [this] at hp; cases hp
theorem lt_succ_cases {q : Nat} {φ : Nat → Prop} (h : ∀ j, j < q → φ j) (hq : φ q) : ∀ j, j < q + 1 → φ j := fun j hj => by
 by_cases e : j = q
 ·rw [e]; exact hq
 ·exact h j (by omega)
theorem all_no {α : Type} {p : α → Bool} {d : α} {xs : List α} {q : Nat} (hq : q < xs.length) (h : p (xs.getD q d) = false) : xs.all p = false := by
 apply Bool.eq_false_iff.2
 intro hc
 have := List.all_eq_true.1 hc _ (List.getElem_mem hq)
 simp [hq] at h
 rw [h] at this; cases this
theorem all_yes {α : Type} {p : α → Bool} {d : α} {xs : List α} (h : ∀ j, j < xs.length → p (xs.getD j d) = true) : xs.all p = true := by
 refine List.all_eq_true.2 fun x hx => ?_
 obtain ⟨j, hj, rfl⟩ := List.mem_iff_getElem.1 hx
 have := h j hj
 simpa [hj] using this
def tabI (n : Nat) (f : Nat → Int) : List Int := (List.range n).map f
theorem tabI_len (n : Nat) (f : Nat → Int) : (tabI n f).length = n := by simp [tabI]
theorem tabI_get {n : Nat} {f : Nat → Int} {k : Nat} (h : k < n) : (tabI n f).getD k 0 = f k := by simp [tabI, h]
theorem tabI_congr {n : Nat} {f g : Nat → Int} (h : ∀ k, k < n → f k = g k) : tabI n f = tabI n g := by
 unfold tabI
 exact List.map_congr_left fun k hk => h k (by simpa using hk)
theorem tabI_set {n : Nat} {f : Nat → Int} {k : Nat} {v : Int} : (tabI n f).set k v = tabI n (fun j => if j = k then v else f j) := by
 apply List.ext_getElem (by simp [tabI])
 intro i h1 h2
 simp [tabI, List.getElem_set]
 split <;> rename_i e
 ·subst e; simp
 ·rw [if_neg (fun x => e x.symm)]
theorem tabI_set' {n : Nat} {f g : Nat → Int} {k : Nat} {v : Int} (h1 : v = g k) (h2 : ∀ j, j < n → j ≠ k → f j = g j) : (tabI n f).set k v = tabI n g := by
 rw [tabI_set]
 refine tabI_congr fun j hj => ?_
 split
 ·rename_i e; rw [e, h1]
 ·rename_i e; exact h2 j hj e
theorem tabI_rep (n : Nat) : List.replicate n (0 : Int) = tabI n (fun _ => 0) := by
 apply List.ext_getElem (by simp [tabI])
 intro i h1 h2
 simp [tabI]
theorem intsT_get {n : Nat} {f : Nat → Int} {k : Nat} (h : k < n) : (intsL (tabI n f))[k]? = some (avI (f k)) := by
 rw [intsL_get (by rw [tabI_len]; exact h), tabI_get h]
theorem eqL_ne {xs ys : List Int} {q : Nat} (h : xs.getD q 0 ≠ ys.getD q 0) : decide (xs = ys) = false := decide_eq_false fun e => h (by rw [e])
theorem eqL_len {xs ys : List Int} (h : (xs.length : Int) ≠ ys.length) : decide (xs = ys) = false := decide_eq_false fun e => h (by rw [e])
theorem eqL_all {xs ys : List Int} {q : Nat} (hl : (xs.length : Int) = ys.length) (hn : ∀ j, j < q → xs.getD j 0 = ys.getD j 0) (hq : xs.length ≤ q) : decide (xs = ys) = true := decide_eq_true (List.ext_getElem (by omega) fun i h1 h2 => by
 have := hn i (by omega)
 simpa [h1, h2] using this)
theorem sEq_eq {p q : ByteArray} : sEq p q = true ↔ p = q := by
 unfold sEq
 constructor
 ·intro h
  have h' : p.toList = q.toList := by simpa using h
  rw [Lib.toList_data, Lib.toList_data] at h'
  cases p; cases q; simp at h'; rw [h']
 ·rintro rfl; simp
end
section
def inB (l : List UInt8) (b : UInt8) : Bool := decide (0 ≤ Lib.indexByte l b)
def smallsB : List UInt8 := [97, 98, 99, 100, 101, 102, 103, 104, 105, 106, 107, 108, 109, 110, 111, 112, 113, 114, 115, 116, 117, 118, 119, 120, 121, 122]
def keysB : List UInt8 := smallsB ++ [48, 49, 50, 51, 52, 53, 54, 55, 56, 57, 45, 95]
def keyF (s : ByteArray) : Bool := decide (1 ≤ s.size) && decide (s.size ≤ 40) && (s.data.toList.take 1).all (inB smallsB) && s.data.toList.all (inB keysB)
theorem args1 {u : Value} {w : World} {A : Nat → Prop} {us : Array Value} (h : Args w A [.v u] us) : us = #[u] := by
 obtain ⟨h1, h2⟩ := h
 have e0 := (h2 0 (by simp)).eq_v
 apply Array.ext (by simpa using h1)
 intro i hi hi'
 simp at hi'
 subst hi'
 simpa [Array.getD_eq_getD_getElem?, h1] using e0
theorem argsV2 {u v : Value} {w : World} {A : Nat → Prop} {us : Array Value} (h : Args w A [.v u, .v v] us) : us = #[u, v] := by
 obtain ⟨h1, h2⟩ := h
 have e0 := (h2 0 (by simp)).eq_v
 have e1 := (h2 1 (by simp)).eq_v
 apply Array.ext (by simpa using h1)
 intro i hi hi'
 simp at hi'
 rw [h1] at hi
 match i, hi' with
 | 0, _ => simpa [Array.getD_eq_getD_getElem?, h1] using e0
 | 1, _ => simpa [Array.getD_eq_getD_getElem?, h1] using e1
theorem Chg.ofBelowN {w w' : World} (h : Below w.heap.size w w') : Chg NoB w w' := ⟨h.os, h.tape, h.output, h.size, fun k hk _ => h.block k hk⟩
theorem strings_IndexByte_S {s : ByteArray} {c : Int} : SpecN Tryz.prog 312 [avS s, .v (.int .u8 c)] (fun y => y = avI (Lib.indexByte s.data.toList c.toNat.toUInt8)) := by
 intro w us ha
 rw [argsV2 ha]
 refine (Tryz.strings_IndexByte s c w).mono ?_
 rintro e w' ⟨rfl, rfl⟩
 exact ⟨_, _, rfl, rfl, .v _, Chg.refl _ _, trivial⟩
theorem strings_Trim_S {s cs : ByteArray} (hs : s.size ≤ 9223372036854775807) (hcs : cs.size < 4294967281) (hascii : ∀ (j : Nat) b, cs.data.toList[j]? = some b → b.toNat < 128) :
  SpecN Tryz.prog 296 [avS s, avS cs] (fun y => y = avS ⟨(Lib.trimS s.data.toList cs.data.toList).toArray⟩) := by
 intro w us ha
 rw [argsV2 ha]
 refine (Tryz.strings_Trim s cs w hs hcs hascii).mono ?_
 rintro e w' ⟨rfl, h⟩
 exact ⟨_, _, rfl, rfl, .v _, .ofBelowN h, trivial⟩
theorem lenB (p : ByteArray) : p.data.toList.length = p.size := by have := Lib.size_eq p; omega
theorem byteAt {p : ByteArray} {i : Nat} (h : i < p.size) : ((p[i].toNat : Int)).toNat.toUInt8 = p.data.toList.getD i 0 := by
 have : p[i] = p.data[i] := rfl
 rw [this]
 have h' : i < p.data.size := h
 simp [List.getD_eq_getElem?_getD]
 rw [Array.getElem?_eq_getElem h']; rfl
theorem sEq_empty {p : ByteArray} : sEq p ⟨#[]⟩ = decide (p.size = 0) := by
 cases h : sEq p ⟨#[]⟩ with
 | true => rw [sEq_eq.1 h]; rfl
 | false =>
  refine (decide_eq_false fun e => ?_).symm
  have : p.data.toList = [] := List.eq_nil_of_length_eq_zero (by rw [lenB]; exact e)
  have : p = ⟨#[]⟩ := by cases p; simp at this; rw [this]
  rw [this] at h; rw [sEq_eq.2 rfl] at h; cases h
theorem pos_of_ne {p : ByteArray} (h : sEq p ⟨#[]⟩ = false) : 0 < p.size := by
 rw [sEq_empty] at h
 have := of_decide_eq_false h
 omega
theorem inB_contains (l : List UInt8) (b : UInt8) : inB l b = l.contains b := by
 induction l with
 | nil => rfl
 | cons x r ih =>
  unfold inB at ih ⊢
  rw [List.contains_cons, Lib.indexByte]
  have hge := Lib.indexByte_ge r b
  by_cases hx : x = b
  ·subst hx; simp
  ·have h1 : (x == b) = false := by simpa using hx
   have h2 : (b == x) = false := by simpa using fun e => hx e.symm
   rw [h1, h2, Bool.false_or, ← ih]
   simp only [Bool.false_eq_true, if_false]
   split
   ·rename_i e
    have : Lib.indexByte r b = -1 := by simpa using e
    rw [this]
   ·rename_i e
    have : Lib.indexByte r b ≠ -1 := by simpa using e
    congr 1
    exact propext ⟨fun _ => by omega, fun _ => by omega⟩
theorem dropWhile_nil {α : Type} {p : α → Bool} {l : List α} : l.dropWhile p = [] ↔ l.all p = true := by
 induction l with
 | nil => simp
 | cons x r ih =>
  by_cases h : p x = true
  ·simp [List.dropWhile, h, ih]
  ·simp [List.dropWhile, h]
theorem trimS_all (l cs : List UInt8) : Lib.trimS l cs = [] ↔ l.all (inB cs) = true := by
 have e : (inB cs) = (fun b => cs.contains b) := funext (inB_contains cs)
 rw [e]
 unfold Lib.trimS Lib.trimLeftS
 rw [dropWhile_nil]
 unfold Lib.trimRightS
 rw [List.all_reverse]
 have hsplit : l.reverse.takeWhile (cs.contains ·) ++ l.reverse.dropWhile (cs.contains ·) = l.reverse := List.takeWhile_append_dropWhile
 have h1 : l.all (fun b => cs.contains b) = l.reverse.all (fun b => cs.contains b) := by rw [List.all_reverse]
 rw [h1, ← hsplit, List.all_append]
 have h2 : (l.reverse.takeWhile (cs.contains ·)).all (fun b => cs.contains b) = true := List.all_takeWhile
 rw [h2, Bool.true_and, hsplit]
theorem keyF_len {p : ByteArray} (h : (decide (1 ≤ (p.size : Int)) && decide ((p.size : Int) ≤ 40)) = false) : keyF p = false := by
 unfold keyF
 have e1 : decide (1 ≤ p.size) = decide (1 ≤ (p.size : Int)) := by congr 1; exact propext ⟨fun _ => by omega, fun _ => by omega⟩
 have e2 : decide (p.size ≤ 40) = decide ((p.size : Int) ≤ 40) := by congr 1; exact propext ⟨fun _ => by omega, fun _ => by omega⟩
 rw [e1, e2, h]; simp
theorem keyF_ok {p : ByteArray} (h : (decide (1 ≤ (p.size : Int)) && decide ((p.size : Int) ≤ 40)) = true) : keyF p = ((p.data.toList.take 1).all (inB smallsB) && p.data.toList.all (inB keysB)) := by
 unfold keyF
 have e1 : decide (1 ≤ p.size) = decide (1 ≤ (p.size : Int)) := by congr 1; exact propext ⟨fun _ => by omega, fun _ => by omega⟩
 have e2 : decide (p.size ≤ 40) = decide ((p.size : Int) ≤ 40) := by congr 1; exact propext ⟨fun _ => by omega, fun _ => by omega⟩
 rw [e1, e2, h]; simp
theorem kI_0 {p : ByteArray} (h : (!sEq p ⟨#[]⟩) = false) : keyF p = false := by
 have e : p = ⟨#[]⟩ := sEq_eq.1 (by simpa using h)
 subst e; rfl
theorem kI_len {p : ByteArray} (h : decide ((p.size : Int) ≤ 40) = false) : keyF p = false := keyF_len (by rw [h]; simp)
theorem kI_first {p : ByteArray} (h : 0 < p.size) : (p.data.toList.take 1).all (inB smallsB) = decide (0 ≤ Lib.indexByte smallsB ((p[0].toNat : Int)).toNat.toUInt8) := by
 rw [byteAt h]
 have hl := lenB p
 cases e : p.data.toList with
 | nil => rw [e] at hl; simp at hl; omega
 | cons x r => simp [inB]
theorem kI_in {p : ByteArray} (h0 : (!sEq p ⟨#[]⟩) = true) (h1 : decide ((p.size : Int) ≤ 40) = true) : 0 < p.size ∧ (decide (1 ≤ (p.size : Int)) && decide ((p.size : Int) ≤ 40)) = true := by
 have := pos_of_ne (p := p) (by simpa using h0)
 exact ⟨this, by rw [h1, decide_eq_true (by omega)]; rfl⟩
theorem kI_1 {p : ByteArray} (h0 : (!sEq p ⟨#[]⟩) = true) (h1 : decide ((p.size : Int) ≤ 40) = true) {hp : 0 < p.size} (h2 : decide (0 ≤ Lib.indexByte smallsB ((p[0].toNat : Int)).toNat.toUInt8) = false) : keyF p = false := by
 obtain ⟨h3, h4⟩ := kI_in h0 h1
 rw [keyF_ok h4, kI_first h3, h2]; rfl
theorem kI_2 {p : ByteArray} (h0 : (!sEq p ⟨#[]⟩) = true) (h1 : decide ((p.size : Int) ≤ 40) = true) {hp : 0 < p.size} (h2 : decide (0 ≤ Lib.indexByte smallsB ((p[0].toNat : Int)).toNat.toUInt8) = true) : keyF p = sEq ⟨(Lib.trimS p.data.toList keysB).toArray⟩ ⟨#[]⟩ := by
 obtain ⟨h3, h4⟩ := kI_in h0 h1
 rw [keyF_ok h4, kI_first h3, h2, Bool.true_and]
 have ht := trimS_all p.data.toList keysB
 cases h5 : p.data.toList.all (inB keysB) with
 | true => rw [ht.2 h5]; exact (sEq_eq.2 rfl).symm
 | false =>
  cases h6 : sEq ⟨(Lib.trimS p.data.toList keysB).toArray⟩ ⟨#[]⟩ with
  | false => rfl
  | true =>
   have e := congrArg (fun b : ByteArray => b.data.toList) (sEq_eq.1 h6)
   simp at e
   rw [ht.1 e] at h5; cases h5
theorem kit_IsKey {p : ByteArray} (hp : p.size ≤ 1000000000) :
  SpecN Tryz.prog 230 [avS p] (fun y => y = avB (keyF p)) := by
 refine SpecN.of_VCN Tryz.func230 rfl Tryz.ntmps230 (Nle rfl) fun w A hB => ?_
 refine VC.sr ?_
 refine VO.mb ?_
 refine VO.nil ?_
 refine VC.sr ?_
 refine VO.mw ?_
 refine VO.vv (OpV.sneq rfl rfl rfl) ?_
 refine VO.mw ?_
 refine VO.opG rfl rfl rfl rfl (fun aK1b => ?_) (fun aK1b => ?_)
 ·replace aK1b : _ = true := aK1b
  have aK1 := aK1b
  try simp only [qq] at aK1
  refine OpE.val (W := NoB) (OpV.move (.inl rfl) rfl) rfl ?_
  refine VO.opY rfl rfl rfl rfl aK1b ?_
  refine OpE.val (W := NoB) (OpV.len_s rfl Tryz.underlying9 rfl) rfl ?_
  refine VO.opY rfl rfl rfl rfl aK1b ?_
  refine OpE.val (W := NoB) (OpV.leq rfl rfl rfl) rfl ?_
  refine VO.vv (OpV.pickT rfl rfl rfl rfl aK1b) ?_
  refine VO.mw ?_
  refine VO.opG rfl rfl rfl rfl (fun aK2b => ?_) (fun aK2b => ?_)
  ·replace aK2b : _ = true := aK2b
   have aK2 := aK2b
   try simp only [qq] at aK2
   refine OpE.val (W := NoB) (OpV.move (.inl rfl) rfl) rfl ?_
   refine VO.opY rfl rfl rfl rfl aK2b ?_
   refine OpE.val (W := NoB) (OpV.index_s rfl Tryz.underlying9 rfl rfl (by omega) (by have h := pos_of_ne (p := p) (by assumption); simpa using h)) rfl ?_
   refine VO.opY rfl rfl rfl rfl aK2b ?_
   refine OpE.call rfl hB rfl Tryz.call312 rfl (SpecN.spec (strings_IndexByte_S)) ?_
   rintro _ rfl
   refine VO.opY rfl rfl rfl rfl aK2b ?_
   refine OpE.val (W := NoB) (OpV.geq rfl rfl rfl) rfl ?_
   refine VO.vv (OpV.pickT rfl rfl rfl rfl aK2b) ?_
   refine VO.mw ?_
   refine VO.opG rfl rfl rfl rfl (fun aK3b => ?_) (fun aK3b => ?_)
   ·replace aK3b : _ = true := aK3b
    have aK3 := aK3b
    try simp only [qq] at aK3
    refine OpE.val (W := NoB) (OpV.move (.inl rfl) rfl) rfl ?_
    refine VO.opY rfl rfl rfl rfl aK3b ?_
    refine OpE.call rfl hB rfl Tryz.call296 rfl (SpecN.spec (strings_Trim_S (by omega) (by decide) (ascii_of_all (by decide)))) ?_
    rintro _ rfl
    refine VO.opY rfl rfl rfl rfl aK3b ?_
    refine OpE.val (W := NoB) (OpV.seql rfl rfl rfl) rfl ?_
    refine VO.vv (OpV.pickT rfl rfl rfl rfl aK3b) ?_
    refine VO.mb ?_
    refine VO.nil ?_
    refine VC.ret ?_
    exact Exists.intro _ (And.intro (RetN.one Tryz.results230 (ResN.v rfl)) (by first | rw [kI_0 (by assumption)] | rw [kI_len (by assumption)] | (rw [kI_1 (by assumption) (by assumption) (by assumption)]) | (rw [kI_2 (by assumption) (by assumption) (by assumption)]; rfl)))
   ·replace aK3b : _ = false := aK3b
    have aK3 := aK3b
    try simp only [qq] at aK3
    refine VO.opX rfl rfl rfl rfl aK3b ?_
    refine VO.opX rfl rfl rfl rfl aK3b ?_
    refine VO.vv (OpV.pickF rfl rfl rfl rfl aK3b) ?_
    refine VO.mb ?_
    refine VO.nil ?_
    refine VC.ret ?_
    exact Exists.intro _ (And.intro (RetN.one Tryz.results230 (ResN.v rfl)) (by first | rw [kI_0 (by assumption)] | rw [kI_len (by assumption)] | (rw [kI_1 (by assumption) (by assumption) (by assumption)]) | (rw [kI_2 (by assumption) (by assumption) (by assumption)]; rfl)))
  ·replace aK2b : _ = false := aK2b
   have aK2 := aK2b
   try simp only [qq] at aK2
   refine VO.opX rfl rfl rfl rfl aK2b ?_
   refine VO.opX rfl rfl rfl rfl aK2b ?_
   refine VO.opX rfl rfl rfl rfl aK2b ?_
   refine VO.vv (OpV.pickF rfl rfl rfl rfl aK2b) ?_
   refine VO.mw ?_
   refine VO.opX rfl rfl rfl rfl rfl ?_
   refine VO.opX rfl rfl rfl rfl rfl ?_
   refine VO.opX rfl rfl rfl rfl rfl ?_
   refine VO.vv (OpV.pickF rfl rfl rfl rfl rfl) ?_
   refine VO.mb ?_
   refine VO.nil ?_
   refine VC.ret ?_
   exact Exists.intro _ (And.intro (RetN.one Tryz.results230 (ResN.v rfl)) (by first | rw [kI_0 (by assumption)] | rw [kI_len (by assumption)] | (rw [kI_1 (by assumption) (by assumption) (by assumption)]) | (rw [kI_2 (by assumption) (by assumption) (by assumption)]; rfl)))
 ·replace aK1b : _ = false := aK1b
  have aK1 := aK1b
  try simp only [qq] at aK1
  refine VO.opX rfl rfl rfl rfl aK1b ?_
  refine VO.opX rfl rfl rfl rfl aK1b ?_
  refine VO.vv (OpV.pickF rfl rfl rfl rfl aK1b) ?_
  refine VO.mw ?_
  refine VO.opX rfl rfl rfl rfl rfl ?_
  refine VO.opX rfl rfl rfl rfl rfl ?_
  refine VO.opX rfl rfl rfl rfl rfl ?_
  refine VO.opX rfl rfl rfl rfl rfl ?_
  refine VO.vv (OpV.pickF rfl rfl rfl rfl rfl) ?_
  refine VO.mw ?_
  refine VO.opX rfl rfl rfl rfl rfl ?_
  refine VO.opX rfl rfl rfl rfl rfl ?_
  refine VO.opX rfl rfl rfl rfl rfl ?_
  refine VO.vv (OpV.pickF rfl rfl rfl rfl rfl) ?_
  refine VO.mb ?_
  refine VO.nil ?_
  refine VC.ret ?_
  exact Exists.intro _ (And.intro (RetN.one Tryz.results230 (ResN.v rfl)) (by first | rw [kI_0 (by assumption)] | rw [kI_len (by assumption)] | (rw [kI_1 (by assumption) (by assumption) (by assumption)]) | (rw [kI_2 (by assumption) (by assumption) (by assumption)]; rfl)))
end
section
theorem slices_Index_str {xs : List ByteArray} {v : ByteArray} (hl : xs.length ≤ 1000000000) :
  SpecN Tryz.prog 170 [avStrs xs, avS v] (fun y => y = avI (fidx (fun x => sEq v x) xs)) := by
 refine SpecN.of_VCN Tryz.func170 rfl Tryz.ntmps170 (Nle rfl) fun w A hB => ?_
 refine VC.sr ?_
 refine VO.mb ?_
 refine VO.nil ?_
 refine VC.seq ?_
 refine VC.sr ?_
 refine VO.mw ?_
 refine VO.vv (OpV.len_im rfl Tryz.underlying82 rfl) ?_
 refine VO.mw ?_
 refine VO.nil ?_
 refine VC.block ?_
 refine VC.loopK [] trivial ({q : Nat // q ≤ xs.length ∧ ∀ j, j < q → sEq v (xs.getD j ByteArray.empty) = false}) (fun (iZ : {q : Nat // q ≤ xs.length ∧ ∀ j, j < q → sEq v (xs.getD j ByteArray.empty) = false}) => match iZ with | ⟨q, hq, hn⟩ => [(0, avStrs xs), (1, avS v), (6, avStrs xs), (7, avI xs.length), (8, avI (q : Int))]) (fun (iZ : {q : Nat // q ≤ xs.length ∧ ∀ j, j < q → sEq v (xs.getD j ByteArray.empty) = false}) => match iZ with | ⟨q, hq, hn⟩ => []) (fun (iZ : {q : Nat // q ≤ xs.length ∧ ∀ j, j < q → sEq v (xs.getD j ByteArray.empty) = false}) => match iZ with | ⟨q, hq, hn⟩ => 0) (fun (iZ : {q : Nat // q ≤ xs.length ∧ ∀ j, j < q → sEq v (xs.getD j ByteArray.empty) = false}) => match iZ with | ⟨q, hq, hn⟩ => xs.length - q) ⟨0, Nat.zero_le _, fun j hj => absurd hj (Nat.not_lt_zero j)⟩ (Le.mk hB [] ⟨rfl, rfl, rfl, rfl, rfl, trivial⟩ rfl rfl (Nat.le_refl _)) ?_
 rintro ⟨q, hq, hn⟩
 show VC _ _ _ _ ⟨[(0, avStrs xs), (1, avS v), (6, avStrs xs), (7, avI xs.length), (8, avI (q : Int))] ++ [], [], 0⟩
 refine VC.sr ?_
 refine VO.vv (OpV.lss rfl rfl rfl) ?_
 refine VO.nil ?_
 refine VC.seq ?_
 refine VC.cond rfl (fun aH1b => ?_) (fun aH1b => ?_)
 ·have aH1 := aH1b
  try simp only [qq] at aH1
  refine VC.skip ?_
  refine VC.seq ?_
  refine VC.block ?_
  refine VC.sr ?_
  refine VO.mw ?_
  refine VO.mb ?_
  refine VO.nil ?_
  refine VC.sr ?_
  refine VO.mw ?_
  refine VO.mw ?_
  refine VO.mw ?_
  refine VO.vv (OpV.indexAddr_1 rfl Tryz.underlying82 Tryz.sizeOf9 rfl rfl rfl (by omega)) ?_
  refine VO.vv (OpV.load_at rfl hB OutW.no Tryz.isAgg9 rfl rfl) ?_
  refine VO.vv (OpV.seql rfl rfl rfl) ?_
  refine VO.nil ?_
  refine VC.cond rfl (fun aH2b => ?_) (fun aH2b => ?_)
  ·have aH2 := aH2b
   try simp only [qq] at aH2
   refine VC.sr ?_
   refine VO.mw ?_
   refine VO.mb ?_
   refine VO.nil ?_
   refine VC.ret ?_
   exact Exists.intro _ (And.intro (RetN.one Tryz.results170 (ResN.v rfl)) (by first | (rw [fidx_found (d := ByteArray.empty) (q := q) (by omega) hn (by assumption)]) | (rw [fidx_none (d := ByteArray.empty) (fun j hj => hn j (by omega))])))
  ·have aH2 := aH2b
   try simp only [qq] at aH2
   refine VC.skip ?_
   refine VC.region ?_
   refine VO.vv (OpV.add rfl rfl rfl (by unfold fits; omega)) ?_
   refine VO.mw ?_
   refine VO.nil ?_
   exact Exists.intro (⟨q + 1, by omega, lt_succ_cases hn (by assumption)⟩) (And.intro (Le.mk hB [] ⟨rfl, rfl, rfl, rfl, rfl, trivial⟩ rfl rfl (Nat.le_refl _)) (by first | omega | (show _ < _; omega) | (simp only []; omega)))
 ·have aH1 := aH1b
  try simp only [qq] at aH1
  refine VC.exit ?_
  refine VC.sr ?_
  refine VO.mb ?_
  refine VO.nil ?_
  refine VC.ret ?_
  exact Exists.intro _ (And.intro (RetN.one Tryz.results170 (ResN.v rfl)) (by first | (rw [fidx_found (d := ByteArray.empty) (q := q) (by omega) hn (by assumption)]) | (rw [fidx_none (d := ByteArray.empty) (fun j hj => hn j (by omega))])))
theorem slices_Contains_str {xs : List ByteArray} {v : ByteArray} (hl : xs.length ≤ 1000000000) :
  SpecN Tryz.prog 86 [avStrs xs, avS v] (fun y => y = avB (xs.any fun x => sEq v x)) := by
 refine SpecN.of_VCN Tryz.func86 rfl Tryz.ntmps86 (Nle rfl) fun w A hB => ?_
 refine VC.sr ?_
 refine VO.mb ?_
 refine VO.nil ?_
 refine VC.sr ?_
 refine VO.mw ?_
 refine VO.mw ?_
 refine VO.op rfl (OpE.call rfl hB rfl Tryz.call170 rfl (SpecN.spec ((slices_Index_str (by omega)))) ?_)
 rintro _ rfl
 refine VO.vv (OpV.geq rfl rfl rfl) ?_
 refine VO.mb ?_
 refine VO.nil ?_
 refine VC.ret ?_
 exact Exists.intro _ (And.intro (RetN.one Tryz.results86 (ResN.v rfl)) (by rw [← fidx_any]))
theorem slices_Equal_int {xs ys : List Int} (hl : xs.length ≤ 1000000000) (hl' : ys.length ≤ 1000000000) :
  SpecN Tryz.prog 37 [avInts xs, avInts ys] (fun y => y = avB (decide (xs = ys))) := by
 refine SpecN.of_VCN Tryz.func37 rfl Tryz.ntmps37 (Nle rfl) fun w A hB => ?_
 refine VC.sr ?_
 refine VO.mb ?_
 refine VO.nil ?_
 refine VC.seq ?_
 refine VC.sr ?_
 refine VO.mw ?_
 refine VO.vv (OpV.len_im rfl Tryz.underlying22 rfl) ?_
 refine VO.mw ?_
 refine VO.vv (OpV.len_im rfl Tryz.underlying22 rfl) ?_
 refine VO.vv (OpV.neq rfl rfl rfl) ?_
 refine VO.nil ?_
 refine VC.cond rfl (fun aH1b => ?_) (fun aH1b => ?_)
 ·have aH1 := aH1b
  try simp only [qq] at aH1
  refine VC.sr ?_
  refine VO.mb ?_
  refine VO.nil ?_
  refine VC.ret ?_
  exact Exists.intro _ (And.intro (RetN.one Tryz.results37 (ResN.v rfl)) (by first | rw [eqL_len (by omega)] | rw [eqL_ne (q := q) (by omega)] | rw [eqL_all (by omega) hn (by omega)]))
 ·have aH1 := aH1b
  try simp only [qq] at aH1
  refine VC.skip ?_
  refine VC.seq ?_
  refine VC.sr ?_
  refine VO.mw ?_
  refine VO.vv (OpV.len_im rfl Tryz.underlying22 rfl) ?_
  refine VO.mw ?_
  refine VO.nil ?_
  refine VC.block ?_
  refine VC.loopK [] trivial ({q : Nat // q ≤ xs.length ∧ ∀ j, j < q → xs.getD j 0 = ys.getD j 0}) (fun (iZ : {q : Nat // q ≤ xs.length ∧ ∀ j, j < q → xs.getD j 0 = ys.getD j 0}) => match iZ with | ⟨q, hq, hn⟩ => [(0, avInts xs), (1, avInts ys), (12, avI xs.length), (13, avI (q : Int))]) (fun (iZ : {q : Nat // q ≤ xs.length ∧ ∀ j, j < q → xs.getD j 0 = ys.getD j 0}) => match iZ with | ⟨q, hq, hn⟩ => []) (fun (iZ : {q : Nat // q ≤ xs.length ∧ ∀ j, j < q → xs.getD j 0 = ys.getD j 0}) => match iZ with | ⟨q, hq, hn⟩ => 0) (fun (iZ : {q : Nat // q ≤ xs.length ∧ ∀ j, j < q → xs.getD j 0 = ys.getD j 0}) => match iZ with | ⟨q, hq, hn⟩ => xs.length - q) ⟨0, Nat.zero_le _, fun j hj => absurd hj (Nat.not_lt_zero j)⟩ (Le.mk hB [] ⟨rfl, rfl, rfl, rfl, trivial⟩ rfl rfl (Nat.le_refl _)) ?_
  rintro ⟨q, hq, hn⟩
  show VC _ _ _ _ ⟨[(0, avInts xs), (1, avInts ys), (12, avI xs.length), (13, avI (q : Int))] ++ [], [], 0⟩
  refine VC.sr ?_
  refine VO.vv (OpV.lss rfl rfl rfl) ?_
  refine VO.nil ?_
  refine VC.seq ?_
  refine VC.cond rfl (fun aH2b => ?_) (fun aH2b => ?_)
  ·have aH2 := aH2b
   try simp only [qq] at aH2
   refine VC.skip ?_
   refine VC.seq ?_
   refine VC.block ?_
   refine VC.sr ?_
   refine VO.mw ?_
   refine VO.mb ?_
   refine VO.nil ?_
   refine VC.seq ?_
   refine VC.draw (fun _ => NoB) hB (by kernel_rfl) ?_
   refine VA.tk (i := 0) rfl (OpV.move (.inl rfl) rfl) ?_
   refine VA.tk (i := 1) rfl (OpV.move (.inl rfl) rfl) ?_
   refine VA.tk (i := 2) rfl (OpV.indexAddr_1 rfl Tryz.underlying22 Tryz.sizeOf3 rfl rfl rfl (by omega)) ?_
   refine VA.tk (i := 3) rfl (OpV.load_at rfl hB OutW.wi0 Tryz.isAgg3 rfl rfl) ?_
   refine VA.tk (i := 4) rfl (OpV.move (.inl rfl) rfl) ?_
   refine VA.tk (i := 5) rfl (OpV.move (.inl rfl) rfl) ?_
   refine VA.tk (i := 6) rfl (OpV.indexAddr_1 rfl Tryz.underlying22 Tryz.sizeOf3 rfl rfl rfl (by omega)) ?_
   refine VA.tk (i := 7) rfl (OpV.load_at rfl hB OutW.wi0 Tryz.isAgg3 rfl rfl) ?_
   refine VA.tk (i := 8) rfl (OpV.neq rfl rfl rfl) ?_
   refine VA.done (by kernel_rfl) ?_
   refine VC.cond rfl (fun aH3b => ?_) (fun aH3b => ?_)
   ·have aH3 := aH3b
    try simp only [qq] at aH3
    refine VC.sr ?_
    refine VO.mb ?_
    refine VO.nil ?_
    refine VC.ret ?_
    exact Exists.intro _ (And.intro (RetN.one Tryz.results37 (ResN.v rfl)) (by first | rw [eqL_len (by omega)] | rw [eqL_ne (q := q) (by omega)] | rw [eqL_all (by omega) hn (by omega)]))
   ·have aH3 := aH3b
    try simp only [qq] at aH3
    refine VC.skip ?_
    refine VC.region ?_
    refine VO.vv (OpV.add rfl rfl rfl (by unfold fits; omega)) ?_
    refine VO.mw ?_
    refine VO.nil ?_
    exact Exists.intro (⟨q + 1, by omega, lt_succ_cases hn (by omega)⟩) (And.intro (Le.mk hB [] ⟨rfl, rfl, rfl, rfl, trivial⟩ rfl rfl (Nat.le_refl _)) (by first | omega | (show _ < _; omega) | (simp only []; omega)))
  ·have aH2 := aH2b
   try simp only [qq] at aH2
   refine VC.exit ?_
   refine VC.sr ?_
   refine VO.mb ?_
   refine VO.nil ?_
   refine VC.ret ?_
   exact Exists.intro _ (And.intro (RetN.one Tryz.results37 (ResN.v rfl)) (by first | rw [eqL_len (by omega)] | rw [eqL_ne (q := q) (by omega)] | rw [eqL_all (by omega) hn (by omega)]))
end
section
structure Mach where
 key : ByteArray
 each : Int
 fixed : Int
 feeders : Int
 can : List ByteArray
instance : Inhabited Mach := ⟨⟨ByteArray.empty, 0, 0, 0, []⟩⟩
instance : Sxc Mach where
 k := 5
 pos := by decide
 cell m j := match j with
  | 0 => avS m.key
  | 1 => avI m.each
  | 2 => avI m.fixed
  | 3 => avI m.feeders
  | 4 => avStrs m.can
  | _ => .any
structure NeedS where
 key : ByteArray
 count : Int
instance : Inhabited NeedS := ⟨⟨ByteArray.empty, 0⟩⟩
instance : Sxc NeedS where
 k := 2
 pos := by decide
 cell m j := match j with
  | 0 => avS m.key
  | 1 => avI m.count
  | _ => .any
def firstE (e : Nat → Int) : Nat → Int
 | 0 => 0
 | n + 1 => if firstE e n = 0 then e n else firstE e n
theorem firstE_none {e : Nat → Int} : ∀ {n : Nat}, (∀ j, j < n → e j = 0) → firstE e n = 0
 | 0, _ => rfl
 | n + 1, h => by
  rw [firstE, firstE_none (fun j hj => h j (by omega)), if_pos rfl]
  exact h n (by omega)
theorem firstE_found {e : Nat → Int} {q : Nat} (h : ∀ j, j < q → e j = 0) (hq : e q ≠ 0) : ∀ {n : Nat}, q < n → firstE e n = e q
 | 0, hn => by omega
 | n + 1, hn => by
  rw [firstE]
  by_cases hqn : q = n
  ·subst hqn; rw [firstE_none h, if_pos rfl]
  ·have := firstE_found h hq (n := n) (by omega)
   rw [this, if_neg hq]
theorem firstE_zero {e : Nat → Int} : ∀ {n : Nat}, firstE e n = 0 → ∀ j, j < n → e j = 0
 | 0, _, j, hj => by omega
 | n + 1, h, j, hj => by
  rw [firstE] at h
  split at h
  ·rename_i h0
   by_cases hjn : j = n
   ·rw [hjn]; exact h
   ·exact firstE_zero h0 j (by omega)
  ·rename_i h0; exact absurd h h0
def sLe (p q : ByteArray) : Bool := sLt p q || sEq p q
def outR (n a b : Int) : Bool := decide (n < a) || decide (b < n)
def canE (l : List ByteArray) (i : Nat) : Int :=
 if keyF (l.getD i ByteArray.empty) = false then 5
 else if (decide (0 < i) && sLe (l.getD i ByteArray.empty) (l.getD (i - 1) ByteArray.empty)) = true then 7 else 0
def canF (l : List ByteArray) : Int := if 1000 < l.length then 2 else firstE (canE l) l.length
def machE (ms : List Mach) (i : Nat) : Int :=
 if keyF (ms.getD i default).key = false then 5
 else if (ms.take i).any (fun o => sEq o.key (ms.getD i default).key) = true then 6
 else if (outR (ms.getD i default).each 0 10000000 || (outR (ms.getD i default).fixed 0 10000000 || outR (ms.getD i default).feeders 0 100)) = true then 1
 else canF (ms.getD i default).can
def machF (ms : List Mach) : Int := if ms.length = 0 then 8 else if 6 < ms.length then 2 else firstE (machE ms) ms.length
def needE (ns : List NeedS) (lo hi : Int) (i : Nat) : Int :=
 if keyF (ns.getD i default).key = false then 5
 else if (decide (0 < i) && sLe (ns.getD i default).key (ns.getD (i - 1) default).key) = true then 7
 else if outR (ns.getD i default).count lo hi = true then 1 else 0
def needsF (ns : List NeedS) (lo hi : Int) : Int := if 1000 < ns.length then 2 else firstE (needE ns lo hi) ns.length
theorem canF_big {l : List ByteArray} (h : 1000 < l.length) : canF l = 2 := by rw [canF, if_pos h]
theorem canF_at {l : List ByteArray} (h : l.length ≤ 1000) {q : Nat} (hq : q < l.length) (hn : ∀ j, j < q → canE l j = 0) (he : canE l q ≠ 0) : canF l = canE l q := by
 rw [canF, if_neg (by omega), firstE_found hn he hq]
theorem canF_ok {l : List ByteArray} (h : l.length ≤ 1000) (hn : ∀ j, j < l.length → canE l j = 0) : canF l = 0 := by
 rw [canF, if_neg (by omega), firstE_none hn]
theorem canE_5 {l : List ByteArray} {i : Nat} (h : keyF (l.getD i ByteArray.empty) = false) : canE l i = 5 := by rw [canE, if_pos h]
theorem canE_7 {l : List ByteArray} {i : Nat} (h : keyF (l.getD i ByteArray.empty) = true) (hi : 0 < i) (hs : sLe (l.getD i ByteArray.empty) (l.getD (i - 1) ByteArray.empty) = true) : canE l i = 7 := by
 rw [canE, if_neg (by rw [h]; simp), if_pos (by rw [hs, decide_eq_true hi]; rfl)]
theorem canE_0 {l : List ByteArray} {i : Nat} (h : keyF (l.getD i ByteArray.empty) = true) (hs : i = 0 ∨ sLe (l.getD i ByteArray.empty) (l.getD (i - 1) ByteArray.empty) = false) : canE l i = 0 := by
 rw [canE, if_neg (by rw [h]; simp), if_neg]
 rcases hs with rfl | hs
 ·simp
 ·rw [hs]; simp
theorem needsF_big {l : List NeedS} {lo hi : Int} (h : 1000 < l.length) : needsF l lo hi = 2 := by rw [needsF, if_pos h]
theorem needsF_at {l : List NeedS} {lo hi e : Int} (h : l.length ≤ 1000) {q : Nat} (hq : q < l.length) (hn : ∀ j, j < q → needE l lo hi j = 0) (he : needE l lo hi q = e) (h0 : e ≠ 0) : needsF l lo hi = e := by
 rw [needsF, if_neg (by omega), firstE_found hn (by rw [he]; exact h0) hq, he]
theorem needsF_ok {l : List NeedS} {lo hi : Int} (h : l.length ≤ 1000) (hn : ∀ j, j < l.length → needE l lo hi j = 0) : needsF l lo hi = 0 := by
 rw [needsF, if_neg (by omega), firstE_none hn]
section
variable {l : List NeedS} {lo hi : Int} {i : Nat}
theorem needE_5 (h : keyF (l.getD i default).key = false) : needE l lo hi i = 5 := by rw [needE, if_pos h]
theorem needE_7 (h : keyF (l.getD i default).key = true) (hi' : 0 < i) (hs : sLe (l.getD i default).key (l.getD (i - 1) default).key = true) : needE l lo hi i = 7 := by
 rw [needE, if_neg (by rw [h]; simp), if_pos (by rw [hs, decide_eq_true hi']; rfl)]
theorem needE_x (h : keyF (l.getD i default).key = true) (hs : i = 0 ∨ sLe (l.getD i default).key (l.getD (i - 1) default).key = false) : needE l lo hi i = if outR (l.getD i default).count lo hi = true then 1 else 0 := by
 rw [needE, if_neg (by rw [h]; simp), if_neg]
 rcases hs with rfl | hs
 ·simp
 ·rw [hs]; simp
theorem needE_1 (h : keyF (l.getD i default).key = true) (hs : i = 0 ∨ sLe (l.getD i default).key (l.getD (i - 1) default).key = false) (ho : outR (l.getD i default).count lo hi = true) : needE l lo hi i = 1 := by rw [needE_x h hs, if_pos ho]
theorem needE_0 (h : keyF (l.getD i default).key = true) (hs : i = 0 ∨ sLe (l.getD i default).key (l.getD (i - 1) default).key = false) (ho : outR (l.getD i default).count lo hi = false) : needE l lo hi i = 0 := by rw [needE_x h hs, if_neg (by rw [ho]; simp)]
end
theorem machF_none {ms : List Mach} (h : ms.length = 0) : machF ms = 8 := by rw [machF, if_pos h]
theorem machF_big {ms : List Mach} (h : 6 < ms.length) : machF ms = 2 := by rw [machF, if_neg (by omega), if_pos h]
theorem machF_at {ms : List Mach} {e : Int} (h0 : 0 < ms.length) (h : ms.length ≤ 6) {q : Nat} (hq : q < ms.length) (hn : ∀ j, j < q → machE ms j = 0) (he : machE ms q = e) (h1 : e ≠ 0) : machF ms = e := by
 rw [machF, if_neg (by omega), if_neg (by omega), firstE_found hn (by rw [he]; exact h1) hq, he]
theorem machF_ok {ms : List Mach} (h0 : 0 < ms.length) (h : ms.length ≤ 6) (hn : ∀ j, j < ms.length → machE ms j = 0) : machF ms = 0 := by
 rw [machF, if_neg (by omega), if_neg (by omega), firstE_none hn]
section
variable {ms : List Mach} {i : Nat}
theorem machE_5 (h : keyF (ms.getD i default).key = false) : machE ms i = 5 := by rw [machE, if_pos h]
theorem machE_6 (h : keyF (ms.getD i default).key = true) (h2 : (ms.take i).any (fun o => sEq o.key (ms.getD i default).key) = true) : machE ms i = 6 := by rw [machE, if_neg (by rw [h]; simp), if_pos h2]
theorem machE_1 (h : keyF (ms.getD i default).key = true) (h2 : (ms.take i).any (fun o => sEq o.key (ms.getD i default).key) = false)
  (h3 : (outR (ms.getD i default).each 0 10000000 || (outR (ms.getD i default).fixed 0 10000000 || outR (ms.getD i default).feeders 0 100)) = true) : machE ms i = 1 := by
 rw [machE, if_neg (by rw [h]; simp), if_neg (by rw [h2]; simp), if_pos h3]
theorem machE_x (h : keyF (ms.getD i default).key = true) (h2 : (ms.take i).any (fun o => sEq o.key (ms.getD i default).key) = false)
  (h3 : (outR (ms.getD i default).each 0 10000000 || (outR (ms.getD i default).fixed 0 10000000 || outR (ms.getD i default).feeders 0 100)) = false) : machE ms i = canF (ms.getD i default).can := by
 rw [machE, if_neg (by rw [h]; simp), if_neg (by rw [h2]; simp), if_neg (by rw [h3]; simp)]
end
theorem or2a {a b : Bool} (h : a = true) : (a || b) = true := by rw [h]; rfl
theorem or2b {a b : Bool} (h : b = true) : (a || b) = true := by rw [h, Bool.or_true]
theorem or2f {a b : Bool} (h : a = false) (h' : b = false) : (a || b) = false := by rw [h, h']; rfl
theorem or3a {a b c : Bool} (h : a = true) : (a || (b || c)) = true := by rw [h]; rfl
theorem or3b {a b c : Bool} (h : b = true) : (a || (b || c)) = true := by rw [h]; cases a <;> rfl
theorem or3c {a b c : Bool} (h : c = true) : (a || (b || c)) = true := by rw [h]; cases a <;> cases b <;> rfl
theorem or3f {a b c : Bool} (h1 : a = false) (h2 : b = false) (h3 : c = false) : (a || (b || c)) = false := by rw [h1, h2, h3]; rfl
def faultF (ms : List Mach) (ns : List NeedS) : Int := if machF ms ≠ 0 then machF ms else needsF ns 1 1000
theorem faultF_0 {ms : List Mach} {ns : List NeedS} (h : faultF ms ns = 0) : machF ms = 0 ∧ needsF ns 1 1000 = 0 := by
 rw [faultF] at h
 split at h
 ·rename_i h1; exact absurd h h1
 ·rename_i h1; exact ⟨by omega, h⟩
end
section
abbrev ε : ByteArray := ⟨#[]⟩
def has (s : List ByteArray) (x : ByteArray) : Bool := s.any fun y => sEq x y
def setupE (s : List ByteArray) (i : Nat) : Int :=
 if sEq (s.getD i ByteArray.empty) ε = true then 0 else if keyF (s.getD i ByteArray.empty) = false then 5 else if has (s.take i) (s.getD i ByteArray.empty) = true then 6 else 0
def setupF (s : List ByteArray) : Int := if s.length = 0 then 8 else if 100 < s.length then 2 else firstE (setupE s) s.length
def partE (slots : Int) (l : List ByteArray) : Int := if slots < l.length then 12 else firstE (canE l) l.length
def partsF (slots : Int) (p : List (List ByteArray)) : Int := if outR slots 1 100 = true then 1 else if 200 < p.length then 2 else firstE (fun i => partE slots (p.getD i default)) p.length
def missF (s parts : List ByteArray) : List ByteArray := parts.filter fun x => !has s x
theorem setupF_none {s : List ByteArray} (h : s.length = 0) : setupF s = 8 := by rw [setupF, if_pos h]
theorem setupF_big {s : List ByteArray} (h : 100 < s.length) : setupF s = 2 := by rw [setupF, if_neg (by omega), if_pos h]
theorem setupF_at {s : List ByteArray} {e : Int} (h0 : 0 < s.length) (h : s.length ≤ 100) {q : Nat} (hq : q < s.length) (hn : ∀ j, j < q → setupE s j = 0) (he : setupE s q = e) (h1 : e ≠ 0) : setupF s = e := by
 rw [setupF, if_neg (by omega), if_neg (by omega), firstE_found hn (by rw [he]; exact h1) hq, he]
theorem setupF_ok {s : List ByteArray} (h0 : 0 < s.length) (h : s.length ≤ 100) (hn : ∀ j, j < s.length → setupE s j = 0) : setupF s = 0 := by
 rw [setupF, if_neg (by omega), if_neg (by omega), firstE_none hn]
theorem setupF_len {s : List ByteArray} (h : setupF s = 0) : 0 < s.length ∧ s.length ≤ 100 := by
 rw [setupF] at h
 split at h
 ·cases h
 ·split at h
  ·cases h
  ·omega
theorem setupF_zero {s : List ByteArray} (h : setupF s = 0) : ∀ j, j < s.length → setupE s j = 0 := by
 have hl := setupF_len h
 rw [setupF, if_neg (by omega), if_neg (by omega)] at h
 exact firstE_zero h
section
variable {s : List ByteArray} {i : Nat}
theorem setupE_e (h : sEq (s.getD i ByteArray.empty) ε = true) : setupE s i = 0 := by rw [setupE, if_pos h]
theorem setupE_5 (h : sEq (s.getD i ByteArray.empty) ε = false) (h2 : keyF (s.getD i ByteArray.empty) = false) : setupE s i = 5 := by rw [setupE, if_neg (by rw [h]; simp), if_pos h2]
theorem setupE_6 (h : sEq (s.getD i ByteArray.empty) ε = false) (h2 : keyF (s.getD i ByteArray.empty) = true) (h3 : has (s.take i) (s.getD i ByteArray.empty) = true) : setupE s i = 6 := by
 rw [setupE, if_neg (by rw [h]; simp), if_neg (by rw [h2]; simp), if_pos h3]
theorem setupE_0 (h : sEq (s.getD i ByteArray.empty) ε = false) (h2 : keyF (s.getD i ByteArray.empty) = true) (h3 : has (s.take i) (s.getD i ByteArray.empty) = false) : setupE s i = 0 := by
 rw [setupE, if_neg (by rw [h]; simp), if_neg (by rw [h2]; simp), if_neg (by rw [h3]; simp)]
end
section
variable {slots : Int} {p : List (List ByteArray)} {l : List ByteArray}
theorem partsF_1 (h : outR slots 1 100 = true) : partsF slots p = 1 := by rw [partsF, if_pos h]
theorem partsF_2 (h : outR slots 1 100 = false) (h2 : 200 < p.length) : partsF slots p = 2 := by rw [partsF, if_neg (by rw [h]; simp), if_pos h2]
theorem partsF_at (h : outR slots 1 100 = false) (h2 : p.length ≤ 200) {q : Nat} (hq : q < p.length) (hn : ∀ j, j < q → partE slots (p.getD j default) = 0) {e : Int} (he : partE slots (p.getD q default) = e) (h1 : e ≠ 0) : partsF slots p = e := by
 rw [partsF, if_neg (by rw [h]; simp), if_neg (by omega), firstE_found hn (by rw [he]; exact h1) hq, he]
theorem partsF_ok (h : outR slots 1 100 = false) (h2 : p.length ≤ 200) (hn : ∀ j, j < p.length → partE slots (p.getD j default) = 0) : partsF slots p = 0 := by
 rw [partsF, if_neg (by rw [h]; simp), if_neg (by omega), firstE_none hn]
theorem partsF_zero (h : partsF slots p = 0) : outR slots 1 100 = false ∧ p.length ≤ 200 ∧ ∀ j, j < p.length → partE slots (p.getD j default) = 0 := by
 rw [partsF] at h
 split at h
 ·cases h
 ·rename_i h1
  split at h
  ·cases h
  ·exact ⟨Bool.eq_false_iff.2 h1, by omega, firstE_zero h⟩
theorem partE_12 (h : slots < l.length) : partE slots l = 12 := by rw [partE, if_pos h]
theorem partE_at (h : ¬ slots < l.length) {q : Nat} (hq : q < l.length) (hn : ∀ j, j < q → canE l j = 0) {e : Int} (he : canE l q = e) (h1 : e ≠ 0) : partE slots l = e := by
 rw [partE, if_neg h, firstE_found hn (by rw [he]; exact h1) hq, he]
theorem partE_ok (h : ¬ slots < l.length) (hn : ∀ j, j < l.length → canE l j = 0) : partE slots l = 0 := by rw [partE, if_neg h, firstE_none hn]
theorem partE_zero (h : partE slots l = 0) : (l.length : Int) ≤ slots ∧ ∀ j, j < l.length → canE l j = 0 := by
 rw [partE] at h
 split at h
 ·cases h
 ·exact ⟨by omega, firstE_zero h⟩
end
theorem missF_yes {s p : List ByteArray} {q : Nat} (hq : q < p.length) (h : has s (p.getD q ByteArray.empty) = false) : missF s (p.take (q + 1)) = missF s (p.take q) ++ [p.getD q ByteArray.empty] := by
 rw [List.take_succ_eq_append_getElem hq]
 have e : p.getD q ByteArray.empty = p[q] := by simp [hq]
 rw [e] at h ⊢
 simp only [missF, List.filter_append, List.filter_cons, h, List.filter_nil, Bool.not_false, if_true]
theorem missF_no {s p : List ByteArray} {q : Nat} (hq : q < p.length) (h : has s (p.getD q ByteArray.empty) = true) : missF s (p.take (q + 1)) = missF s (p.take q) := by
 rw [List.take_succ_eq_append_getElem hq]
 have e : p.getD q ByteArray.empty = p[q] := by simp [hq]
 rw [e] at h
 simp only [missF, List.filter_append, List.filter_cons, h, List.filter_nil, Bool.not_true, if_false, List.append_nil, Bool.false_eq_true]
end
section
theorem bl_irr : ∀ x : List UInt8, Op.bytesLess x x = false
 | [] => rfl
 | a :: x => by
  rw [Op.bytesLess, bl_irr x]
  have : ¬ a < a := by rw [UInt8.lt_iff_toNat_lt]; omega
  simp [this]
theorem bl_trans : ∀ {x y z : List UInt8}, Op.bytesLess x y = true → Op.bytesLess y z = true → Op.bytesLess x z = true
 | _, [], _, h, _ => by simp [Op.bytesLess] at h
 | _, _ :: _, [], _, h => by simp [Op.bytesLess] at h
 | [], _ :: _, _ :: _, _, _ => rfl
 | a :: x, b :: y, c :: z, h1, h2 => by
  simp only [Op.bytesLess, Bool.or_eq_true, decide_eq_true_eq, Bool.and_eq_true, beq_iff_eq, UInt8.lt_iff_toNat_lt] at h1 h2 ⊢
  rcases h1 with h1 | ⟨rfl, h1⟩
  ·rcases h2 with h2 | ⟨rfl, h2⟩
   ·exact .inl (by omega)
   ·exact .inl h1
  ·rcases h2 with h2 | ⟨rfl, h2⟩
   ·exact .inl h2
   ·exact .inr ⟨rfl, bl_trans h1 h2⟩
theorem bl_total : ∀ {x y : List UInt8}, Op.bytesLess x y = false → x ≠ y → Op.bytesLess y x = true
 | [], [], _, h => absurd rfl h
 | _ :: _, [], _, _ => rfl
 | [], _ :: _, h, _ => by simp [Op.bytesLess] at h
 | a :: x, b :: y, h, hne => by
  simp only [Op.bytesLess, Bool.or_eq_false_iff, decide_eq_false_iff_not, Bool.and_eq_false_iff, beq_eq_false_iff_ne, UInt8.lt_iff_toNat_lt, Bool.or_eq_true, decide_eq_true_eq, Bool.and_eq_true, beq_iff_eq] at h ⊢
  by_cases hab : a = b
  ·subst hab
   have h2 : Op.bytesLess x y = false := by rcases h.2 with h2 | h2; exact absurd rfl h2; exact h2
   exact .inr ⟨rfl, bl_total h2 fun e => hne (by rw [e])⟩
  ·left
   have : a.toNat ≠ b.toNat := fun e => hab (UInt8.toNat_inj.1 e)
   omega
theorem sLt_irr (p : ByteArray) : sLt p p = false := bl_irr _
theorem sLt_trans {p q r : ByteArray} (h1 : sLt p q = true) (h2 : sLt q r = true) : sLt p r = true := bl_trans h1 h2
theorem sLt_of_not {p q : ByteArray} (h : sLe p q = false) : sLt q p = true := by
 unfold sLe at h
 rw [Bool.or_eq_false_iff] at h
 refine bl_total h.1 fun e => ?_
 have : sEq p q = true := by unfold sEq; rw [e]; simp
 rw [this] at h; cases h.2
theorem sEq_refl (p : ByteArray) : sEq p p = true := sEq_eq.2 rfl
theorem sEq_comm (p q : ByteArray) : sEq p q = sEq q p := by
 rw [Bool.eq_iff_iff, sEq_eq, sEq_eq]; exact ⟨Eq.symm, Eq.symm⟩
def SortS (l : List ByteArray) : Prop := ∀ a b, a < b → b < l.length → sLt (l.getD a ByteArray.empty) (l.getD b ByteArray.empty) = true
theorem canF_sort {l : List ByteArray} (h : canF l = 0) : SortS l := by
 intro a b hab hb
 have hl : ¬ 1000 < l.length := fun e => by rw [canF_big e] at h; cases h
 rw [canF, if_neg hl] at h
 have step : ∀ i, 0 < i → i < l.length → sLt (l.getD (i - 1) ByteArray.empty) (l.getD i ByteArray.empty) = true := fun i hi hil => by
  have he := firstE_zero h i hil
  apply sLt_of_not
  rw [canE] at he
  split at he
  ·cases he
  ·split at he
   ·cases he
   ·rename_i hc
    cases hs : sLe (l.getD i ByteArray.empty) (l.getD (i - 1) ByteArray.empty) with
    | false => rfl
    | true => exact absurd (by rw [hs, decide_eq_true hi]; rfl) hc
 induction b with
 | zero => omega
 | succ b ih =>
  have h1 := step (b + 1) (by omega) hb
  rw [Nat.add_sub_cancel] at h1
  by_cases hab' : a = b
  ·subst hab'; exact h1
  ·exact sLt_trans (ih (by omega) (by omega)) h1
theorem canF_keys {l : List ByteArray} (h : canF l = 0) : l.length ≤ 1000 := by
 have hl : ¬ 1000 < l.length := fun e => by rw [canF_big e] at h; cases h
 omega
section
variable {xs : List ByteArray} {v : ByteArray} {i : Nat}
theorem bs_found (hi : i < xs.length) (h : sEq (xs.getD i ByteArray.empty) v = true) : xs.any (fun x => sEq v x) = true :=
 any_found (d := ByteArray.empty) hi (by rw [sEq_comm]; exact h)
theorem bs_not (hs : SortS xs) (h1 : ∀ k, k < i → sLt (xs.getD k ByteArray.empty) v = true) (h2 : ∀ k, i ≤ k → k < xs.length → sLt (xs.getD k ByteArray.empty) v = false) (hi : xs.length ≤ i ∨ sEq (xs.getD i ByteArray.empty) v = false) :
  xs.any (fun x => sEq v x) = false := any_none (d := ByteArray.empty) fun j hj => by
 cases h : sEq v (xs.getD j ByteArray.empty) with
 | false => rfl
 | true =>
  have e := sEq_eq.1 h
  by_cases hji : j < i
  ·have := h1 j hji
   rw [← e, sLt_irr] at this; cases this
  ·have hj' := h2 j (by omega) hj
   rcases hi with hi | hi
   ·omega
   ·by_cases hij : j = i
    ·subst hij; rw [← e, sEq_refl] at hi; cases hi
    ·have := hs i j (by omega) hj
     rw [← e] at this
     have h3 := h2 i (Nat.le_refl _) (by omega)
     rw [this] at h3; cases h3
theorem bs_lo (hs : SortS xs) {h : Nat} (hh : h < xs.length) (hlt : sLt (xs.getD h ByteArray.empty) v = true) : ∀ k, k < h + 1 → sLt (xs.getD k ByteArray.empty) v = true := fun k hk => by
 by_cases e : k = h
 ·rw [e]; exact hlt
 ·exact sLt_trans (hs k h (by omega) hh) hlt
theorem bs_hi (hs : SortS xs) {h : Nat} (hlt : sLt (xs.getD h ByteArray.empty) v = false) : ∀ k, h ≤ k → k < xs.length → sLt (xs.getD k ByteArray.empty) v = false := fun k hk hkl => by
 by_cases e : k = h
 ·rw [e]; exact hlt
 ·cases h4 : sLt (xs.getD k ByteArray.empty) v with
  | false => rfl
  | true => rw [sLt_trans (hs h k (by omega) hkl) h4] at hlt; cases hlt
end
theorem slices_isNaN_str {p : ByteArray}  :
  SpecN Tryz.prog 252 [avS p] (fun y => y = avB false) := by
 refine SpecN.of_VCN Tryz.func252 rfl Tryz.ntmps252 (Nle rfl) fun w A hB => ?_
 refine VC.sr ?_
 refine VO.mb ?_
 refine VO.nil ?_
 refine VC.sr ?_
 refine VO.mw ?_
 refine VO.mw ?_
 refine VO.vv (OpV.sneq rfl rfl rfl) ?_
 refine VO.mb ?_
 refine VO.nil ?_
 refine VC.ret ?_
 exact Exists.intro _ (And.intro (RetN.one Tryz.results252 (ResN.v rfl)) (by rw [sEq_refl]; rfl))
theorem cmp_isNaN_str {p : ByteArray}  :
  SpecN Tryz.prog 321 [avS p] (fun y => y = avB false) := by
 refine SpecN.of_VCN Tryz.func321 rfl Tryz.ntmps321 (Nle rfl) fun w A hB => ?_
 refine VC.sr ?_
 refine VO.mb ?_
 refine VO.nil ?_
 refine VC.sr ?_
 refine VO.mw ?_
 refine VO.mw ?_
 refine VO.vv (OpV.sneq rfl rfl rfl) ?_
 refine VO.mb ?_
 refine VO.nil ?_
 refine VC.ret ?_
 exact Exists.intro _ (And.intro (RetN.one Tryz.results321 (ResN.v rfl)) (by rw [sEq_refl]; rfl))
theorem cmp_Less_str {p q : ByteArray}  :
  SpecN Tryz.prog 251 [avS p, avS q] (fun y => y = avB (sLt p q)) := by
 refine SpecN.of_VCN Tryz.func251 rfl Tryz.ntmps251 (Nle rfl) fun w A hB => ?_
 refine VC.sr ?_
 refine VO.mb ?_
 refine VO.nil ?_
 refine VC.sr ?_
 refine VO.mw ?_
 refine VO.op rfl (OpE.call rfl hB rfl Tryz.call321 rfl (SpecN.spec (cmp_isNaN_str)) ?_)
 rintro _ rfl
 refine VO.mw ?_
 refine VO.opX rfl rfl rfl rfl rfl ?_
 refine VO.opX rfl rfl rfl rfl rfl ?_
 refine VO.opX rfl rfl rfl rfl rfl ?_
 refine VO.vv (OpV.pickF rfl rfl rfl rfl rfl) ?_
 refine VO.mw ?_
 refine VO.opY rfl rfl rfl rfl rfl ?_
 refine OpE.val (W := NoB) (OpV.move (.inl rfl) rfl) rfl ?_
 refine VO.opY rfl rfl rfl rfl rfl ?_
 refine OpE.val (W := NoB) (OpV.move (.inl rfl) rfl) rfl ?_
 refine VO.opY rfl rfl rfl rfl rfl ?_
 refine OpE.val (W := NoB) (OpV.slss rfl rfl rfl) rfl ?_
 refine VO.vv (OpV.pickF rfl rfl rfl rfl rfl) ?_
 refine VO.mb ?_
 refine VO.nil ?_
 refine VC.ret ?_
 exact Exists.intro _ (And.intro (RetN.one Tryz.results251 (ResN.v rfl)) (rfl))
theorem slices_BinarySearch_str {xs : List ByteArray} {v : ByteArray} (hl : xs.length ≤ 1000000000) (hs : SortS xs) :
  Spec Tryz.prog 179 [avStrs xs, avS v] (fun y => ∃ (n : Int), y = .tup [avI n, avB (xs.any fun x => sEq v x)]) := by
 refine Spec.of_VC Tryz.func179 rfl Tryz.ntmps179 (Nle rfl) fun w A hB => ?_
 refine VC.sr ?_
 refine VO.mb ?_
 refine VO.mb ?_
 refine VO.nil ?_
 refine VC.sr ?_
 refine VO.mw ?_
 refine VO.vv (OpV.len_im rfl Tryz.underlying82 rfl) ?_
 refine VO.mb ?_
 refine VO.nil ?_
 refine VC.sr ?_
 refine VO.mw ?_
 refine VO.mb ?_
 refine VO.mb ?_
 refine VO.nil ?_
 refine VC.seq ?_
 refine VC.block ?_
 refine VC.loopK [] trivial ({p : Nat × Nat // (p.1 ≤ p.2 ∧ p.2 ≤ xs.length) ∧ (∀ k, k < p.1 → sLt (xs.getD k ByteArray.empty) v = true) ∧ (∀ k, p.2 ≤ k → k < xs.length → sLt (xs.getD k ByteArray.empty) v = false)}) (fun (iZ : {p : Nat × Nat // (p.1 ≤ p.2 ∧ p.2 ≤ xs.length) ∧ (∀ k, k < p.1 → sLt (xs.getD k ByteArray.empty) v = true) ∧ (∀ k, p.2 ≤ k → k < xs.length → sLt (xs.getD k ByteArray.empty) v = false)}) => match iZ with | ⟨⟨i, j⟩, ⟨hij, hj⟩, h1, h2⟩ => [(0, avStrs xs), (1, avS v), (6, avI xs.length), (7, avI (i : Int)), (8, avI (j : Int))]) (fun (iZ : {p : Nat × Nat // (p.1 ≤ p.2 ∧ p.2 ≤ xs.length) ∧ (∀ k, k < p.1 → sLt (xs.getD k ByteArray.empty) v = true) ∧ (∀ k, p.2 ≤ k → k < xs.length → sLt (xs.getD k ByteArray.empty) v = false)}) => match iZ with | ⟨⟨i, j⟩, ⟨hij, hj⟩, h1, h2⟩ => []) (fun (iZ : {p : Nat × Nat // (p.1 ≤ p.2 ∧ p.2 ≤ xs.length) ∧ (∀ k, k < p.1 → sLt (xs.getD k ByteArray.empty) v = true) ∧ (∀ k, p.2 ≤ k → k < xs.length → sLt (xs.getD k ByteArray.empty) v = false)}) => match iZ with | ⟨⟨i, j⟩, ⟨hij, hj⟩, h1, h2⟩ => 0) (fun (iZ : {p : Nat × Nat // (p.1 ≤ p.2 ∧ p.2 ≤ xs.length) ∧ (∀ k, k < p.1 → sLt (xs.getD k ByteArray.empty) v = true) ∧ (∀ k, p.2 ≤ k → k < xs.length → sLt (xs.getD k ByteArray.empty) v = false)}) => match iZ with | ⟨⟨i, j⟩, ⟨hij, hj⟩, h1, h2⟩ => j - i) ⟨(0, xs.length), ⟨by omega, by omega⟩, fun k hk => absurd hk (Nat.not_lt_zero k), fun k hk hk' => absurd hk' (by omega)⟩ (Le.mk hB [] ⟨rfl, rfl, rfl, rfl, rfl, trivial⟩ rfl rfl (Nat.le_refl _)) ?_
 rintro ⟨⟨i, j⟩, ⟨hij, hj⟩, h1, h2⟩
 show VC _ _ _ _ ⟨[(0, avStrs xs), (1, avS v), (6, avI xs.length), (7, avI (i : Int)), (8, avI (j : Int))] ++ [], [], 0⟩
 simp only at hij hj h1 h2
 refine VC.seq ?_
 refine VC.sr ?_
 refine VO.mw ?_
 refine VO.mw ?_
 refine VO.vv (OpV.lss rfl rfl rfl) ?_
 refine VO.nil ?_
 refine VC.cond rfl (fun aH1b => ?_) (fun aH1b => ?_)
 ·have aH1 := aH1b
  try simp only [qq] at aH1
  refine VC.skip ?_
  refine VC.block ?_
  refine VC.sr ?_
  refine VO.mw ?_
  refine VO.mw ?_
  refine VO.vv (OpV.add rfl rfl rfl (by unfold fits; omega)) ?_
  refine VO.vv (OpV.conv rfl Tryz.underlying3 Tryz.underlying282 rfl (IntWalk.u64_in _ (by omega))) ?_
  refine VO.vv (OpV.shr1 rfl rfl rfl rfl (by omega)) ?_
  refine VO.vv (OpV.conv rfl Tryz.underlying282 Tryz.underlying3 rfl (IntWalk.i64_in _ (by omega))) ?_
  refine VO.mb ?_
  refine VO.nil ?_
  refine VC.sr ?_
  refine VO.mw ?_
  refine VO.mw ?_
  refine VO.vv (OpV.indexAddr_1 rfl Tryz.underlying82 Tryz.sizeOf9 rfl rfl (Int.toNat_of_nonneg (by omega)).symm (by omega)) ?_
  refine VO.vv (OpV.load_at rfl hB OutW.no Tryz.isAgg9 rfl rfl) ?_
  refine VO.mw ?_
  refine VO.op rfl (OpE.call rfl hB rfl Tryz.call251 rfl (SpecN.spec (cmp_Less_str)) ?_)
  rintro _ rfl
  refine VO.nil ?_
  refine VC.cond rfl (fun hltb => ?_) (fun hltb => ?_)
  ·have hlt := hltb
   try simp only [qq] at hlt
   refine VC.region ?_
   refine VO.mw ?_
   refine VO.vv (OpV.add rfl rfl rfl (by unfold fits; omega)) ?_
   refine VO.mb ?_
   refine VO.nil ?_
   exact Exists.intro (⟨((((i : Int) + j) / 2).toNat + 1, j), ⟨by show _ + 1 ≤ _; omega, hj⟩, bs_lo hs (by omega) hlt, h2⟩) (And.intro (Le.mk hB [] ⟨rfl, rfl, rfl, (by first | rfl | exact congrArg (fun z => some (avI z)) (by omega)), (by first | rfl | exact congrArg (fun z => some (avI z)) (by omega)), trivial⟩ rfl rfl (Nat.le_refl _)) (by first | omega | (show _ < _; omega) | (simp only []; omega)))
  ·have hlt := hltb
   try simp only [qq] at hlt
   refine VC.region ?_
   refine VO.mw ?_
   refine VO.mb ?_
   refine VO.nil ?_
   exact Exists.intro (⟨(i, (((i : Int) + j) / 2).toNat), ⟨by show _ ≤ _; omega, by show _ ≤ _; omega⟩, h1, fun k hk => bs_hi hs hlt k hk⟩) (And.intro (Le.mk hB [] ⟨rfl, rfl, rfl, (by first | rfl | exact congrArg (fun z => some (avI z)) (by omega)), (by first | rfl | exact congrArg (fun z => some (avI z)) (by omega)), trivial⟩ rfl rfl (Nat.le_refl _)) (by first | omega | (show _ < _; omega) | (simp only []; omega)))
 ·have aH1 := aH1b
  try simp only [qq] at aH1
  refine VC.exit ?_
  refine VC.sr ?_
  refine VO.mw ?_
  refine VO.mw ?_
  refine VO.mw ?_
  refine VO.vv (OpV.lss rfl rfl rfl) ?_
  refine VO.mw ?_
  refine VO.opG rfl rfl rfl rfl (fun aK2b => ?_) (fun aK2b => ?_)
  ·replace aK2b : _ = true := aK2b
   have aK2 := aK2b
   try simp only [qq] at aK2
   refine OpE.val (W := NoB) (OpV.move (.inl rfl) rfl) rfl ?_
   refine VO.opY rfl rfl rfl rfl aK2b ?_
   refine OpE.val (W := NoB) (OpV.move (.inl rfl) rfl) rfl ?_
   refine VO.opY rfl rfl rfl rfl aK2b ?_
   refine OpE.val (W := NoB) (OpV.indexAddr_1 rfl Tryz.underlying82 Tryz.sizeOf9 rfl rfl rfl (by omega)) rfl ?_
   refine VO.opY rfl rfl rfl rfl aK2b ?_
   refine OpE.val (W := NoB) (OpV.load_at rfl hB OutW.no Tryz.isAgg9 rfl rfl) rfl ?_
   refine VO.opY rfl rfl rfl rfl aK2b ?_
   refine OpE.val (W := NoB) (OpV.move (.inl rfl) rfl) rfl ?_
   refine VO.opY rfl rfl rfl rfl aK2b ?_
   refine OpE.val (W := NoB) (OpV.seql rfl rfl rfl) rfl ?_
   refine VO.opY rfl rfl rfl rfl aK2b ?_
   refine OpE.val (W := NoB) (OpV.move (.inl rfl) rfl) rfl ?_
   refine VO.opG rfl rfl rfl rfl (fun aK3b => ?_) (fun aK3b => ?_)
   ·replace aK3b : _ = false := aK3b
    have aK3 := aK3b
    try simp only [qq] at aK3
    refine OpE.val (W := NoB) (OpV.move (.inl rfl) rfl) rfl ?_
    refine VO.opY rfl rfl rfl rfl aK3b ?_
    refine OpE.val (W := NoB) (OpV.move (.inl rfl) rfl) rfl ?_
    refine VO.opY rfl rfl rfl rfl aK3b ?_
    refine OpE.val (W := NoB) (OpV.indexAddr_1 rfl Tryz.underlying82 Tryz.sizeOf9 rfl rfl rfl (by omega)) rfl ?_
    refine VO.opY rfl rfl rfl rfl aK3b ?_
    refine OpE.val (W := NoB) (OpV.load_at rfl hB OutW.no Tryz.isAgg9 rfl rfl) rfl ?_
    refine VO.opY rfl rfl rfl rfl aK3b ?_
    refine OpE.call rfl hB rfl Tryz.call252 rfl (SpecN.spec (slices_isNaN_str)) ?_
    rintro _ rfl
    refine VO.opY rfl rfl rfl rfl aK3b ?_
    refine OpE.val (W := NoB) (OpV.move (.inl rfl) rfl) rfl ?_
    refine VO.opX rfl rfl rfl rfl rfl ?_
    refine VO.opX rfl rfl rfl rfl rfl ?_
    refine VO.opY rfl rfl rfl rfl aK3b ?_
    refine OpE.val (W := NoB) (OpV.pickF rfl rfl rfl rfl rfl) rfl ?_
    refine VO.opY rfl rfl rfl rfl aK2b ?_
    refine OpE.val (W := NoB) (OpV.pickF rfl rfl rfl rfl aK3b) rfl ?_
    refine VO.vv (OpV.pickT rfl rfl rfl rfl aK2b) ?_
    refine VO.mb ?_
    refine VO.mb ?_
    refine VO.nil ?_
    refine VC.ret ?_
    exact Exists.intro _ (And.intro (RetV.two Tryz.results179 (ResV.tmp rfl) (ResV.tmp rfl)) (by first | exact ⟨(i : Int), by rw [bs_found (i := i) (by omega) (by assumption)]⟩ | exact ⟨(i : Int), by rw [bs_not (i := i) hs h1 (fun k hk => h2 k (by omega)) (.inl (by omega))]⟩ | exact ⟨(i : Int), by rw [bs_not (i := i) hs h1 (fun k hk => h2 k (by omega)) (.inr (by assumption))]⟩))
   ·replace aK3b : _ = true := aK3b
    have aK3 := aK3b
    try simp only [qq] at aK3
    refine VO.opX rfl rfl rfl rfl aK3b ?_
    refine VO.opX rfl rfl rfl rfl aK3b ?_
    refine VO.opX rfl rfl rfl rfl aK3b ?_
    refine VO.opX rfl rfl rfl rfl aK3b ?_
    refine VO.opX rfl rfl rfl rfl aK3b ?_
    refine VO.opU rfl rfl rfl rfl ?_
    refine VO.opU rfl rfl rfl rfl ?_
    refine VO.opX rfl rfl rfl rfl aK3b ?_
    refine VO.opY rfl rfl rfl rfl aK2b ?_
    refine OpE.val (W := NoB) (OpV.pickT rfl rfl rfl rfl aK3b) rfl ?_
    refine VO.vv (OpV.pickT rfl rfl rfl rfl aK2b) ?_
    refine VO.mb ?_
    refine VO.mb ?_
    refine VO.nil ?_
    refine VC.ret ?_
    exact Exists.intro _ (And.intro (RetV.two Tryz.results179 (ResV.tmp rfl) (ResV.tmp rfl)) (by first | exact ⟨(i : Int), by rw [bs_found (i := i) (by omega) (by assumption)]⟩ | exact ⟨(i : Int), by rw [bs_not (i := i) hs h1 (fun k hk => h2 k (by omega)) (.inl (by omega))]⟩ | exact ⟨(i : Int), by rw [bs_not (i := i) hs h1 (fun k hk => h2 k (by omega)) (.inr (by assumption))]⟩))
  ·replace aK2b : _ = false := aK2b
   have aK2 := aK2b
   try simp only [qq] at aK2
   refine VO.opX rfl rfl rfl rfl aK2b ?_
   refine VO.opX rfl rfl rfl rfl aK2b ?_
   refine VO.opX rfl rfl rfl rfl aK2b ?_
   refine VO.opX rfl rfl rfl rfl aK2b ?_
   refine VO.opX rfl rfl rfl rfl aK2b ?_
   refine VO.opX rfl rfl rfl rfl aK2b ?_
   refine VO.opU rfl rfl rfl rfl ?_
   refine VO.opU rfl rfl rfl rfl ?_
   refine VO.opU rfl rfl rfl rfl ?_
   refine VO.opU rfl rfl rfl rfl ?_
   refine VO.opU rfl rfl rfl rfl ?_
   refine VO.opU rfl rfl rfl rfl ?_
   refine VO.opU rfl rfl rfl rfl ?_
   refine VO.opU rfl rfl rfl rfl ?_
   refine VO.opU rfl rfl rfl rfl ?_
   refine VO.opX rfl rfl rfl rfl aK2b ?_
   refine VO.vv (OpV.pickF rfl rfl rfl rfl aK2b) ?_
   refine VO.mb ?_
   refine VO.mb ?_
   refine VO.nil ?_
   refine VC.ret ?_
   exact Exists.intro _ (And.intro (RetV.two Tryz.results179 (ResV.tmp rfl) (ResV.tmp rfl)) (by first | exact ⟨(i : Int), by rw [bs_found (i := i) (by omega) (by assumption)]⟩ | exact ⟨(i : Int), by rw [bs_not (i := i) hs h1 (fun k hk => h2 k (by omega)) (.inl (by omega))]⟩ | exact ⟨(i : Int), by rw [bs_not (i := i) hs h1 (fun k hk => h2 k (by omega)) (.inr (by assumption))]⟩))
end
section
def needF (x : ByteArray) (later : List (List ByteArray)) : Int := if 0 ≤ fidx (fun l => has l x) later then fidx (fun l => has l x) later else later.length
theorem needF_ge (x : ByteArray) (later : List (List ByteArray)) : 0 ≤ needF x later ∧ needF x later ≤ later.length := by
 have := fidx_ge (fun l => has l x) later
 unfold needF
 split
 ·constructor
  ·assumption
  ·have h2 := this.2
   omega
 ·omega
def vic (s parts : List ByteArray) (later : List (List ByteArray)) : Nat → Int × Int
 | 0 => (-1, -1)
 | q + 1 => if has parts (s.getD q ByteArray.empty) = true then vic s parts later q
  else if (vic s parts later q).2 < needF (s.getD q ByteArray.empty) later ∨ (needF (s.getD q ByteArray.empty) later = (vic s parts later q).2 ∧ sLe (s.getD q ByteArray.empty) (s.getD (vic s parts later q).1.toNat ByteArray.empty) = false) then ((q : Int), needF (s.getD q ByteArray.empty) later)
  else vic s parts later q
section
variable {s parts : List ByteArray} {later : List (List ByteArray)}
theorem vic_has {q : Nat} (h : has parts (s.getD q ByteArray.empty) = true) : vic s parts later (q + 1) = vic s parts later q := by rw [vic, if_pos h]
theorem vic_new {q : Nat} (h : has parts (s.getD q ByteArray.empty) = false) (h2 : (vic s parts later q).2 < needF (s.getD q ByteArray.empty) later ∨ (needF (s.getD q ByteArray.empty) later = (vic s parts later q).2 ∧ sLe (s.getD q ByteArray.empty) (s.getD (vic s parts later q).1.toNat ByteArray.empty) = false)) :
  vic s parts later (q + 1) = ((q : Int), needF (s.getD q ByteArray.empty) later) := by rw [vic, if_neg (by rw [h]; simp), if_pos h2]
theorem vic_old {q : Nat} (h : has parts (s.getD q ByteArray.empty) = false) (h2 : ¬ ((vic s parts later q).2 < needF (s.getD q ByteArray.empty) later ∨ (needF (s.getD q ByteArray.empty) later = (vic s parts later q).2 ∧ sLe (s.getD q ByteArray.empty) (s.getD (vic s parts later q).1.toNat ByteArray.empty) = false))) :
  vic s parts later (q + 1) = vic s parts later q := by rw [vic, if_neg (by rw [h]; simp), if_neg h2]
theorem vic_in : ∀ q : Nat, (vic s parts later q = (-1, -1) ∧ ∀ j, j < q → has parts (s.getD j ByteArray.empty) = true) ∨
    (0 ≤ (vic s parts later q).1 ∧ (vic s parts later q).1 < q ∧ 0 ≤ (vic s parts later q).2 ∧ (vic s parts later q).2 ≤ later.length ∧ has parts (s.getD (vic s parts later q).1.toNat ByteArray.empty) = false)
  | 0 => .inl ⟨rfl, fun j hj => by omega⟩
  | q + 1 => by
    have hn := needF_ge (s.getD q ByteArray.empty) later
    cases hh : has parts (s.getD q ByteArray.empty) with
    | true =>
      rw [vic_has hh]
      rcases vic_in q with ⟨h1, h2⟩ | ⟨h1, h2, h3, h4, h5⟩
      · exact .inl ⟨h1, fun j hj => by
          by_cases e : j = q
          · rw [e]; exact hh
          · exact h2 j (by omega)⟩
      · exact .inr ⟨h1, by omega, h3, h4, h5⟩
    | false =>
      by_cases h2 : (vic s parts later q).2 < needF (s.getD q ByteArray.empty) later ∨ (needF (s.getD q ByteArray.empty) later = (vic s parts later q).2 ∧ sLe (s.getD q ByteArray.empty) (s.getD (vic s parts later q).1.toNat ByteArray.empty) = false)
      · rw [vic_new hh h2]
        exact .inr ⟨by simp, by simp; omega, hn.1, hn.2, by simpa using hh⟩
      · rw [vic_old hh h2]
        rcases vic_in q with ⟨h1, _⟩ | ⟨h1, h2, h3, h4, h5⟩
        · exact absurd (.inl (by rw [h1]; exact (by omega : (-1 : Int) < needF (s.getD q ByteArray.empty) later))) h2
        · exact .inr ⟨h1, by omega, h3, h4, h5⟩
end
theorem vic_tie {s parts : List ByteArray} {later : List (List ByteArray)} {q : Nat} {x : ByteArray} (h : needF x later = (vic s parts later q).2) : 0 ≤ (vic s parts later q).1 ∧ (vic s parts later q).1 < q := by
 have h9 := needF_ge x later
 rcases vic_in (s := s) (parts := parts) (later := later) q with ⟨h8, _⟩ | ⟨k1, k2, _⟩
 ·rw [h8] at h
  simp only at h
  omega
 ·exact ⟨k1, k2⟩
def slotF (s parts : List ByteArray) (later : List (List ByteArray)) : Int := if fidx (fun x => sEq ε x) s < 0 then (vic s parts later s.length).1 else fidx (fun x => sEq ε x) s
def nextL (parts : List ByteArray) (later : List (List ByteArray)) : List ByteArray → List ByteArray → List ByteArray
 | s, [] => s
 | s, x :: r => nextL parts later (s.set (slotF s parts later).toNat x) r
def nextF (s parts : List ByteArray) (later : List (List ByteArray)) : List ByteArray := nextL parts later s (missF s parts)
theorem nextL_snoc (parts : List ByteArray) (later : List (List ByteArray)) : ∀ (l s : List ByteArray) (x : ByteArray), nextL parts later s (l ++ [x]) = (nextL parts later s l).set (slotF (nextL parts later s l) parts later).toNat x
 | [], s, x => rfl
 | y :: l, s, x => nextL_snoc parts later l _ x
theorem nextL_len (parts : List ByteArray) (later : List (List ByteArray)) : ∀ (l s : List ByteArray), (nextL parts later s l).length = s.length
 | [], s => rfl
 | y :: l, s => by rw [nextL, nextL_len parts later l]; simp
theorem has_iff {s : List ByteArray} {x : ByteArray} : has s x = true ↔ x ∈ s := by
 unfold has
 rw [List.any_eq_true]
 exact ⟨fun ⟨y, h1, h2⟩ => by rw [sEq_eq.1 h2]; exact h1, fun h => ⟨x, h, sEq_refl x⟩⟩
theorem has_not {s : List ByteArray} {x : ByteArray} : has s x = false ↔ x ∉ s := by
 rw [← has_iff, Bool.not_eq_true]
theorem nodup_sub : ∀ {l m : List ByteArray}, l.Nodup → (∀ x ∈ l, x ∈ m) → l.length ≤ m.length
 | [], m, _, _ => Nat.zero_le _
 | x :: r, m, h, hs => by
  have hx := hs x (by simp)
  have := nodup_sub (l := r) (m := m.erase x) (List.nodup_cons.1 h).2 (fun y hy => (List.mem_erase_of_ne (fun e => by subst e; exact (List.nodup_cons.1 h).1 hy)).2 (hs y (by simp [hy])))
  rw [List.length_erase_of_mem hx] at this
  have : 0 < m.length := List.length_pos_of_mem hx
  simp; omega
structure Fits (s parts : List ByteArray) : Prop where
 once : ∀ i j, i < j → j < s.length → s.getD i ByteArray.empty = s.getD j ByteArray.empty → s.getD j ByteArray.empty = ε
 room : parts.length ≤ s.length
 keys : ∀ x ∈ parts, x ≠ ε
 pnd : parts.Nodup
theorem slotF_in {s parts : List ByteArray} {later : List (List ByteArray)} (h : Fits s parts) {x : ByteArray} (hx : x ∈ parts) (hs : x ∉ s) : 0 ≤ slotF s parts later ∧ slotF s parts later < s.length ∧ has parts (s.getD (slotF s parts later).toNat ByteArray.empty) = false := by
 unfold slotF
 have hge := fidx_ge (fun x => sEq ε x) s
 split
 ·rename_i h1
  have hne : ∀ y ∈ s, y ≠ ε := fun y hy e => by
   have : s.any (fun x => sEq ε x) = true := List.any_eq_true.2 ⟨y, hy, by rw [e]; exact sEq_refl _⟩
   rw [← fidx_any] at this
   have := of_decide_eq_true this
   omega
  rcases vic_in (s := s) (parts := parts) (later := later) s.length with ⟨_, h2⟩ | ⟨k1, k2, _, _, k5⟩
  ·exfalso
   have hnd : s.Nodup := by
    rw [List.Nodup, List.pairwise_iff_getElem]
    intro i j hi hj hij e
    have := h.once i j hij hj (by simp [hi, hj, e])
    exact hne _ (List.getElem_mem hj) (by simpa [hj] using this)
   have := nodup_sub (l := x :: s) (m := parts) (List.nodup_cons.2 ⟨hs, hnd⟩) (fun y hy => by
    rcases List.mem_cons.1 hy with rfl | hy
    ·exact hx
    ·obtain ⟨j, hj, rfl⟩ := List.mem_iff_getElem.1 hy
     have := h2 j hj
     rw [has_iff] at this
     simpa [hj] using this)
   have h7 := h.room
   rw [List.length_cons] at this
   omega
  ·exact ⟨k1, k2, k5⟩
 ·rename_i h1
  have h0 : 0 ≤ fidx (fun x => sEq ε x) s := by omega
  obtain ⟨k1, k2, _⟩ := fidx_at (d := ByteArray.empty) h0
  have k3 := (sEq_eq.1 k2).symm
  refine ⟨h0, by omega, ?_⟩
  rw [k3, has_not]
  exact fun hc => h.keys _ hc rfl
theorem Fits.set {s parts : List ByteArray} (h : Fits s parts) {x : ByteArray} (hs : x ∉ s) (i : Nat) : Fits (s.set i x) parts := by
 refine ⟨fun a b hab hb he => ?_, by rw [List.length_set]; exact h.room, h.keys, h.pnd⟩
 rw [List.length_set] at hb
 have hm : ∀ k, k < s.length → s.getD k ByteArray.empty ∈ s := fun k hk => by simp [hk]
 simp only [List.getD_eq_getElem?_getD, List.getElem?_set] at he ⊢
 have hal : a < s.length := by omega
 by_cases ea : i = a
 ·subst ea
  rw [if_pos rfl, if_pos (by omega), if_neg (by omega)] at he
  have : x ∈ s := by
   have := hm b hb
   rw [List.getD_eq_getElem?_getD] at this
   simp only [Option.getD_some] at he
   rw [he]; exact this
  exact absurd this hs
 ·by_cases eb : i = b
  ·subst eb
   rw [if_neg ea, if_pos rfl, if_pos (by omega)] at he
   have : x ∈ s := by
    have := hm a hal
    rw [List.getD_eq_getElem?_getD] at this
    simp only [Option.getD_some] at he
    rw [← he]; exact this
   exact absurd this hs
  ·rw [if_neg ea, if_neg eb] at he
   rw [if_neg eb]
   have := h.once a b hab hb (by rw [List.getD_eq_getElem?_getD, List.getD_eq_getElem?_getD]; exact he)
   rwa [List.getD_eq_getElem?_getD] at this
end
section
def SmS (s : List ByteArray) : Prop := s.length ≤ 1000000000 ∧ ∀ i, (s.getD i ByteArray.empty).size ≤ 1000000000
def SmSS (p : List (List ByteArray)) : Prop := p.length ≤ 1000000000 ∧ ∀ i, SmS (p.getD i default)
theorem setup_CheckSetup {s : List ByteArray} (hs : SmS s) :
  SpecN Tryz.prog 233 [avStrs s] (fun y => y = avI (setupF s)) := by
 have hl := hs.1
 refine SpecN.of_VCN Tryz.func233 rfl Tryz.ntmps233 (Nle rfl) fun w A hB => ?_
 refine VC.sr ?_
 refine VO.mb ?_
 refine VO.nil ?_
 refine VC.seq ?_
 refine VC.sr ?_
 refine VO.mw ?_
 refine VO.vv (OpV.len_im rfl Tryz.underlying82 rfl) ?_
 refine VO.vv (OpV.eql rfl rfl rfl) ?_
 refine VO.nil ?_
 refine VC.cond rfl (fun aH1b => ?_) (fun aH1b => ?_)
 ·have aH1 := aH1b
  try simp only [qq] at aH1
  refine VC.sr ?_
  refine VO.mb ?_
  refine VO.nil ?_
  refine VC.ret ?_
  exact Exists.intro _ (And.intro (RetN.one Tryz.results233 (ResN.v rfl)) (by rw [setupF_none (by omega)]))
 ·have aH1 := aH1b
  try simp only [qq] at aH1
  refine VC.skip ?_
  refine VC.seq ?_
  refine VC.sr ?_
  refine VO.mw ?_
  refine VO.vv (OpV.len_im rfl Tryz.underlying82 rfl) ?_
  refine VO.vv (OpV.gtr rfl rfl rfl) ?_
  refine VO.nil ?_
  refine VC.cond rfl (fun aH2b => ?_) (fun aH2b => ?_)
  ·have aH2 := aH2b
   try simp only [qq] at aH2
   refine VC.sr ?_
   refine VO.mb ?_
   refine VO.nil ?_
   refine VC.ret ?_
   exact Exists.intro _ (And.intro (RetN.one Tryz.results233 (ResN.v rfl)) (by rw [setupF_big (by omega)]))
  ·have aH2 := aH2b
   try simp only [qq] at aH2
   refine VC.skip ?_
   refine VC.seq ?_
   refine VC.sr ?_
   refine VO.mw ?_
   refine VO.vv (OpV.len_im rfl Tryz.underlying82 rfl) ?_
   refine VO.mw ?_
   refine VO.nil ?_
   refine VC.block ?_
   refine VC.loopK [(0, _), (11, _), (12, _)] ⟨rfl, rfl, rfl, trivial⟩ ({q : Nat // q ≤ s.length ∧ ∀ j, j < q → setupE s j = 0}) (fun (iZ : {q : Nat // q ≤ s.length ∧ ∀ j, j < q → setupE s j = 0}) => match iZ with | ⟨q, hq, hn⟩ => [(13, avI (q : Int))]) (fun (iZ : {q : Nat // q ≤ s.length ∧ ∀ j, j < q → setupE s j = 0}) => match iZ with | ⟨q, hq, hn⟩ => []) (fun (iZ : {q : Nat // q ≤ s.length ∧ ∀ j, j < q → setupE s j = 0}) => match iZ with | ⟨q, hq, hn⟩ => 0) (fun (iZ : {q : Nat // q ≤ s.length ∧ ∀ j, j < q → setupE s j = 0}) => match iZ with | ⟨q, hq, hn⟩ => s.length - q) ⟨0, Nat.zero_le _, fun j hj => absurd hj (Nat.not_lt_zero j)⟩ (Le.mk hB [] ⟨rfl, rfl, rfl, rfl, trivial⟩ rfl rfl (Nat.le_refl _)) ?_
   rintro ⟨q, hq, hn⟩
   show VC _ _ _ _ ⟨[(13, avI (q : Int))] ++ [(0, _), (11, _), (12, _)], [], 0⟩
   refine VC.sr ?_
   refine VO.vv (OpV.lss rfl rfl rfl) ?_
   refine VO.nil ?_
   refine VC.seq ?_
   refine VC.cond rfl (fun aH3b => ?_) (fun aH3b => ?_)
   ·have aH3 := aH3b
    try simp only [qq] at aH3
    refine VC.skip ?_
    refine VC.seq ?_
    refine VC.block ?_
    refine VC.sr ?_
    refine VO.mw ?_
    refine VO.vv (OpV.indexAddr_1 rfl Tryz.underlying82 Tryz.sizeOf9 rfl rfl rfl (by omega)) ?_
    refine VO.vv (OpV.load_at rfl hB OutW.no Tryz.isAgg9 rfl rfl) ?_
    refine VO.mb ?_
    refine VO.mb ?_
    refine VO.nil ?_
    refine VC.block ?_
    refine VC.sr ?_
    refine VO.mw ?_
    refine VO.vv (OpV.seql rfl rfl rfl) ?_
    refine VO.mb ?_
    refine VO.nil ?_
    refine VC.cond rfl (fun h3b => ?_) (fun h3b => ?_)
    ·have h3 := h3b
     try simp only [qq] at h3
     refine VC.skip ?_
     refine VC.region ?_
     refine VO.vv (OpV.add rfl rfl rfl (by unfold fits; omega)) ?_
     refine VO.mw ?_
     refine VO.nil ?_
     exact Exists.intro (⟨q + 1, by omega, lt_succ_cases hn (setupE_e h3b)⟩) (And.intro (Le.mk hB [] ⟨rfl, rfl, rfl, rfl, trivial⟩ rfl rfl (Nat.le_refl _)) (by first | omega | (show _ < _; omega) | (simp only []; omega)))
    ·have h3 := h3b
     try simp only [qq] at h3
     refine VC.sr ?_
     refine VO.mw ?_
     refine VO.op rfl (OpE.call rfl hB rfl Tryz.call230 rfl (SpecN.spec (kit_IsKey (hs.2 _))) ?_)
     rintro _ rfl
     refine VO.vv (OpV.not rfl rfl) ?_
     refine VO.mb ?_
     refine VO.nil ?_
     refine VC.cond rfl (fun h4b => ?_) (fun h4b => ?_)
     ·have h4 := h4b
      try simp only [qq] at h4
      refine VC.sr ?_
      refine VO.mb ?_
      refine VO.nil ?_
      refine VC.ret ?_
      exact Exists.intro _ (And.intro (RetN.one Tryz.results233 (ResN.v rfl)) (by rw [setupF_at (by omega) (by omega) (by omega) hn (setupE_5 h3b h4) (by decide)]))
     ·have h4 := h4b
      try simp only [qq] at h4
      refine VC.sr ?_
      refine VO.mw ?_
      refine VO.mw ?_
      refine VO.vv (OpV.slice_strs (h := q) rfl Tryz.underlying82 Tryz.sizeOf9 rfl rfl ⟨_, _, rfl, rfl⟩ (by omega) (by omega)) ?_
      refine VO.mw ?_
      refine VO.op rfl (OpE.call rfl hB rfl Tryz.call86 rfl (SpecN.spec (slices_Contains_str (by rw [len_cut (by omega)]; omega))) ?_)
      rintro _ rfl
      refine VO.mb ?_
      refine VO.nil ?_
      refine VC.cond rfl (fun h5b => ?_) (fun h5b => ?_)
      ·have h5 := h5b
       try simp only [qq] at h5
       refine VC.sr ?_
       refine VO.mb ?_
       refine VO.nil ?_
       refine VC.ret ?_
       exact Exists.intro _ (And.intro (RetN.one Tryz.results233 (ResN.v rfl)) (by rw [setupF_at (by omega) (by omega) (by omega) hn (setupE_6 h3b h4 h5) (by decide)]))
      ·have h5 := h5b
       try simp only [qq] at h5
       refine VC.skip ?_
       refine VC.region ?_
       refine VO.vv (OpV.add rfl rfl rfl (by unfold fits; omega)) ?_
       refine VO.mw ?_
       refine VO.nil ?_
       exact Exists.intro (⟨q + 1, by omega, lt_succ_cases hn (setupE_0 h3b h4 h5)⟩) (And.intro (Le.mk hB [] ⟨rfl, rfl, rfl, rfl, trivial⟩ rfl rfl (Nat.le_refl _)) (by first | omega | (show _ < _; omega) | (simp only []; omega)))
   ·have aH3 := aH3b
    try simp only [qq] at aH3
    refine VC.exit ?_
    refine VC.sr ?_
    refine VO.mb ?_
    refine VO.nil ?_
    refine VC.ret ?_
    exact Exists.intro _ (And.intro (RetN.one Tryz.results233 (ResN.v rfl)) (by rw [setupF_ok (by omega) (by omega) (fun j hj => hn j (by omega))]))
theorem setup_CheckParts {n : Int} {p : List (List ByteArray)} (hp : SmSS p) :
    SpecN Tryz.prog 234 [avI n, avM p] (fun y => y = avI (partsF n p)) := by
  have hl := hp.1
  refine SpecN.of_VCN Tryz.func234 rfl Tryz.ntmps234 (Nle rfl) fun w A hB => ?_
  refine VC.sr ?_
  refine VO.mb ?_
  refine VO.nil ?_
  refine VC.seq ?_
  refine VC.sr ?_
  refine VO.mw ?_
  refine VO.op rfl (OpE.call rfl hB rfl Tryz.call161 rfl (SpecN.spec (kit_Outside)) ?_)
  rintro _ rfl
  refine VO.nil ?_
  refine VC.cond rfl (fun h0b => ?_) (fun h0b => ?_)
  · have h0 := h0b
    try simp only [qq] at h0
    refine VC.sr ?_
    refine VO.mb ?_
    refine VO.nil ?_
    refine VC.ret ?_
    exact Exists.intro _ (And.intro (RetN.one Tryz.results234 (ResN.v rfl)) (by rw [partsF_1 h0b]))
  · have h0 := h0b
    try simp only [qq] at h0
    refine VC.skip ?_
    refine VC.seq ?_
    refine VC.sr ?_
    refine VO.mw ?_
    refine VO.vv (OpV.len_im rfl Tryz.underlying169 rfl) ?_
    refine VO.vv (OpV.gtr rfl rfl rfl) ?_
    refine VO.nil ?_
    refine VC.cond rfl (fun aH1b => ?_) (fun aH1b => ?_)
    · have aH1 := aH1b
      try simp only [qq] at aH1
      refine VC.sr ?_
      refine VO.mb ?_
      refine VO.nil ?_
      refine VC.ret ?_
      exact Exists.intro _ (And.intro (RetN.one Tryz.results234 (ResN.v rfl)) (by rw [partsF_2 h0b (by omega)]))
    · have aH1 := aH1b
      try simp only [qq] at aH1
      refine VC.skip ?_
      refine VC.seq ?_
      refine VC.sr ?_
      refine VO.mw ?_
      refine VO.vv (OpV.len_im rfl Tryz.underlying169 rfl) ?_
      refine VO.mw ?_
      refine VO.nil ?_
      refine VC.block ?_
      refine VC.loopK [(0, _), (14, _), (15, _)] ⟨rfl, rfl, rfl, trivial⟩ ({q : Nat // q ≤ p.length ∧ ∀ j, j < q → partE n (p.getD j default) = 0}) (fun (iZ : {q : Nat // q ≤ p.length ∧ ∀ j, j < q → partE n (p.getD j default) = 0}) => match iZ with | ⟨q, hq, hn⟩ => [(16, avI (q : Int))]) (fun (iZ : {q : Nat // q ≤ p.length ∧ ∀ j, j < q → partE n (p.getD j default) = 0}) => match iZ with | ⟨q, hq, hn⟩ => []) (fun (iZ : {q : Nat // q ≤ p.length ∧ ∀ j, j < q → partE n (p.getD j default) = 0}) => match iZ with | ⟨q, hq, hn⟩ => 0) (fun (iZ : {q : Nat // q ≤ p.length ∧ ∀ j, j < q → partE n (p.getD j default) = 0}) => match iZ with | ⟨q, hq, hn⟩ => p.length - q) ⟨0, Nat.zero_le _, fun j hj => absurd hj (Nat.not_lt_zero j)⟩ (Le.mk hB [] ⟨rfl, rfl, rfl, rfl, trivial⟩ rfl rfl (Nat.le_refl _)) ?_
      rintro ⟨q, hq, hn⟩
      show VC _ _ _ _ ⟨[(16, avI (q : Int))] ++ [(0, _), (14, _), (15, _)], [], 0⟩
      refine VC.sr ?_
      refine VO.vv (OpV.lss rfl rfl rfl) ?_
      refine VO.nil ?_
      refine VC.seq ?_
      refine VC.cond rfl (fun aH2b => ?_) (fun aH2b => ?_)
      · have aH2 := aH2b
        try simp only [qq] at aH2
        refine VC.skip ?_
        refine VC.seq ?_
        refine VC.block ?_
        refine VC.sr ?_
        refine VO.vv (OpV.indexAddr_1 rfl Tryz.underlying169 Tryz.sizeOf82 rfl rfl rfl (by omega)) ?_
        refine VO.vv (OpV.load_at rfl hB OutW.no Tryz.isAgg82 rfl rfl) ?_
        refine VO.mb ?_
        refine VO.nil ?_
        refine VC.seq ?_
        refine VC.sr ?_
        refine VO.mw ?_
        refine VO.vv (OpV.len_im rfl Tryz.underlying82 rfl) ?_
        refine VO.mw ?_
        refine VO.vv (OpV.gtr rfl rfl rfl) ?_
        refine VO.nil ?_
        refine VC.cond rfl (fun h3b => ?_) (fun h3b => ?_)
        · have h3 := h3b
          try simp only [qq] at h3
          have hq0 := partE_12 (slots := n) (l := p.getD q default) (by omega)
          refine VC.sr ?_
          refine VO.mb ?_
          refine VO.nil ?_
          refine VC.ret ?_
          exact Exists.intro _ (And.intro (RetN.one Tryz.results234 (ResN.v rfl)) (by rw [partsF_at h0b (by omega) (by omega) hn hq0 (by decide)]))
        · have h3 := h3b
          try simp only [qq] at h3
          have hlq := (hp.2 q).1
          have h3' : ¬ n < ((p.getD q default).length : Int) := by omega
          refine VC.skip ?_
          refine VC.sr ?_
          refine VO.mw ?_
          refine VO.vv (OpV.len_im rfl Tryz.underlying82 rfl) ?_
          refine VO.mw ?_
          refine VO.nil ?_
          refine VC.block ?_
          refine VC.loopK [(0, _), (6, _), (14, _), (15, _), (16, _), (24, _), (25, _)] ⟨rfl, rfl, rfl, rfl, rfl, rfl, rfl, trivial⟩ ({r : Nat // r ≤ (p.getD q default).length ∧ ∀ j, j < r → canE (p.getD q default) j = 0}) (fun (iZ : {r : Nat // r ≤ (p.getD q default).length ∧ ∀ j, j < r → canE (p.getD q default) j = 0}) => match iZ with | ⟨r, hq1, hn1⟩ => [(26, avI (r : Int))]) (fun (iZ : {r : Nat // r ≤ (p.getD q default).length ∧ ∀ j, j < r → canE (p.getD q default) j = 0}) => match iZ with | ⟨r, hq1, hn1⟩ => []) (fun (iZ : {r : Nat // r ≤ (p.getD q default).length ∧ ∀ j, j < r → canE (p.getD q default) j = 0}) => match iZ with | ⟨r, hq1, hn1⟩ => 0) (fun (iZ : {r : Nat // r ≤ (p.getD q default).length ∧ ∀ j, j < r → canE (p.getD q default) j = 0}) => match iZ with | ⟨r, hq1, hn1⟩ => (p.getD q default).length - r) ⟨0, Nat.zero_le _, fun j hj => absurd hj (Nat.not_lt_zero j)⟩ (Le.mk hB [] ⟨rfl, rfl, rfl, rfl, rfl, rfl, rfl, rfl, trivial⟩ rfl rfl (Nat.le_refl _)) ?_
          rintro ⟨r, hq1, hn1⟩
          show VC _ _ _ _ ⟨[(26, avI (r : Int))] ++ [(0, _), (6, _), (14, _), (15, _), (16, _), (24, _), (25, _)], [], 0⟩
          refine VC.sr ?_
          refine VO.vv (OpV.lss rfl rfl rfl) ?_
          refine VO.nil ?_
          refine VC.seq ?_
          refine VC.cond rfl (fun aH3b => ?_) (fun aH3b => ?_)
          · have aH3 := aH3b
            try simp only [qq] at aH3
            refine VC.skip ?_
            refine VC.seq ?_
            refine VC.block ?_
            refine VC.sr ?_
            refine VO.mw ?_
            refine VO.vv (OpV.indexAddr_1 rfl Tryz.underlying82 Tryz.sizeOf9 rfl rfl rfl (by omega)) ?_
            refine VO.vv (OpV.load_at rfl hB OutW.no Tryz.isAgg9 rfl rfl) ?_
            refine VO.mb ?_
            refine VO.mb ?_
            refine VO.nil ?_
            refine VC.seq ?_
            refine VC.sr ?_
            refine VO.mw ?_
            refine VO.op rfl (OpE.call rfl hB rfl Tryz.call230 rfl (SpecN.spec (kit_IsKey ((hp.2 _).2 _))) ?_)
            rintro _ rfl
            refine VO.vv (OpV.not rfl rfl) ?_
            refine VO.nil ?_
            refine VC.cond rfl (fun hkb => ?_) (fun hkb => ?_)
            · have hk := hkb
              try simp only [qq] at hk
              refine VC.sr ?_
              refine VO.mb ?_
              refine VO.nil ?_
              refine VC.ret ?_
              exact Exists.intro _ (And.intro (RetN.one Tryz.results234 (ResN.v rfl)) (by rw [partsF_at h0b (by omega) (by omega) hn (partE_at h3' (by omega) hn1 (canE_5 hk) (by decide)) (by decide)]))
            · have hk := hkb
              try simp only [qq] at hk
              refine VC.skip ?_
              refine VC.sr ?_
              refine VO.mw ?_
              refine VO.vv (OpV.gtr rfl rfl rfl) ?_
              refine VO.mw ?_
              refine VO.opG rfl rfl rfl rfl (fun aK4b => ?_) (fun aK4b => ?_)
              · replace aK4b : _ = true := aK4b
                have aK4 := aK4b
                try simp only [qq] at aK4
                refine OpE.val (W := NoB) (OpV.move (.inl rfl) rfl) rfl ?_
                refine VO.opY rfl rfl rfl rfl aK4b ?_
                refine OpE.val (W := NoB) (OpV.move (.inl rfl) rfl) rfl ?_
                refine VO.opY rfl rfl rfl rfl aK4b ?_
                refine OpE.val (W := NoB) (OpV.move (.inl rfl) rfl) rfl ?_
                refine VO.opY rfl rfl rfl rfl aK4b ?_
                refine OpE.val (W := NoB) (OpV.sub rfl rfl rfl (by unfold fits; omega)) rfl ?_
                refine VO.opY rfl rfl rfl rfl aK4b ?_
                refine OpE.val (W := NoB) (OpV.indexAddr_1 rfl Tryz.underlying82 Tryz.sizeOf9 rfl rfl (show ((r : Int) - 1) = ((r - 1 : Nat) : Int) by omega) (by omega)) rfl ?_
                refine VO.opY rfl rfl rfl rfl aK4b ?_
                refine OpE.val (W := NoB) (OpV.load_at rfl hB OutW.no Tryz.isAgg9 rfl rfl) rfl ?_
                refine VO.opY rfl rfl rfl rfl aK4b ?_
                refine OpE.val (W := NoB) (OpV.sleq rfl rfl rfl) rfl ?_
                refine VO.vv (OpV.pickT rfl rfl rfl rfl aK4b) ?_
                refine VO.nil ?_
                refine VC.cond rfl (fun hsb => ?_) (fun hsb => ?_)
                · have hs := hsb
                  try simp only [qq] at hs
                  refine VC.sr ?_
                  refine VO.mb ?_
                  refine VO.nil ?_
                  refine VC.ret ?_
                  exact Exists.intro _ (And.intro (RetN.one Tryz.results234 (ResN.v rfl)) (by rw [partsF_at h0b (by omega) (by omega) hn (partE_at h3' (by omega) hn1 (canE_7 hk (by omega) hs) (by decide)) (by decide)]))
                · have hs := hsb
                  try simp only [qq] at hs
                  refine VC.skip ?_
                  refine VC.region ?_
                  refine VO.vv (OpV.add rfl rfl rfl (by unfold fits; omega)) ?_
                  refine VO.mw ?_
                  refine VO.nil ?_
                  exact Exists.intro (⟨r + 1, by omega, lt_succ_cases hn1 (canE_0 hk (.inr hs))⟩) (And.intro (Le.mk hB [] ⟨rfl, rfl, rfl, rfl, rfl, rfl, rfl, rfl, trivial⟩ rfl rfl (Nat.le_refl _)) (by first | omega | (show _ < _; omega) | (simp only []; omega)))
              · replace aK4b : _ = false := aK4b
                have aK4 := aK4b
                try simp only [qq] at aK4
                refine VO.opX rfl rfl rfl rfl aK4b ?_
                refine VO.opX rfl rfl rfl rfl aK4b ?_
                refine VO.opX rfl rfl rfl rfl aK4b ?_
                refine VO.opX rfl rfl rfl rfl aK4b ?_
                refine VO.opX rfl rfl rfl rfl aK4b ?_
                refine VO.opX rfl rfl rfl rfl aK4b ?_
                refine VO.vv (OpV.pickF rfl rfl rfl rfl aK4b) ?_
                refine VO.nil ?_
                refine VC.condF rfl rfl ?_
                refine VC.skip ?_
                refine VC.region ?_
                refine VO.vv (OpV.add rfl rfl rfl (by unfold fits; omega)) ?_
                refine VO.mw ?_
                refine VO.nil ?_
                exact Exists.intro (⟨r + 1, by omega, lt_succ_cases hn1 (canE_0 hk (.inl (by omega)))⟩) (And.intro (Le.mk hB [] ⟨rfl, rfl, rfl, rfl, rfl, rfl, rfl, rfl, trivial⟩ rfl rfl (Nat.le_refl _)) (by first | omega | (show _ < _; omega) | (simp only []; omega)))
          · have aH3 := aH3b
            try simp only [qq] at aH3
            refine VC.exit ?_
            refine VC.region ?_
            refine VO.vv (OpV.add rfl rfl rfl (by unfold fits; omega)) ?_
            refine VO.mw ?_
            refine VO.nil ?_
            exact Exists.intro (⟨q + 1, by omega, lt_succ_cases hn (partE_ok h3' (fun j hj => hn1 j (by omega)))⟩) (And.intro (Le.mk hB [] ⟨rfl, rfl, rfl, rfl, trivial⟩ rfl rfl (Nat.le_refl _)) (by first | omega | (show _ < _; omega) | (simp only []; omega)))
      · have aH2 := aH2b
        try simp only [qq] at aH2
        refine VC.exit ?_
        refine VC.sr ?_
        refine VO.mb ?_
        refine VO.nil ?_
        refine VC.ret ?_
        exact Exists.intro _ (And.intro (RetN.one Tryz.results234 (ResN.v rfl)) (by rw [partsF_ok h0b (by omega) (fun j hj => hn j (by omega))]))
end
section
def ShP (m : Nat) (l : List ByteArray) : Prop := l.length ≤ m ∧ ∀ x ∈ l, x.size ≤ 1000
theorem ShP.sms {m : Nat} {l : List ByteArray} (h : ShP m l) (hm : m ≤ 1000) : SmS l := ⟨by have := h.1; omega, fun i => by
 by_cases hi : i < l.length
 ·have := h.2 _ (List.getElem_mem hi)
  simp only [List.getD_eq_getElem?_getD, List.getElem?_eq_getElem hi, Option.getD_some]; omega
 ·simp [List.getD_eq_getElem?_getD, List.getElem?_eq_none (by omega : l.length ≤ i)]⟩
theorem ShP.snoc {m : Nat} {l : List ByteArray} (h : ShP m l) {x : ByteArray} (hx : x.size ≤ 1000) : ShP (m + 1) (l ++ [x]) := ⟨by have := h.1; simp; omega, fun y hy => by
 rcases List.mem_append.1 hy with hy | hy
 ·exact h.2 y hy
 ·simp at hy; subst hy; exact hx⟩
theorem ShP.mono {m n : Nat} {l : List ByteArray} (h : ShP m l) (hn : m ≤ n) : ShP n l := ⟨Nat.le_trans h.1 hn, h.2⟩
end
section
section
variable {P : Program} {B : Bs} {W : Nat → Prop} {s s' : St'} {o : Oper} {K : St' → Prop} {a : Act} {w w' : World} {Q : Exit → St' → Prop}
theorem Le.swap {i : Nat} {e e' : Ent} (hi : s.hp[i]? = some e) (hblk : e'.blk = e.blk) (hE : ∀ w Z, EntR w Z e → EntR w Z e') : Le B s ⟨s.sl, s.hp.set i e', s.k⟩ := fun a w hr => hr.swap hi hblk (hE w)
theorem Le.pickH {hp : List Ent} (ix : List Nat) (hix : ndB ix = true) (h3 : keepIx ix s.hp = hp) : Le B s ⟨s.sl, hp, s.k⟩ := fun a w hr => by
 subst h3
 have hm : ∀ p ∈ keepIx ix s.hp, p ∈ s.hp := fun p hp => by
  rw [keepIx_fm] at hp
  obtain ⟨i, _, hi⟩ := List.mem_filterMap.1 hp
  exact List.mem_of_getElem? hi
 have hz : ∀ b, Zn B s.hp w b → Zn B (keepIx ix s.hp) w b := fun b hb => ⟨hb.1, fun p hp' => hb.2.1 p (hm p hp'), hb.2.2⟩
 refine ⟨fun t x hx => (hr.slots t x hx).keep fun b hb _ => ⟨rfl, hz b hb⟩, hr.size, hr.defs, fun p hp' => (hr.blocks p (hm p hp')).keep (fun b hb _ => ⟨rfl, hz b hb⟩) fun _ _ => rfl, ?_, hr.chg, fun p hp' g hg => hr.own p (hm p hp') g hg, hr.res⟩
 show Apart (keepIx ix s.hp)
 unfold Apart
 rw [keepIx_fm, List.pairwise_filterMap]
 refine (ndB_spec hix).imp fun {i j} hij p hp q hq g hg => hr.nodup.get hp hq hij hg
theorem Le.drop (m : Nat) : Le B s ⟨s.sl, s.hp.drop m, s.k⟩ := fun a w hr => hr.drop (fun _ _ h => h) (List.drop_sublist m s.hp)
theorem VO.asBox {ops : Array Oper} {rest : List Oper} {i n sz : Nat} {u : Value} {cs : List AV} {ty : TypeId} (hi : s.hp[i]? = some (.row u n sz cs ty)) (hn : 0 < n)
  (h : ∀ g cap, u = .slice (some ⟨g, 0, none⟩) n cap → n ≤ cap → cap ≤ maxLen → VO P B ops rest Q ⟨s.sl, s.hp.set i (.box g ⟨cs, ty, cap * sz⟩), s.k⟩) : VO P B ops rest Q s := fun a w hr => by
 obtain ⟨g, cap, h1, h2, h3, h4⟩ := hr.rowBox hi hn
 exact h g cap h1 h2 h3 a w h4
theorem look_k {l : List (Nat × AV)} {t : Nat} {b want : Bool} (h : look l t = some (.v (.bool b))) (hb : b = want) : look l t = some (.v (.bool want)) := hb ▸ h
theorem SpecH.args {F : FuncId} {xs xs' : List AV} {hp : List Ent} {G : AV → List Ent → Prop} (h : SpecH P F xs hp G) (hl : xs'.length = xs.length) (ha : ∀ (j : Nat) (h1 : j < xs'.length) (h2 : j < xs.length) (w : World) (Z : Nat → Prop) (u : Value), Rep w Z xs'[j] u → Rep w Z xs[j] u) : SpecH P F xs' hp G :=
 fun w A us h1 => h w A us ⟨h1.1.trans hl, fun j hj => ha j (by omega) hj _ _ _ (h1.2 j (by omega))⟩
theorem ArgP.nil {x : Operand} {sz : Nat} {F : Nat → AV} (h : evO s x = some (.v (.slice none 0 0))) : ArgP P B s x (.im 0 sz F) := fun a w hr => by
 rw [hr.evv h]
 exact .nil _ _
end
instance : Sx1 (List (List ByteArray)) := ⟨fun x => avM x⟩
instance : Sx1 (List (List Int)) := ⟨fun x => avM x⟩
end
section
theorem flip_X {p0 cap : Nat} {a0 : Option Addr} {p k : Nat} {L : List Int} {n : Int} (hk : k ≤ 1000000) (hn : n ≤ 1000000000) (hp0 : p0 ≤ p) :
  SpecHX (TXI a0 L p0) Tryz.prog 76 [sp p, avI n] [bxStr p a0 cap L k] (fun y hp' => y = avB (decide (nxt L k n = 0)) ∧ hp' = [bxStr p a0 cap L (k + 1)]) := by
 refine SpecHX.of_VC txi_stab Tryz.func76 rfl Tryz.ntmps76 (Nle rfl) fun w A hB hGX => ?_
 refine VC.sr ?_
 refine VO.mb ?_
 refine VO.nil ?_
 refine VC.sr ?_
 refine VO.mw ?_
 refine VO.mw ?_
 refine VO.op rfl (OpE.callHX (rest := []) txi_stab hGX rfl hB rfl Tryz.call78 rfl rfl (next_X hp0 (by omega) (by omega)) (List.Perm.refl _) (fun _ _ => trivial) ?_)
 rintro _ _ ⟨rfl, rfl⟩
 refine VO.vv (OpV.eql rfl rfl rfl) ?_
 refine VO.mb ?_
 refine VO.nil ?_
 refine VC.ret ?_
 exact Exists.intro _ (And.intro (RetV.one Tryz.results76 (ResV.tmp rfl)) (⟨rfl, rfl⟩))
theorem range_X {p0 cap : Nat} {a0 : Option Addr} {p k : Nat} {L : List Int} {lo hi : Int} (hk : k ≤ 1000000) (h0 : 0 ≤ lo) (hlh : lo ≤ hi) (hn : hi ≤ 999999999) (hp0 : p0 ≤ p) :
  SpecHX (TXI a0 L p0) Tryz.prog 58 [sp p, avI lo, avI hi] [bxStr p a0 cap L k] (fun y hp' => y = avI (rng L k lo hi) ∧ hp' = [bxStr p a0 cap L (k + 1)]) := by
 refine SpecHX.of_VC txi_stab Tryz.func58 rfl Tryz.ntmps58 (Nle rfl) fun w A hB hGX => ?_
 refine VC.sr ?_
 refine VO.mb ?_
 refine VO.nil ?_
 refine VC.seq ?_
 refine VC.sr ?_
 refine VO.mw ?_
 refine VO.mw ?_
 refine VO.vv (OpV.lss rfl rfl rfl) ?_
 refine VO.nil ?_
 refine VC.cond rfl (fun aH1b => ?_) (fun aH1b => ?_)
 ·have aH1 := aH1b
  try simp only [qq] at aH1
  exact VC.absurd (by omega)
 ·have aH1 := aH1b
  try simp only [qq] at aH1
  refine VC.skip ?_
  refine VC.seq ?_
  have b1 := nxt_lo L k (hi - lo + 1)
  have b2 := nxt_lt L k (hi - lo + 1) (by omega)
  refine VC.region ?_
  refine VO.mw ?_
  refine VO.mw ?_
  refine VO.mw ?_
  refine VO.mw ?_
  refine VO.vv (OpV.sub rfl rfl rfl (by unfold fits; omega)) ?_
  refine VO.vv (OpV.add rfl rfl rfl (by unfold fits; omega)) ?_
  refine VO.op rfl (OpE.callHX (rest := []) txi_stab hGX rfl hB rfl Tryz.call78 rfl rfl (next_X hp0 (by omega) (by omega)) (List.Perm.refl _) (fun _ _ => trivial) ?_)
  rintro _ _ ⟨rfl, rfl⟩
  refine VO.vv (OpV.add rfl rfl rfl (by unfold fits; omega)) ?_
  refine VO.mb ?_
  refine VO.nil ?_
  refine VC.ret ?_
  exact Exists.intro _ (And.intro (RetV.one Tryz.results58 (ResV.tmp rfl)) (⟨rfl, rfl⟩))
def someV (L : List Int) (k : Nat) (xs : List ByteArray) : ByteArray := xs.getD (nxt L k xs.length).toNat ByteArray.empty
theorem some_X {p0 cap : Nat} {a0 : Option Addr} {p k : Nat} {L : List Int} {xs : List ByteArray} (hk : k ≤ 1000000) (hx : 0 < xs.length ∧ xs.length ≤ 1000000) (hp0 : p0 ≤ p) :
  SpecHX (TXI a0 L p0) Tryz.prog 79 [sp p, avStrs xs] [bxStr p a0 cap L k] (fun y hp' => y = avS (someV L k xs) ∧ hp' = [bxStr p a0 cap L (k + 1)]) := by
 refine SpecHX.of_VC txi_stab Tryz.func79 rfl Tryz.ntmps79 (Nle rfl) fun w A hB hGX => ?_
 refine VC.sr ?_
 refine VO.mb ?_
 refine VO.nil ?_
 refine VC.sr ?_
 refine VO.mw ?_
 refine VO.mw ?_
 refine VO.mw ?_
 refine VO.vv (OpV.len_im rfl Tryz.underlying82 rfl) ?_
 refine VO.op rfl (OpE.callHX (rest := []) txi_stab hGX rfl hB rfl Tryz.call78 rfl rfl (next_X hp0 (by omega) (by omega)) (List.Perm.refl _) (fun _ _ => trivial) ?_)
 rintro _ _ ⟨rfl, rfl⟩
 have b1 := nxt_lo L k xs.length
 have b2 := nxt_lt L k xs.length (by omega)
 refine VO.vv (OpV.indexAddr_1 rfl Tryz.underlying82 Tryz.sizeOf9 rfl rfl (Int.toNat_of_nonneg (by omega)).symm (by omega)) ?_
 refine VO.vv (OpV.load_at rfl hB OutW.no Tryz.isAgg9 rfl rfl) ?_
 refine VO.mb ?_
 refine VO.nil ?_
 refine VC.ret ?_
 exact Exists.intro _ (And.intro (RetV.one Tryz.results79 (ResV.tmp rfl)) (⟨rfl, rfl⟩))
section
variable {L : List Int} {k n q : Nat}
end
section
variable {L : List Int} {k slots m q j : Nat}
end
end
section
def pickV (L : List Int) (k : Nat) (xs : List Int) : Int := xs.getD (nxt L k xs.length).toNat 0
theorem pick_E {p0 cap : Nat} {a0 : Option Addr} {p k : Nat} {L : List Int} {xs : List Int} (hk : k ≤ 1000000) (hx : 0 < xs.length ∧ xs.length ≤ 1000000) (hp0 : p0 ≤ p) :
  SpecHX (TXI a0 L p0) Tryz.prog 77 [sp p, avInts xs] [bxStr p a0 cap L k] (fun y hp' => y = avI (pickV L k xs) ∧ hp' = [bxStr p a0 cap L (k + 1)]) := by
 refine SpecHX.of_VC txi_stab Tryz.func77 rfl Tryz.ntmps77 (Nle rfl) fun w A hB hGX => ?_
 refine VC.sr ?_
 refine VO.mb ?_
 refine VO.nil ?_
 refine VC.sr ?_
 refine VO.mw ?_
 refine VO.mw ?_
 refine VO.mw ?_
 refine VO.vv (OpV.len_im rfl Tryz.underlying22 rfl) ?_
 refine VO.op rfl (OpE.callHX (rest := []) txi_stab hGX rfl hB rfl Tryz.call78 rfl rfl (next_X hp0 (by omega) (by omega)) (List.Perm.refl _) (fun _ _ => trivial) ?_)
 rintro _ _ ⟨rfl, rfl⟩
 have b1 := nxt_lo L k xs.length
 have b2 := nxt_lt L k xs.length (by omega)
 refine VO.vv (OpV.indexAddr_1 rfl Tryz.underlying22 Tryz.sizeOf3 rfl rfl (Int.toNat_of_nonneg (by omega)).symm (by omega)) ?_
 refine VO.vv (OpV.load_at rfl hB OutW.no Tryz.isAgg3 rfl rfl) ?_
 refine VO.mb ?_
 refine VO.nil ?_
 refine VC.ret ?_
 exact Exists.intro _ (And.intro (RetV.one Tryz.results77 (ResV.tmp rfl)) (⟨rfl, rfl⟩))
theorem someV_of {L : List Int} {k : Nat} {xs : List ByteArray} {P : ByteArray → Prop} (h : ∀ x ∈ xs, P x) (hx : 0 < xs.length) : P (someV L k xs) := by
 have b1 := nxt_lo L k xs.length
 have b2 := nxt_lt L k xs.length (by omega)
 unfold someV
 rw [List.getD_eq_getElem?_getD, List.getElem?_eq_getElem (by omega)]
 exact h _ (List.getElem_mem _)
theorem blkStr {p cap k b : Nat} {a : Option Addr} {L : List Int} (h : BlkL [bxStr p a cap L k] b) : b = p := by
 obtain ⟨e, he, hb⟩ := h
 have he' := List.mem_singleton.1 he
 subst he'
 have : some p = some b := hb
 injection this with this
 exact this.symm
theorem Wi.notSS {ops : Array Oper} {i g : Nat} {X Z : Nat → Prop} {S S2 : List Nat} (h1 : (S.all fun a => depB ops a i) = true ∨ ¬ X g) (h3 : ¬ Z g) : ¬ Wi (fun j b => (j ∈ S ∧ X b) ∨ (j ∈ S2 ∧ Z b)) ops i g := fun ⟨j, k1, k2⟩ => by
 rcases k2 with ⟨hj, k2⟩ | ⟨_, k2⟩
 ·exact h1.elim (fun h => by rw [List.all_eq_true.1 h j hj] at k1; cases k1) fun h => h k2
 ·exact h3 k2
theorem Wi.notS3 {ops : Array Oper} {i a1 a2 g : Nat} {X Y Z : Nat → Prop} {S : List Nat} (h1 : depB ops a1 i = true ∨ ¬ X g) (h2 : depB ops a2 i = true ∨ ¬ Y g) (h3 : ¬ Z g) : ¬ Wi (fun j b => (j = a1 ∧ X b) ∨ (j = a2 ∧ Y b) ∨ (j ∈ S ∧ Z b)) ops i g := fun ⟨j, k1, k2⟩ => by
 rcases k2 with ⟨rfl, k2⟩ | ⟨rfl, k2⟩ | ⟨_, k2⟩
 ·exact h1.elim (fun h => by rw [h] at k1; cases k1) fun h => h k2
 ·exact h2.elim (fun h => by rw [h] at k1; cases k1) fun h => h k2
 ·exact h3 k2
end
section
def hasK (m : Mach) (v : ByteArray) : Bool := m.can.any fun x => sEq v x
def planE (ms : List Mach) (ns : List NeedS) (plan : List Int) (i : Nat) : Int :=
 if plan.getD i 0 < 0 ∨ (ms.length : Int) ≤ plan.getD i 0 then 8
 else if hasK (ms.getD (plan.getD i 0).toNat default) (ns.getD i default).key = false then 4 else 0
def cnt (plan : List Int) (k : Nat) : Nat → Int
 | 0 => 0
 | r + 1 => cnt plan k r + if plan.getD r 0 = (k : Int) then 1 else 0
theorem cnt_le (plan : List Int) (k : Nat) : ∀ r, 0 ≤ cnt plan k r ∧ cnt plan k r ≤ r
 | 0 => ⟨Int.le_refl _, Int.le_refl _⟩
 | r + 1 => by
  have := cnt_le plan k r
  rw [cnt]
  split <;> omega
theorem cnt_mono (plan : List Int) (k : Nat) {r : Nat} : ∀ {t : Nat}, r ≤ t → cnt plan k r ≤ cnt plan k t
 | 0, h => by rw [show r = 0 by omega]; exact Int.le_refl _
 | t + 1, h => by
  by_cases e : r = t + 1
  ·rw [e]; exact Int.le_refl _
  ·have := cnt_mono plan k (t := t) (r := r) (by omega)
   rw [cnt]
   split <;> omega
def overE (ms : List Mach) (plan : List Int) (k : Nat) : Int := if (ms.getD k default).feeders < cnt plan k plan.length then 12 else 0
def planF (ms : List Mach) (ns : List NeedS) (plan : List Int) : Int :=
 if plan.length ≠ ns.length then 3
 else if firstE (planE ms ns plan) plan.length ≠ 0 then firstE (planE ms ns plan) plan.length
 else firstE (overE ms plan) ms.length
theorem planF_3 {ms : List Mach} {ns : List NeedS} {plan : List Int} (h : plan.length ≠ ns.length) : planF ms ns plan = 3 := by rw [planF, if_pos h]
theorem planF_at {ms : List Mach} {ns : List NeedS} {plan : List Int} {q : Nat} {e : Int} (h : plan.length = ns.length) (hq : q < plan.length) (hn : ∀ j, j < q → planE ms ns plan j = 0) (he : planE ms ns plan q = e) (h0 : e ≠ 0) : planF ms ns plan = e := by
 have := firstE_found hn (by rw [he]; exact h0) hq
 rw [planF, if_neg (by omega), this, he, if_pos h0]
theorem planF_12 {ms : List Mach} {ns : List NeedS} {plan : List Int} (h : plan.length = ns.length) (hn : ∀ j, j < plan.length → planE ms ns plan j = 0) {k : Nat} (hk : k < ms.length) (ho : (ms.getD k default).feeders < cnt plan k plan.length) : planF ms ns plan = 12 := by
 rw [planF, if_neg (by omega), firstE_none hn, if_neg (by decide)]
 cases hz : firstE (overE ms plan) ms.length with
 | ofNat z =>
  by_cases h0 : firstE (overE ms plan) ms.length = 0
  ·have := firstE_zero h0 k hk
   rw [overE, if_pos ho] at this; cases this
  ·have : ∀ n, firstE (overE ms plan) n = 0 ∨ firstE (overE ms plan) n = 12 := by
    intro n
    induction n with
    | zero => exact .inl rfl
    | succ n ih =>
     rw [firstE]
     split
     ·rw [overE]; split
      ·exact .inr rfl
      ·exact .inl rfl
     ·exact ih
   rcases this ms.length with h1 | h1
   ·exact absurd h1 h0
   ·rw [← hz, h1]
 | negSucc z =>
  have : ∀ n, 0 ≤ firstE (overE ms plan) n := by
   intro n
   induction n with
   | zero => exact Int.le_refl _
   | succ n ih =>
    rw [firstE]
    split
    ·rw [overE]; split <;> decide
    ·exact ih
  have := this ms.length
  omega
theorem planF_0 {ms : List Mach} {ns : List NeedS} {plan : List Int} (h : plan.length = ns.length) (hn : ∀ j, j < plan.length → planE ms ns plan j = 0) (ho : ∀ k, k < ms.length → cnt plan k plan.length ≤ (ms.getD k default).feeders) : planF ms ns plan = 0 := by
 rw [planF, if_neg (by omega), firstE_none hn, if_neg (by decide)]
 refine firstE_none fun k hk => ?_
 rw [overE, if_neg (by have := ho k hk; omega)]
theorem planE_ok {ms : List Mach} {ns : List NeedS} {plan : List Int} {i : Nat} (h : planE ms ns plan i = 0) : ∃ k : Nat, plan.getD i 0 = (k : Int) ∧ k < ms.length := by
 rw [planE] at h
 split at h
 ·cases h
 ·exact ⟨(plan.getD i 0).toNat, by omega, by omega⟩
theorem planE_8 {ms : List Mach} {ns : List NeedS} {plan : List Int} {i : Nat} (h : plan.getD i 0 < 0 ∨ (ms.length : Int) ≤ plan.getD i 0) : planE ms ns plan i = 8 := by rw [planE, if_pos h]
theorem planE_4 {ms : List Mach} {ns : List NeedS} {plan : List Int} {i : Nat} (h : ¬ (plan.getD i 0 < 0 ∨ (ms.length : Int) ≤ plan.getD i 0)) (h2 : hasK (ms.getD (plan.getD i 0).toNat default) (ns.getD i default).key = false) : planE ms ns plan i = 4 := by rw [planE, if_neg h, if_pos h2]
theorem planE_0 {ms : List Mach} {ns : List NeedS} {plan : List Int} {i : Nat} (h : ¬ (plan.getD i 0 < 0 ∨ (ms.length : Int) ≤ plan.getD i 0)) (h2 : hasK (ms.getD (plan.getD i 0).toNat default) (ns.getD i default).key = true) : planE ms ns plan i = 0 := by rw [planE, if_neg h, if_neg (by rw [h2]; simp)]
theorem machF_len {ms : List Mach} (h : machF ms = 0) : 0 < ms.length ∧ ms.length ≤ 6 := by
 rw [machF] at h
 split at h
 ·cases h
 ·split at h
  ·cases h
  ·omega
theorem machF_each {ms : List Mach} (h : machF ms = 0) {i : Nat} (hi : i < ms.length) : ((0 ≤ (ms.getD i default).each ∧ (ms.getD i default).each ≤ 10000000) ∧ (0 ≤ (ms.getD i default).fixed ∧ (ms.getD i default).fixed ≤ 10000000) ∧ (0 ≤ (ms.getD i default).feeders ∧ (ms.getD i default).feeders ≤ 100)) ∧ canF (ms.getD i default).can = 0 := by
 obtain ⟨l1, l2⟩ := machF_len h
 rw [machF, if_neg (by omega), if_neg (by omega)] at h
 have := firstE_zero h i hi
 rw [machE] at this
 split at this
 ·cases this
 ·split at this
  ·cases this
  ·split at this
   ·cases this
   ·rename_i h1 h2 h3
    refine ⟨?_, this⟩
    have h3' := Bool.eq_false_iff.2 h3
    rw [Bool.or_eq_false_iff, Bool.or_eq_false_iff] at h3'
    simp only [outR, Bool.or_eq_false_iff, decide_eq_false_iff_not] at h3'
    omega
def lineF (ms : List Mach) (ns : List NeedS) (plan : List Int) : Int := if faultF ms ns ≠ 0 then faultF ms ns else planF ms ns plan
theorem lineF_0 {ms : List Mach} {ns : List NeedS} {plan : List Int} (h : lineF ms ns plan = 0) : machF ms = 0 ∧ needsF ns 1 1000 = 0 ∧ planF ms ns plan = 0 := by
 rw [lineF] at h
 split at h
 ·rename_i h1; exact absurd h h1
 ·rename_i h1
  have := faultF_0 (ms := ms) (ns := ns) (by omega)
  exact ⟨this.1, this.2, h⟩
structure SmallM (ms : List Mach) : Prop where
 l : ms.length ≤ 1000000000
 k : ∀ i, (ms.getD i default).key.size ≤ 1000000000
 c : ∀ i, (ms.getD i default).can.length ≤ 1000000000
 s : ∀ i j, ((ms.getD i default).can.getD j ByteArray.empty).size ≤ 1000000000
structure SmallN (ns : List NeedS) : Prop where
 l : ns.length ≤ 1000000000
 k : ∀ i, (ns.getD i default).key.size ≤ 1000000000
end
section
def cyc (ms : List Mach) (ns : List NeedS) (plan : List Int) (k : Nat) : Nat → Int
 | 0 => (ms.getD k default).fixed
 | r + 1 => if plan.getD r 0 = (k : Int) then cyc ms ns plan k r + (ms.getD k default).each * (ns.getD r default).count else cyc ms ns plan k r
def cycL (ms : List Mach) (ns : List NeedS) (plan : List Int) : List Int := tabI ms.length (fun k => cyc ms ns plan k plan.length)
theorem cycL_len (ms : List Mach) (ns : List NeedS) (plan : List Int) : (cycL ms ns plan).length = ms.length := tabI_len _ _
theorem needsF_len {ns : List NeedS} {lo hi : Int} (h : needsF ns lo hi = 0) : ns.length ≤ 1000 := by
 rw [needsF] at h
 split at h
 ·cases h
 ·omega
theorem needsF_count {ns : List NeedS} {lo hi : Int} (h : needsF ns lo hi = 0) {i : Nat} (hi' : i < ns.length) : lo ≤ (ns.getD i default).count ∧ (ns.getD i default).count ≤ hi := by
 have hl := needsF_len h
 rw [needsF, if_neg (by omega)] at h
 have := firstE_zero h i hi'
 rw [needE] at this
 split at this
 ·cases this
 ·split at this
  ·cases this
  ·split at this
   ·cases this
   ·rename_i h3
    have h3' := Bool.eq_false_iff.2 h3
    simp only [outR, Bool.or_eq_false_iff, decide_eq_false_iff_not] at h3'
    omega
theorem mul_in {a b : Int} (h1 : 0 ≤ a ∧ a ≤ 10000000) (h2 : 1 ≤ b ∧ b ≤ 1000) : 0 ≤ a * b ∧ a * b ≤ 10000000000 := by
 refine ⟨Int.mul_nonneg h1.1 (by omega), ?_⟩
 have h3 : a * b ≤ 10000000 * b := Int.mul_le_mul_of_nonneg_right h1.2 (by omega)
 omega
section
variable {ms : List Mach} {ns : List NeedS} {plan : List Int}
theorem cyc_in (hm : machF ms = 0) (hn : needsF ns 1 1000 = 0) {k : Nat} (hk : k < ms.length) : ∀ {r : Nat}, r ≤ ns.length → 0 ≤ cyc ms ns plan k r ∧ cyc ms ns plan k r ≤ 10000000 + 10000000000 * r
 | 0, _ => by have := (machF_each hm hk).1; rw [cyc]; omega
 | r + 1, hr => by
  have ih := cyc_in hm hn hk (r := r) (by omega)
  have hp := mul_in (machF_each hm hk).1.1 (needsF_count hn (i := r) (by omega))
  rw [cyc]
  split <;> omega
theorem planF_zero (h : planF ms ns plan = 0) : plan.length = ns.length ∧ ∀ j, j < plan.length → planE ms ns plan j = 0 := by
 rw [planF] at h
 split at h
 ·cases h
 ·split at h
  ·rename_i h2; exact absurd h h2
  ·rename_i h1 h2
   exact ⟨by omega, firstE_zero (by omega)⟩
end
theorem if_step {j q : Nat} {a b : Int} (h : j ≠ q) : (if j < q then a else b) = (if j < q + 1 then a else b) := by
 by_cases hj : j < q
 ·rw [if_pos hj, if_pos (by omega)]
 ·rw [if_neg hj, if_neg (by omega)]
end
section
theorem line_canFault {l : List ByteArray} (hl : l.length ≤ 1000000000) (hb : ∀ i, (l.getD i ByteArray.empty).size ≤ 1000000000) :
  SpecN Tryz.prog 239 [avStrs l] (fun y => y = avI (canF l)) := by
 refine SpecN.of_VCN Tryz.func239 rfl Tryz.ntmps239 (Nle rfl) fun w A hB => ?_
 refine VC.sr ?_
 refine VO.mb ?_
 refine VO.nil ?_
 refine VC.seq ?_
 refine VC.sr ?_
 refine VO.mw ?_
 refine VO.vv (OpV.len_im rfl Tryz.underlying82 rfl) ?_
 refine VO.vv (OpV.gtr rfl rfl rfl) ?_
 refine VO.nil ?_
 refine VC.cond rfl (fun aH1b => ?_) (fun aH1b => ?_)
 ·have aH1 := aH1b
  try simp only [qq] at aH1
  refine VC.sr ?_
  refine VO.mb ?_
  refine VO.nil ?_
  refine VC.ret ?_
  exact Exists.intro _ (And.intro (RetN.one Tryz.results239 (ResN.v rfl)) (by rw [canF_big (by omega)]))
 ·have aH1 := aH1b
  try simp only [qq] at aH1
  refine VC.skip ?_
  refine VC.seq ?_
  refine VC.sr ?_
  refine VO.mw ?_
  refine VO.vv (OpV.len_im rfl Tryz.underlying82 rfl) ?_
  refine VO.mw ?_
  refine VO.nil ?_
  refine VC.block ?_
  refine VC.loopK [] trivial ({q : Nat // q ≤ l.length ∧ ∀ j, j < q → canE l j = 0}) (fun (iZ : {q : Nat // q ≤ l.length ∧ ∀ j, j < q → canE l j = 0}) => match iZ with | ⟨q, hq, hn⟩ => [(0, avStrs l), (8, avStrs l), (9, avI l.length), (10, avI (q : Int))]) (fun (iZ : {q : Nat // q ≤ l.length ∧ ∀ j, j < q → canE l j = 0}) => match iZ with | ⟨q, hq, hn⟩ => []) (fun (iZ : {q : Nat // q ≤ l.length ∧ ∀ j, j < q → canE l j = 0}) => match iZ with | ⟨q, hq, hn⟩ => 0) (fun (iZ : {q : Nat // q ≤ l.length ∧ ∀ j, j < q → canE l j = 0}) => match iZ with | ⟨q, hq, hn⟩ => l.length - q) ⟨0, Nat.zero_le _, fun j hj => absurd hj (Nat.not_lt_zero j)⟩ (Le.mk hB [] ⟨rfl, rfl, rfl, rfl, trivial⟩ rfl rfl (Nat.le_refl _)) ?_
  rintro ⟨q, hq, hn⟩
  show VC _ _ _ _ ⟨[(0, avStrs l), (8, avStrs l), (9, avI l.length), (10, avI (q : Int))] ++ [], [], 0⟩
  refine VC.sr ?_
  refine VO.vv (OpV.lss rfl rfl rfl) ?_
  refine VO.nil ?_
  refine VC.seq ?_
  refine VC.cond rfl (fun hib => ?_) (fun hib => ?_)
  ·have hi := hib
   try simp only [qq] at hi
   refine VC.skip ?_
   refine VC.seq ?_
   refine VC.block ?_
   refine VC.sr ?_
   refine VO.mw ?_
   refine VO.vv (OpV.indexAddr_1 rfl Tryz.underlying82 Tryz.sizeOf9 rfl rfl rfl (by omega)) ?_
   refine VO.vv (OpV.load_at rfl hB OutW.no Tryz.isAgg9 rfl rfl) ?_
   refine VO.mb ?_
   refine VO.mb ?_
   refine VO.nil ?_
   refine VC.seq ?_
   refine VC.sr ?_
   refine VO.mw ?_
   refine VO.op rfl (OpE.call rfl hB rfl Tryz.call230 rfl (SpecN.spec (kit_IsKey (hb _))) ?_)
   rintro _ rfl
   refine VO.vv (OpV.not rfl rfl) ?_
   refine VO.nil ?_
   refine VC.cond rfl (fun hkb => ?_) (fun hkb => ?_)
   ·have hk := hkb
    try simp only [qq] at hk
    refine VC.sr ?_
    refine VO.mb ?_
    refine VO.nil ?_
    refine VC.ret ?_
    exact Exists.intro _ (And.intro (RetN.one Tryz.results239 (ResN.v rfl)) (by rw [canF_at (by omega) (by omega) hn (by rw [canE_5 hk]; decide), canE_5 hk]))
   ·have hk := hkb
    try simp only [qq] at hk
    refine VC.skip ?_
    refine VC.sr ?_
    refine VO.mw ?_
    refine VO.vv (OpV.gtr rfl rfl rfl) ?_
    refine VO.mw ?_
    refine VO.opG rfl rfl rfl rfl (fun aK2b => ?_) (fun aK2b => ?_)
    ·replace aK2b : _ = true := aK2b
     have aK2 := aK2b
     try simp only [qq] at aK2
     refine OpE.val (W := NoB) (OpV.move (.inl rfl) rfl) rfl ?_
     refine VO.opY rfl rfl rfl rfl aK2b ?_
     refine OpE.val (W := NoB) (OpV.move (.inl rfl) rfl) rfl ?_
     refine VO.opY rfl rfl rfl rfl aK2b ?_
     refine OpE.val (W := NoB) (OpV.move (.inl rfl) rfl) rfl ?_
     refine VO.opY rfl rfl rfl rfl aK2b ?_
     refine OpE.val (W := NoB) (OpV.sub rfl rfl rfl (by unfold fits; omega)) rfl ?_
     refine VO.opY rfl rfl rfl rfl aK2b ?_
     refine OpE.val (W := NoB) (OpV.indexAddr_1 rfl Tryz.underlying82 Tryz.sizeOf9 rfl rfl (show ((q : Int) - 1) = ((q - 1 : Nat) : Int) by omega) (by omega)) rfl ?_
     refine VO.opY rfl rfl rfl rfl aK2b ?_
     refine OpE.val (W := NoB) (OpV.load_at rfl hB OutW.no Tryz.isAgg9 rfl rfl) rfl ?_
     refine VO.opY rfl rfl rfl rfl aK2b ?_
     refine OpE.val (W := NoB) (OpV.sleq rfl rfl rfl) rfl ?_
     refine VO.vv (OpV.pickT rfl rfl rfl rfl aK2b) ?_
     refine VO.nil ?_
     refine VC.cond rfl (fun hsb => ?_) (fun hsb => ?_)
     ·have hs := hsb
      try simp only [qq] at hs
      refine VC.sr ?_
      refine VO.mb ?_
      refine VO.nil ?_
      refine VC.ret ?_
      exact Exists.intro _ (And.intro (RetN.one Tryz.results239 (ResN.v rfl)) (by rw [canF_at (by omega) (by omega) hn (by rw [canE_7 hk (by omega) hs]; decide), canE_7 hk (by omega) hs]))
     ·have hs := hsb
      try simp only [qq] at hs
      refine VC.skip ?_
      refine VC.region ?_
      refine VO.vv (OpV.add rfl rfl rfl (by unfold fits; omega)) ?_
      refine VO.mw ?_
      refine VO.nil ?_
      exact Exists.intro (⟨q + 1, by omega, lt_succ_cases hn (canE_0 hk (.inr hs))⟩) (And.intro (Le.mk hB [] ⟨rfl, rfl, rfl, rfl, trivial⟩ rfl rfl (Nat.le_refl _)) (by first | omega | (show _ < _; omega) | (simp only []; omega)))
    ·replace aK2b : _ = false := aK2b
     have aK2 := aK2b
     try simp only [qq] at aK2
     refine VO.opX rfl rfl rfl rfl aK2b ?_
     refine VO.opX rfl rfl rfl rfl aK2b ?_
     refine VO.opX rfl rfl rfl rfl aK2b ?_
     refine VO.opX rfl rfl rfl rfl aK2b ?_
     refine VO.opX rfl rfl rfl rfl aK2b ?_
     refine VO.opX rfl rfl rfl rfl aK2b ?_
     refine VO.vv (OpV.pickF rfl rfl rfl rfl aK2b) ?_
     refine VO.nil ?_
     refine VC.condF rfl rfl ?_
     refine VC.skip ?_
     refine VC.region ?_
     refine VO.vv (OpV.add rfl rfl rfl (by unfold fits; omega)) ?_
     refine VO.mw ?_
     refine VO.nil ?_
     exact Exists.intro (⟨q + 1, by omega, lt_succ_cases hn (canE_0 hk (.inl (by omega)))⟩) (And.intro (Le.mk hB [] ⟨rfl, rfl, rfl, rfl, trivial⟩ rfl rfl (Nat.le_refl _)) (by first | omega | (show _ < _; omega) | (simp only []; omega)))
  ·have hi := hib
   try simp only [qq] at hi
   refine VC.exit ?_
   refine VC.sr ?_
   refine VO.mb ?_
   refine VO.nil ?_
   refine VC.ret ?_
   exact Exists.intro _ (And.intro (RetN.one Tryz.results239 (ResN.v rfl)) (by rw [canF_ok (by omega) (fun j hj => hn j (by omega))]))
theorem line_NeedsFault {l : List NeedS} {lo hi : Int} (hl : l.length ≤ 1000000000) (hb : ∀ i, (l.getD i default).key.size ≤ 1000000000) :
  SpecN Tryz.prog 193 [avL l, avI lo, avI hi] (fun y => y = avI (needsF l lo hi)) := by
 refine SpecN.of_VCN Tryz.func193 rfl Tryz.ntmps193 (Nle rfl) fun w A hB => ?_
 refine VC.sr ?_
 refine VO.mb ?_
 refine VO.nil ?_
 refine VC.seq ?_
 refine VC.sr ?_
 refine VO.mw ?_
 refine VO.vv (OpV.len_im rfl Tryz.underlying68 rfl) ?_
 refine VO.vv (OpV.gtr rfl rfl rfl) ?_
 refine VO.nil ?_
 refine VC.cond rfl (fun aH1b => ?_) (fun aH1b => ?_)
 ·have aH1 := aH1b
  try simp only [qq] at aH1
  refine VC.sr ?_
  refine VO.mb ?_
  refine VO.nil ?_
  refine VC.ret ?_
  exact Exists.intro _ (And.intro (RetN.one Tryz.results193 (ResN.v rfl)) (by rw [needsF_big (by omega)]))
 ·have aH1 := aH1b
  try simp only [qq] at aH1
  refine VC.skip ?_
  refine VC.seq ?_
  refine VC.sr ?_
  refine VO.mw ?_
  refine VO.vv (OpV.len_im rfl Tryz.underlying68 rfl) ?_
  refine VO.mw ?_
  refine VO.nil ?_
  refine VC.block ?_
  refine VC.loopK [] trivial ({q : Nat // q ≤ l.length ∧ ∀ j, j < q → needE l lo hi j = 0}) (fun (iZ : {q : Nat // q ≤ l.length ∧ ∀ j, j < q → needE l lo hi j = 0}) => match iZ with | ⟨q, hq, hn⟩ => [(0, avL l), (1, avI lo), (2, avI hi), (12, avL l), (13, avI l.length), (14, avI (q : Int))]) (fun (iZ : {q : Nat // q ≤ l.length ∧ ∀ j, j < q → needE l lo hi j = 0}) => match iZ with | ⟨q, hq, hn⟩ => []) (fun (iZ : {q : Nat // q ≤ l.length ∧ ∀ j, j < q → needE l lo hi j = 0}) => match iZ with | ⟨q, hq, hn⟩ => 0) (fun (iZ : {q : Nat // q ≤ l.length ∧ ∀ j, j < q → needE l lo hi j = 0}) => match iZ with | ⟨q, hq, hn⟩ => l.length - q) ⟨0, Nat.zero_le _, fun j hj => absurd hj (Nat.not_lt_zero j)⟩ (Le.mk hB [] ⟨rfl, rfl, rfl, rfl, rfl, rfl, trivial⟩ rfl rfl (Nat.le_refl _)) ?_
  rintro ⟨q, hq, hn⟩
  show VC _ _ _ _ ⟨[(0, avL l), (1, avI lo), (2, avI hi), (12, avL l), (13, avI l.length), (14, avI (q : Int))] ++ [], [], 0⟩
  refine VC.sr ?_
  refine VO.vv (OpV.lss rfl rfl rfl) ?_
  refine VO.nil ?_
  refine VC.seq ?_
  refine VC.cond rfl (fun aH2b => ?_) (fun aH2b => ?_)
  ·have aH2 := aH2b
   try simp only [qq] at aH2
   refine VC.skip ?_
   refine VC.seq ?_
   refine VC.block ?_
   refine VC.sr ?_
   refine VO.mw ?_
   refine VO.vv (OpV.indexAddr_E rfl Tryz.underlying68 Tryz.sizeOf90 rfl rfl rfl (by omega)) ?_
   refine VO.vv (OpV.loadK_at rfl hB OutW.no Tryz.isAgg90 Tryz.sizeOf90 rfl rfl) ?_
   refine VO.op rfl (OpE.alloc rfl hB rfl Tryz.zeroValue90 rfl ?_)
   intro g8
   refine VO.mb ?_
   refine VO.op rfl (OpE.store (i := 0) rfl hB rfl Tryz.sizeOf90 rfl rfl rfl rfl rfl rfl (Nle rfl) trivial ?_)
   refine VO.nil ?_
   refine VC.block ?_
   refine VC.sr ?_
   refine VO.vv (OpV.fieldAddrO 0 rfl Tryz.underlying90 rfl rfl Tryz.sizeOf9 rfl) ?_
   refine VO.vv (OpV.load_own (i := 0) rfl hB Tryz.isAgg9 rfl rfl rfl (fun h => h)) ?_
   refine VO.op rfl (OpE.call rfl hB rfl Tryz.call230 rfl (SpecN.spec (kit_IsKey (hb _))) ?_)
   rintro _ rfl
   refine VO.vv (OpV.not rfl rfl) ?_
   refine VO.mb ?_
   refine VO.nil ?_
   refine VC.cond rfl (fun hkb => ?_) (fun hkb => ?_)
   ·have hk := hkb
    try simp only [qq] at hk
    refine VC.sr ?_
    refine VO.mb ?_
    refine VO.nil ?_
    refine VC.ret ?_
    exact Exists.intro _ (And.intro (RetN.one Tryz.results193 (ResN.v rfl)) (by rw [needsF_at (by omega) (by omega) hn (needE_5 hk) (by decide)]))
   ·have hk := hkb
    try simp only [qq] at hk
    refine VC.seq ?_
    refine VC.draw (fun _ => NoB) hB (by kernel_rfl) ?_
    refine VA.tk (i := 0) rfl (OpV.move (.inl rfl) rfl) ?_
    refine VA.tk (i := 1) rfl (OpV.gtr rfl rfl rfl) ?_
    refine VA.tk (i := 2) rfl (OpV.move (.inl rfl) rfl) ?_
    refine VA.split (t := 27) rfl (fun aK3b => ?_) (fun aK3b => ?_)
    ·have aK3 := aK3b
     try simp only [qq] at aK3
     refine VA.takeY (i := 3) rfl (by kernel_rfl) (by kernel_rfl) (by kernel_rfl) rfl rfl rfl rfl aK3b (OpV.fieldAddrO 0 rfl Tryz.underlying90 rfl rfl Tryz.sizeOf9 rfl) ?_
     refine VA.takeY (i := 4) rfl (by kernel_rfl) (by kernel_rfl) (by kernel_rfl) rfl rfl rfl rfl aK3b (OpV.load_own (i := 0) rfl hB Tryz.isAgg9 rfl rfl rfl Wi.not0) ?_
     refine VA.takeY (i := 5) rfl (by kernel_rfl) (by kernel_rfl) (by kernel_rfl) rfl rfl rfl rfl aK3b (OpV.move (.inl rfl) rfl) ?_
     refine VA.takeY (i := 6) rfl (by kernel_rfl) (by kernel_rfl) (by kernel_rfl) rfl rfl rfl rfl aK3b (OpV.move (.inl rfl) rfl) ?_
     refine VA.takeY (i := 7) rfl (by kernel_rfl) (by kernel_rfl) (by kernel_rfl) rfl rfl rfl rfl aK3b (OpV.sub rfl rfl rfl (by unfold fits; omega)) ?_
     refine VA.takeY (i := 8) rfl (by kernel_rfl) (by kernel_rfl) (by kernel_rfl) rfl rfl rfl rfl aK3b (OpV.indexAddr_E rfl Tryz.underlying68 Tryz.sizeOf90 rfl rfl (show ((q : Int) - 1) = ((q - 1 : Nat) : Int) by omega) (by omega)) ?_
     refine VA.takeY (i := 9) rfl (by kernel_rfl) (by kernel_rfl) (by kernel_rfl) rfl rfl rfl rfl aK3b (OpV.fieldAddr_atO 0 rfl Tryz.underlying90 rfl rfl Tryz.sizeOf9 rfl rfl) ?_
     refine VA.takeY (i := 10) rfl (by kernel_rfl) (by kernel_rfl) (by kernel_rfl) rfl rfl rfl rfl aK3b (OpV.load_at rfl hB OutW.wi0 Tryz.isAgg9 rfl rfl) ?_
     refine VA.takeY (i := 11) rfl (by kernel_rfl) (by kernel_rfl) (by kernel_rfl) rfl rfl rfl rfl aK3b (OpV.sleq rfl rfl rfl) ?_
     refine VA.tk (i := 12) rfl (OpV.pickT rfl rfl rfl rfl aK3b) ?_
     refine VA.tk (i := 13) rfl (OpV.move (.inr rfl) rfl) ?_
     refine VA.done (by kernel_rfl) ?_
     refine VC.cond rfl (fun hsb => ?_) (fun hsb => ?_)
     ·have hs := hsb
      try simp only [qq] at hs
      refine VC.sr ?_
      refine VO.mb ?_
      refine VO.nil ?_
      refine VC.ret ?_
      exact Exists.intro _ (And.intro (RetN.one Tryz.results193 (ResN.v rfl)) (by rw [needsF_at (by omega) (by omega) hn (needE_7 hk (by omega) hs) (by decide)]))
     ·have hs := hsb
      try simp only [qq] at hs
      refine VC.sr ?_
      refine VO.vv (OpV.fieldAddrO 1 rfl Tryz.underlying90 rfl rfl Tryz.sizeOf3 rfl) ?_
      refine VO.vv (OpV.load_own (i := 0) rfl hB Tryz.isAgg3 rfl rfl rfl (fun h => h)) ?_
      refine VO.mw ?_
      refine VO.mw ?_
      refine VO.op rfl (OpE.call rfl hB rfl Tryz.call161 rfl (SpecN.spec (kit_Outside)) ?_)
      rintro _ rfl
      refine VO.mb ?_
      refine VO.nil ?_
      refine VC.cond rfl (fun hob => ?_) (fun hob => ?_)
      ·have ho := hob
       try simp only [qq] at ho
       refine VC.sr ?_
       refine VO.mb ?_
       refine VO.nil ?_
       refine VC.ret ?_
       exact Exists.intro _ (And.intro (RetN.one Tryz.results193 (ResN.v rfl)) (by first | rw [needsF_at (by omega) (by omega) hn (needE_1 hk (.inr hs) ho) (by decide)] | rw [needsF_at (by omega) (by omega) hn (needE_1 hk (.inl (by omega)) ho) (by decide)]))
      ·have ho := hob
       try simp only [qq] at ho
       refine VC.skip ?_
       refine VC.region ?_
       refine VO.vv (OpV.add rfl rfl rfl (by unfold fits; omega)) ?_
       refine VO.mw ?_
       refine VO.nil ?_
       exact Exists.intro (⟨q + 1, by omega, lt_succ_cases hn (needE_0 hk (.inr hs) ho)⟩) (And.intro (Le.mk hB [] ⟨rfl, rfl, rfl, rfl, rfl, rfl, trivial⟩ rfl rfl (Nat.le_refl _)) (by first | omega | (show _ < _; omega) | (simp only []; omega)))
    ·have aK3 := aK3b
     try simp only [qq] at aK3
     refine VA.takeX (i := 3) rfl (by kernel_rfl) (by kernel_rfl) (by kernel_rfl) rfl rfl rfl rfl aK3b ?_
     refine VA.takeX (i := 4) rfl (by kernel_rfl) (by kernel_rfl) (by kernel_rfl) rfl rfl rfl rfl aK3b ?_
     refine VA.takeX (i := 5) rfl (by kernel_rfl) (by kernel_rfl) (by kernel_rfl) rfl rfl rfl rfl aK3b ?_
     refine VA.takeX (i := 6) rfl (by kernel_rfl) (by kernel_rfl) (by kernel_rfl) rfl rfl rfl rfl aK3b ?_
     refine VA.takeX (i := 7) rfl (by kernel_rfl) (by kernel_rfl) (by kernel_rfl) rfl rfl rfl rfl aK3b ?_
     refine VA.takeX (i := 8) rfl (by kernel_rfl) (by kernel_rfl) (by kernel_rfl) rfl rfl rfl rfl aK3b ?_
     refine VA.takeX (i := 9) rfl (by kernel_rfl) (by kernel_rfl) (by kernel_rfl) rfl rfl rfl rfl aK3b ?_
     refine VA.takeX (i := 10) rfl (by kernel_rfl) (by kernel_rfl) (by kernel_rfl) rfl rfl rfl rfl aK3b ?_
     refine VA.takeX (i := 11) rfl (by kernel_rfl) (by kernel_rfl) (by kernel_rfl) rfl rfl rfl rfl aK3b ?_
     refine VA.tk (i := 12) rfl (OpV.pickF rfl rfl rfl rfl aK3b) ?_
     refine VA.tk (i := 13) rfl (OpV.move (.inr rfl) rfl) ?_
     refine VA.done (by kernel_rfl) ?_
     refine VC.condF rfl rfl ?_
     refine VC.sr ?_
     refine VO.vv (OpV.fieldAddrO 1 rfl Tryz.underlying90 rfl rfl Tryz.sizeOf3 rfl) ?_
     refine VO.vv (OpV.load_own (i := 0) rfl hB Tryz.isAgg3 rfl rfl rfl (fun h => h)) ?_
     refine VO.mw ?_
     refine VO.mw ?_
     refine VO.op rfl (OpE.call rfl hB rfl Tryz.call161 rfl (SpecN.spec (kit_Outside)) ?_)
     rintro _ rfl
     refine VO.mb ?_
     refine VO.nil ?_
     refine VC.cond rfl (fun hob => ?_) (fun hob => ?_)
     ·have ho := hob
      try simp only [qq] at ho
      refine VC.sr ?_
      refine VO.mb ?_
      refine VO.nil ?_
      refine VC.ret ?_
      exact Exists.intro _ (And.intro (RetN.one Tryz.results193 (ResN.v rfl)) (by first | rw [needsF_at (by omega) (by omega) hn (needE_1 hk (.inr hs) ho) (by decide)] | rw [needsF_at (by omega) (by omega) hn (needE_1 hk (.inl (by omega)) ho) (by decide)]))
     ·have ho := hob
      try simp only [qq] at ho
      refine VC.skip ?_
      refine VC.region ?_
      refine VO.vv (OpV.add rfl rfl rfl (by unfold fits; omega)) ?_
      refine VO.mw ?_
      refine VO.nil ?_
      exact Exists.intro (⟨q + 1, by omega, lt_succ_cases hn (needE_0 hk (.inl (by omega)) ho)⟩) (And.intro (Le.mk hB [] ⟨rfl, rfl, rfl, rfl, rfl, rfl, trivial⟩ rfl rfl (Nat.le_refl _)) (by first | omega | (show _ < _; omega) | (simp only []; omega)))
  ·have aH2 := aH2b
   try simp only [qq] at aH2
   refine VC.exit ?_
   refine VC.sr ?_
   refine VO.mb ?_
   refine VO.nil ?_
   refine VC.ret ?_
   exact Exists.intro _ (And.intro (RetN.one Tryz.results193 (ResN.v rfl)) (by rw [needsF_ok (by omega) (fun j hj => hn j (by omega))]))
theorem line_CheckNeeds {l : List NeedS} (hl : l.length ≤ 1000000000) (hb : ∀ i, (l.getD i default).key.size ≤ 1000000000) :
  SpecN Tryz.prog 173 [avL l] (fun y => y = avI (needsF l 1 1000)) := by
 refine SpecN.of_VCN Tryz.func173 rfl Tryz.ntmps173 (Nle rfl) fun w A hB => ?_
 refine VC.sr ?_
 refine VO.mb ?_
 refine VO.nil ?_
 refine VC.sr ?_
 refine VO.mw ?_
 refine VO.op rfl (OpE.call rfl hB rfl Tryz.call193 rfl (SpecN.spec (line_NeedsFault hl hb)) ?_)
 rintro _ rfl
 refine VO.mb ?_
 refine VO.nil ?_
 refine VC.ret ?_
 exact Exists.intro _ (And.intro (RetN.one Tryz.results173 (ResN.v rfl)) (rfl))
theorem slices_IndexFunc_mach {xs : List Mach} {F : FuncId} {cs : List AV} {p : Mach → Bool} (hl : xs.length ≤ 1000000000) (hcall : ∀ us w, (callFunc F us).run Tryz.prog w = .ok (.enter F us) w) (hF : ∀ x, Spec Tryz.prog F ([avT x] ++ cs) (fun y => y = avB (p x))) :
  SpecN Tryz.prog 315 [avL xs, .fn F cs] (fun y => y = avI (fidx p xs)) := by
 refine SpecN.of_VCN Tryz.func315 rfl Tryz.ntmps315 (Nle rfl) fun w A hB => ?_
 refine VC.sr ?_
 refine VO.mb ?_
 refine VO.nil ?_
 refine VC.seq ?_
 refine VC.sr ?_
 refine VO.mw ?_
 refine VO.vv (OpV.len_im rfl Tryz.underlying66 rfl) ?_
 refine VO.mw ?_
 refine VO.nil ?_
 refine VC.block ?_
 refine VC.loopK [] trivial ({q : Nat // q ≤ xs.length ∧ ∀ j, j < q → p (xs.getD j default) = false}) (fun (iZ : {q : Nat // q ≤ xs.length ∧ ∀ j, j < q → p (xs.getD j default) = false}) => match iZ with | ⟨q, hq, hn⟩ => [(0, avL xs), (1, .fn F cs), (6, avL xs), (7, avI xs.length), (8, avI (q : Int))]) (fun (iZ : {q : Nat // q ≤ xs.length ∧ ∀ j, j < q → p (xs.getD j default) = false}) => match iZ with | ⟨q, hq, hn⟩ => []) (fun (iZ : {q : Nat // q ≤ xs.length ∧ ∀ j, j < q → p (xs.getD j default) = false}) => match iZ with | ⟨q, hq, hn⟩ => 0) (fun (iZ : {q : Nat // q ≤ xs.length ∧ ∀ j, j < q → p (xs.getD j default) = false}) => match iZ with | ⟨q, hq, hn⟩ => xs.length - q) ⟨0, Nat.zero_le _, fun j hj => absurd hj (Nat.not_lt_zero j)⟩ (Le.mk hB [] ⟨rfl, rfl, rfl, rfl, rfl, trivial⟩ rfl rfl (Nat.le_refl _)) ?_
 rintro ⟨q, hq, hn⟩
 show VC _ _ _ _ ⟨[(0, avL xs), (1, .fn F cs), (6, avL xs), (7, avI xs.length), (8, avI (q : Int))] ++ [], [], 0⟩
 refine VC.sr ?_
 refine VO.vv (OpV.lss rfl rfl rfl) ?_
 refine VO.nil ?_
 refine VC.seq ?_
 refine VC.cond rfl (fun aH1b => ?_) (fun aH1b => ?_)
 ·have aH1 := aH1b
  try simp only [qq] at aH1
  refine VC.skip ?_
  refine VC.seq ?_
  refine VC.block ?_
  refine VC.sr ?_
  refine VO.mw ?_
  refine VO.mb ?_
  refine VO.nil ?_
  refine VC.sr ?_
  refine VO.mw ?_
  refine VO.mw ?_
  refine VO.mw ?_
  refine VO.vv (OpV.indexAddr_E rfl Tryz.underlying66 Tryz.sizeOf84 rfl rfl rfl (by omega)) ?_
  refine VO.vv (OpV.loadK_at rfl hB OutW.no Tryz.isAgg84 Tryz.sizeOf84 rfl rfl) ?_
  refine VO.op rfl (OpE.callF rfl hB rfl hcall rfl rfl (hF _) ?_)
  rintro _ rfl
  refine VO.nil ?_
  refine VC.cond rfl (fun aH2b => ?_) (fun aH2b => ?_)
  ·have aH2 := aH2b
   try simp only [qq] at aH2
   refine VC.sr ?_
   refine VO.mw ?_
   refine VO.mb ?_
   refine VO.nil ?_
   refine VC.ret ?_
   exact Exists.intro _ (And.intro (RetN.one Tryz.results315 (ResN.v rfl)) (by first | (rw [fidx_found (d := default) (q := q) (by omega) hn (by assumption)]) | (rw [fidx_none (d := default) (fun j hj => hn j (by omega))])))
  ·have aH2 := aH2b
   try simp only [qq] at aH2
   refine VC.skip ?_
   refine VC.region ?_
   refine VO.vv (OpV.add rfl rfl rfl (by unfold fits; omega)) ?_
   refine VO.mw ?_
   refine VO.nil ?_
   exact Exists.intro (⟨q + 1, by omega, lt_succ_cases hn (by assumption)⟩) (And.intro (Le.mk hB [] ⟨rfl, rfl, rfl, rfl, rfl, trivial⟩ rfl rfl (Nat.le_refl _)) (by first | omega | (show _ < _; omega) | (simp only []; omega)))
 ·have aH1 := aH1b
  try simp only [qq] at aH1
  refine VC.exit ?_
  refine VC.sr ?_
  refine VO.mb ?_
  refine VO.nil ?_
  refine VC.ret ?_
  exact Exists.intro _ (And.intro (RetN.one Tryz.results315 (ResN.v rfl)) (by first | (rw [fidx_found (d := default) (q := q) (by omega) hn (by assumption)]) | (rw [fidx_none (d := default) (fun j hj => hn j (by omega))])))
theorem slices_ContainsFunc_mach {xs : List Mach} {F : FuncId} {cs : List AV} {p : Mach → Bool} (hl : xs.length ≤ 1000000000) (hcall : ∀ us w, (callFunc F us).run Tryz.prog w = .ok (.enter F us) w) (hF : ∀ x, Spec Tryz.prog F ([avT x] ++ cs) (fun y => y = avB (p x))) :
  SpecN Tryz.prog 237 [avL xs, .fn F cs] (fun y => y = avB (xs.any p)) := by
 refine SpecN.of_VCN Tryz.func237 rfl Tryz.ntmps237 (Nle rfl) fun w A hB => ?_
 refine VC.sr ?_
 refine VO.mb ?_
 refine VO.nil ?_
 refine VC.sr ?_
 refine VO.mw ?_
 refine VO.mw ?_
 refine VO.op rfl (OpE.call rfl hB rfl Tryz.call315 rfl (SpecN.spec (slices_IndexFunc_mach hl hcall hF)) ?_)
 rintro _ rfl
 refine VO.vv (OpV.geq rfl rfl rfl) ?_
 refine VO.mb ?_
 refine VO.nil ?_
 refine VC.ret ?_
 exact Exists.intro _ (And.intro (RetN.one Tryz.results237 (ResN.v rfl)) (by rw [← fidx_any]))
theorem line_CheckMachines1 {x o : Mach}  :
  SpecN Tryz.prog 238 [avT o, .at_ 5 (Sxc.cell x)] (fun y => y = avB (sEq o.key x.key)) := by
 refine SpecN.of_VCN Tryz.func238 rfl Tryz.ntmps238 (Nle rfl) fun w A hB => ?_
 refine VC.sr ?_
 refine VO.op rfl (OpE.box rfl hB rfl rfl rfl ?_)
 intro g2
 refine VO.mb ?_
 refine VO.nil ?_
 refine VC.sr ?_
 refine VO.vv (OpV.fieldAddrO 0 rfl Tryz.underlying84 rfl rfl Tryz.sizeOf9 rfl) ?_
 refine VO.vv (OpV.load_own (i := 0) rfl hB Tryz.isAgg9 rfl rfl rfl (fun h => h)) ?_
 refine VO.vv (OpV.fieldAddr_atO 0 rfl Tryz.underlying84 rfl rfl Tryz.sizeOf9 rfl rfl) ?_
 refine VO.vv (OpV.load_at rfl hB OutW.no Tryz.isAgg9 rfl rfl) ?_
 refine VO.vv (OpV.seql rfl rfl rfl) ?_
 refine VO.mb ?_
 refine VO.nil ?_
 refine VC.ret ?_
 exact Exists.intro _ (And.intro (RetN.one Tryz.results238 (ResN.v rfl)) (rfl))
theorem line_CheckMachines {ms : List Mach} (hl : ms.length ≤ 1000000000) (hb : ∀ i, (ms.getD i default).key.size ≤ 1000000000) (hc : ∀ i, (ms.getD i default).can.length ≤ 1000000000) (hcb : ∀ i j, ((ms.getD i default).can.getD j ByteArray.empty).size ≤ 1000000000) :
    SpecN Tryz.prog 172 [avL ms] (fun y => y = avI (machF ms)) := by
  refine SpecN.of_VCN Tryz.func172 rfl Tryz.ntmps172 (Nle rfl) fun w A hB => ?_
  refine VC.sr ?_
  refine VO.mb ?_
  refine VO.nil ?_
  refine VC.seq ?_
  refine VC.sr ?_
  refine VO.mw ?_
  refine VO.vv (OpV.len_im rfl Tryz.underlying66 rfl) ?_
  refine VO.vv (OpV.eql rfl rfl rfl) ?_
  refine VO.nil ?_
  refine VC.cond rfl (fun aH1b => ?_) (fun aH1b => ?_)
  · have aH1 := aH1b
    try simp only [qq] at aH1
    refine VC.sr ?_
    refine VO.mb ?_
    refine VO.nil ?_
    refine VC.ret ?_
    exact Exists.intro _ (And.intro (RetN.one Tryz.results172 (ResN.v rfl)) (by rw [machF_none (by omega)]))
  · have aH1 := aH1b
    try simp only [qq] at aH1
    refine VC.skip ?_
    refine VC.seq ?_
    refine VC.sr ?_
    refine VO.mw ?_
    refine VO.vv (OpV.len_im rfl Tryz.underlying66 rfl) ?_
    refine VO.vv (OpV.gtr rfl rfl rfl) ?_
    refine VO.nil ?_
    refine VC.cond rfl (fun aH2b => ?_) (fun aH2b => ?_)
    · have aH2 := aH2b
      try simp only [qq] at aH2
      refine VC.sr ?_
      refine VO.mb ?_
      refine VO.nil ?_
      refine VC.ret ?_
      exact Exists.intro _ (And.intro (RetN.one Tryz.results172 (ResN.v rfl)) (by rw [machF_big (by omega)]))
    · have aH2 := aH2b
      try simp only [qq] at aH2
      refine VC.skip ?_
      refine VC.seq ?_
      refine VC.sr ?_
      refine VO.mw ?_
      refine VO.vv (OpV.len_im rfl Tryz.underlying66 rfl) ?_
      refine VO.mw ?_
      refine VO.nil ?_
      refine VC.block ?_
      refine VC.loopK [] trivial ({q : Nat // q ≤ ms.length ∧ ∀ j, j < q → machE ms j = 0}) (fun (iZ : {q : Nat // q ≤ ms.length ∧ ∀ j, j < q → machE ms j = 0}) => match iZ with | ⟨q, hq, hn⟩ => [(0, avL ms), (12, avL ms), (13, avI ms.length), (14, avI (q : Int))]) (fun (iZ : {q : Nat // q ≤ ms.length ∧ ∀ j, j < q → machE ms j = 0}) => match iZ with | ⟨q, hq, hn⟩ => []) (fun (iZ : {q : Nat // q ≤ ms.length ∧ ∀ j, j < q → machE ms j = 0}) => match iZ with | ⟨q, hq, hn⟩ => 0) (fun (iZ : {q : Nat // q ≤ ms.length ∧ ∀ j, j < q → machE ms j = 0}) => match iZ with | ⟨q, hq, hn⟩ => ms.length - q) ⟨0, Nat.zero_le _, fun j hj => absurd hj (Nat.not_lt_zero j)⟩ (Le.mk hB [] ⟨rfl, rfl, rfl, rfl, trivial⟩ rfl rfl (Nat.le_refl _)) ?_
      rintro ⟨q, hq, hn⟩
      show VC _ _ _ _ ⟨[(0, avL ms), (12, avL ms), (13, avI ms.length), (14, avI (q : Int))] ++ [], [], 0⟩
      refine VC.sr ?_
      refine VO.vv (OpV.lss rfl rfl rfl) ?_
      refine VO.nil ?_
      refine VC.seq ?_
      refine VC.cond rfl (fun aH3b => ?_) (fun aH3b => ?_)
      · have aH3 := aH3b
        try simp only [qq] at aH3
        refine VC.skip ?_
        refine VC.seq ?_
        refine VC.block ?_
        refine VC.sr ?_
        refine VO.mw ?_
        refine VO.vv (OpV.indexAddr_E rfl Tryz.underlying66 Tryz.sizeOf84 rfl rfl rfl (by omega)) ?_
        refine VO.vv (OpV.loadK_at rfl hB OutW.no Tryz.isAgg84 Tryz.sizeOf84 rfl rfl) ?_
        refine VO.op rfl (OpE.alloc rfl hB rfl Tryz.zeroValue84 rfl ?_)
        intro g4
        refine VO.mb ?_
        refine VO.op rfl (OpE.store (i := 0) rfl hB rfl Tryz.sizeOf84 rfl rfl rfl rfl rfl rfl (Nle rfl) trivial ?_)
        refine VO.nil ?_
        refine VC.seq ?_
        refine VC.block ?_
        refine VC.sr ?_
        refine VO.vv (OpV.fieldAddrO 0 rfl Tryz.underlying84 rfl rfl Tryz.sizeOf9 rfl) ?_
        refine VO.vv (OpV.load_own (i := 0) rfl hB Tryz.isAgg9 rfl rfl rfl (fun h => h)) ?_
        refine VO.op rfl (OpE.call rfl hB rfl Tryz.call230 rfl (SpecN.spec (kit_IsKey (hb _))) ?_)
        rintro _ rfl
        refine VO.vv (OpV.not rfl rfl) ?_
        refine VO.mb ?_
        refine VO.nil ?_
        refine VC.cond rfl (fun hkb => ?_) (fun hkb => ?_)
        · have hk := hkb
          try simp only [qq] at hk
          refine VC.sr ?_
          refine VO.mb ?_
          refine VO.nil ?_
          refine VC.ret ?_
          exact Exists.intro _ (And.intro (RetN.one Tryz.results172 (ResN.v rfl)) (by rw [machF_at (by omega) (by omega) (by omega) hn (machE_5 hk) (by decide)]))
        · have hk := hkb
          try simp only [qq] at hk
          refine VC.sr ?_
          refine VO.mw ?_
          refine VO.mw ?_
          refine VO.vv (OpV.slice_L (h := q) rfl Tryz.underlying66 Tryz.sizeOf84 rfl rfl ⟨_, _, rfl, rfl⟩ (by omega) (by omega)) ?_
          refine VO.vv (OpV.makeFunc1 rfl rfl) ?_
          refine VO.op rfl (OpE.callL rfl hB rfl Tryz.call237 (slices_ContainsFunc_mach (p := fun o => sEq o.key (ms.getD q default).key) (by rw [len_cut (by omega)]; omega) Tryz.call238 (fun x => line_CheckMachines1.spec)) (ArgsP.cons (ArgP.ev rfl) (ArgsP.cons (ArgP.fn1 (i := 0) (m := 5) (f := Sxc.cell (ms.getD q default)) rfl rfl (Nle rfl) (lt5 rfl rfl rfl rfl rfl)) (ArgsP.nil))) ?_)
          rintro _ rfl
          refine VO.mb ?_
          refine VO.nil ?_
          refine VC.cond rfl (fun h2b => ?_) (fun h2b => ?_)
          · have h2 := h2b
            try simp only [qq] at h2
            refine VC.sr ?_
            refine VO.mb ?_
            refine VO.nil ?_
            refine VC.ret ?_
            exact Exists.intro _ (And.intro (RetN.one Tryz.results172 (ResN.v rfl)) (by rw [machF_at (by omega) (by omega) (by omega) hn (machE_6 hk h2) (by decide)]))
          · have h2 := h2b
            try simp only [qq] at h2
            refine VC.sr ?_
            refine VO.vv (OpV.fieldAddrO 1 rfl Tryz.underlying84 rfl rfl Tryz.sizeOf3 rfl) ?_
            refine VO.vv (OpV.load_own (i := 0) rfl hB Tryz.isAgg3 rfl rfl rfl (fun h => h)) ?_
            refine VO.op rfl (OpE.call rfl hB rfl Tryz.call161 rfl (SpecN.spec (kit_Outside)) ?_)
            rintro _ rfl
            refine VO.mw ?_
            refine VO.opG rfl rfl rfl rfl (fun aK4b => ?_) (fun aK4b => ?_)
            · replace aK4b : _ = false := aK4b
              have aK4 := aK4b
              try simp only [qq] at aK4
              refine OpE.val (W := NoB) (OpV.fieldAddrO 2 rfl Tryz.underlying84 rfl rfl Tryz.sizeOf3 rfl) rfl ?_
              refine VO.opY rfl rfl rfl rfl aK4b ?_
              refine OpE.val (W := NoB) (OpV.load_own (i := 0) rfl hB Tryz.isAgg3 rfl rfl rfl (fun h => h)) rfl ?_
              refine VO.opY rfl rfl rfl rfl aK4b ?_
              refine OpE.call rfl hB rfl Tryz.call161 rfl (SpecN.spec (kit_Outside)) ?_
              rintro _ rfl
              refine VO.vv (OpV.pickF rfl rfl rfl rfl aK4b) ?_
              refine VO.mw ?_
              refine VO.opG rfl rfl rfl rfl (fun aK5b => ?_) (fun aK5b => ?_)
              · replace aK5b : _ = false := aK5b
                have aK5 := aK5b
                try simp only [qq] at aK5
                refine OpE.val (W := NoB) (OpV.fieldAddrO 3 rfl Tryz.underlying84 rfl rfl Tryz.sizeOf3 rfl) rfl ?_
                refine VO.opY rfl rfl rfl rfl aK5b ?_
                refine OpE.val (W := NoB) (OpV.load_own (i := 0) rfl hB Tryz.isAgg3 rfl rfl rfl (fun h => h)) rfl ?_
                refine VO.opY rfl rfl rfl rfl aK5b ?_
                refine OpE.call rfl hB rfl Tryz.call161 rfl (SpecN.spec (kit_Outside)) ?_
                rintro _ rfl
                refine VO.vv (OpV.pickF rfl rfl rfl rfl aK5b) ?_
                refine VO.mb ?_
                refine VO.nil ?_
                refine VC.cond rfl (fun h3b => ?_) (fun h3b => ?_)
                · have h3 := h3b
                  try simp only [qq] at h3
                  refine VC.sr ?_
                  refine VO.mb ?_
                  refine VO.nil ?_
                  refine VC.ret ?_
                  exact Exists.intro _ (And.intro (RetN.one Tryz.results172 (ResN.v rfl)) (by rw [machF_at (by omega) (by omega) (by omega) hn (machE_1 hk h2 (by first | exact or3a (by assumption) | exact or3b (by assumption) | exact or3c (by assumption))) (by decide)]))
                · have h3 := h3b
                  try simp only [qq] at h3
                  refine VC.skip ?_
                  refine VC.sr ?_
                  refine VO.vv (OpV.fieldAddrO 4 rfl Tryz.underlying84 rfl rfl Tryz.sizeOf82 rfl) ?_
                  refine VO.vv (OpV.load_own (i := 0) rfl hB Tryz.isAgg82 rfl rfl rfl (fun h => h)) ?_
                  refine VO.op rfl (OpE.call rfl hB rfl Tryz.call239 rfl (SpecN.spec (line_canFault (hc _) (hcb _))) ?_)
                  rintro _ rfl
                  refine VO.mb ?_
                  refine VO.nil ?_
                  refine VC.sr ?_
                  refine VO.mw ?_
                  refine VO.vv (OpV.neq rfl rfl rfl) ?_
                  refine VO.nil ?_
                  refine VC.cond rfl (fun h4b => ?_) (fun h4b => ?_)
                  · have h4 := h4b
                    try simp only [qq] at h4
                    refine VC.sr ?_
                    refine VO.mw ?_
                    refine VO.mb ?_
                    refine VO.nil ?_
                    refine VC.ret ?_
                    exact Exists.intro _ (And.intro (RetN.one Tryz.results172 (ResN.v rfl)) (by rw [machF_at (by omega) (by omega) (by omega) hn (machE_x hk h2 (or3f (by assumption) (by assumption) (by assumption))) h4]))
                  · have h4 := h4b
                    try simp only [qq] at h4
                    refine VC.skip ?_
                    refine VC.region ?_
                    refine VO.vv (OpV.add rfl rfl rfl (by unfold fits; omega)) ?_
                    refine VO.mw ?_
                    refine VO.nil ?_
                    exact Exists.intro (⟨q + 1, by omega, lt_succ_cases hn (by rw [machE_x hk h2 (or3f (by assumption) (by assumption) (by assumption))]; omega)⟩) (And.intro (Le.mk hB [] ⟨rfl, rfl, rfl, rfl, trivial⟩ rfl rfl (Nat.le_refl _)) (by first | omega | (show _ < _; omega) | (simp only []; omega)))
              · replace aK5b : _ = true := aK5b
                have aK5 := aK5b
                try simp only [qq] at aK5
                refine VO.opX rfl rfl rfl rfl aK5b ?_
                refine VO.opX rfl rfl rfl rfl aK5b ?_
                refine VO.vv (OpV.pickT rfl rfl rfl rfl aK5b) ?_
                refine VO.mb ?_
                refine VO.nil ?_
                refine VC.condT rfl rfl ?_
                refine VC.sr ?_
                refine VO.mb ?_
                refine VO.nil ?_
                refine VC.ret ?_
                exact Exists.intro _ (And.intro (RetN.one Tryz.results172 (ResN.v rfl)) (by rw [machF_at (by omega) (by omega) (by omega) hn (machE_1 hk h2 (by first | exact or3a (by assumption) | exact or3b (by assumption) | exact or3c (by assumption))) (by decide)]))
            · replace aK4b : _ = true := aK4b
              have aK4 := aK4b
              try simp only [qq] at aK4
              refine VO.opX rfl rfl rfl rfl aK4b ?_
              refine VO.opX rfl rfl rfl rfl aK4b ?_
              refine VO.vv (OpV.pickT rfl rfl rfl rfl aK4b) ?_
              refine VO.mw ?_
              refine VO.opX rfl rfl rfl rfl rfl ?_
              refine VO.opX rfl rfl rfl rfl rfl ?_
              refine VO.opX rfl rfl rfl rfl rfl ?_
              refine VO.vv (OpV.pickT rfl rfl rfl rfl rfl) ?_
              refine VO.mb ?_
              refine VO.nil ?_
              refine VC.condT rfl rfl ?_
              refine VC.sr ?_
              refine VO.mb ?_
              refine VO.nil ?_
              refine VC.ret ?_
              exact Exists.intro _ (And.intro (RetN.one Tryz.results172 (ResN.v rfl)) (by rw [machF_at (by omega) (by omega) (by omega) hn (machE_1 hk h2 (by first | exact or3a (by assumption) | exact or3b (by assumption) | exact or3c (by assumption))) (by decide)]))
      · have aH3 := aH3b
        try simp only [qq] at aH3
        refine VC.exit ?_
        refine VC.sr ?_
        refine VO.mb ?_
        refine VO.nil ?_
        refine VC.ret ?_
        exact Exists.intro _ (And.intro (RetN.one Tryz.results172 (ResN.v rfl)) (by rw [machF_ok (by omega) (by omega) (fun j hj => hn j (by omega))]))
theorem line_fault {ms : List Mach} {ns : List NeedS} (hl : ms.length ≤ 1000000000) (hb : ∀ i, (ms.getD i default).key.size ≤ 1000000000) (hc : ∀ i, (ms.getD i default).can.length ≤ 1000000000) (hcb : ∀ i j, ((ms.getD i default).can.getD j ByteArray.empty).size ≤ 1000000000) (hl' : ns.length ≤ 1000000000) (hb' : ∀ i, (ns.getD i default).key.size ≤ 1000000000) :
  SpecN Tryz.prog 89 [avL ms, avL ns] (fun y => y = avI (faultF ms ns)) := by
 refine SpecN.of_VCN Tryz.func89 rfl Tryz.ntmps89 (Nle rfl) fun w A hB => ?_
 refine VC.sr ?_
 refine VO.mb ?_
 refine VO.nil ?_
 refine VC.seq ?_
 refine VC.sr ?_
 refine VO.mw ?_
 refine VO.op rfl (OpE.call rfl hB rfl Tryz.call172 rfl (SpecN.spec (line_CheckMachines hl hb hc hcb)) ?_)
 rintro _ rfl
 refine VO.mb ?_
 refine VO.nil ?_
 refine VC.sr ?_
 refine VO.mw ?_
 refine VO.vv (OpV.neq rfl rfl rfl) ?_
 refine VO.nil ?_
 refine VC.cond rfl (fun h0b => ?_) (fun h0b => ?_)
 ·have h0 := h0b
  try simp only [qq] at h0
  refine VC.sr ?_
  refine VO.mw ?_
  refine VO.mb ?_
  refine VO.nil ?_
  refine VC.ret ?_
  exact Exists.intro _ (And.intro (RetN.one Tryz.results89 (ResN.v rfl)) (by first | rw [faultF, if_pos h0] | rw [faultF, if_neg h0]))
 ·have h0 := h0b
  try simp only [qq] at h0
  refine VC.skip ?_
  refine VC.sr ?_
  refine VO.mw ?_
  refine VO.op rfl (OpE.call rfl hB rfl Tryz.call173 rfl (SpecN.spec (line_CheckNeeds hl' hb')) ?_)
  rintro _ rfl
  refine VO.mb ?_
  refine VO.nil ?_
  refine VC.ret ?_
  exact Exists.intro _ (And.intro (RetN.one Tryz.results89 (ResN.v rfl)) (by first | rw [faultF, if_pos h0] | rw [faultF, if_neg h0]))
end
section
theorem line_can {m : Mach} {v : ByteArray} (hl : m.can.length ≤ 1000000000) (hs : SortS m.can) :
  SpecN Tryz.prog 96 [avT m, avS v] (fun y => y = avB (hasK m v)) := by
 refine SpecN.of_VCN Tryz.func96 rfl Tryz.ntmps96 (Nle rfl) fun w A hB => ?_
 refine VC.sr ?_
 refine VO.op rfl (OpE.box rfl hB rfl rfl rfl ?_)
 intro g2
 refine VO.mb ?_
 refine VO.nil ?_
 refine VC.sr ?_
 refine VO.vv (OpV.fieldAddrO 4 rfl Tryz.underlying84 rfl rfl Tryz.sizeOf82 rfl) ?_
 refine VO.vv (OpV.load_own (i := 0) rfl hB Tryz.isAgg82 rfl rfl rfl (fun h => h)) ?_
 refine VO.mw ?_
 refine VO.op rfl (OpE.call rfl hB rfl Tryz.call179 rfl (slices_BinarySearch_str hl hs) ?_)
 rintro _ ⟨n11, rfl⟩
 refine VO.mw ?_
 refine VO.vv (OpV.extract rfl rfl rfl) ?_
 refine VO.vv (OpV.extract rfl rfl rfl) ?_
 refine VO.mb ?_
 refine VO.mb ?_
 refine VO.nil ?_
 refine VC.sr ?_
 refine VO.mw ?_
 refine VO.mb ?_
 refine VO.nil ?_
 refine VC.ret ?_
 exact Exists.intro _ (And.intro (RetN.one Tryz.results96 (ResN.v rfl)) (rfl))
theorem line_planFault {ms : List Mach} {ns : List NeedS} {plan : List Int} (hm : machF ms = 0) (hn : ns.length ≤ 1000000000) (hp : plan.length ≤ 1000000000) :
  SpecN Tryz.prog 171 [avL ms, avL ns, avInts plan] (fun y => y = avI (planF ms ns plan)) := by
 have hlen := machF_len hm
 have hfe := fun k (hk : k < ms.length) => (machF_each hm hk).1.2.2.1
 refine SpecN.of_VCN Tryz.func171 rfl Tryz.ntmps171 (Nle rfl) fun w A hB => ?_
 refine VC.sr ?_
 refine VO.mb ?_
 refine VO.nil ?_
 refine VC.seq ?_
 refine VC.sr ?_
 refine VO.mw ?_
 refine VO.vv (OpV.len_im rfl Tryz.underlying22 rfl) ?_
 refine VO.mw ?_
 refine VO.vv (OpV.len_im rfl Tryz.underlying68 rfl) ?_
 refine VO.vv (OpV.neq rfl rfl rfl) ?_
 refine VO.nil ?_
 refine VC.cond rfl (fun aH1b => ?_) (fun aH1b => ?_)
 ·have aH1 := aH1b
  try simp only [qq] at aH1
  refine VC.sr ?_
  refine VO.mb ?_
  refine VO.nil ?_
  refine VC.ret ?_
  exact Exists.intro _ (And.intro (RetN.one Tryz.results171 (ResN.v rfl)) (by rw [planF_3 (by omega)]))
 ·have aH1 := aH1b
  try simp only [qq] at aH1
  refine VC.skip ?_
  refine VC.seq ?_
  refine VC.sr ?_
  refine VO.mw ?_
  refine VO.vv (OpV.len_im rfl Tryz.underlying22 rfl) ?_
  refine VO.mw ?_
  refine VO.nil ?_
  refine VC.block ?_
  refine VC.loopK [] trivial ({q : Nat // q ≤ plan.length ∧ ∀ j, j < q → planE ms ns plan j = 0}) (fun (iZ : {q : Nat // q ≤ plan.length ∧ ∀ j, j < q → planE ms ns plan j = 0}) => match iZ with | ⟨q, hq, he⟩ => [(0, avL ms), (1, avL ns), (2, avInts plan), (17, avInts plan), (18, avI plan.length), (19, avI (q : Int))]) (fun (iZ : {q : Nat // q ≤ plan.length ∧ ∀ j, j < q → planE ms ns plan j = 0}) => match iZ with | ⟨q, hq, he⟩ => []) (fun (iZ : {q : Nat // q ≤ plan.length ∧ ∀ j, j < q → planE ms ns plan j = 0}) => match iZ with | ⟨q, hq, he⟩ => 0) (fun (iZ : {q : Nat // q ≤ plan.length ∧ ∀ j, j < q → planE ms ns plan j = 0}) => match iZ with | ⟨q, hq, he⟩ => plan.length - q) ⟨0, Nat.zero_le _, fun j hj => absurd hj (Nat.not_lt_zero j)⟩ (Le.mk hB [] ⟨rfl, rfl, rfl, rfl, rfl, rfl, trivial⟩ rfl rfl (Nat.le_refl _)) ?_
  rintro ⟨q, hq, he⟩
  show VC _ _ _ _ ⟨[(0, avL ms), (1, avL ns), (2, avInts plan), (17, avInts plan), (18, avI plan.length), (19, avI (q : Int))] ++ [], [], 0⟩
  refine VC.sr ?_
  refine VO.vv (OpV.lss rfl rfl rfl) ?_
  refine VO.nil ?_
  refine VC.seq ?_
  refine VC.cond rfl (fun aH2b => ?_) (fun aH2b => ?_)
  ·have aH2 := aH2b
   try simp only [qq] at aH2
   refine VC.skip ?_
   refine VC.seq ?_
   refine VC.block ?_
   refine VC.sr ?_
   refine VO.mw ?_
   refine VO.vv (OpV.indexAddr_1 rfl Tryz.underlying22 Tryz.sizeOf3 rfl rfl rfl (by omega)) ?_
   refine VO.vv (OpV.load_at rfl hB OutW.no Tryz.isAgg3 rfl rfl) ?_
   refine VO.mb ?_
   refine VO.mb ?_
   refine VO.nil ?_
   refine VC.seq ?_
   refine VC.sr ?_
   refine VO.mw ?_
   refine VO.vv (OpV.lss rfl rfl rfl) ?_
   refine VO.mw ?_
   refine VO.opG rfl rfl rfl rfl (fun aK3b => ?_) (fun aK3b => ?_)
   ·replace aK3b : _ = false := aK3b
    have aK3 := aK3b
    try simp only [qq] at aK3
    refine OpE.val (W := NoB) (OpV.move (.inl rfl) rfl) rfl ?_
    refine VO.opY rfl rfl rfl rfl aK3b ?_
    refine OpE.val (W := NoB) (OpV.move (.inl rfl) rfl) rfl ?_
    refine VO.opY rfl rfl rfl rfl aK3b ?_
    refine OpE.val (W := NoB) (OpV.len_im rfl Tryz.underlying66 rfl) rfl ?_
    refine VO.opY rfl rfl rfl rfl aK3b ?_
    refine OpE.val (W := NoB) (OpV.geq rfl rfl rfl) rfl ?_
    refine VO.vv (OpV.pickF rfl rfl rfl rfl aK3b) ?_
    refine VO.nil ?_
    refine VC.cond rfl (fun h8b => ?_) (fun h8b => ?_)
    ·have h8 := h8b
     try simp only [qq] at h8
     refine VC.sr ?_
     refine VO.mb ?_
     refine VO.nil ?_
     refine VC.ret ?_
     exact Exists.intro _ (And.intro (RetN.one Tryz.results171 (ResN.v rfl)) (by rw [planF_at (by omega) (by omega) he (planE_8 (by omega)) (by decide)]))
    ·have h8 := h8b
     try simp only [qq] at h8
     refine VC.skip ?_
     refine VC.seq ?_
     refine VC.draw (fun _ => NoB) hB (by kernel_rfl) ?_
     refine VA.tk (i := 0) rfl (OpV.move (.inl rfl) rfl) ?_
     refine VA.tk (i := 1) rfl (OpV.move (.inl rfl) rfl) ?_
     refine VA.tk (i := 2) rfl (OpV.indexAddr_E rfl Tryz.underlying66 Tryz.sizeOf84 rfl rfl (Int.toNat_of_nonneg (by omega)).symm (by omega)) ?_
     refine VA.tk (i := 3) rfl (OpV.loadK_at rfl hB OutW.wi0 Tryz.isAgg84 Tryz.sizeOf84 rfl rfl) ?_
     refine VA.tk (i := 4) rfl (OpV.move (.inl rfl) rfl) ?_
     refine VA.tk (i := 5) rfl (OpV.move (.inl rfl) rfl) ?_
     refine VA.tk (i := 6) rfl (OpV.indexAddr_E rfl Tryz.underlying68 Tryz.sizeOf90 rfl rfl rfl (by omega)) ?_
     refine VA.tk (i := 7) rfl (OpV.fieldAddr_atO 0 rfl Tryz.underlying90 rfl rfl Tryz.sizeOf9 rfl rfl) ?_
     refine VA.tk (i := 8) rfl (OpV.load_at rfl hB OutW.wi0 Tryz.isAgg9 rfl rfl) ?_
     refine VA.all (rs := [9]) (by kernel_rfl) (by decide) ?_
     refine ⟨⟨_, rfl, .inl rfl, ?_⟩, trivial⟩
     refine OpE.call rfl hB rfl Tryz.call96 rfl (SpecN.spec (line_can (by have := canF_keys (machF_each hm (i := (plan.getD q 0).toNat) (by omega)).2; omega) (canF_sort (machF_each hm (by omega)).2))) ?_
     rintro _ rfl
     refine VA.tk (i := 10) rfl (OpV.not rfl rfl) ?_
     refine VA.done (by kernel_rfl) ?_
     refine VC.cond rfl (fun h4b => ?_) (fun h4b => ?_)
     ·have h4 := h4b
      try simp only [qq] at h4
      refine VC.sr ?_
      refine VO.mb ?_
      refine VO.nil ?_
      refine VC.ret ?_
      exact Exists.intro _ (And.intro (RetN.one Tryz.results171 (ResN.v rfl)) (by rw [planF_at (by omega) (by omega) he (planE_4 (by omega) h4) (by decide)]))
     ·have h4 := h4b
      try simp only [qq] at h4
      refine VC.skip ?_
      refine VC.region ?_
      refine VO.vv (OpV.add rfl rfl rfl (by unfold fits; omega)) ?_
      refine VO.mw ?_
      refine VO.nil ?_
      exact Exists.intro (⟨q + 1, by omega, lt_succ_cases he (planE_0 (by omega) h4)⟩) (And.intro (Le.mk hB [] ⟨rfl, rfl, rfl, rfl, rfl, rfl, trivial⟩ rfl rfl (Nat.le_refl _)) (by first | omega | (show _ < _; omega) | (simp only []; omega)))
   ·replace aK3b : _ = true := aK3b
    have aK3 := aK3b
    try simp only [qq] at aK3
    refine VO.opX rfl rfl rfl rfl aK3b ?_
    refine VO.opX rfl rfl rfl rfl aK3b ?_
    refine VO.opX rfl rfl rfl rfl aK3b ?_
    refine VO.vv (OpV.pickT rfl rfl rfl rfl aK3b) ?_
    refine VO.nil ?_
    refine VC.condT rfl rfl ?_
    refine VC.sr ?_
    refine VO.mb ?_
    refine VO.nil ?_
    refine VC.ret ?_
    exact Exists.intro _ (And.intro (RetN.one Tryz.results171 (ResN.v rfl)) (by rw [planF_at (by omega) (by omega) he (planE_8 (by omega)) (by decide)]))
  ·have aH2 := aH2b
   try simp only [qq] at aH2
   refine VC.exit ?_
   refine VC.sr ?_
   refine VO.mw ?_
   refine VO.vv (OpV.len_im rfl Tryz.underlying66 rfl) ?_
   refine VO.op rfl (OpE.make rfl hB rfl Tryz.underlying22 (infoOf Tryz.t3 1 (by kernel_rfl) rfl rfl) (by decide) rfl rfl (n := ms.length) rfl rfl (by omega) (made_ints _) ?_)
   intro g46
   refine VO.mb ?_
   refine VO.nil ?_
   refine VC.seq ?_
   refine VC.sr ?_
   refine VO.mw ?_
   refine VO.vv (OpV.len_im rfl Tryz.underlying22 rfl) ?_
   refine VO.mw ?_
   refine VO.nil ?_
   refine VC.block ?_
   refine VC.loopK [] trivial ({r : Nat // r ≤ plan.length ∧ ∀ k, k < ms.length → cnt plan k r ≤ (ms.getD k default).feeders}) (fun (iZ : {r : Nat // r ≤ plan.length ∧ ∀ k, k < ms.length → cnt plan k r ≤ (ms.getD k default).feeders}) => match iZ with | ⟨r, hr, hc⟩ => [(0, avL ms), (9, .v (.slice (some ⟨g46, 0, none⟩) ms.length ms.length)), (47, avInts plan), (48, avI plan.length), (49, avI (r : Int))]) (fun (iZ : {r : Nat // r ≤ plan.length ∧ ∀ k, k < ms.length → cnt plan k r ≤ (ms.getD k default).feeders}) => match iZ with | ⟨r, hr, hc⟩ => [.box g46 ⟨intsL (tabI ms.length (fun k => cnt plan k r)), 3, (intsL (List.replicate ms.length 0)).length⟩]) (fun (iZ : {r : Nat // r ≤ plan.length ∧ ∀ k, k < ms.length → cnt plan k r ≤ (ms.getD k default).feeders}) => match iZ with | ⟨r, hr, hc⟩ => 0) (fun (iZ : {r : Nat // r ≤ plan.length ∧ ∀ k, k < ms.length → cnt plan k r ≤ (ms.getD k default).feeders}) => match iZ with | ⟨r, hr, hc⟩ => plan.length - r) ⟨0, Nat.zero_le _, hfe⟩ (Le.mk hB [0] ⟨rfl, rfl, rfl, rfl, rfl, trivial⟩ rfl (by rw [tabI_rep]; rfl) (Nat.le_refl _)) ?_
   rintro ⟨r, hr, hc⟩
   show VC _ _ _ _ ⟨[(0, avL ms), (9, .v (.slice (some ⟨g46, 0, none⟩) ms.length ms.length)), (47, avInts plan), (48, avI plan.length), (49, avI (r : Int))] ++ [], [.box g46 ⟨intsL (tabI ms.length (fun k => cnt plan k r)), 3, (intsL (List.replicate ms.length 0)).length⟩], 0⟩
   refine VC.sr ?_
   refine VO.vv (OpV.lss rfl rfl rfl) ?_
   refine VO.nil ?_
   refine VC.seq ?_
   refine VC.cond rfl (fun aH4b => ?_) (fun aH4b => ?_)
   ·have aH4 := aH4b
    try simp only [qq] at aH4
    obtain ⟨k, hk1, hk2⟩ := planE_ok (he r (by omega))
    have hcl := cnt_le plan k r
    refine VC.skip ?_
    refine VC.seq ?_
    refine VC.block ?_
    refine VC.sr ?_
    refine VO.vv (OpV.indexAddr_1 rfl Tryz.underlying22 Tryz.sizeOf3 rfl rfl rfl (by omega)) ?_
    refine VO.vv (OpV.load_at rfl hB OutW.no Tryz.isAgg3 rfl rfl) ?_
    refine VO.mb ?_
    refine VO.nil ?_
    refine VC.sr ?_
    refine VO.mw ?_
    refine VO.mw ?_
    refine VO.vv (OpV.indexAddr_o rfl Tryz.underlying22 Tryz.sizeOf3 rfl rfl hk1 (by omega)) ?_
    refine VO.vv (OpV.load_own (i := 0) rfl hB Tryz.isAgg3 rfl rfl (intsT_get hk2) (fun h => h)) ?_
    refine VO.vv (OpV.add rfl rfl rfl (by unfold fits; omega)) ?_
    refine VO.vv (OpV.indexAddr_o rfl Tryz.underlying22 Tryz.sizeOf3 rfl rfl hk1 (by omega)) ?_
    refine VO.op rfl (OpE.store1 (i := 0) rfl hB rfl Tryz.sizeOf3 rfl rfl rfl rfl rfl rfl (by rw [intsL_len, tabI_len]; exact hk2) ((intsL_set _ _ _).trans (congrArg intsL (tabI_set' (g := fun j => cnt plan j (r + 1)) (by rw [cnt, if_pos hk1]) (fun j hj hne => by rw [cnt, if_neg (by rw [hk1]; omega)]; omega)))) trivial ?_)
    refine VO.nil ?_
    refine VC.seq ?_
    refine VC.draw (fun _ => NoB) hB (by kernel_rfl) ?_
    refine VA.tk (i := 0) rfl (OpV.move (.inl rfl) rfl) ?_
    refine VA.tk (i := 1) rfl (OpV.move (.inl rfl) rfl) ?_
    refine VA.tk (i := 2) rfl (OpV.indexAddr_o rfl Tryz.underlying22 Tryz.sizeOf3 rfl rfl hk1 (by omega)) ?_
    refine VA.tk (i := 3) rfl (OpV.load_own (i := 0) rfl hB Tryz.isAgg3 rfl rfl (intsT_get hk2) Wi.not0) ?_
    refine VA.tk (i := 4) rfl (OpV.move (.inl rfl) rfl) ?_
    refine VA.tk (i := 5) rfl (OpV.move (.inl rfl) rfl) ?_
    refine VA.tk (i := 6) rfl (OpV.indexAddr_E rfl Tryz.underlying66 Tryz.sizeOf84 rfl rfl hk1 (by omega)) ?_
    refine VA.tk (i := 7) rfl (OpV.fieldAddr_atO 3 rfl Tryz.underlying84 rfl rfl Tryz.sizeOf3 rfl rfl) ?_
    refine VA.tk (i := 8) rfl (OpV.load_at rfl hB OutW.wi0 Tryz.isAgg3 rfl rfl) ?_
    refine VA.tk (i := 9) rfl (OpV.gtr rfl rfl rfl) ?_
    refine VA.done (by kernel_rfl) ?_
    refine VC.cond rfl (fun h12b => ?_) (fun h12b => ?_)
    ·have h12 := h12b
     try simp only [qq] at h12
     refine VC.sr ?_
     refine VO.mb ?_
     refine VO.nil ?_
     refine VC.ret ?_
     exact Exists.intro _ (And.intro (RetN.one Tryz.results171 (ResN.v rfl)) (by rw [planF_12 (k := k) (by omega) (fun j hj => he j (by omega)) hk2 (Int.lt_of_lt_of_le h12 (cnt_mono _ _ (by omega)))]))
    ·have h12 := h12b
     try simp only [qq] at h12
     refine VC.skip ?_
     refine VC.region ?_
     refine VO.vv (OpV.add rfl rfl rfl (by unfold fits; omega)) ?_
     refine VO.mw ?_
     refine VO.nil ?_
     exact Exists.intro (⟨r + 1, by omega, fun j hj => by by_cases hjk : j = k; subst hjk; exact h12; (have := hc j hj; rw [cnt, if_neg (by rw [hk1]; omega)]; omega)⟩) (And.intro (Le.mk hB [0] ⟨rfl, rfl, rfl, rfl, rfl, trivial⟩ rfl rfl (Nat.le_refl _)) (by first | omega | (show _ < _; omega) | (simp only []; omega)))
   ·have aH4 := aH4b
    try simp only [qq] at aH4
    refine VC.exit ?_
    refine VC.sr ?_
    refine VO.mb ?_
    refine VO.nil ?_
    refine VC.ret ?_
    exact Exists.intro _ (And.intro (RetN.one Tryz.results171 (ResN.v rfl)) (by rw [planF_0 (by omega) (fun j hj => he j (by omega)) (fun k hk => by have := hc k hk; rw [show plan.length = r by omega]; exact this)]))
end
section
theorem line_planned {ms : List Mach} {ns : List NeedS} {plan : List Int} (hm : SmallM ms) (hn : SmallN ns) (hp : plan.length ≤ 1000000000) :
  SpecN Tryz.prog 87 [avL ms, avL ns, avInts plan] (fun y => y = avI (lineF ms ns plan)) := by
 refine SpecN.of_VCN Tryz.func87 rfl Tryz.ntmps87 (Nle rfl) fun w A hB => ?_
 refine VC.sr ?_
 refine VO.mb ?_
 refine VO.nil ?_
 refine VC.seq ?_
 refine VC.sr ?_
 refine VO.mw ?_
 refine VO.mw ?_
 refine VO.op rfl (OpE.call rfl hB rfl Tryz.call89 rfl (SpecN.spec (line_fault hm.l hm.k hm.c hm.s hn.l hn.k)) ?_)
 rintro _ rfl
 refine VO.mb ?_
 refine VO.nil ?_
 refine VC.sr ?_
 refine VO.mw ?_
 refine VO.vv (OpV.neq rfl rfl rfl) ?_
 refine VO.nil ?_
 refine VC.cond rfl (fun h0b => ?_) (fun h0b => ?_)
 ·have h0 := h0b
  try simp only [qq] at h0
  refine VC.sr ?_
  refine VO.mw ?_
  refine VO.mb ?_
  refine VO.nil ?_
  refine VC.ret ?_
  exact Exists.intro _ (And.intro (RetN.one Tryz.results87 (ResN.v rfl)) (by first | rw [lineF, if_pos h0] | rw [lineF, if_neg h0]))
 ·have h0 := h0b
  try simp only [qq] at h0
  refine VC.skip ?_
  refine VC.sr ?_
  refine VO.mw ?_
  refine VO.mw ?_
  refine VO.mw ?_
  refine VO.op rfl (OpE.call rfl hB rfl Tryz.call171 rfl (SpecN.spec (line_planFault (faultF_0 (ms := ms) (ns := ns) (by omega)).1 hn.l hp)) ?_)
  rintro _ rfl
  refine VO.mb ?_
  refine VO.nil ?_
  refine VC.ret ?_
  exact Exists.intro _ (And.intro (RetN.one Tryz.results87 (ResN.v rfl)) (by first | rw [lineF, if_pos h0] | rw [lineF, if_neg h0]))
end
section
def errsF (xs : List Int) : Int := match xs.find? (fun x => decide (x ≠ 0)) with | some x => x | none => 0
theorem errsF_at {xs : List Int} {q : Nat} (hq : q < xs.length) (hn : ∀ j, j < q → xs.getD j 0 = 0) (h : xs.getD q 0 ≠ 0) : errsF xs = xs.getD q 0 := by
 induction xs generalizing q with
 | nil => simp at hq
 | cons x r ih =>
  cases q with
  | zero => simp at h; simp [errsF, h]
  | succ q =>
   have h0 := hn 0 (by omega)
   simp at h0
   have := ih (q := q) (by simpa using hq) (fun j hj => by simpa using hn (j + 1) (by omega)) (by simpa using h)
   simpa [errsF, h0] using this
theorem errsF_none {xs : List Int} (hn : ∀ j, j < xs.length → xs.getD j 0 = 0) : errsF xs = 0 := by
 induction xs with
 | nil => rfl
 | cons x r ih =>
  have h0 := hn 0 (by simp)
  simp at h0
  have := ih (fun j hj => by simpa using hn (j + 1) (by simpa using hj))
  simpa [errsF, h0] using this
theorem Le.lits {B : Bs} {s : St'} {t n : Nat} {xs : List Int} (hn : n = xs.length) (ht : look s.sl t = some (.im n 1 fun j => (intsL xs).getD j .any)) : Le B s ⟨(t, avInts xs) :: s.sl, s.hp, s.k⟩ := Le.recast ht fun w Z u h => Rep.ints hn h
end
section
def keys5 : List ByteArray := [⟨#[97]⟩, ⟨#[98]⟩, ⟨#[99]⟩, ⟨#[100]⟩, ⟨#[101]⟩]
theorem keys5_size (q : Nat) : (keys5.getD q ByteArray.empty).size ≤ 1000 := by
 match q with
 | 0 => decide
 | 1 => decide
 | 2 => decide
 | 3 => decide
 | 4 => decide
 | q + 5 => simp [keys5]
def NOk (ns : List NeedS) : Prop := ns.length ≤ 10 ∧ ∀ x ∈ ns, x.key.size ≤ 1000
theorem NOk.small {ns : List NeedS} (h : NOk ns) : SmallN ns := ⟨by have := h.1; omega, fun i => by
 rw [List.getD_eq_getElem?_getD]
 cases hi : ns[i]? with
 | none => decide
 | some x => have := h.2 x (List.mem_of_getElem? hi); simp; omega⟩
theorem NOk.key {ns : List NeedS} (h : NOk ns) (i : Nat) : (ns.getD i default).key.size ≤ 1000 := by
 rw [List.getD_eq_getElem?_getD]
 cases hi : ns[i]? with
 | none => decide
 | some x => have := h.2 x (List.mem_of_getElem? hi); simpa using this
theorem NOk.set {ns : List NeedS} (h : NOk ns) (q : Nat) {x : NeedS} (hx : x.key.size ≤ 1000) : NOk (ns.set q x) :=
 ⟨by rw [List.length_set]; exact h.1, fun y hy => by rcases List.mem_or_eq_of_mem_set hy with h' | rfl; exact h.2 y h'; exact hx⟩
theorem getD_set_self {α : Type} {xs : List α} {q : Nat} {x d : α} (h : q < xs.length) : (xs.set q x).getD q d = x := by simp [h]
end
section
structure MR where
 key : ByteArray
 each : Int
 fixed : Int
 feeders : Int
 b : Option Addr
 c : Nat
 can : List ByteArray
instance : Inhabited MR := ⟨⟨ByteArray.empty, 0, 0, 0, none, 0, []⟩⟩
def MR.val (m : MR) : Value := .slice m.b m.can.length m.c
instance : Sxc MR where
 k := 5
 pos := by decide
 cell m j := match j with
  | 0 => avS m.key
  | 1 => avI m.each
  | 2 => avI m.fixed
  | 3 => avI m.feeders
  | 4 => .v (.slice m.b m.can.length m.c)
  | _ => .any
def rowM (m : MR) : Ent := .row (.slice m.b m.can.length m.c) m.can.length 1 (strsL m.can) 9
def mkKey (q : Nat) : ByteArray := ⟨#[109]⟩ ++ Utf8.encode (49 + (q : Int))
theorem encode_small (n : Int) : (Utf8.encode n).size ≤ 4 := by
 unfold Utf8.encode
 simp only
 repeat' split
 all_goals simp [ByteArray.size]
theorem permM {m : MR} {e : Ent} {l : List MR} : (rowM m :: e :: l.map rowM).Perm (e :: (l ++ [m]).map rowM) := by
 rw [List.map_append]
 exact (List.Perm.swap e (rowM m) _).trans (List.Perm.cons e (List.perm_append_comm (l₁ := [rowM m]) (l₂ := l.map rowM)))
def toM (m : MR) : Mach := ⟨m.key, m.each, m.fixed, m.feeders, m.can⟩
theorem Rep.im_mono {w : World} {Z : Nat → Prop} {n sz : Nat} {f g : Nat → AV} (h : ∀ j, j < n * sz → ∀ u, Rep w Z (f j) u → Rep w Z (g j) u) {u : Value} (hr : Rep w Z (.im n sz f) u) : Rep w Z (.im n sz g) u := by
 cases hr with
 | nil => exact .nil sz g
 | im n sz f b off cap c e u hZ h1 h2 hb hc hr => exact .im n sz g b off cap c e u hZ h1 h2 hb hc fun j hj => h j hj _ (hr j hj)
theorem fam_avL {w : World} {Z : Nat → Prop} {l : List MR} {u : Value} {n : Nat} (hn : n = l.length) (h : Rep w Z (.im n 5 fun j => (rowL l).getD j .any) u)
  (hc : ∀ q, q < l.length → Rep w Z (avStrs (l.getD q default).can) (.slice (l.getD q default).b (l.getD q default).can.length (l.getD q default).c)) : Rep w Z (avL (l.map toM)) u := by
 subst hn
 have e : avL (l.map toM) = .im l.length 5 (fun j => Sxc.cell ((l.map toM).getD (j / 5) default) (j % 5)) := by
  show AV.im (l.map toM).length 5 _ = _
  rw [List.length_map]
  rfl
 rw [e]
 refine h.im_mono fun j hj u hu => ?_
 have hd : j / 5 < l.length := by omega
 have hm : j % 5 < 5 := by omega
 have e1 := rowL_get l (j / 5) (j % 5) hd hm
 have e2 : j / 5 * Sxc.k MR + j % 5 = j := by show j / 5 * 5 + j % 5 = j; omega
 rw [e2] at e1
 rw [List.getD_eq_getElem?_getD, e1] at hu
 have e3 : (l.map toM).getD (j / 5) default = toM (l.getD (j / 5) default) := by simp [hd]
 rw [e3]
 have hq := hc _ hd
 simp only [Option.getD_some] at hu
 generalize j % 5 = i at hu hm
 match i, hm with
 | 0, _ => exact hu
 | 1, _ => exact hu
 | 2, _ => exact hu
 | 3, _ => exact hu
 | 4, _ =>
  have : u = .slice (l.getD (j / 5) default).b (l.getD (j / 5) default).can.length (l.getD (j / 5) default).c := hu.eq_v
  rw [this]; exact hq
def MRok (x : MR) : Prop := x.key.size ≤ 1000 ∧ x.can.length ≤ 5 ∧ ∀ y ∈ x.can, y.size ≤ 1000
theorem MRok.getD {l : List MR} (h : ∀ x ∈ l, MRok x) {m : Nat} (hm : m < l.length) : MRok (l.getD m default) := by
 have := h _ (List.getElem_mem hm)
 simpa [hm] using this
theorem famSet {l : List MR} {m : Nat} {x : MR} (hm : m < l.length) (hx : rowM x = rowM (l.getD m default)) : (l.set m x).map rowM = l.map rowM := by
 rw [List.map_set, hx]
 apply List.ext_getElem (by simp)
 intro i h1 h2
 rw [List.getElem_set]
 split
 ·rename_i e; subst e; simp [hm]
 ·rfl
theorem MRok.small {l : List MR} (hl : l.length ≤ 100) (h : ∀ x ∈ l, x.key.size ≤ 1000 ∧ x.can.length ≤ 6 ∧ ∀ y ∈ x.can, y.size ≤ 1000) : SmallM (l.map toM) := by
 have key : ∀ i, ((l.map toM).getD i default).key.size ≤ 1000 ∧ ((l.map toM).getD i default).can.length ≤ 6 ∧ ∀ y ∈ ((l.map toM).getD i default).can, y.size ≤ 1000 := fun i => by
  by_cases hi : i < l.length
  ·have := h _ (List.getElem_mem hi)
   simpa [hi, toM] using this
  ·have : (l.map toM).getD i default = default := by simp [List.getD_eq_getElem?_getD, hi]
   rw [this]
   exact ⟨by decide, by decide, fun y hy => by cases hy⟩
 refine ⟨by rw [List.length_map]; omega, fun i => by have := (key i).1; omega, fun i => by have := (key i).2.1; omega, fun i j => ?_⟩
 by_cases hj : j < ((l.map toM).getD i default).can.length
 ·have := (key i).2.2 _ (List.getElem_mem hj)
  rw [List.getD_eq_getElem?_getD, List.getElem?_eq_getElem hj]
  simp only [Option.getD_some]
  omega
 ·rw [List.getD_eq_getElem?_getD, List.getElem?_eq_none (by omega)]
  decide
theorem MRok.six {x : MR} (h : MRok x) : x.key.size ≤ 1000 ∧ x.can.length ≤ 6 ∧ ∀ y ∈ x.can, y.size ≤ 1000 := ⟨h.1, by have := h.2.1; omega, h.2.2⟩
theorem MRok.set {l : List MR} (h : ∀ x ∈ l, MRok x) {m : Nat} {x : MR} (hx : x.key.size ≤ 1000 ∧ x.can.length ≤ 6 ∧ ∀ y ∈ x.can, y.size ≤ 1000) : ∀ y ∈ l.set m x, y.key.size ≤ 1000 ∧ y.can.length ≤ 6 ∧ ∀ z ∈ y.can, z.size ≤ 1000 := fun y hy => by
 rcases List.mem_or_eq_of_mem_set hy with h' | rfl
 ·exact (h y h').six
 ·exact hx
end
section
def ny5 : List Int := [1, 2, 3, 5, 10]
def nlIn (L : List Int) (q : Nat) (z : List NeedS × Nat) : List NeedS × Nat := if nxt L z.2 2 = 0 then (z.1 ++ [⟨keys5.getD q ByteArray.empty, pickV L (z.2 + 1) ny5⟩], z.2 + 2) else (z.1, z.2 + 1)
def nlL (L : List Int) (k : Nat) : Nat → List NeedS × Nat
 | 0 => ([], k)
 | q + 1 => nlIn L q (nlL L k q)
def nlTail (L : List Int) (l : List NeedS) (j : Nat) : List NeedS × Nat :=
 if 0 < l.length then
  if nxt L j 12 = 0 then (l.set (nxt L (j + 1) l.length).toNat ⟨someV L (j + 2) [(l.getD (nxt L (j + 1) l.length).toNat default).key, ⟨#[]⟩, ⟨#[97]⟩, ⟨#[122, 122]⟩], pickV L (j + 3) [(l.getD (nxt L (j + 1) l.length).toNat default).count, 0, 1000, 1001]⟩, j + 4)
  else (l, j + 1)
 else (l, j)
def nlV (L : List Int) (k : Nat) : List NeedS × Nat := nlTail L (nlL L k 5).1 (nlL L k 5).2
section
variable {L : List Int} {q j k m : Nat} {l : List NeedS}
theorem nlIn_n (h : nxt L j 2 ≠ 0) : nlIn L q (l, j) = (l, j + 1) := if_neg h
theorem nlIn_y (h : nxt L j 2 = 0) : nlIn L q (l, j) = (l ++ [⟨keys5.getD q ByteArray.empty, pickV L (j + 1) ny5⟩], j + 2) := if_pos h
theorem nlTail_0 (h : l.length = 0) : nlTail L l j = (l, j) := if_neg (by omega)
theorem nlTail_1 (h : 0 < l.length) (h1 : nxt L j 12 ≠ 0) : nlTail L l j = (l, j + 1) := by rw [nlTail, if_pos h, if_neg h1]
theorem nlTail_2 {r1 : ByteArray} {r2 : Int} (h : 0 < l.length) (h1 : nxt L j 12 = 0) (hi : nxt L (j + 1) l.length = (m : Int)) (e1 : someV L (j + 2) [(l.getD m default).key, ⟨#[]⟩, ⟨#[97]⟩, ⟨#[122, 122]⟩] = r1) (e2 : pickV L (j + 3) [(l.getD m default).count, 0, 1000, 1001] = r2) :
  nlTail L l j = ((l.set m (⟨r1, (l.getD m default).count⟩ : NeedS)).set m (⟨r1, r2⟩ : NeedS), j + 4) := by
 rw [nlTail, if_pos h, if_pos h1, hi, Int.toNat_natCast, e1, e2]
 simp only [List.set_set]
theorem nlL_ok : ∀ q, (nlL L k q).1.length ≤ q ∧ (nlL L k q).2 ≤ k + 2 * q ∧ ∀ x ∈ (nlL L k q).1, x.key.size ≤ 1000
 | 0 => ⟨Nat.le_refl _, Nat.le_refl _, fun x h => by cases h⟩
 | q + 1 => by
  obtain ⟨i1, i2, i3⟩ := nlL_ok q
  rw [nlL, nlIn]
  generalize nlL L k q = y at i1 i2 i3
  split
  ·refine ⟨by show (y.1 ++ [_]).length ≤ _; simp; omega, by show y.2 + 2 ≤ _; omega, fun x hx => ?_⟩
   rcases List.mem_append.1 hx with hx | hx
   ·exact i3 x hx
   ·simp at hx; subst hx; exact keys5_size q
  ·exact ⟨by show y.1.length ≤ _; omega, by show y.2 + 1 ≤ _; omega, i3⟩
theorem nlTail_ok (h : NOk l) : NOk (nlTail L l j).1 ∧ (nlTail L l j).2 ≤ j + 4 := by
 unfold nlTail
 split
 ·split
  ·refine ⟨h.set _ (someV_of (P := fun k => k.size ≤ 1000) (fun x hx' => ?_) (by simp)), Nat.le_refl _⟩
   simp only [List.mem_cons, List.not_mem_nil, or_false] at hx'
   rcases hx' with rfl | rfl | rfl | rfl
   ·exact h.key _
   ·decide
   ·decide
   ·decide
  ·exact ⟨h, by show j + 1 ≤ _; omega⟩
 ·exact ⟨h, by show j ≤ _; omega⟩
theorem nlV_ok : (SmallN (nlV L k).1 ∧ (nlV L k).1.length ≤ 10) ∧ (nlV L k).2 ≤ k + 14 := by
 obtain ⟨i1, i2, i3⟩ := nlL_ok (L := L) (k := k) 5
 obtain ⟨j1, j2⟩ := nlTail_ok (L := L) (j := (nlL L k 5).2) (⟨by omega, i3⟩ : NOk (nlL L k 5).1)
 exact ⟨⟨j1.small, j1.1⟩, by unfold nlV; omega⟩
theorem nl_out {p cap J : Nat} {a0 : Option Addr} {l' : List NeedS} (hT : nlV L k = (l', J)) : avL l' = avL (nlV L k).1 ∧ [bxStr p a0 cap L J] = [bxStr p a0 cap L (nlV L k).2] := by rw [hT]; exact ⟨rfl, rfl⟩
end
def eh4 : List Int := [1, 2, 3, 0]
def fx4 : List Int := [0, 1, 5, 20]
def fd4 : List Int := [1, 2, 3, 5]
def mcL (L : List Int) (k : Nat) : Nat → List ByteArray
 | 0 => []
 | r + 1 => if nxt L (k + r) 3 = 0 then mcL L k r else mcL L k r ++ [keys5.getD r ByteArray.empty]
def mnL (L : List Int) (k : Nat) : Nat → List Mach
 | 0 => []
 | q + 1 => mnL L k q ++ [⟨mkKey q, pickV L (k + 8 * q) eh4, pickV L (k + 8 * q + 1) fx4, pickV L (k + 8 * q + 2) fd4, mcL L (k + 8 * q + 3) 5⟩]
def mnTail (L : List Int) (l : List Mach) (j : Nat) : List Mach × Nat :=
 if nxt L j 12 = 0 then
  if nxt L (j + 2) 3 = 0 then (l.set (nxt L (j + 1) l.length).toNat {l.getD (nxt L (j + 1) l.length).toNat default with key := someV L (j + 3) [⟨#[]⟩, ⟨#[109, 49]⟩, ⟨#[65]⟩], feeders := pickV L (j + 4) [(l.getD (nxt L (j + 1) l.length).toNat default).feeders, -1, 101]}, j + 5)
  else if nxt L (j + 2) 3 = 1 then (l.set (nxt L (j + 1) l.length).toNat {l.getD (nxt L (j + 1) l.length).toNat default with each := pickV L (j + 3) [-1, 10000000, 10000001], fixed := pickV L (j + 4) [(l.getD (nxt L (j + 1) l.length).toNat default).fixed, -1, 10000001]}, j + 5)
  else (l.set (nxt L (j + 1) l.length).toNat {l.getD (nxt L (j + 1) l.length).toNat default with can := (l.getD (nxt L (j + 1) l.length).toNat default).can ++ [someV L (j + 3) [⟨#[97]⟩, ⟨#[122, 122]⟩, ⟨#[]⟩]]}, j + 4)
 else (l, j + 1)
def mnM (L : List Int) (k : Nat) : Nat := (rng L k 1 3).toNat
def mnV (L : List Int) (k : Nat) : List Mach × Nat := mnTail L (mnL L (k + 1) (mnM L k)) (k + 1 + 8 * mnM L k)
def MhOk (x : Mach) : Prop := x.key.size ≤ 1000 ∧ x.can.length ≤ 6 ∧ ∀ y ∈ x.can, y.size ≤ 1000
section
variable {L : List Int} {q r j k m : Nat} {l : List Mach}
theorem mcL_ok : ∀ r, (mcL L k r).length ≤ r ∧ ∀ y ∈ mcL L k r, y.size ≤ 1000
 | 0 => ⟨Nat.le_refl _, fun x h => by cases h⟩
 | r + 1 => by
  obtain ⟨i1, i2⟩ := mcL_ok r
  rw [mcL]
  split
  ·exact ⟨by omega, i2⟩
  ·refine ⟨by simp; omega, fun x hx => ?_⟩
   rcases List.mem_append.1 hx with hx | hx
   ·exact i2 x hx
   ·simp at hx; subst hx; exact keys5_size r
theorem mkKey_size (q : Nat) : (mkKey q).size ≤ 1000 := by
 have := encode_small (49 + (q : Int))
 show (⟨#[109]⟩ ++ Utf8.encode (49 + (q : Int)) : ByteArray).size ≤ 1000
 rw [ByteArray.size_append]; have h1 : (⟨#[109]⟩ : ByteArray).size = 1 := rfl; omega
theorem mnL_len : ∀ q, (mnL L k q).length = q
 | 0 => rfl
 | q + 1 => by rw [mnL, List.length_append, mnL_len q]; rfl
theorem mnL_ok : ∀ q, ∀ x ∈ mnL L k q, MhOk x
 | 0 => fun x h => by cases h
 | q + 1 => fun x hx => by
  rw [mnL] at hx
  rcases List.mem_append.1 hx with hx | hx
  ·exact mnL_ok q x hx
  ·simp at hx; subst hx
   obtain ⟨i1, i2⟩ := mcL_ok (L := L) (k := k + 8 * q + 3) 5
   exact ⟨mkKey_size q, by show (mcL _ _ _).length ≤ 6; omega, i2⟩
theorem MhOk.getD (h : ∀ x ∈ l, MhOk x) (hm : m < l.length) : MhOk (l.getD m default) := by
 have := h _ (List.getElem_mem hm)
 simpa [hm] using this
theorem MhOk.small (hl : l.length ≤ 100) (h : ∀ x ∈ l, x.key.size ≤ 1000 ∧ x.can.length ≤ 7 ∧ ∀ y ∈ x.can, y.size ≤ 1000) : SmallM l := by
 have key : ∀ i, (l.getD i default).key.size ≤ 1000 ∧ (l.getD i default).can.length ≤ 7 ∧ ∀ y ∈ (l.getD i default).can, y.size ≤ 1000 := fun i => by
  by_cases hi : i < l.length
  ·have := h _ (List.getElem_mem hi)
   simpa [hi] using this
  ·have : l.getD i default = default := by simp [List.getD_eq_getElem?_getD, hi]
   rw [this]
   exact ⟨by decide, by decide, fun y hy => by cases hy⟩
 refine ⟨by omega, fun i => by have := (key i).1; omega, fun i => by have := (key i).2.1; omega, fun i j => ?_⟩
 by_cases hj : j < (l.getD i default).can.length
 ·have := (key i).2.2 _ (List.getElem_mem hj)
  rw [List.getD_eq_getElem?_getD, List.getElem?_eq_getElem hj]
  simp only [Option.getD_some]
  omega
 ·rw [List.getD_eq_getElem?_getD, List.getElem?_eq_none (by omega)]
  decide
theorem mnM_le : 1 ≤ mnM L k ∧ mnM L k ≤ 3 := by
 have h0 := rng_lo L k 1 3
 have h1 := rng_hi L k 1 3 (by omega)
 unfold mnM; omega
theorem setOk {l : List Mach} {m : Nat} {x : Mach} {P : Mach → Prop} (h : ∀ y ∈ l, P y) (hx : P x) : ∀ y ∈ l.set m x, P y := fun y hy => by
 rcases List.mem_or_eq_of_mem_set hy with h' | rfl
 ·exact h y h'
 ·exact hx
theorem mnTail_ok (h : ∀ x ∈ l, MhOk x) (hl : 0 < l.length) : (mnTail L l j).1.length = l.length ∧ (mnTail L l j).2 ≤ j + 5 ∧ ∀ x ∈ (mnTail L l j).1, x.key.size ≤ 1000 ∧ x.can.length ≤ 7 ∧ ∀ y ∈ x.can, y.size ≤ 1000 := by
 have b1 := nxt_lo L (j + 1) l.length
 have b2 := nxt_lt L (j + 1) l.length (by omega)
 have hx := MhOk.getD h (m := (nxt L (j + 1) l.length).toNat) (by omega)
 have h7 : ∀ x ∈ l, x.key.size ≤ 1000 ∧ x.can.length ≤ 7 ∧ ∀ y ∈ x.can, y.size ≤ 1000 := fun x hx => ⟨(h x hx).1, by have := (h x hx).2.1; omega, (h x hx).2.2⟩
 unfold mnTail
 split
 ·split
  ·exact ⟨List.length_set, Nat.le_refl _, setOk h7 ⟨someV_of (P := fun k => k.size ≤ 1000) (by decide) (by decide), Nat.le_trans hx.2.1 (by decide), hx.2.2⟩⟩
  ·split
   ·exact ⟨List.length_set, Nat.le_refl _, setOk h7 ⟨hx.1, Nat.le_trans hx.2.1 (by decide), hx.2.2⟩⟩
   ·refine ⟨List.length_set, by show j + 4 ≤ _; omega, setOk h7 ⟨hx.1, by have := hx.2.1; show (_ ++ [_]).length ≤ 7; rw [List.length_append, List.length_singleton]; omega, fun y hy => ?_⟩⟩
    rcases List.mem_append.1 hy with hy | hy
    ·exact hx.2.2 y hy
    ·rw [List.mem_singleton] at hy; subst hy; exact someV_of (P := fun k => k.size ≤ 1000) (by decide) (by decide)
 ·exact ⟨rfl, by show j + 1 ≤ _; omega, h7⟩
theorem mnV_ok : (SmallM (mnV L k).1 ∧ 0 < (mnV L k).1.length ∧ (mnV L k).1.length ≤ 100) ∧ (mnV L k).2 ≤ k + 30 := by
 have hM := mnM_le (L := L) (k := k)
 have hl := mnL_len (L := L) (k := k + 1) (mnM L k)
 obtain ⟨j1, j2, j3⟩ := mnTail_ok (L := L) (j := k + 1 + 8 * mnM L k) (mnL_ok (L := L) (k := k + 1) (mnM L k)) (by omega)
 have hn : (mnV L k).1.length = mnM L k := by unfold mnV; omega
 exact ⟨⟨MhOk.small (by omega) j3, by omega, by omega⟩, by unfold mnV; omega⟩
theorem mn_out {p cap J : Nat} {a0 : Option Addr} {l' : List Mach} (hT : mnV L k = (l', J)) : avL l' = avL (mnV L k).1 ∧ [bxStr p a0 cap L J] = [bxStr p a0 cap L (mnV L k).2] := by rw [hT]; exact ⟨rfl, rfl⟩
end
end
section
def AV.isV : AV → Bool
 | .v _ => true
 | _ => false
theorem flat_ofB {cs : List AV} (h : cs.all AV.isV = true) : FlatA cs := fun x hx => by
 have := List.all_eq_true.1 h x hx
 cases x <;> simp [AV.isV] at this
 exact ⟨_, rfl⟩
section
variable {P : Program} {s : St'}
theorem ResN.cellF {b t g j i k : Nat} {o' : Own'} {r : List AV} (hag : ∀ w, (isAgg t).run P w = .ok true w) (hsz : ∀ w, (sizeOf t).run P w = .ok k w) (hx : look s.sl b = some (.v (.pointer (some ⟨g, j, none⟩)))) (hi : s.hp[i]? = some (.box g o')) (hc : cutL o'.cs j k = some r) (hf : FlatA r) :
  ResN P s (.cell b t) (.agg r) := fun B a w hS hr => by
 obtain ⟨v, h1, h2⟩ := ResV.cellK hag hsz hx hi hc B a w hr
 refine ⟨v, h1, ?_⟩
 cases h2 with
 | agg cs us hl hr' => exact .agg _ _ hl fun j h => (hr' j h).flat (hf _ (List.getElem_mem h))
theorem ResN.rowT {α : Type} [Inhabited α] [Sxc α] {t i n : Nat} {u : Value} {xs : List α} {ty : TypeId} (h : look s.sl t = some (.v u)) (hi : s.hp[i]? = some (.row u n (Sxc.k α) (rowL xs) ty)) (hn : n = xs.length) (hf : FlatA (rowL xs)) : ResN P s (.tmp t) (avL xs) :=
 ResN.row h hi hf fun w Z u h => Rep.rowL hn h
theorem ResN.nilE {t sz : Nat} {F : Nat → AV} (h : look s.sl t = some (.v (.slice none 0 0))) : ResN P s (.tmp t) (.im 0 sz F) := fun B a w hS hr => ⟨_, rfl, by
 show Rep w (NewZ B w) _ (a.tmps.getD t undef)
 rw [(hr.slots t _ h).eq_v]; exact .nil _ _⟩
theorem flat_rowL {α : Type} [Inhabited α] [Sxc α] (h : ∀ (x : α) j, j < Sxc.k α → ∃ v, Sxc.cell x j = .v v) (xs : List α) : FlatA (rowL xs) := fun y hy => by
 simp only [rowL, List.mem_flatMap] at hy
 obtain ⟨x, _, hy⟩ := hy
 obtain ⟨j, hj, rfl⟩ := List.getElem_of_mem hy
 rw [tab_len] at hj
 obtain ⟨v, hv⟩ := h x j hj
 refine ⟨v, ?_⟩
 rw [← hv]
 have := tab_get (Sxc.k α) (Sxc.cell x) j
 have h2 : (tab (Sxc.k α) (Sxc.cell x))[j]? = some (Sxc.cell x j) := by rw [List.getElem?_eq_getElem (by rw [tab_len]; exact hj), tab_get]
 have h3 : j < (tab (Sxc.k α) (Sxc.cell x)).length := by rw [tab_len]; exact hj
 rw [List.getElem?_eq_getElem h3] at h2
 exact Option.some.inj h2
end
section
variable {P : Program} {B : Bs} {W : Nat → Prop} {s : St'} {o : Oper} {K : St' → Prop} {a : Act} {w : World}
theorem Le.freezeAt {t i m g : Nat} {o' : Own'} {f : Nat → AV} (ht : look s.sl t = some (.v (.pointer (some ⟨g, 0, none⟩)))) (hi : s.hp[i]? = some (.box g o')) (hl : 0 + m ≤ o'.cs.length) (hf : ∀ w Z u, Rep w Z (.at_ m fun j => o'.cs.getD (0 + j) .any) u → Rep w Z (.at_ m f) u) (hnew : True) (hB : B.Ok) :
  Le B s ⟨(t, .at_ m f) :: s.sl, s.hp.eraseIdx i, s.k⟩ := fun a w hr => by
 have hr' := hr.erase i
 refine hr'.over t ?_
 have hu : a.tmps.getD t undef = _ := (hr.slots t _ ht).eq_v
 rw [hu]
 refine hf _ _ _ (hr.repPtr hi hl (fun b hb => ⟨hb.1, fun p hp => hb.2.1 p ((List.eraseIdx_sublist s.hp i).subset hp), hb.2.2⟩) fun hl => ?_)
 exact hr.erased hB hi rfl
theorem apart_ne {hp : List Ent} (h : Apart hp) {i j g g' : Nat} (hi : (hp[i]?).bind Ent.blk = some g) (hj : (hp[j]?).bind Ent.blk = some g') (hij : i ≠ j) : g ≠ g' := fun e => by
 obtain ⟨p, hp1, hp2⟩ := Option.bind_eq_some_iff.1 hi
 obtain ⟨q, hq1, hq2⟩ := Option.bind_eq_some_iff.1 hj
 exact h.get hp1 hq1 hij hp2 (by rw [hq2, e])
theorem OpE.hap (h : Apart s.hp → OpE P B W s o K) : OpE P B W s o K := fun a w hr => h hr.nodup a w hr
theorem VC.hap {c : Code} {Q : Exit → St' → Prop} (h : Apart s.hp → VC P B c Q s) : VC P B c Q s := fun a w hr => h hr.nodup a w hr
theorem Wi.notD {ops : Array Oper} {i g : Nat} {js : List Nat} {X : Nat → Prop} (h : (js.all fun j => depB ops j i) = true) : ¬ Wi (fun j b => j ∈ js ∧ X b) ops i g := fun ⟨j, h1, h2, _⟩ => by
 rw [List.all_eq_true.1 h j h2] at h1; cases h1
theorem Wi.notN2 {ops : Array Oper} {i g m m2 : Nat} {X Y : Nat → Prop} (h : depB ops m i = true) (hY : ¬ Y g) : ¬ Wi (fun j b => (j = m ∧ X b) ∨ (j = m2 ∧ Y b)) ops i g := fun ⟨j, h1, h2⟩ => by
 rcases h2 with ⟨h2, _⟩ | ⟨_, h2⟩
 ·subst h2; rw [h] at h1; cases h1
 ·exact hY h2
theorem VA.to {V : Nat → Nat → Prop} {ops : Array Oper} {Q : Exit → St' → Prop} {n : Nat} {L L' : Array Bool} {s' : St'} (h : VA P B V ops Q n L' s') (hL : L = L') (hle : Le B s s') : VA P B V ops Q n L s := by
 subst hL
 exact VA.le _ hle h
theorem OpV.makeFuncF1 {F : FuncId} {c : Operand} {x : AV} (ho : o.op = .makeFunc (.func F) #[] #[c]) (hc : evO s c = some x) : OpV P B W s o (.fn F [x]) := fun a w hr => by
 refine ⟨.func (.func F) #[] #[a.eval c], fun w' _ => by simp [execOp, ho, Instr.makeFunc], .fn _ _ _ rfl fun j hj => ?_⟩
 simp at hj; subst hj
 exact hr.ev hc
theorem Rep.fn0 {w : World} {Z : Nat → Prop} {F : FuncId} {u : Value} (h : Rep w Z (.v (.func (.func F) #[] #[])) u) : Rep w Z (.fn F []) u := by
 rw [h.eq_v]; exact .fn F [] #[] rfl fun j hj => by simp at hj
end
end
section
abbrev xM (l : List MR) (m : Nat) : MR := l.getD m default
theorem Le.second {B : Bs} {s : St'} {hp : List Ent} {a e : Ent} (h : s.hp = a :: hp ++ [e]) : Le B s ⟨s.sl, a :: e :: hp, s.k⟩ := Le.perm (by rw [h]; exact List.Perm.cons a (List.perm_append_comm (l₁ := hp) (l₂ := [e])))
theorem famAt2 {e0 e : Ent} {l : List MR} {m : Nat} (h : m < l.length) : (e0 :: e :: l.map rowM)[m + 2]? = some (rowM (l.getD m default)) := by simp [h]
theorem famAt2' {e0 e : Ent} {L : List Ent} {l : List MR} {q : Nat} (h : l.map rowM = L) (hq : q < l.length) : (e0 :: e :: L)[q + 2]? = some (rowM (l.getD q default)) := by subst h; exact famAt2 hq
theorem mr_upd {a b : MR} {k : Nat} (h0 : k = 0 ∨ a.key = b.key) (h1 : k = 1 ∨ a.each = b.each) (h2 : k = 2 ∨ a.fixed = b.fixed) (h3 : k = 3 ∨ a.feeders = b.feeders) (h4 : k = 4 ∨ a.val = b.val) : ∀ i, i < 5 → i ≠ k → Sxc.cell a i = Sxc.cell b i := fun i hi hn => by
 match i, hi with
 | 0, _ => show avS a.key = avS b.key; rw [h0.resolve_left fun h => hn h.symm]
 | 1, _ => show avI a.each = avI b.each; rw [h1.resolve_left fun h => hn h.symm]
 | 2, _ => show avI a.fixed = avI b.fixed; rw [h2.resolve_left fun h => hn h.symm]
 | 3, _ => show avI a.feeders = avI b.feeders; rw [h3.resolve_left fun h => hn h.symm]
 | 4, _ => show AV.v a.val = AV.v b.val; rw [h4.resolve_left fun h => hn h.symm]
theorem Le.famX {B : Bs} {s : St'} {t n : Nat} {u : Value} {l : List MR} {e0 : Ent} (hB : B.Ok) (ht : look s.sl t = some (.v u)) (hn : n = l.length) (h0 : s.hp[0]? = some e0)
  (hu : (∃ ty, s.hp[1]? = some (.row u n 5 (rowL l) ty)) ∨ ∃ g cap ty tot, u = .slice (some ⟨g, 0, none⟩) n cap ∧ n ≤ cap ∧ cap ≤ maxLen ∧ s.hp[1]? = some (.box g ⟨rowL l, ty, tot⟩))
  (hrows : ∀ q, q < l.length → s.hp[q + 2]? = some (rowM (l.getD q default))) : Le B s ⟨(t, avL (l.map toM)) :: s.sl, [e0], s.k⟩ := fun a w hr => by
 obtain ⟨tl, htl⟩ : ∃ tl, s.hp = e0 :: tl := by
  cases h : s.hp with
  | nil => rw [h] at h0; simp at h0
  | cons x r => rw [h] at h0; simp at h0; exact ⟨r, by rw [h0]⟩
 have hap := hr.nodup
 unfold Apart at hap
 rw [htl, List.pairwise_cons] at hap
 have hin : ∀ {i : Nat} {e : Ent}, s.hp[i + 1]? = some e → e ∈ tl := fun {i e} h => by
  rw [htl] at h; simp at h; exact List.mem_of_getElem? h
 have hold : ∀ e ∈ tl, ∀ g, e.blk = some g → g < w.heap.size → Zn B [e0] w g := fun e he g hg hl => ⟨hl, fun p hp hpb => by
  rw [List.mem_singleton] at hp; subst hp
  exact hap.1 e he g hpb hg, fun h0' => by
  have h1 := hr.own e (by rw [htl]; exact List.mem_cons_of_mem _ he) g hg
  exact ⟨.inr (h1.2 h0'), fun hs => h1.1 (hB.str g hs).1⟩⟩
 have hZ : ∀ b, Zn B s.hp w b → Zn B [e0] w b := fun b hb => ⟨hb.1, fun p hp => hb.2.1 p (by rw [List.mem_singleton] at hp; subst hp; rw [htl]; exact List.mem_cons_self ..), hb.2.2⟩
 have hr' : R B ⟨s.sl, [e0], s.k⟩ a w := hr.drop (fun _ _ h => h) (by rw [htl]; exact List.Sublist.cons_cons _ (List.nil_sublist _))
 refine hr'.over t ?_
 rw [(hr.slots t _ ht).eq_v]
 refine fam_avL hn ?_ fun q hq => ?_
 ·rcases hu with ⟨ty, hi⟩ | ⟨g, cap, ty, tot, rfl, h1, h2, hi⟩
  ·exact hr.repRow hi hZ fun g hg hl => hold _ (hin hi) g hg hl
  ·have := hr.repBox (off := 0) (n := n) (sz := 5) (cap := cap) hi (by show 0 + n * 5 ≤ (rowL l).length; rw [rowL_len, hn]; show 0 + l.length * 5 ≤ l.length * 5; omega) h1 h2 hZ (hold _ (hin hi) g rfl)
   exact this.im_congr fun j hj => by rw [Nat.zero_add]
 ·have hi := hrows q hq
  exact Rep.strs rfl (hr.repRow hi hZ fun g hg hl => hold _ (hin hi) g hg hl)
section
variable {L : List Int} {j m : Nat} {l : List MR}
theorem toM_get (h : m < l.length) : (l.map toM).getD m default = toM (l.getD m default) := by simp [h]
theorem mnT_1 (h : nxt L j 12 ≠ 0) : mnTail L (l.map toM) j = (l.map toM, j + 1) := if_neg h
theorem mnT_2 {r1 : ByteArray} {r2 : Int} (h : nxt L j 12 = 0) (hm : nxt L (j + 1) l.length = (m : Int)) (hl : m < l.length) (h2 : nxt L (j + 2) 3 = 0) (e1 : someV L (j + 3) [⟨#[]⟩, ⟨#[109, 49]⟩, ⟨#[65]⟩] = r1) (e2 : pickV L (j + 4) [(xM l m).feeders, -1, 101] = r2) :
  mnTail L (l.map toM) j = (((l.set m ({l.getD m default with key := r1} : MR)).set m ({l.getD m default with key := r1, feeders := r2} : MR)).map toM, j + 5) := by
 rw [mnTail, if_pos h, if_pos h2, List.length_map, hm, Int.toNat_natCast, toM_get hl, e1, show (toM (l.getD m default)).feeders = (xM l m).feeders from rfl, e2]
 simp only [List.set_set, List.map_set]; rfl
theorem mnT_3 {r1 r2 : Int} (h : nxt L j 12 = 0) (hm : nxt L (j + 1) l.length = (m : Int)) (hl : m < l.length) (h2 : nxt L (j + 2) 3 ≠ 0) (h3 : nxt L (j + 2) 3 = 1) (e1 : pickV L (j + 3) [-1, 10000000, 10000001] = r1) (e2 : pickV L (j + 4) [(xM l m).fixed, -1, 10000001] = r2) :
  mnTail L (l.map toM) j = (((l.set m ({l.getD m default with each := r1} : MR)).set m ({l.getD m default with each := r1, fixed := r2} : MR)).map toM, j + 5) := by
 rw [mnTail, if_pos h, if_neg h2, if_pos h3, List.length_map, hm, Int.toNat_natCast, toM_get hl, e1, show (toM (l.getD m default)).fixed = (xM l m).fixed from rfl, e2]
 simp only [List.set_set, List.map_set]; rfl
theorem mnT_4 {r1 : ByteArray} {b3 : Option Addr} {c3 : Nat} (h : nxt L j 12 = 0) (hm : nxt L (j + 1) l.length = (m : Int)) (hl : m < l.length) (h2 : nxt L (j + 2) 3 ≠ 0) (h3 : nxt L (j + 2) 3 ≠ 1) (e1 : someV L (j + 3) [⟨#[97]⟩, ⟨#[122, 122]⟩, ⟨#[]⟩] = r1) :
  mnTail L (l.map toM) j = ((l.set m ({l.getD m default with b := b3, c := c3, can := (l.getD m default).can ++ [r1]} : MR)).map toM, j + 4) := by
 rw [mnTail, if_pos h, if_neg h2, if_neg h3, List.length_map, hm, Int.toNat_natCast, toM_get hl, e1]
 simp only [List.map_set]; rfl
end
set_option maxHeartbeats 40000000 in
theorem machines_E {p0 cap : Nat} {a0 : Option Addr} {p k : Nat} {L : List Int} (hk : k ≤ 800000) (hp0 : p0 ≤ p) :
    SpecHX (TXI a0 L p0) Tryz.prog 23 [sp p] [bxStr p a0 cap L k] (fun y hp' => y = avL (mnV L k).1 ∧ hp' = [bxStr p a0 cap L (mnV L k).2]) := by
  have e4 : eh4.length = 4 := rfl
  have e4f : fx4.length = 4 := rfl
  have e4d : fd4.length = 4 := rfl
  have hr0 := rng_lo L k 1 3
  have hr1 := rng_hi L k 1 3 (by omega)
  obtain ⟨n, hN⟩ : ∃ N, mnM L k = N := ⟨_, rfl⟩
  have hNb := mnM_le (L := L) (k := k)
  rw [hN] at hNb
  have hNr : rng L k 1 3 = (n : Int) := by unfold mnM at hN; omega
  refine SpecHX.of_VC txi_stab Tryz.func23 rfl Tryz.ntmps23 (Nle rfl) fun w A hB hGX => ?_
  refine VC.sr ?_
  refine VO.mb ?_
  refine VO.nil ?_
  refine VC.sr ?_
  refine VO.mb ?_
  refine VO.nil ?_
  refine VC.seq ?_
  refine VC.sr ?_
  refine VO.mw ?_
  refine VO.op rfl (OpE.callHX (rest := []) txi_stab hGX rfl hB rfl Tryz.call58 rfl rfl (range_X (by omega) (by omega) (by omega) (by omega) hp0) (List.Perm.refl _) (fun _ _ => trivial) ?_)
  rintro _ _ ⟨rfl, rfl⟩
  refine VO.le _ (Le.recast (t := 10) (y := avI (n : Int)) rfl (fun w Z u h => by rw [← hNr]; exact h)) ?_
  refine VO.mw ?_
  refine VO.nil ?_
  refine VC.block ?_
  refine VC.le _ (Le.nilRow 5 84) ?_
  refine VC.loopK [] trivial ({t : Value × List MR × Nat // t.2.2 ≤ n ∧ t.2.1.map toM = mnL L (k + 1) t.2.2}) (fun (iZ : {t : Value × List MR × Nat // t.2.2 ≤ n ∧ t.2.1.map toM = mnL L (k + 1) t.2.2}) => match iZ with | ⟨⟨uo, l, q⟩, hq, hlM⟩ => [(0, sp p), (3, .v uo), (10, avI (n : Int)), (11, avI (q : Int))]) (fun (iZ : {t : Value × List MR × Nat // t.2.2 ≤ n ∧ t.2.1.map toM = mnL L (k + 1) t.2.2}) => match iZ with | ⟨⟨uo, l, q⟩, hq, hlM⟩ => (bxStr p a0 cap L (k + 1 + 8 * q) :: .row uo l.length 5 (rowL l) 84 :: l.map rowM)) (fun (iZ : {t : Value × List MR × Nat // t.2.2 ≤ n ∧ t.2.1.map toM = mnL L (k + 1) t.2.2}) => match iZ with | ⟨⟨uo, l, q⟩, hq, hlM⟩ => 0) (fun (iZ : {t : Value × List MR × Nat // t.2.2 ≤ n ∧ t.2.1.map toM = mnL L (k + 1) t.2.2}) => match iZ with | ⟨⟨uo, l, q⟩, hq, hlM⟩ => n - q) ⟨(.slice none 0 0, [], 0), Nat.zero_le _, rfl⟩ (Le.mkP hB ⟨rfl, rfl, rfl, rfl, trivial⟩ (List.Sublist.refl _) (List.Perm.refl _) (Nat.le_refl _)) ?_
  rintro ⟨⟨uo, l, q⟩, hq, hlM⟩
  show VC _ _ _ _ ⟨[(0, sp p), (3, .v uo), (10, avI (n : Int)), (11, avI (q : Int))] ++ [], (bxStr p a0 cap L (k + 1 + 8 * q) :: .row uo l.length 5 (rowL l) 84 :: l.map rowM), 0⟩
  simp only at hq hlM
  have hl : l.length = q := by { have := congrArg List.length hlM; rw [List.length_map, mnL_len] at this; exact this }
  refine VC.sr ?_
  refine VO.vv (OpV.lss rfl rfl rfl) ?_
  refine VO.nil ?_
  refine VC.seq ?_
  refine VC.cond rfl (fun aH1b => ?_) (fun aH1b => ?_)
  · have aH1 := aH1b
    try simp only [qq] at aH1
    refine VC.skip ?_
    refine VC.seq ?_
    refine VC.block ?_
    refine VC.sr ?_
    refine VO.mw ?_
    refine VO.mb ?_
    refine VO.nil ?_
    refine VC.seq ?_
    obtain ⟨r21, e21⟩ : ∃ r, pickV L (k + 1 + 8 * q) eh4 = r := ⟨_, rfl⟩
    obtain ⟨r24, e24⟩ : ∃ r, pickV L (k + 1 + 8 * q + 1) fx4 = r := ⟨_, rfl⟩
    obtain ⟨r27, e27⟩ : ∃ r, pickV L (k + 1 + 8 * q + 2) fd4 = r := ⟨_, rfl⟩
    refine VC.region ?_
    refine VO.mw ?_
    refine VO.vv (OpV.add rfl rfl rfl (by unfold fits; omega)) ?_
    refine VO.vv (OpV.conv rfl Tryz.underlying3 Tryz.underlying21 rfl (IntWalk.i32_in _ (by omega))) ?_
    refine VO.vv (OpV.convStr rfl Tryz.underlying21 Tryz.underlying9 rfl) ?_
    refine VO.vv (OpV.sadd rfl rfl rfl (by have := encode_small (49 + (q : Int)); have h1 : (⟨#[109]⟩ : ByteArray).size = 1 := rfl; omega)) ?_
    refine VO.mw ?_
    refine VO.op rfl (bI rfl hB rfl (by decide) rfl rfl ?_)
    refine VO.le _ (Le.lI (t := 20) (xs := eh4) rfl rfl) ?_
    refine VO.op rfl (OpE.callHX (rest := _ :: _) txi_stab hGX rfl hB rfl Tryz.call77 rfl rfl (pick_E (xs := eh4) (by omega) (by omega) hp0) (List.Perm.refl _) (fun _ _ => trivial) ?_)
    rintro _ _ ⟨rfl, rfl⟩
    refine VO.le _ (Le.recast (t := 21) (y := avI r21) rfl (fun w Z u h => by rw [← e21]; exact h)) ?_
    refine VO.mw ?_
    refine VO.op rfl (bI rfl hB rfl (by decide) rfl rfl ?_)
    refine VO.le _ (Le.lI (t := 23) (xs := fx4) rfl rfl) ?_
    refine VO.op rfl (OpE.callHX (rest := _ :: _) txi_stab hGX rfl hB rfl Tryz.call77 rfl rfl (pick_E (xs := fx4) (by omega) (by omega) hp0) (List.Perm.refl _) (fun _ _ => trivial) ?_)
    rintro _ _ ⟨rfl, rfl⟩
    refine VO.le _ (Le.recast (t := 24) (y := avI r24) rfl (fun w Z u h => by rw [← e24]; exact h)) ?_
    refine VO.mw ?_
    refine VO.op rfl (bI rfl hB rfl (by decide) rfl rfl ?_)
    refine VO.le _ (Le.lI (t := 26) (xs := fd4) rfl rfl) ?_
    refine VO.op rfl (OpE.callHX (rest := _ :: _) txi_stab hGX rfl hB rfl Tryz.call77 rfl rfl (pick_E (xs := fd4) (by omega) (by omega) hp0) (List.Perm.refl _) (fun _ _ => trivial) ?_)
    rintro _ _ ⟨rfl, rfl⟩
    refine VO.le _ (Le.recast (t := 27) (y := avI r27) rfl (fun w Z u h => by rw [← e27]; exact h)) ?_
    refine VO.vv (OpV.build (pls := #[(0, 1), (1, 1), (2, 1), (3, 1), (4, 1)]) rfl Tryz.zeroValue84 Tryz.underlying84 (fun w => by kernel_rfl) rfl rfl) ?_
    refine VO.op rfl (OpE.alloc rfl hB rfl Tryz.zeroValue84 rfl ?_)
    intro g5
    refine VO.le _ (Le.second rfl) ?_
    refine VO.op rfl (OpE.store (i := 1) rfl hB rfl Tryz.sizeOf84 rfl rfl rfl rfl rfl rfl (Nle rfl) trivial ?_)
    refine VO.nil ?_
    refine VC.seq ?_
    refine VC.sr ?_
    refine VO.op rfl (bS rfl hB rfl (by decide) rfl rfl ?_)
    refine VO.le _ (Le.lS (t := 29) (xs := keys5) rfl rfl) ?_
    refine VO.vv (OpV.len_im rfl Tryz.underlying82 rfl) ?_
    refine VO.mw ?_
    refine VO.nil ?_
    refine VC.block ?_
    refine VC.le _ (Le.nilRow 1 9) ?_
    refine VC.le _ (Le.second rfl) ?_
    refine VC.loopK [] trivial ({t : (Option Addr × Nat) × List ByteArray × Nat // t.2.2 ≤ 5 ∧ t.2.1 = mcL L (k + 1 + 8 * q + 3) t.2.2}) (fun (iZ : {t : (Option Addr × Nat) × List ByteArray × Nat // t.2.2 ≤ 5 ∧ t.2.1 = mcL L (k + 1 + 8 * q + 3) t.2.2}) => match iZ with | ⟨⟨⟨b, c⟩, can, r⟩, hr, hcan⟩ => [(0, sp p), (3, .v uo), (5, .v (.pointer (some ⟨g5, 0, none⟩))), (10, avI (n : Int)), (11, avI (q : Int)), (29, avStrs keys5), (30, avI 5), (31, avI (r : Int))]) (fun (iZ : {t : (Option Addr × Nat) × List ByteArray × Nat // t.2.2 ≤ 5 ∧ t.2.1 = mcL L (k + 1 + 8 * q + 3) t.2.2}) => match iZ with | ⟨⟨⟨b, c⟩, can, r⟩, hr, hcan⟩ => (bxStr p a0 cap L (k + 1 + 8 * q + 3 + r) :: .row (.slice b can.length c) can.length 1 (strsL can) 9 :: .box g5 ⟨[avS (mkKey q), avI r21, avI r24, avI r27, .v (.slice b can.length c)], 84, 5⟩ :: .row uo l.length 5 (rowL l) 84 :: l.map rowM)) (fun (iZ : {t : (Option Addr × Nat) × List ByteArray × Nat // t.2.2 ≤ 5 ∧ t.2.1 = mcL L (k + 1 + 8 * q + 3) t.2.2}) => match iZ with | ⟨⟨⟨b, c⟩, can, r⟩, hr, hcan⟩ => 0) (fun (iZ : {t : (Option Addr × Nat) × List ByteArray × Nat // t.2.2 ≤ 5 ∧ t.2.1 = mcL L (k + 1 + 8 * q + 3) t.2.2}) => match iZ with | ⟨⟨⟨b, c⟩, can, r⟩, hr, hcan⟩ => 5 - r) ⟨((none, 0), [], 0), by decide, rfl⟩ (Le.mkP hB ⟨rfl, rfl, rfl, rfl, rfl, rfl, rfl, rfl, trivial⟩ (List.Sublist.refl _) (List.Perm.refl _) (Nat.le_refl _)) ?_
    rintro ⟨⟨⟨b, c⟩, can, r⟩, hr, hcan⟩
    show VC _ _ _ _ ⟨[(0, sp p), (3, .v uo), (5, .v (.pointer (some ⟨g5, 0, none⟩))), (10, avI (n : Int)), (11, avI (q : Int)), (29, avStrs keys5), (30, avI 5), (31, avI (r : Int))] ++ [], (bxStr p a0 cap L (k + 1 + 8 * q + 3 + r) :: .row (.slice b can.length c) can.length 1 (strsL can) 9 :: .box g5 ⟨[avS (mkKey q), avI r21, avI r24, avI r27, .v (.slice b can.length c)], 84, 5⟩ :: .row uo l.length 5 (rowL l) 84 :: l.map rowM), 0⟩
    simp only at hr hcan
    have hcl := (mcL_ok (L := L) (k := k + 1 + 8 * q + 3) r).1
    rw [← hcan] at hcl
    refine VC.sr ?_
    refine VO.vv (OpV.lss rfl rfl rfl) ?_
    refine VO.nil ?_
    refine VC.seq ?_
    refine VC.cond rfl (fun aH2b => ?_) (fun aH2b => ?_)
    · have aH2 := aH2b
      try simp only [qq] at aH2
      refine VC.skip ?_
      refine VC.seq ?_
      refine VC.block ?_
      refine VC.sr ?_
      refine VO.vv (OpV.indexAddr_1 rfl Tryz.underlying82 Tryz.sizeOf9 rfl rfl rfl (by show _ < 5; omega)) ?_
      refine VO.vv (OpV.load_at rfl hB OutW.no Tryz.isAgg9 rfl rfl) ?_
      refine VO.mb ?_
      refine VO.nil ?_
      refine VC.sr ?_
      refine VO.mw ?_
      refine VO.op rfl (OpE.callHX (rest := _ :: _) txi_stab hGX rfl hB rfl Tryz.call76 rfl rfl (flip_X (by omega) (by omega) hp0) (List.Perm.refl _) (fun _ _ => trivial) ?_)
      rintro _ _ ⟨rfl, rfl⟩
      refine VO.vv (OpV.not rfl rfl) ?_
      refine VO.nil ?_
      refine VC.cond rfl (fun h2b => ?_) (fun h2b => ?_)
      · have h2 := h2b
        try simp only [qq] at h2
        refine VC.region ?_
        refine VO.vv (OpV.fieldAddrO 4 rfl Tryz.underlying84 rfl rfl Tryz.sizeOf82 rfl) ?_
        refine VO.vv (OpV.load_own (i := 2) rfl hB Tryz.isAgg82 rfl rfl rfl (fun h => h)) ?_
        refine VO.mw ?_
        refine VO.op rfl (bS rfl hB rfl (by decide) rfl rfl ?_)
        refine VO.op rfl (OpE.append1S (i := 1) rfl hB rfl Tryz.underlying82 (infoOf Tryz.t9 1 (by kernel_rfl) rfl rfl) rfl (by decide) (by decide) rfl rfl rfl rfl (strsL_snoc _ _) (by omega) (fun _ _ => trivial) ?_)
        intro b2 c2
        refine VO.vv (OpV.fieldAddrO 4 rfl Tryz.underlying84 rfl rfl Tryz.sizeOf82 rfl) ?_
        refine VO.op rfl (OpE.store (i := 2) rfl hB rfl Tryz.sizeOf82 rfl rfl rfl rfl rfl rfl (Nle rfl) trivial ?_)
        refine VO.nil ?_
        refine VC.region ?_
        refine VO.vv (OpV.add rfl rfl rfl (by unfold fits; omega)) ?_
        refine VO.mw ?_
        refine VO.nil ?_
        exact Exists.intro (⟨((b2, c2), can ++ [keys5.getD r ByteArray.empty], r + 1), by show r + 1 ≤ 5; omega, by show can ++ _ = mcL L (k + 1 + 8 * q + 3) (r + 1); rw [mcL, if_neg (by omega), ← hcan]⟩) (And.intro (Le.mkP hB ⟨rfl, rfl, rfl, rfl, rfl, rfl, rfl, rfl, trivial⟩ (List.Sublist.refl _) (by dsimp only; first | exact List.Perm.refl _ | (rw [List.length_append]; exact List.Perm.refl _)) (Nat.le_refl _)) (by first | omega | (show _ < _; omega) | (simp only []; omega)))
      · have h2 := h2b
        try simp only [qq] at h2
        refine VC.skip ?_
        refine VC.region ?_
        refine VO.vv (OpV.add rfl rfl rfl (by unfold fits; omega)) ?_
        refine VO.mw ?_
        refine VO.nil ?_
        exact Exists.intro (⟨((b, c), can, r + 1), by show r + 1 ≤ 5; omega, by show can = mcL L (k + 1 + 8 * q + 3) (r + 1); rw [mcL, if_pos (by omega)]; exact hcan⟩) (And.intro (Le.mkP hB ⟨rfl, rfl, rfl, rfl, rfl, rfl, rfl, rfl, trivial⟩ (List.Sublist.refl _) (by dsimp only; first | exact List.Perm.refl _ | (rw [List.length_append]; exact List.Perm.refl _)) (Nat.le_refl _)) (by first | omega | (show _ < _; omega) | (simp only []; omega)))
    · have aH2 := aH2b
      try simp only [qq] at aH2
      obtain rfl : r = 5 := by omega
      refine VC.exit ?_
      refine VC.region ?_
      refine VO.mw ?_
      refine VO.vv (OpV.loadK_own (i := 2) rfl hB Tryz.isAgg84 Tryz.sizeOf84 rfl rfl rfl (fun h => h)) ?_
      refine VO.op rfl (OpE.buildSlice (zc := #[.string ⟨#[]⟩, .int .i64 0, .int .i64 0, .int .i64 0, .slice none 0 0]) rfl hB rfl Tryz.underlying66 Tryz.sizeOf84 Tryz.zeroValue84 (by decide) (by decide) (by kernel_rfl) rfl rfl ?_)
      refine VO.op rfl (OpE.append1 (i := 3) rfl hB rfl Tryz.underlying66 (infoOf Tryz.t84 5 (by kernel_rfl) rfl rfl) rfl (by decide) (by decide) rfl rfl rfl rfl (rowL_snoc l (⟨mkKey q, r21, r24, r27, b, c, can⟩ : MR)) (by omega) (fun _ _ => trivial) ?_)
      intro uo2
      refine VO.mb ?_
      refine VO.nil ?_
      refine VC.region ?_
      refine VO.vv (OpV.add rfl rfl rfl (by unfold fits; omega)) ?_
      refine VO.mw ?_
      refine VO.nil ?_
      exact Exists.intro (⟨(uo2, l ++ [⟨mkKey q, r21, r24, r27, b, c, can⟩], q + 1), by show q + 1 ≤ n; omega, by show (l ++ [_]).map toM = mnL L (k + 1) (q + 1); rw [List.map_append, hlM, mnL, e21, e24, e27, ← hcan]; rfl⟩) (And.intro (Le.mkP hB ⟨rfl, rfl, rfl, rfl, trivial⟩ (hp1 := bxStr p a0 cap L (k + 1 + 8 * q + 3 + 5) :: rowM ⟨mkKey q, r21, r24, r27, b, c, can⟩ :: .row uo2 (l.length + 1) 5 (rowL (l ++ [⟨mkKey q, r21, r24, r27, b, c, can⟩])) 84 :: l.map rowM) (List.Sublist.cons_cons _ (List.Sublist.cons_cons _ (List.Sublist.cons _ (List.Sublist.refl _)))) (by dsimp only; rw [List.length_append, show k + 1 + 8 * (q + 1) = k + 1 + 8 * q + 3 + 5 by omega]; exact List.Perm.cons _ permM) (Nat.le_refl _)) (by first | omega | (show _ < _; omega) | (simp only []; omega)))
  · have aH1 := aH1b
    try simp only [qq] at aH1
    obtain rfl : q = n := by omega
    obtain ⟨j, hj⟩ : ∃ j, k + 1 + 8 * q = j := ⟨_, rfl⟩
    rw [hj]
    have hV : mnV L k = mnTail L (l.map toM) j := by unfold mnV; rw [hN, hlM, hj]
    refine VC.exit ?_
    refine VC.seq ?_
    refine VC.sr ?_
    refine VO.mw ?_
    refine VO.op rfl (OpE.callHX (rest := _ :: _) txi_stab hGX rfl hB rfl Tryz.call76 rfl rfl (flip_X (by omega) (by omega) hp0) (List.Perm.refl _) (fun _ _ => trivial) ?_)
    rintro _ _ ⟨rfl, rfl⟩
    refine VO.nil ?_
    refine VC.cond rfl (fun aH3b => ?_) (fun aH3b => ?_)
    · have aH3 := aH3b
      try simp only [qq] at aH3
      refine VC.seq ?_
      refine VC.asBox (i := 1) rfl (by omega) (fun g capL hu hcap hmx => ?_)
      subst hu
      refine VC.region ?_
      refine VO.mw ?_
      refine VO.mw ?_
      refine VO.mw ?_
      refine VO.vv (OpV.len_v rfl Tryz.underlying66 rfl) ?_
      refine VO.op rfl (OpE.callHX (rest := _ :: _) txi_stab hGX rfl hB rfl Tryz.call78 rfl rfl (next_X hp0 (by omega) (by omega)) (List.Perm.refl _) (fun _ _ => trivial) ?_)
      rintro _ _ ⟨rfl, rfl⟩
      have hx1 := nxt_lo L (j + 1) l.length
      have hx2 := nxt_lt L (j + 1) l.length (by omega)
      obtain ⟨m, hi⟩ : ∃ i : Nat, nxt L (j + 1) l.length = i := ⟨(nxt L (j + 1) l.length).toNat, by omega⟩
      have hil : m < l.length := by omega
      refine VO.le _ (Le.recast (t := 56) (y := avI (m : Int)) rfl (fun w Z u h => by rw [← hi]; exact h)) ?_
      refine VO.vv (OpV.indexAddr_q rfl Tryz.underlying66 Tryz.sizeOf84 rfl rfl rfl (by omega)) ?_
      refine VO.mb ?_
      refine VO.nil ?_
      refine VC.sr ?_
      refine VO.mw ?_
      refine VO.op rfl (OpE.callHX (rest := _ :: _) txi_stab hGX rfl hB rfl Tryz.call78 rfl rfl (next_X hp0 (by omega) (by omega)) (List.Perm.refl _) (fun _ _ => trivial) ?_)
      rintro _ _ ⟨rfl, rfl⟩
      refine VO.nil ?_
      refine VC.block ?_
      refine VC.sr ?_
      refine VO.vv (OpV.eql rfl rfl rfl) ?_
      refine VO.mb ?_
      refine VO.nil ?_
      refine VC.cond rfl (fun aH4b => ?_) (fun aH4b => ?_)
      · have aH4 := aH4b
        try simp only [qq] at aH4
        refine VC.hap (fun hap => ?_)
        have nrp := apart_ne hap (i := 1) (j := 0) rfl rfl (by decide)
        obtain ⟨r78, e78⟩ : ∃ r, someV L (j + 3) [⟨#[]⟩, ⟨#[109, 49]⟩, ⟨#[65]⟩] = r := ⟨_, rfl⟩
        obtain ⟨r85, e85⟩ : ∃ r, pickV L (j + 4) [(xM l m).feeders, -1, 101] = r := ⟨_, rfl⟩
        refine VC.draw (fun jj b => (jj ∈ [14, 17] ∧ b = g) ∨ (jj ∈ [4, 11] ∧ b = p)) hB (by kernel_rfl) ?_
        refine VA.tk (i := 0) rfl (OpV.move (.inl rfl) rfl) ?_
        refine VA.tk (i := 1) rfl (OpV.move (.inl rfl) rfl) ?_
        refine VA.tk (i := 2) rfl (OpV.move (.inl rfl) rfl) ?_
        refine VA.tk (i := 5) rfl (OpV.move (.inl rfl) rfl) ?_
        refine VA.tk (i := 6) rfl (OpV.move (.inl rfl) rfl) ?_
        refine VA.tk (i := 7) rfl (OpV.nilCheck rfl rfl) ?_
        refine VA.tk (i := 8) rfl (OpV.fieldAddrO 3 rfl Tryz.underlying84 rfl rfl Tryz.sizeOf3 rfl) ?_
        refine VA.tk (i := 9) rfl (OpV.load_own (i := 1) rfl hB Tryz.isAgg3 rfl rfl (rowL_at rfl (by omega) (by decide)) (Wi.notSS (.inl (by kernel_rfl)) nrp)) ?_
        refine VA.all (rs := [3, 10]) (by kernel_rfl) (by decide) ?_
        refine ⟨⟨_, rfl, .inl rfl, ?_⟩, ⟨_, rfl, .inl rfl, ?_⟩, trivial⟩
        ·
          refine bS rfl hB rfl (by decide) rfl rfl ?_
          refine VA.le _ (Le.lS (t := 77) (xs := [⟨#[]⟩, ⟨#[109, 49]⟩, ⟨#[65]⟩]) rfl rfl) ?_
          refine VA.all (rs := [4, 10]) (by kernel_rfl) (by decide) ?_
          refine ⟨⟨_, rfl, .inl rfl, ?_⟩, ⟨_, rfl, .inl rfl, ?_⟩, trivial⟩
          ·
            refine OpE.callHX (rest := _ :: _) txi_stab hGX rfl hB rfl Tryz.call79 rfl rfl (some_X (xs := [⟨#[]⟩, ⟨#[109, 49]⟩, ⟨#[65]⟩]) (by omega) (by simp) hp0) (List.Perm.refl _) (fun b h => .inr ⟨by decide, blkStr h⟩) ?_
            rintro _ _ ⟨rfl, rfl⟩
            refine VA.le _ (Le.recast (t := 78) (y := avS r78) rfl (fun w Z u h => by rw [← e78]; exact h)) ?_
            refine VA.all (rs := [10]) (by kernel_rfl) (by decide) ?_
            refine ⟨⟨_, rfl, .inl rfl, ?_⟩, trivial⟩
            refine bI rfl hB rfl (by decide) rfl rfl ?_
            refine VA.le _ (Le.lI (t := 84) (xs := [(xM l m).feeders, -1, 101]) rfl rfl) ?_
            refine VA.all (rs := [11]) (by kernel_rfl) (by decide) ?_
            refine ⟨⟨_, rfl, .inl rfl, ?_⟩, trivial⟩
            refine OpE.callHX (rest := _ :: _) txi_stab hGX rfl hB rfl Tryz.call77 rfl rfl (pick_E (xs := [(xM l m).feeders, -1, 101]) (by omega) (by simp) hp0) (List.Perm.refl _) (fun b h => .inr ⟨by decide, blkStr h⟩) ?_
            rintro _ _ ⟨rfl, rfl⟩
            refine VA.le _ (Le.recast (t := 85) (y := avI r85) rfl (fun w Z u h => by rw [← e85]; exact h)) ?_
            refine VA.tk (i := 12) rfl (OpV.nilCheck rfl rfl) ?_
            refine VA.tk (i := 13) rfl (OpV.fieldAddrO 0 rfl Tryz.underlying84 rfl rfl Tryz.sizeOf9 rfl) ?_
            refine VA.all (rs := [14]) (by kernel_rfl) (by decide) ?_
            refine ⟨⟨_, rfl, .inl rfl, ?_⟩, trivial⟩
            refine OpE.store1 (i := 1) rfl hB rfl Tryz.sizeOf9 rfl rfl rfl rfl rfl rfl (rowL_in rfl (by omega) (by decide)) (rowL_set (x := ({l.getD m default with key := r78} : MR)) rfl (by omega) (by decide) rfl (fun i hi hn => mr_upd (by first | exact .inl rfl | exact .inr rfl) (by first | exact .inl rfl | exact .inr rfl) (by first | exact .inl rfl | exact .inr rfl) (by first | exact .inl rfl | exact .inr rfl) (by first | exact .inl rfl | exact .inr rfl) i hi hn)) (by first | exact .inl ⟨by decide, rfl⟩) ?_
            refine VA.tk (i := 15) rfl (OpV.nilCheck rfl rfl) ?_
            refine VA.tk (i := 16) rfl (OpV.fieldAddrO 3 rfl Tryz.underlying84 rfl rfl Tryz.sizeOf3 rfl) ?_
            refine VA.all (rs := [17]) (by kernel_rfl) (by decide) ?_
            refine ⟨⟨_, rfl, .inl rfl, ?_⟩, trivial⟩
            refine OpE.store1 (i := 1) rfl hB rfl Tryz.sizeOf3 rfl rfl rfl rfl rfl rfl (rowL_in rfl (by first | omega | (simp only [List.length_set]; omega)) (by decide)) (rowL_set (x := ({l.getD m default with key := r78, feeders := r85} : MR)) rfl (by first | omega | (simp only [List.length_set]; omega)) (by decide) rfl (fun i hi hn => by rw [getD_set_self (by first | omega | (simp only [List.length_set]; omega))]; exact mr_upd (by first | exact .inl rfl | exact .inr rfl) (by first | exact .inl rfl | exact .inr rfl) (by first | exact .inl rfl | exact .inr rfl) (by first | exact .inl rfl | exact .inr rfl) (by first | exact .inl rfl | exact .inr rfl) i hi hn)) (by first | exact .inl ⟨by decide, rfl⟩) ?_
            refine VA.done (by kernel_rfl) ?_
            refine VC.sr ?_
            refine VO.mw ?_
            refine VO.mb ?_
            refine VO.nil ?_
            refine VC.le _ (Le.famX (t := 2) (l := ((l.set m ({l.getD m default with key := r78} : MR)).set m ({l.getD m default with key := r78, feeders := r85} : MR))) hB rfl (by simp) rfl (.inr ⟨_, _, _, _, rfl, hcap, hmx, rfl⟩) (fun q hq => famAt2' ((famSet (by rw [List.length_set]; omega) (by rw [getD_set_self (by omega)]; rfl)).trans (famSet (by omega) rfl)) hq)) ?_
            refine VC.ret ?_
            exact Exists.intro _ (And.intro (RetV.one Tryz.results23 (ResV.tmp rfl)) (by first | exact mn_out (hV.trans (mnT_1 (by omega))) | exact mn_out (hV.trans (mnT_2 (by omega) hi hil (by omega) e78 e85)) | exact mn_out (hV.trans (mnT_3 (by omega) hi hil (by omega) (by omega) e96 e103)) | exact mn_out (hV.trans (mnT_4 (by omega) hi hil (by omega) (by omega) e67))))
          ·
            refine bI rfl hB rfl (by decide) rfl rfl ?_
            refine VA.le _ (Le.lI (t := 84) (xs := [(xM l m).feeders, -1, 101]) rfl rfl) ?_
            refine VA.all (rs := [4]) (by kernel_rfl) (by decide) ?_
            refine ⟨⟨_, rfl, .inl rfl, ?_⟩, trivial⟩
            refine OpE.callHX (rest := _ :: _) txi_stab hGX rfl hB rfl Tryz.call79 rfl rfl (some_X (xs := [⟨#[]⟩, ⟨#[109, 49]⟩, ⟨#[65]⟩]) (by omega) (by simp) hp0) (List.Perm.refl _) (fun b h => .inr ⟨by decide, blkStr h⟩) ?_
            rintro _ _ ⟨rfl, rfl⟩
            refine VA.le _ (Le.recast (t := 78) (y := avS r78) rfl (fun w Z u h => by rw [← e78]; exact h)) ?_
            refine VA.all (rs := [11]) (by kernel_rfl) (by decide) ?_
            refine ⟨⟨_, rfl, .inl rfl, ?_⟩, trivial⟩
            refine OpE.callHX (rest := _ :: _) txi_stab hGX rfl hB rfl Tryz.call77 rfl rfl (pick_E (xs := [(xM l m).feeders, -1, 101]) (by omega) (by simp) hp0) (List.Perm.refl _) (fun b h => .inr ⟨by decide, blkStr h⟩) ?_
            rintro _ _ ⟨rfl, rfl⟩
            refine VA.le _ (Le.recast (t := 85) (y := avI r85) rfl (fun w Z u h => by rw [← e85]; exact h)) ?_
            refine VA.tk (i := 12) rfl (OpV.nilCheck rfl rfl) ?_
            refine VA.tk (i := 13) rfl (OpV.fieldAddrO 0 rfl Tryz.underlying84 rfl rfl Tryz.sizeOf9 rfl) ?_
            refine VA.all (rs := [14]) (by kernel_rfl) (by decide) ?_
            refine ⟨⟨_, rfl, .inl rfl, ?_⟩, trivial⟩
            refine OpE.store1 (i := 1) rfl hB rfl Tryz.sizeOf9 rfl rfl rfl rfl rfl rfl (rowL_in rfl (by omega) (by decide)) (rowL_set (x := ({l.getD m default with key := r78} : MR)) rfl (by omega) (by decide) rfl (fun i hi hn => mr_upd (by first | exact .inl rfl | exact .inr rfl) (by first | exact .inl rfl | exact .inr rfl) (by first | exact .inl rfl | exact .inr rfl) (by first | exact .inl rfl | exact .inr rfl) (by first | exact .inl rfl | exact .inr rfl) i hi hn)) (by first | exact .inl ⟨by decide, rfl⟩) ?_
            refine VA.tk (i := 15) rfl (OpV.nilCheck rfl rfl) ?_
            refine VA.tk (i := 16) rfl (OpV.fieldAddrO 3 rfl Tryz.underlying84 rfl rfl Tryz.sizeOf3 rfl) ?_
            refine VA.all (rs := [17]) (by kernel_rfl) (by decide) ?_
            refine ⟨⟨_, rfl, .inl rfl, ?_⟩, trivial⟩
            refine OpE.store1 (i := 1) rfl hB rfl Tryz.sizeOf3 rfl rfl rfl rfl rfl rfl (rowL_in rfl (by first | omega | (simp only [List.length_set]; omega)) (by decide)) (rowL_set (x := ({l.getD m default with key := r78, feeders := r85} : MR)) rfl (by first | omega | (simp only [List.length_set]; omega)) (by decide) rfl (fun i hi hn => by rw [getD_set_self (by first | omega | (simp only [List.length_set]; omega))]; exact mr_upd (by first | exact .inl rfl | exact .inr rfl) (by first | exact .inl rfl | exact .inr rfl) (by first | exact .inl rfl | exact .inr rfl) (by first | exact .inl rfl | exact .inr rfl) (by first | exact .inl rfl | exact .inr rfl) i hi hn)) (by first | exact .inl ⟨by decide, rfl⟩) ?_
            refine VA.done (by kernel_rfl) ?_
            refine VC.sr ?_
            refine VO.mw ?_
            refine VO.mb ?_
            refine VO.nil ?_
            refine VC.le _ (Le.famX (t := 2) (l := ((l.set m ({l.getD m default with key := r78} : MR)).set m ({l.getD m default with key := r78, feeders := r85} : MR))) hB rfl (by simp) rfl (.inr ⟨_, _, _, _, rfl, hcap, hmx, rfl⟩) (fun q hq => famAt2' ((famSet (by rw [List.length_set]; omega) (by rw [getD_set_self (by omega)]; rfl)).trans (famSet (by omega) rfl)) hq)) ?_
            refine VC.ret ?_
            exact Exists.intro _ (And.intro (RetV.one Tryz.results23 (ResV.tmp rfl)) (by first | exact mn_out (hV.trans (mnT_1 (by omega))) | exact mn_out (hV.trans (mnT_2 (by omega) hi hil (by omega) e78 e85)) | exact mn_out (hV.trans (mnT_3 (by omega) hi hil (by omega) (by omega) e96 e103)) | exact mn_out (hV.trans (mnT_4 (by omega) hi hil (by omega) (by omega) e67))))
        ·
          refine bI rfl hB rfl (by decide) rfl rfl ?_
          refine VA.le _ (Le.lI (t := 84) (xs := [(xM l m).feeders, -1, 101]) rfl rfl) ?_
          refine VA.all (rs := [3]) (by kernel_rfl) (by decide) ?_
          refine ⟨⟨_, rfl, .inl rfl, ?_⟩, trivial⟩
          refine bS rfl hB rfl (by decide) rfl rfl ?_
          refine VA.le _ (Le.lS (t := 77) (xs := [⟨#[]⟩, ⟨#[109, 49]⟩, ⟨#[65]⟩]) rfl rfl) ?_
          refine VA.all (rs := [4]) (by kernel_rfl) (by decide) ?_
          refine ⟨⟨_, rfl, .inl rfl, ?_⟩, trivial⟩
          refine OpE.callHX (rest := _ :: _) txi_stab hGX rfl hB rfl Tryz.call79 rfl rfl (some_X (xs := [⟨#[]⟩, ⟨#[109, 49]⟩, ⟨#[65]⟩]) (by omega) (by simp) hp0) (List.Perm.refl _) (fun b h => .inr ⟨by decide, blkStr h⟩) ?_
          rintro _ _ ⟨rfl, rfl⟩
          refine VA.le _ (Le.recast (t := 78) (y := avS r78) rfl (fun w Z u h => by rw [← e78]; exact h)) ?_
          refine VA.all (rs := [11]) (by kernel_rfl) (by decide) ?_
          refine ⟨⟨_, rfl, .inl rfl, ?_⟩, trivial⟩
          refine OpE.callHX (rest := _ :: _) txi_stab hGX rfl hB rfl Tryz.call77 rfl rfl (pick_E (xs := [(xM l m).feeders, -1, 101]) (by omega) (by simp) hp0) (List.Perm.refl _) (fun b h => .inr ⟨by decide, blkStr h⟩) ?_
          rintro _ _ ⟨rfl, rfl⟩
          refine VA.le _ (Le.recast (t := 85) (y := avI r85) rfl (fun w Z u h => by rw [← e85]; exact h)) ?_
          refine VA.tk (i := 12) rfl (OpV.nilCheck rfl rfl) ?_
          refine VA.tk (i := 13) rfl (OpV.fieldAddrO 0 rfl Tryz.underlying84 rfl rfl Tryz.sizeOf9 rfl) ?_
          refine VA.all (rs := [14]) (by kernel_rfl) (by decide) ?_
          refine ⟨⟨_, rfl, .inl rfl, ?_⟩, trivial⟩
          refine OpE.store1 (i := 1) rfl hB rfl Tryz.sizeOf9 rfl rfl rfl rfl rfl rfl (rowL_in rfl (by omega) (by decide)) (rowL_set (x := ({l.getD m default with key := r78} : MR)) rfl (by omega) (by decide) rfl (fun i hi hn => mr_upd (by first | exact .inl rfl | exact .inr rfl) (by first | exact .inl rfl | exact .inr rfl) (by first | exact .inl rfl | exact .inr rfl) (by first | exact .inl rfl | exact .inr rfl) (by first | exact .inl rfl | exact .inr rfl) i hi hn)) (by first | exact .inl ⟨by decide, rfl⟩) ?_
          refine VA.tk (i := 15) rfl (OpV.nilCheck rfl rfl) ?_
          refine VA.tk (i := 16) rfl (OpV.fieldAddrO 3 rfl Tryz.underlying84 rfl rfl Tryz.sizeOf3 rfl) ?_
          refine VA.all (rs := [17]) (by kernel_rfl) (by decide) ?_
          refine ⟨⟨_, rfl, .inl rfl, ?_⟩, trivial⟩
          refine OpE.store1 (i := 1) rfl hB rfl Tryz.sizeOf3 rfl rfl rfl rfl rfl rfl (rowL_in rfl (by first | omega | (simp only [List.length_set]; omega)) (by decide)) (rowL_set (x := ({l.getD m default with key := r78, feeders := r85} : MR)) rfl (by first | omega | (simp only [List.length_set]; omega)) (by decide) rfl (fun i hi hn => by rw [getD_set_self (by first | omega | (simp only [List.length_set]; omega))]; exact mr_upd (by first | exact .inl rfl | exact .inr rfl) (by first | exact .inl rfl | exact .inr rfl) (by first | exact .inl rfl | exact .inr rfl) (by first | exact .inl rfl | exact .inr rfl) (by first | exact .inl rfl | exact .inr rfl) i hi hn)) (by first | exact .inl ⟨by decide, rfl⟩) ?_
          refine VA.done (by kernel_rfl) ?_
          refine VC.sr ?_
          refine VO.mw ?_
          refine VO.mb ?_
          refine VO.nil ?_
          refine VC.le _ (Le.famX (t := 2) (l := ((l.set m ({l.getD m default with key := r78} : MR)).set m ({l.getD m default with key := r78, feeders := r85} : MR))) hB rfl (by simp) rfl (.inr ⟨_, _, _, _, rfl, hcap, hmx, rfl⟩) (fun q hq => famAt2' ((famSet (by rw [List.length_set]; omega) (by rw [getD_set_self (by omega)]; rfl)).trans (famSet (by omega) rfl)) hq)) ?_
          refine VC.ret ?_
          exact Exists.intro _ (And.intro (RetV.one Tryz.results23 (ResV.tmp rfl)) (by first | exact mn_out (hV.trans (mnT_1 (by omega))) | exact mn_out (hV.trans (mnT_2 (by omega) hi hil (by omega) e78 e85)) | exact mn_out (hV.trans (mnT_3 (by omega) hi hil (by omega) (by omega) e96 e103)) | exact mn_out (hV.trans (mnT_4 (by omega) hi hil (by omega) (by omega) e67))))
      · have aH4 := aH4b
        try simp only [qq] at aH4
        refine VC.sr ?_
        refine VO.vv (OpV.eql rfl rfl rfl) ?_
        refine VO.mb ?_
        refine VO.nil ?_
        refine VC.cond rfl (fun aH5b => ?_) (fun aH5b => ?_)
        · have aH5 := aH5b
          try simp only [qq] at aH5
          refine VC.hap (fun hap => ?_)
          have nrp := apart_ne hap (i := 1) (j := 0) rfl rfl (by decide)
          obtain ⟨r96, e96⟩ : ∃ r, pickV L (j + 3) [-1, 10000000, 10000001] = r := ⟨_, rfl⟩
          obtain ⟨r103, e103⟩ : ∃ r, pickV L (j + 4) [(xM l m).fixed, -1, 10000001] = r := ⟨_, rfl⟩
          refine VC.draw (fun jj b => (jj ∈ [14, 17] ∧ b = g) ∨ (jj ∈ [4, 11] ∧ b = p)) hB (by kernel_rfl) ?_
          refine VA.tk (i := 0) rfl (OpV.move (.inl rfl) rfl) ?_
          refine VA.tk (i := 1) rfl (OpV.move (.inl rfl) rfl) ?_
          refine VA.tk (i := 2) rfl (OpV.move (.inl rfl) rfl) ?_
          refine VA.tk (i := 5) rfl (OpV.move (.inl rfl) rfl) ?_
          refine VA.tk (i := 6) rfl (OpV.move (.inl rfl) rfl) ?_
          refine VA.tk (i := 7) rfl (OpV.nilCheck rfl rfl) ?_
          refine VA.tk (i := 8) rfl (OpV.fieldAddrO 2 rfl Tryz.underlying84 rfl rfl Tryz.sizeOf3 rfl) ?_
          refine VA.tk (i := 9) rfl (OpV.load_own (i := 1) rfl hB Tryz.isAgg3 rfl rfl (rowL_at rfl (by omega) (by decide)) (Wi.notSS (.inl (by kernel_rfl)) nrp)) ?_
          refine VA.all (rs := [3, 10]) (by kernel_rfl) (by decide) ?_
          refine ⟨⟨_, rfl, .inl rfl, ?_⟩, ⟨_, rfl, .inl rfl, ?_⟩, trivial⟩
          ·
            refine bI rfl hB rfl (by decide) rfl rfl ?_
            refine VA.le _ (Le.lI (t := 95) (xs := [-1, 10000000, 10000001]) rfl rfl) ?_
            refine VA.all (rs := [4, 10]) (by kernel_rfl) (by decide) ?_
            refine ⟨⟨_, rfl, .inl rfl, ?_⟩, ⟨_, rfl, .inl rfl, ?_⟩, trivial⟩
            ·
              refine OpE.callHX (rest := _ :: _) txi_stab hGX rfl hB rfl Tryz.call77 rfl rfl (pick_E (xs := [-1, 10000000, 10000001]) (by omega) (by simp) hp0) (List.Perm.refl _) (fun b h => .inr ⟨by decide, blkStr h⟩) ?_
              rintro _ _ ⟨rfl, rfl⟩
              refine VA.le _ (Le.recast (t := 96) (y := avI r96) rfl (fun w Z u h => by rw [← e96]; exact h)) ?_
              refine VA.all (rs := [10]) (by kernel_rfl) (by decide) ?_
              refine ⟨⟨_, rfl, .inl rfl, ?_⟩, trivial⟩
              refine bI rfl hB rfl (by decide) rfl rfl ?_
              refine VA.le _ (Le.lI (t := 102) (xs := [(xM l m).fixed, -1, 10000001]) rfl rfl) ?_
              refine VA.all (rs := [11]) (by kernel_rfl) (by decide) ?_
              refine ⟨⟨_, rfl, .inl rfl, ?_⟩, trivial⟩
              refine OpE.callHX (rest := _ :: _) txi_stab hGX rfl hB rfl Tryz.call77 rfl rfl (pick_E (xs := [(xM l m).fixed, -1, 10000001]) (by omega) (by simp) hp0) (List.Perm.refl _) (fun b h => .inr ⟨by decide, blkStr h⟩) ?_
              rintro _ _ ⟨rfl, rfl⟩
              refine VA.le _ (Le.recast (t := 103) (y := avI r103) rfl (fun w Z u h => by rw [← e103]; exact h)) ?_
              refine VA.tk (i := 12) rfl (OpV.nilCheck rfl rfl) ?_
              refine VA.tk (i := 13) rfl (OpV.fieldAddrO 1 rfl Tryz.underlying84 rfl rfl Tryz.sizeOf3 rfl) ?_
              refine VA.all (rs := [14]) (by kernel_rfl) (by decide) ?_
              refine ⟨⟨_, rfl, .inl rfl, ?_⟩, trivial⟩
              refine OpE.store1 (i := 1) rfl hB rfl Tryz.sizeOf3 rfl rfl rfl rfl rfl rfl (rowL_in rfl (by omega) (by decide)) (rowL_set (x := ({l.getD m default with each := r96} : MR)) rfl (by omega) (by decide) rfl (fun i hi hn => mr_upd (by first | exact .inl rfl | exact .inr rfl) (by first | exact .inl rfl | exact .inr rfl) (by first | exact .inl rfl | exact .inr rfl) (by first | exact .inl rfl | exact .inr rfl) (by first | exact .inl rfl | exact .inr rfl) i hi hn)) (by first | exact .inl ⟨by decide, rfl⟩) ?_
              refine VA.tk (i := 15) rfl (OpV.nilCheck rfl rfl) ?_
              refine VA.tk (i := 16) rfl (OpV.fieldAddrO 2 rfl Tryz.underlying84 rfl rfl Tryz.sizeOf3 rfl) ?_
              refine VA.all (rs := [17]) (by kernel_rfl) (by decide) ?_
              refine ⟨⟨_, rfl, .inl rfl, ?_⟩, trivial⟩
              refine OpE.store1 (i := 1) rfl hB rfl Tryz.sizeOf3 rfl rfl rfl rfl rfl rfl (rowL_in rfl (by first | omega | (simp only [List.length_set]; omega)) (by decide)) (rowL_set (x := ({l.getD m default with each := r96, fixed := r103} : MR)) rfl (by first | omega | (simp only [List.length_set]; omega)) (by decide) rfl (fun i hi hn => by rw [getD_set_self (by first | omega | (simp only [List.length_set]; omega))]; exact mr_upd (by first | exact .inl rfl | exact .inr rfl) (by first | exact .inl rfl | exact .inr rfl) (by first | exact .inl rfl | exact .inr rfl) (by first | exact .inl rfl | exact .inr rfl) (by first | exact .inl rfl | exact .inr rfl) i hi hn)) (by first | exact .inl ⟨by decide, rfl⟩) ?_
              refine VA.done (by kernel_rfl) ?_
              refine VC.sr ?_
              refine VO.mw ?_
              refine VO.mb ?_
              refine VO.nil ?_
              refine VC.le _ (Le.famX (t := 2) (l := ((l.set m ({l.getD m default with each := r96} : MR)).set m ({l.getD m default with each := r96, fixed := r103} : MR))) hB rfl (by simp) rfl (.inr ⟨_, _, _, _, rfl, hcap, hmx, rfl⟩) (fun q hq => famAt2' ((famSet (by rw [List.length_set]; omega) (by rw [getD_set_self (by omega)]; rfl)).trans (famSet (by omega) rfl)) hq)) ?_
              refine VC.ret ?_
              exact Exists.intro _ (And.intro (RetV.one Tryz.results23 (ResV.tmp rfl)) (by first | exact mn_out (hV.trans (mnT_1 (by omega))) | exact mn_out (hV.trans (mnT_2 (by omega) hi hil (by omega) e78 e85)) | exact mn_out (hV.trans (mnT_3 (by omega) hi hil (by omega) (by omega) e96 e103)) | exact mn_out (hV.trans (mnT_4 (by omega) hi hil (by omega) (by omega) e67))))
            ·
              refine bI rfl hB rfl (by decide) rfl rfl ?_
              refine VA.le _ (Le.lI (t := 102) (xs := [(xM l m).fixed, -1, 10000001]) rfl rfl) ?_
              refine VA.all (rs := [4]) (by kernel_rfl) (by decide) ?_
              refine ⟨⟨_, rfl, .inl rfl, ?_⟩, trivial⟩
              refine OpE.callHX (rest := _ :: _) txi_stab hGX rfl hB rfl Tryz.call77 rfl rfl (pick_E (xs := [-1, 10000000, 10000001]) (by omega) (by simp) hp0) (List.Perm.refl _) (fun b h => .inr ⟨by decide, blkStr h⟩) ?_
              rintro _ _ ⟨rfl, rfl⟩
              refine VA.le _ (Le.recast (t := 96) (y := avI r96) rfl (fun w Z u h => by rw [← e96]; exact h)) ?_
              refine VA.all (rs := [11]) (by kernel_rfl) (by decide) ?_
              refine ⟨⟨_, rfl, .inl rfl, ?_⟩, trivial⟩
              refine OpE.callHX (rest := _ :: _) txi_stab hGX rfl hB rfl Tryz.call77 rfl rfl (pick_E (xs := [(xM l m).fixed, -1, 10000001]) (by omega) (by simp) hp0) (List.Perm.refl _) (fun b h => .inr ⟨by decide, blkStr h⟩) ?_
              rintro _ _ ⟨rfl, rfl⟩
              refine VA.le _ (Le.recast (t := 103) (y := avI r103) rfl (fun w Z u h => by rw [← e103]; exact h)) ?_
              refine VA.tk (i := 12) rfl (OpV.nilCheck rfl rfl) ?_
              refine VA.tk (i := 13) rfl (OpV.fieldAddrO 1 rfl Tryz.underlying84 rfl rfl Tryz.sizeOf3 rfl) ?_
              refine VA.all (rs := [14]) (by kernel_rfl) (by decide) ?_
              refine ⟨⟨_, rfl, .inl rfl, ?_⟩, trivial⟩
              refine OpE.store1 (i := 1) rfl hB rfl Tryz.sizeOf3 rfl rfl rfl rfl rfl rfl (rowL_in rfl (by omega) (by decide)) (rowL_set (x := ({l.getD m default with each := r96} : MR)) rfl (by omega) (by decide) rfl (fun i hi hn => mr_upd (by first | exact .inl rfl | exact .inr rfl) (by first | exact .inl rfl | exact .inr rfl) (by first | exact .inl rfl | exact .inr rfl) (by first | exact .inl rfl | exact .inr rfl) (by first | exact .inl rfl | exact .inr rfl) i hi hn)) (by first | exact .inl ⟨by decide, rfl⟩) ?_
              refine VA.tk (i := 15) rfl (OpV.nilCheck rfl rfl) ?_
              refine VA.tk (i := 16) rfl (OpV.fieldAddrO 2 rfl Tryz.underlying84 rfl rfl Tryz.sizeOf3 rfl) ?_
              refine VA.all (rs := [17]) (by kernel_rfl) (by decide) ?_
              refine ⟨⟨_, rfl, .inl rfl, ?_⟩, trivial⟩
              refine OpE.store1 (i := 1) rfl hB rfl Tryz.sizeOf3 rfl rfl rfl rfl rfl rfl (rowL_in rfl (by first | omega | (simp only [List.length_set]; omega)) (by decide)) (rowL_set (x := ({l.getD m default with each := r96, fixed := r103} : MR)) rfl (by first | omega | (simp only [List.length_set]; omega)) (by decide) rfl (fun i hi hn => by rw [getD_set_self (by first | omega | (simp only [List.length_set]; omega))]; exact mr_upd (by first | exact .inl rfl | exact .inr rfl) (by first | exact .inl rfl | exact .inr rfl) (by first | exact .inl rfl | exact .inr rfl) (by first | exact .inl rfl | exact .inr rfl) (by first | exact .inl rfl | exact .inr rfl) i hi hn)) (by first | exact .inl ⟨by decide, rfl⟩) ?_
              refine VA.done (by kernel_rfl) ?_
              refine VC.sr ?_
              refine VO.mw ?_
              refine VO.mb ?_
              refine VO.nil ?_
              refine VC.le _ (Le.famX (t := 2) (l := ((l.set m ({l.getD m default with each := r96} : MR)).set m ({l.getD m default with each := r96, fixed := r103} : MR))) hB rfl (by simp) rfl (.inr ⟨_, _, _, _, rfl, hcap, hmx, rfl⟩) (fun q hq => famAt2' ((famSet (by rw [List.length_set]; omega) (by rw [getD_set_self (by omega)]; rfl)).trans (famSet (by omega) rfl)) hq)) ?_
              refine VC.ret ?_
              exact Exists.intro _ (And.intro (RetV.one Tryz.results23 (ResV.tmp rfl)) (by first | exact mn_out (hV.trans (mnT_1 (by omega))) | exact mn_out (hV.trans (mnT_2 (by omega) hi hil (by omega) e78 e85)) | exact mn_out (hV.trans (mnT_3 (by omega) hi hil (by omega) (by omega) e96 e103)) | exact mn_out (hV.trans (mnT_4 (by omega) hi hil (by omega) (by omega) e67))))
          ·
            refine bI rfl hB rfl (by decide) rfl rfl ?_
            refine VA.le _ (Le.lI (t := 102) (xs := [(xM l m).fixed, -1, 10000001]) rfl rfl) ?_
            refine VA.all (rs := [3]) (by kernel_rfl) (by decide) ?_
            refine ⟨⟨_, rfl, .inl rfl, ?_⟩, trivial⟩
            refine bI rfl hB rfl (by decide) rfl rfl ?_
            refine VA.le _ (Le.lI (t := 95) (xs := [-1, 10000000, 10000001]) rfl rfl) ?_
            refine VA.all (rs := [4]) (by kernel_rfl) (by decide) ?_
            refine ⟨⟨_, rfl, .inl rfl, ?_⟩, trivial⟩
            refine OpE.callHX (rest := _ :: _) txi_stab hGX rfl hB rfl Tryz.call77 rfl rfl (pick_E (xs := [-1, 10000000, 10000001]) (by omega) (by simp) hp0) (List.Perm.refl _) (fun b h => .inr ⟨by decide, blkStr h⟩) ?_
            rintro _ _ ⟨rfl, rfl⟩
            refine VA.le _ (Le.recast (t := 96) (y := avI r96) rfl (fun w Z u h => by rw [← e96]; exact h)) ?_
            refine VA.all (rs := [11]) (by kernel_rfl) (by decide) ?_
            refine ⟨⟨_, rfl, .inl rfl, ?_⟩, trivial⟩
            refine OpE.callHX (rest := _ :: _) txi_stab hGX rfl hB rfl Tryz.call77 rfl rfl (pick_E (xs := [(xM l m).fixed, -1, 10000001]) (by omega) (by simp) hp0) (List.Perm.refl _) (fun b h => .inr ⟨by decide, blkStr h⟩) ?_
            rintro _ _ ⟨rfl, rfl⟩
            refine VA.le _ (Le.recast (t := 103) (y := avI r103) rfl (fun w Z u h => by rw [← e103]; exact h)) ?_
            refine VA.tk (i := 12) rfl (OpV.nilCheck rfl rfl) ?_
            refine VA.tk (i := 13) rfl (OpV.fieldAddrO 1 rfl Tryz.underlying84 rfl rfl Tryz.sizeOf3 rfl) ?_
            refine VA.all (rs := [14]) (by kernel_rfl) (by decide) ?_
            refine ⟨⟨_, rfl, .inl rfl, ?_⟩, trivial⟩
            refine OpE.store1 (i := 1) rfl hB rfl Tryz.sizeOf3 rfl rfl rfl rfl rfl rfl (rowL_in rfl (by omega) (by decide)) (rowL_set (x := ({l.getD m default with each := r96} : MR)) rfl (by omega) (by decide) rfl (fun i hi hn => mr_upd (by first | exact .inl rfl | exact .inr rfl) (by first | exact .inl rfl | exact .inr rfl) (by first | exact .inl rfl | exact .inr rfl) (by first | exact .inl rfl | exact .inr rfl) (by first | exact .inl rfl | exact .inr rfl) i hi hn)) (by first | exact .inl ⟨by decide, rfl⟩) ?_
            refine VA.tk (i := 15) rfl (OpV.nilCheck rfl rfl) ?_
            refine VA.tk (i := 16) rfl (OpV.fieldAddrO 2 rfl Tryz.underlying84 rfl rfl Tryz.sizeOf3 rfl) ?_
            refine VA.all (rs := [17]) (by kernel_rfl) (by decide) ?_
            refine ⟨⟨_, rfl, .inl rfl, ?_⟩, trivial⟩
            refine OpE.store1 (i := 1) rfl hB rfl Tryz.sizeOf3 rfl rfl rfl rfl rfl rfl (rowL_in rfl (by first | omega | (simp only [List.length_set]; omega)) (by decide)) (rowL_set (x := ({l.getD m default with each := r96, fixed := r103} : MR)) rfl (by first | omega | (simp only [List.length_set]; omega)) (by decide) rfl (fun i hi hn => by rw [getD_set_self (by first | omega | (simp only [List.length_set]; omega))]; exact mr_upd (by first | exact .inl rfl | exact .inr rfl) (by first | exact .inl rfl | exact .inr rfl) (by first | exact .inl rfl | exact .inr rfl) (by first | exact .inl rfl | exact .inr rfl) (by first | exact .inl rfl | exact .inr rfl) i hi hn)) (by first | exact .inl ⟨by decide, rfl⟩) ?_
            refine VA.done (by kernel_rfl) ?_
            refine VC.sr ?_
            refine VO.mw ?_
            refine VO.mb ?_
            refine VO.nil ?_
            refine VC.le _ (Le.famX (t := 2) (l := ((l.set m ({l.getD m default with each := r96} : MR)).set m ({l.getD m default with each := r96, fixed := r103} : MR))) hB rfl (by simp) rfl (.inr ⟨_, _, _, _, rfl, hcap, hmx, rfl⟩) (fun q hq => famAt2' ((famSet (by rw [List.length_set]; omega) (by rw [getD_set_self (by omega)]; rfl)).trans (famSet (by omega) rfl)) hq)) ?_
            refine VC.ret ?_
            exact Exists.intro _ (And.intro (RetV.one Tryz.results23 (ResV.tmp rfl)) (by first | exact mn_out (hV.trans (mnT_1 (by omega))) | exact mn_out (hV.trans (mnT_2 (by omega) hi hil (by omega) e78 e85)) | exact mn_out (hV.trans (mnT_3 (by omega) hi hil (by omega) (by omega) e96 e103)) | exact mn_out (hV.trans (mnT_4 (by omega) hi hil (by omega) (by omega) e67))))
        · have aH5 := aH5b
          try simp only [qq] at aH5
          refine VC.hap (fun hap => ?_)
          have nrp := apart_ne hap (i := 1) (j := 0) rfl rfl (by decide)
          obtain ⟨r67, e67⟩ : ∃ r, someV L (j + 3) [⟨#[97]⟩, ⟨#[122, 122]⟩, ⟨#[]⟩] = r := ⟨_, rfl⟩
          have hcl : (l.getD m default).can.length ≤ 6 := by { have h1 := mnL_ok (L := L) (k := k + 1) q; rw [← hlM] at h1; have h2 := (MhOk.getD h1 (m := m) (by rw [List.length_map]; omega)).2.1; rw [toM_get (by omega)] at h2; exact h2 }
          refine VC.draw (fun jj b => (jj = 9 ∧ (l.getD m default).val.ownBlock = some b) ∨ (jj = 12 ∧ b = g) ∨ (jj ∈ [7] ∧ b = p)) hB (by kernel_rfl) ?_
          refine VA.tk (i := 0) rfl (OpV.move (.inl rfl) rfl) ?_
          refine VA.tk (i := 1) rfl (OpV.move (.inl rfl) rfl) ?_
          refine VA.tk (i := 2) rfl (OpV.nilCheck rfl rfl) ?_
          refine VA.tk (i := 3) rfl (OpV.fieldAddrO 4 rfl Tryz.underlying84 rfl rfl Tryz.sizeOf82 rfl) ?_
          refine VA.tk (i := 4) rfl (OpV.load_own (i := 1) rfl hB Tryz.isAgg82 rfl rfl (rowL_at rfl (by omega) (by decide)) (Wi.notS3 (.inl (by kernel_rfl)) (.inl (by kernel_rfl)) nrp)) ?_
          refine VA.tk (i := 5) rfl (OpV.move (.inl rfl) rfl) ?_
          refine VA.all (rs := [6]) (by kernel_rfl) (by decide) ?_
          refine ⟨⟨_, rfl, .inl rfl, ?_⟩, trivial⟩
          refine bS rfl hB rfl (by decide) rfl rfl ?_
          refine VA.le _ (Le.lS (t := 66) (xs := [⟨#[97]⟩, ⟨#[122, 122]⟩, ⟨#[]⟩]) rfl rfl) ?_
          refine VA.all (rs := [7]) (by kernel_rfl) (by decide) ?_
          refine ⟨⟨_, rfl, .inl rfl, ?_⟩, trivial⟩
          refine OpE.callHX (rest := _ :: _) txi_stab hGX rfl hB rfl Tryz.call79 rfl rfl (some_X (xs := [⟨#[97]⟩, ⟨#[122, 122]⟩, ⟨#[]⟩]) (by omega) (by simp) hp0) (List.Perm.refl _) (fun b h => .inr (.inr ⟨by decide, blkStr h⟩)) ?_
          rintro _ _ ⟨rfl, rfl⟩
          refine VA.le _ (Le.recast (t := 67) (y := avS r67) rfl (fun w Z u h => by rw [← e67]; exact h)) ?_
          refine VA.all (rs := [8]) (by kernel_rfl) (by decide) ?_
          refine ⟨⟨_, rfl, .inl rfl, ?_⟩, trivial⟩
          refine bS rfl hB rfl (by decide) rfl rfl ?_
          refine VA.all (rs := [9]) (by kernel_rfl) (by decide) ?_
          refine ⟨⟨_, rfl, .inl rfl, ?_⟩, trivial⟩
          refine OpE.append1S (i := m + 2) rfl hB rfl Tryz.underlying82 (infoOf Tryz.t9 1 (by kernel_rfl) rfl rfl) rfl (by decide) (by decide) rfl (famAt2 (by omega)) rfl rfl (strsL_snoc _ _) (by omega) (fun _ h => .inl ⟨rfl, h⟩) ?_
          intro b3 c3
          refine VA.tk (i := 10) rfl (OpV.nilCheck rfl rfl) ?_
          refine VA.tk (i := 11) rfl (OpV.fieldAddrO 4 rfl Tryz.underlying84 rfl rfl Tryz.sizeOf82 rfl) ?_
          refine VA.all (rs := [12]) (by kernel_rfl) (by decide) ?_
          refine ⟨⟨_, rfl, .inl rfl, ?_⟩, trivial⟩
          refine OpE.store1 (i := 1) rfl hB rfl Tryz.sizeOf82 rfl rfl rfl rfl rfl rfl (rowL_in rfl (by omega) (by decide)) (rowL_set (x := ({l.getD m default with b := b3, c := c3, can := (l.getD m default).can ++ [r67]} : MR)) rfl (by omega) (by decide) (by show AV.v _ = AV.v _; rw [List.length_append]; rfl) (fun i hi hn => mr_upd (by first | exact .inl rfl | exact .inr rfl) (by first | exact .inl rfl | exact .inr rfl) (by first | exact .inl rfl | exact .inr rfl) (by first | exact .inl rfl | exact .inr rfl) (by first | exact .inl rfl | exact .inr rfl) i hi hn)) (.inr (.inl ⟨rfl, rfl⟩)) ?_
          refine VA.done (by kernel_rfl) ?_
          refine VC.sr ?_
          refine VO.mw ?_
          refine VO.mb ?_
          refine VO.nil ?_
          refine VC.le _ (Le.famX (t := 2) (l := l.set m {l.getD m default with b := b3, c := c3, can := (l.getD m default).can ++ [r67]}) hB rfl (by simp) rfl (.inr ⟨_, _, _, _, rfl, hcap, hmx, rfl⟩) (fun q hq => famAt2' (by rw [List.map_set]; unfold rowM; rw [List.length_append]; rfl) hq)) ?_
          refine VC.ret ?_
          exact Exists.intro _ (And.intro (RetV.one Tryz.results23 (ResV.tmp rfl)) (by first | exact mn_out (hV.trans (mnT_1 (by omega))) | exact mn_out (hV.trans (mnT_2 (by omega) hi hil (by omega) e78 e85)) | exact mn_out (hV.trans (mnT_3 (by omega) hi hil (by omega) (by omega) e96 e103)) | exact mn_out (hV.trans (mnT_4 (by omega) hi hil (by omega) (by omega) e67))))
    · have aH3 := aH3b
      try simp only [qq] at aH3
      refine VC.skip ?_
      refine VC.sr ?_
      refine VO.mw ?_
      refine VO.mb ?_
      refine VO.nil ?_
      refine VC.le _ (Le.famX (t := 2) (l := l) hB rfl rfl rfl (.inl ⟨_, rfl⟩) (fun q hq => famAt2 hq)) ?_
      refine VC.ret ?_
      exact Exists.intro _ (And.intro (RetV.one Tryz.results23 (ResV.tmp rfl)) (by first | exact mn_out (hV.trans (mnT_1 (by omega))) | exact mn_out (hV.trans (mnT_2 (by omega) hi hil (by omega) e78 e85)) | exact mn_out (hV.trans (mnT_3 (by omega) hi hil (by omega) (by omega) e96 e103)) | exact mn_out (hV.trans (mnT_4 (by omega) hi hil (by omega) (by omega) e67))))
end
section
abbrev xNd (l : List NeedS) (m : Nat) : NeedS := l.getD m default
theorem nd_upd {a b : NeedS} {k : Nat} (h0 : k = 0 ∨ a.key = b.key) (h1 : k = 1 ∨ a.count = b.count) : ∀ i, i < 2 → i ≠ k → Sxc.cell a i = Sxc.cell b i := fun i hi hn => by
 match i, hi with
 | 0, _ => show avS a.key = avS b.key; rw [h0.resolve_left fun h => hn h.symm]
 | 1, _ => show avI a.count = avI b.count; rw [h1.resolve_left fun h => hn h.symm]
set_option maxHeartbeats 40000000 in
theorem needList_E {p0 cap : Nat} {a0 : Option Addr} {p k : Nat} {L : List Int} (hk : k ≤ 800000) (hp0 : p0 ≤ p) :
    SpecHX (TXI a0 L p0) Tryz.prog 24 [sp p] [bxStr p a0 cap L k] (fun y hp' => y = avL (nlV L k).1 ∧ hp' = [bxStr p a0 cap L (nlV L k).2]) := by
  have e5 : ny5.length = 5 := rfl
  refine SpecHX.of_VC txi_stab Tryz.func24 rfl Tryz.ntmps24 (Nle rfl) fun w A hB hGX => ?_
  have hnew : True := trivial
  refine VC.sr ?_
  refine VO.mb ?_
  refine VO.nil ?_
  refine VC.sr ?_
  refine VO.mb ?_
  refine VO.nil ?_
  refine VC.seq ?_
  refine VC.sr ?_
  refine VO.op rfl (bS rfl hB rfl (by decide) rfl rfl ?_)
  refine VO.le _ (Le.lS (t := 7) (xs := keys5) rfl rfl) ?_
  refine VO.vv (OpV.len_im rfl Tryz.underlying82 rfl) ?_
  refine VO.mw ?_
  refine VO.nil ?_
  refine VC.block ?_
  refine VC.le _ (Le.nilRow 2 90) ?_
  refine VC.loopK [(0, _)] ⟨rfl, trivial⟩ ({t : Value × (List NeedS × Nat) × Nat // t.2.2 ≤ 5 ∧ t.2.1 = nlL L k t.2.2}) (fun (iZ : {t : Value × (List NeedS × Nat) × Nat // t.2.2 ≤ 5 ∧ t.2.1 = nlL L k t.2.2}) => match iZ with | ⟨⟨u, ⟨l, j⟩, q⟩, hq, hlj⟩ => [(3, .v u), (7, avStrs keys5), (8, avI 5), (9, avI (q : Int))]) (fun (iZ : {t : Value × (List NeedS × Nat) × Nat // t.2.2 ≤ 5 ∧ t.2.1 = nlL L k t.2.2}) => match iZ with | ⟨⟨u, ⟨l, j⟩, q⟩, hq, hlj⟩ => [bxStr p a0 cap L j, .row u l.length 2 (rowL l) 90]) (fun (iZ : {t : Value × (List NeedS × Nat) × Nat // t.2.2 ≤ 5 ∧ t.2.1 = nlL L k t.2.2}) => match iZ with | ⟨⟨u, ⟨l, j⟩, q⟩, hq, hlj⟩ => 0) (fun (iZ : {t : Value × (List NeedS × Nat) × Nat // t.2.2 ≤ 5 ∧ t.2.1 = nlL L k t.2.2}) => match iZ with | ⟨⟨u, ⟨l, j⟩, q⟩, hq, hlj⟩ => 5 - q) ⟨(.slice none 0 0, ([], k), 0), Nat.zero_le _, rfl⟩ (Le.mk hB [0, 1] ⟨rfl, rfl, rfl, rfl, rfl, trivial⟩ rfl rfl (Nat.le_refl _)) ?_
  rintro ⟨⟨u, ⟨l, j⟩, q⟩, hq, hlj⟩
  show VC _ _ _ _ ⟨[(3, .v u), (7, avStrs keys5), (8, avI 5), (9, avI (q : Int))] ++ [(0, _)], [bxStr p a0 cap L j, .row u l.length 2 (rowL l) 90], 0⟩
  simp only at hq hlj
  have hB0 := nlL_ok (L := L) (k := k) q
  rw [← hlj] at hB0
  obtain ⟨hl, hj, hok⟩ := hB0
  simp only at hl hj hok
  refine VC.sr ?_
  refine VO.vv (OpV.lss rfl rfl rfl) ?_
  refine VO.nil ?_
  refine VC.seq ?_
  refine VC.cond rfl (fun aH1b => ?_) (fun aH1b => ?_)
  · have aH1 := aH1b
    try simp only [qq] at aH1
    refine VC.skip ?_
    refine VC.seq ?_
    refine VC.block ?_
    refine VC.sr ?_
    refine VO.vv (OpV.indexAddr_1 rfl Tryz.underlying82 Tryz.sizeOf9 rfl rfl rfl (by show _ < 5; omega)) ?_
    refine VO.vv (OpV.load_at rfl hB OutW.no Tryz.isAgg9 rfl rfl) ?_
    refine VO.mb ?_
    refine VO.nil ?_
    refine VC.sr ?_
    refine VO.mw ?_
    refine VO.op rfl (OpE.callHX (rest := [_]) txi_stab hGX rfl hB rfl Tryz.call76 rfl rfl (flip_X (by omega) (by omega) hp0) (List.Perm.refl _) (fun _ _ => trivial) ?_)
    rintro _ _ ⟨rfl, rfl⟩
    refine VO.nil ?_
    refine VC.cond rfl (fun h1b => ?_) (fun h1b => ?_)
    · have h1 := h1b
      try simp only [qq] at h1
      refine VC.region ?_
      refine VO.mw ?_
      refine VO.mw ?_
      refine VO.mw ?_
      refine VO.op rfl (bI rfl hB rfl (by decide) rfl rfl ?_)
      refine VO.le _ (Le.lI (t := 18) (xs := ny5) rfl rfl) ?_
      refine VO.op rfl (OpE.callHX (rest := [_]) txi_stab hGX rfl hB rfl Tryz.call77 rfl rfl (pick_E (xs := ny5) (by omega) (by omega) hp0) (List.Perm.refl _) (fun _ _ => trivial) ?_)
      rintro _ _ ⟨rfl, rfl⟩
      refine VO.vv (OpV.build (pls := #[(0, 1), (1, 1)]) rfl Tryz.zeroValue90 Tryz.underlying90 (fun w => by kernel_rfl) rfl rfl) ?_
      refine VO.op rfl (OpE.buildSlice (zc := #[.string ⟨#[]⟩, .int .i64 0]) rfl hB rfl Tryz.underlying68 Tryz.sizeOf90 Tryz.zeroValue90 (by decide) (by decide) (by kernel_rfl) rfl rfl ?_)
      refine VO.op rfl (OpE.append1 (i := 1) rfl hB rfl Tryz.underlying68 (infoOf Tryz.t90 2 (by kernel_rfl) rfl rfl) rfl (by decide) (by decide) rfl rfl rfl rfl (rowL_snoc l (⟨keys5.getD q ByteArray.empty, pickV L (j + 1) ny5⟩ : NeedS)) (by omega) (fun _ _ => trivial) ?_)
      intro u2
      refine VO.mb ?_
      refine VO.nil ?_
      refine VC.region ?_
      refine VO.vv (OpV.add rfl rfl rfl (by unfold fits; omega)) ?_
      refine VO.mw ?_
      refine VO.nil ?_
      exact Exists.intro (⟨(u2, (l ++ [⟨keys5.getD q ByteArray.empty, pickV L (j + 1) ny5⟩], j + 2), q + 1), by show q + 1 ≤ 5; omega, by show _ = nlIn L q (nlL L k q); rw [← hlj]; exact (nlIn_y (by omega)).symm⟩) (And.intro (Le.mk hB [0, 1] ⟨rfl, rfl, rfl, rfl, rfl, trivial⟩ rfl (by dsimp only; first | rfl | (rw [List.length_append]; rfl)) (Nat.le_refl _)) (by first | omega | (show _ < _; omega) | (simp only []; omega)))
    · have h1 := h1b
      try simp only [qq] at h1
      refine VC.skip ?_
      refine VC.region ?_
      refine VO.vv (OpV.add rfl rfl rfl (by unfold fits; omega)) ?_
      refine VO.mw ?_
      refine VO.nil ?_
      exact Exists.intro (⟨(u, (l, j + 1), q + 1), by show q + 1 ≤ 5; omega, by show _ = nlIn L q (nlL L k q); rw [← hlj]; exact (nlIn_n (by omega)).symm⟩) (And.intro (Le.mk hB [0, 1] ⟨rfl, rfl, rfl, rfl, rfl, trivial⟩ rfl (by dsimp only; first | rfl | (rw [List.length_append]; rfl)) (Nat.le_refl _)) (by first | omega | (show _ < _; omega) | (simp only []; omega)))
  · have aH1 := aH1b
    try simp only [qq] at aH1
    obtain rfl : q = 5 := by omega
    have hV : nlV L k = nlTail L l j := by unfold nlV; rw [← hlj]
    refine VC.exit ?_
    refine VC.seq ?_
    refine VC.sr ?_
    refine VO.mw ?_
    refine VO.vv (OpV.len_row (i := 1) rfl Tryz.underlying68 rfl rfl) ?_
    refine VO.vv (OpV.gtr rfl rfl rfl) ?_
    refine VO.mw ?_
    refine VO.opG rfl rfl rfl rfl (fun aK2b => ?_) (fun aK2b => ?_)
    · replace aK2b : _ = true := aK2b
      have aK2 := aK2b
      try simp only [qq] at aK2
      refine OpE.val (W := NoB) (OpV.move (.inl rfl) rfl) rfl ?_
      refine VO.opY rfl rfl rfl rfl aK2b ?_
      refine OpE.callHX (rest := [_]) txi_stab hGX rfl hB rfl Tryz.call76 rfl rfl (flip_X (by omega) (by omega) hp0) (List.Perm.refl _) (fun _ _ => trivial) ?_
      rintro _ _ ⟨rfl, rfl⟩
      refine VO.vv (OpV.pickT rfl rfl rfl rfl aK2b) ?_
      refine VO.nil ?_
      refine VC.cond rfl (fun aH3b => ?_) (fun aH3b => ?_)
      · have aH3 := aH3b
        try simp only [qq] at aH3
        refine VC.seq ?_
        refine VC.asBox (i := 1) rfl (by omega) (fun gr capL hu hcap hmx => ?_)
        subst hu
        refine VC.region ?_
        refine VO.mw ?_
        refine VO.mw ?_
        refine VO.mw ?_
        refine VO.vv (OpV.len_v rfl Tryz.underlying68 rfl) ?_
        refine VO.op rfl (OpE.callHX (rest := [_]) txi_stab hGX rfl hB rfl Tryz.call78 rfl rfl (next_X hp0 (by omega) (by omega)) (List.Perm.refl _) (fun _ _ => trivial) ?_)
        rintro _ _ ⟨rfl, rfl⟩
        have hx1 := nxt_lo L (j + 1) l.length
        have hx2 := nxt_lt L (j + 1) l.length (by omega)
        obtain ⟨m, hi⟩ : ∃ i : Nat, nxt L (j + 1) l.length = i := ⟨(nxt L (j + 1) l.length).toNat, by omega⟩
        have hil : m < l.length := by omega
        refine VO.le _ (Le.recast (t := 35) (y := avI (m : Int)) rfl (fun w Z u h => by rw [← hi]; exact h)) ?_
        refine VO.vv (OpV.indexAddr_q rfl Tryz.underlying68 Tryz.sizeOf90 rfl rfl rfl (by omega)) ?_
        refine VO.mb ?_
        refine VO.nil ?_
        refine VC.hap (fun hap => ?_)
        have nrp := apart_ne hap (i := 1) (j := 0) rfl rfl (by decide)
        obtain ⟨r45, e45⟩ : ∃ r, someV L (j + 2) [(xNd l m).key, ⟨#[]⟩, ⟨#[97]⟩, ⟨#[122, 122]⟩] = r := ⟨_, rfl⟩
        obtain ⟨r52, e52⟩ : ∃ r, pickV L (j + 3) [(xNd l m).count, 0, 1000, 1001] = r := ⟨_, rfl⟩
        refine VC.draw (fun jj b => (jj ∈ [18, 21] ∧ b = gr) ∨ (jj ∈ [8, 15] ∧ b = p)) hB (by kernel_rfl) ?_
        refine VA.td (i := 0) rfl (OpV.move (.inl rfl) rfl) ?_
        refine VA.td (i := 1) rfl (OpV.move (.inl rfl) rfl) ?_
        refine VA.td (i := 2) rfl (OpV.move (.inl rfl) rfl) ?_
        refine VA.td (i := 3) rfl (OpV.move (.inl rfl) rfl) ?_
        refine VA.td (i := 4) rfl (OpV.nilCheck rfl rfl) ?_
        refine VA.td (i := 5) rfl (OpV.fieldAddrO 0 rfl Tryz.underlying90 rfl rfl Tryz.sizeOf9 rfl) ?_
        refine VA.td (i := 6) rfl (OpV.load_own (i := 1) rfl hB Tryz.isAgg9 rfl rfl (rowL_at rfl (by omega) (by decide)) (Wi.notSS (.inl (by decide +kernel)) nrp)) ?_
        refine VA.td (i := 9) rfl (OpV.move (.inl rfl) rfl) ?_
        refine VA.td (i := 10) rfl (OpV.move (.inl rfl) rfl) ?_
        refine VA.td (i := 11) rfl (OpV.nilCheck rfl rfl) ?_
        refine VA.td (i := 12) rfl (OpV.fieldAddrO 1 rfl Tryz.underlying90 rfl rfl Tryz.sizeOf3 rfl) ?_
        refine VA.td (i := 13) rfl (OpV.load_own (i := 1) rfl hB Tryz.isAgg3 rfl rfl (rowL_at rfl (by omega) (by decide)) (Wi.notSS (.inl (by decide +kernel)) nrp)) ?_
        refine VA.all (rs := [7, 14]) (by decide +kernel) (by decide) ?_
        refine ⟨⟨_, rfl, .inl rfl, ?_⟩, ⟨_, rfl, .inl rfl, ?_⟩, trivial⟩
        ·
          refine bS rfl hB rfl (by decide) rfl rfl ?_
          refine VA.le _ (Le.lS (t := 44) (xs := [(xNd l m).key, ⟨#[]⟩, ⟨#[97]⟩, ⟨#[122, 122]⟩]) rfl rfl) ?_
          refine VA.all (rs := [8, 14]) (by decide +kernel) (by decide) ?_
          refine ⟨⟨_, rfl, .inl rfl, ?_⟩, ⟨_, rfl, .inl rfl, ?_⟩, trivial⟩
          ·
            refine OpE.callHX (rest := [_]) txi_stab hGX rfl hB rfl Tryz.call79 rfl rfl (some_X (xs := [(xNd l m).key, ⟨#[]⟩, ⟨#[97]⟩, ⟨#[122, 122]⟩]) (by omega) (by simp) hp0) (List.Perm.refl _) (fun b h => .inr ⟨by decide, blkStr h⟩) ?_
            rintro _ _ ⟨rfl, rfl⟩
            refine VA.le _ (Le.recast (t := 45) (y := avS r45) rfl (fun w Z u h => by rw [← e45]; exact h)) ?_
            refine VA.all (rs := [14]) (by decide +kernel) (by decide) ?_
            refine ⟨⟨_, rfl, .inl rfl, ?_⟩, trivial⟩
            refine bI rfl hB rfl (by decide) rfl rfl ?_
            refine VA.le _ (Le.lI (t := 51) (xs := [(xNd l m).count, 0, 1000, 1001]) rfl rfl) ?_
            refine VA.all (rs := [15]) (by decide +kernel) (by decide) ?_
            refine ⟨⟨_, rfl, .inl rfl, ?_⟩, trivial⟩
            refine OpE.callHX (rest := [_]) txi_stab hGX rfl hB rfl Tryz.call77 rfl rfl (pick_E (xs := [(xNd l m).count, 0, 1000, 1001]) (by omega) (by simp) hp0) (List.Perm.refl _) (fun b h => .inr ⟨by decide, blkStr h⟩) ?_
            rintro _ _ ⟨rfl, rfl⟩
            refine VA.le _ (Le.recast (t := 52) (y := avI r52) rfl (fun w Z u h => by rw [← e52]; exact h)) ?_
            refine VA.td (i := 16) rfl (OpV.nilCheck rfl rfl) ?_
            refine VA.td (i := 17) rfl (OpV.fieldAddrO 0 rfl Tryz.underlying90 rfl rfl Tryz.sizeOf9 rfl) ?_
            refine VA.all (rs := [18]) (by decide +kernel) (by decide) ?_
            refine ⟨⟨_, rfl, .inl rfl, ?_⟩, trivial⟩
            refine OpE.store1 (i := 1) rfl hB rfl Tryz.sizeOf9 rfl rfl rfl rfl rfl rfl (rowL_in rfl (by omega) (by decide)) (rowL_set (x := ({l.getD m default with key := r45} : NeedS)) rfl (by omega) (by decide) rfl (fun i hi hn => nd_upd (by simp) (by simp) i hi hn)) (by first | exact .inl ⟨by decide, rfl⟩) ?_
            refine VA.td (i := 19) rfl (OpV.nilCheck rfl rfl) ?_
            refine VA.td (i := 20) rfl (OpV.fieldAddrO 1 rfl Tryz.underlying90 rfl rfl Tryz.sizeOf3 rfl) ?_
            refine VA.all (rs := [21]) (by decide +kernel) (by decide) ?_
            refine ⟨⟨_, rfl, .inl rfl, ?_⟩, trivial⟩
            refine OpE.store1 (i := 1) rfl hB rfl Tryz.sizeOf3 rfl rfl rfl rfl rfl rfl (rowL_in rfl (by first | omega | (simp only [List.length_set]; omega)) (by decide)) (rowL_set (x := ({l.getD m default with key := r45, count := r52} : NeedS)) rfl (by first | omega | (simp only [List.length_set]; omega)) (by decide) rfl (fun i hi hn => by rw [getD_set_self (by first | omega | (simp only [List.length_set]; omega))]; exact nd_upd (by simp) (by simp) i hi hn)) (by first | exact .inl ⟨by decide, rfl⟩) ?_
            refine VA.done (by decide +kernel) ?_
            refine VC.sr ?_
            refine VO.mw ?_
            refine VO.mb ?_
            refine VO.nil ?_
            refine VC.le _ (Le.boxT (t := 2) (i := 1) (n := l.length) (xs := ((l.set m ({l.getD m default with key := r45} : NeedS)).set m ({l.getD m default with key := r45, count := r52} : NeedS))) hB hnew rfl rfl (by simp) hcap hmx) ?_
            refine VC.ret ?_
            exact Exists.intro _ (And.intro (RetV.one Tryz.results24 (ResV.tmp rfl)) (by first | exact nl_out (hV.trans (nlTail_0 (by omega))) | exact nl_out (hV.trans (nlTail_1 (by omega) (by omega))) | exact nl_out (hV.trans (nlTail_2 (by omega) (by omega) hi e45 e52))))
          ·
            refine bI rfl hB rfl (by decide) rfl rfl ?_
            refine VA.le _ (Le.lI (t := 51) (xs := [(xNd l m).count, 0, 1000, 1001]) rfl rfl) ?_
            refine VA.all (rs := [8]) (by decide +kernel) (by decide) ?_
            refine ⟨⟨_, rfl, .inl rfl, ?_⟩, trivial⟩
            refine OpE.callHX (rest := [_]) txi_stab hGX rfl hB rfl Tryz.call79 rfl rfl (some_X (xs := [(xNd l m).key, ⟨#[]⟩, ⟨#[97]⟩, ⟨#[122, 122]⟩]) (by omega) (by simp) hp0) (List.Perm.refl _) (fun b h => .inr ⟨by decide, blkStr h⟩) ?_
            rintro _ _ ⟨rfl, rfl⟩
            refine VA.le _ (Le.recast (t := 45) (y := avS r45) rfl (fun w Z u h => by rw [← e45]; exact h)) ?_
            refine VA.all (rs := [15]) (by decide +kernel) (by decide) ?_
            refine ⟨⟨_, rfl, .inl rfl, ?_⟩, trivial⟩
            refine OpE.callHX (rest := [_]) txi_stab hGX rfl hB rfl Tryz.call77 rfl rfl (pick_E (xs := [(xNd l m).count, 0, 1000, 1001]) (by omega) (by simp) hp0) (List.Perm.refl _) (fun b h => .inr ⟨by decide, blkStr h⟩) ?_
            rintro _ _ ⟨rfl, rfl⟩
            refine VA.le _ (Le.recast (t := 52) (y := avI r52) rfl (fun w Z u h => by rw [← e52]; exact h)) ?_
            refine VA.td (i := 16) rfl (OpV.nilCheck rfl rfl) ?_
            refine VA.td (i := 17) rfl (OpV.fieldAddrO 0 rfl Tryz.underlying90 rfl rfl Tryz.sizeOf9 rfl) ?_
            refine VA.all (rs := [18]) (by decide +kernel) (by decide) ?_
            refine ⟨⟨_, rfl, .inl rfl, ?_⟩, trivial⟩
            refine OpE.store1 (i := 1) rfl hB rfl Tryz.sizeOf9 rfl rfl rfl rfl rfl rfl (rowL_in rfl (by omega) (by decide)) (rowL_set (x := ({l.getD m default with key := r45} : NeedS)) rfl (by omega) (by decide) rfl (fun i hi hn => nd_upd (by simp) (by simp) i hi hn)) (by first | exact .inl ⟨by decide, rfl⟩) ?_
            refine VA.td (i := 19) rfl (OpV.nilCheck rfl rfl) ?_
            refine VA.td (i := 20) rfl (OpV.fieldAddrO 1 rfl Tryz.underlying90 rfl rfl Tryz.sizeOf3 rfl) ?_
            refine VA.all (rs := [21]) (by decide +kernel) (by decide) ?_
            refine ⟨⟨_, rfl, .inl rfl, ?_⟩, trivial⟩
            refine OpE.store1 (i := 1) rfl hB rfl Tryz.sizeOf3 rfl rfl rfl rfl rfl rfl (rowL_in rfl (by first | omega | (simp only [List.length_set]; omega)) (by decide)) (rowL_set (x := ({l.getD m default with key := r45, count := r52} : NeedS)) rfl (by first | omega | (simp only [List.length_set]; omega)) (by decide) rfl (fun i hi hn => by rw [getD_set_self (by first | omega | (simp only [List.length_set]; omega))]; exact nd_upd (by simp) (by simp) i hi hn)) (by first | exact .inl ⟨by decide, rfl⟩) ?_
            refine VA.done (by decide +kernel) ?_
            refine VC.sr ?_
            refine VO.mw ?_
            refine VO.mb ?_
            refine VO.nil ?_
            refine VC.le _ (Le.boxT (t := 2) (i := 1) (n := l.length) (xs := ((l.set m ({l.getD m default with key := r45} : NeedS)).set m ({l.getD m default with key := r45, count := r52} : NeedS))) hB hnew rfl rfl (by simp) hcap hmx) ?_
            refine VC.ret ?_
            exact Exists.intro _ (And.intro (RetV.one Tryz.results24 (ResV.tmp rfl)) (by first | exact nl_out (hV.trans (nlTail_0 (by omega))) | exact nl_out (hV.trans (nlTail_1 (by omega) (by omega))) | exact nl_out (hV.trans (nlTail_2 (by omega) (by omega) hi e45 e52))))
        ·
          refine bI rfl hB rfl (by decide) rfl rfl ?_
          refine VA.le _ (Le.lI (t := 51) (xs := [(xNd l m).count, 0, 1000, 1001]) rfl rfl) ?_
          refine VA.all (rs := [7]) (by decide +kernel) (by decide) ?_
          refine ⟨⟨_, rfl, .inl rfl, ?_⟩, trivial⟩
          refine bS rfl hB rfl (by decide) rfl rfl ?_
          refine VA.le _ (Le.lS (t := 44) (xs := [(xNd l m).key, ⟨#[]⟩, ⟨#[97]⟩, ⟨#[122, 122]⟩]) rfl rfl) ?_
          refine VA.all (rs := [8]) (by decide +kernel) (by decide) ?_
          refine ⟨⟨_, rfl, .inl rfl, ?_⟩, trivial⟩
          refine OpE.callHX (rest := [_]) txi_stab hGX rfl hB rfl Tryz.call79 rfl rfl (some_X (xs := [(xNd l m).key, ⟨#[]⟩, ⟨#[97]⟩, ⟨#[122, 122]⟩]) (by omega) (by simp) hp0) (List.Perm.refl _) (fun b h => .inr ⟨by decide, blkStr h⟩) ?_
          rintro _ _ ⟨rfl, rfl⟩
          refine VA.le _ (Le.recast (t := 45) (y := avS r45) rfl (fun w Z u h => by rw [← e45]; exact h)) ?_
          refine VA.all (rs := [15]) (by decide +kernel) (by decide) ?_
          refine ⟨⟨_, rfl, .inl rfl, ?_⟩, trivial⟩
          refine OpE.callHX (rest := [_]) txi_stab hGX rfl hB rfl Tryz.call77 rfl rfl (pick_E (xs := [(xNd l m).count, 0, 1000, 1001]) (by omega) (by simp) hp0) (List.Perm.refl _) (fun b h => .inr ⟨by decide, blkStr h⟩) ?_
          rintro _ _ ⟨rfl, rfl⟩
          refine VA.le _ (Le.recast (t := 52) (y := avI r52) rfl (fun w Z u h => by rw [← e52]; exact h)) ?_
          refine VA.td (i := 16) rfl (OpV.nilCheck rfl rfl) ?_
          refine VA.td (i := 17) rfl (OpV.fieldAddrO 0 rfl Tryz.underlying90 rfl rfl Tryz.sizeOf9 rfl) ?_
          refine VA.all (rs := [18]) (by decide +kernel) (by decide) ?_
          refine ⟨⟨_, rfl, .inl rfl, ?_⟩, trivial⟩
          refine OpE.store1 (i := 1) rfl hB rfl Tryz.sizeOf9 rfl rfl rfl rfl rfl rfl (rowL_in rfl (by omega) (by decide)) (rowL_set (x := ({l.getD m default with key := r45} : NeedS)) rfl (by omega) (by decide) rfl (fun i hi hn => nd_upd (by simp) (by simp) i hi hn)) (by first | exact .inl ⟨by decide, rfl⟩) ?_
          refine VA.td (i := 19) rfl (OpV.nilCheck rfl rfl) ?_
          refine VA.td (i := 20) rfl (OpV.fieldAddrO 1 rfl Tryz.underlying90 rfl rfl Tryz.sizeOf3 rfl) ?_
          refine VA.all (rs := [21]) (by decide +kernel) (by decide) ?_
          refine ⟨⟨_, rfl, .inl rfl, ?_⟩, trivial⟩
          refine OpE.store1 (i := 1) rfl hB rfl Tryz.sizeOf3 rfl rfl rfl rfl rfl rfl (rowL_in rfl (by first | omega | (simp only [List.length_set]; omega)) (by decide)) (rowL_set (x := ({l.getD m default with key := r45, count := r52} : NeedS)) rfl (by first | omega | (simp only [List.length_set]; omega)) (by decide) rfl (fun i hi hn => by rw [getD_set_self (by first | omega | (simp only [List.length_set]; omega))]; exact nd_upd (by simp) (by simp) i hi hn)) (by first | exact .inl ⟨by decide, rfl⟩) ?_
          refine VA.done (by decide +kernel) ?_
          refine VC.sr ?_
          refine VO.mw ?_
          refine VO.mb ?_
          refine VO.nil ?_
          refine VC.le _ (Le.boxT (t := 2) (i := 1) (n := l.length) (xs := ((l.set m ({l.getD m default with key := r45} : NeedS)).set m ({l.getD m default with key := r45, count := r52} : NeedS))) hB hnew rfl rfl (by simp) hcap hmx) ?_
          refine VC.ret ?_
          exact Exists.intro _ (And.intro (RetV.one Tryz.results24 (ResV.tmp rfl)) (by first | exact nl_out (hV.trans (nlTail_0 (by omega))) | exact nl_out (hV.trans (nlTail_1 (by omega) (by omega))) | exact nl_out (hV.trans (nlTail_2 (by omega) (by omega) hi e45 e52))))
      · have aH3 := aH3b
        try simp only [qq] at aH3
        refine VC.skip ?_
        refine VC.sr ?_
        refine VO.mw ?_
        refine VO.mb ?_
        refine VO.nil ?_
        refine VC.le _ (Le.rowT (t := 2) (i := 1) (n := l.length) (xs := l) hB hnew rfl rfl rfl) ?_
        refine VC.ret ?_
        exact Exists.intro _ (And.intro (RetV.one Tryz.results24 (ResV.tmp rfl)) (by first | exact nl_out (hV.trans (nlTail_0 (by omega))) | exact nl_out (hV.trans (nlTail_1 (by omega) (by omega))) | exact nl_out (hV.trans (nlTail_2 (by omega) (by omega) hi e45 e52))))
    · replace aK2b : _ = false := aK2b
      have aK2 := aK2b
      try simp only [qq] at aK2
      refine VO.opX rfl rfl rfl rfl aK2b ?_
      refine VO.vv (OpV.pickF rfl rfl rfl rfl aK2b) ?_
      refine VO.nil ?_
      refine VC.condF rfl rfl ?_
      refine VC.skip ?_
      refine VC.sr ?_
      refine VO.mw ?_
      refine VO.mb ?_
      refine VO.nil ?_
      refine VC.le _ (Le.rowT (t := 2) (i := 1) (n := l.length) (xs := l) hB hnew rfl rfl rfl) ?_
      refine VC.ret ?_
      exact Exists.intro _ (And.intro (RetV.one Tryz.results24 (ResV.tmp rfl)) (by first | exact nl_out (hV.trans (nlTail_0 (by omega))) | exact nl_out (hV.trans (nlTail_1 (by omega) (by omega))) | exact nl_out (hV.trans (nlTail_2 (by omega) (by omega) hi e45 e52))))
end
end Go.Proofs.YtcploodfholkkaaGreatDoor
