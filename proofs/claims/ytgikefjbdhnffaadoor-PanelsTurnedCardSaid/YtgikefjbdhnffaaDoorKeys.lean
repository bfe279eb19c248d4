/- Walks: keys. -/
import Derived.Test.YtgikefjbdhnffaaDoorShelf
import Derived.Test.YtgikefjbdhnffaaDoorKit0
import Derived.Test.YtgikefjbdhnffaaDoorPure0
import Derived.Lib.SlTrimSet
namespace Go.Proofs.YtgikefjbdhnffaaDoor
open Go.RowKit
set_option linter.unusedVariables false
set_option linter.unusedSimpArgs false

def inB (l : List UInt8) (b : UInt8) : Bool := decide (0 ≤ Lib.indexByte l b)
def smallsB : List UInt8 := [97, 98, 99, 100, 101, 102, 103, 104, 105, 106, 107, 108, 109, 110, 111, 112, 113, 114, 115, 116, 117, 118, 119, 120, 121, 122]
def keysB : List UInt8 := smallsB ++ [48, 49, 50, 51, 52, 53, 54, 55, 56, 57, 45, 95]
/-- A key: from 1 to 40 bytes, the first a small letter, all of them letters, digits, '-' or '_'. -/
def keyF (s : ByteArray) : Bool := decide (1 ≤ s.size) && decide (s.size ≤ 40) && (s.data.toList.take 1).all (inB smallsB) && s.data.toList.all (inB keysB)

theorem args1 {u : Value} {w : World} {A : Nat → Prop} {us : Array Value} (h : Args w A [.v u] us) : us = #[u] := by
  obtain ⟨h1, h2⟩ := h
  have e0 := (h2 0 (by simp)).eq_v
  apply Array.ext (by simpa using h1)
  intro i hi hi'
  simp at hi'
  subst hi'
  simpa [Array.getD_eq_getD_getElem?, h1] using e0
theorem argsV2 {u v : Value} {w : World} {A : Nat → Prop} {us : Array Value} (h : Args w A [.v u, .v v] us) : us = #[u, v] := by
  obtain ⟨h1, h2⟩ := h
  have e0 := (h2 0 (by simp)).eq_v
  have e1 := (h2 1 (by simp)).eq_v
  apply Array.ext (by simpa using h1)
  intro i hi hi'
  simp at hi'
  rw [h1] at hi
  match i, hi' with
  | 0, _ => simpa [Array.getD_eq_getD_getElem?, h1] using e0
  | 1, _ => simpa [Array.getD_eq_getD_getElem?, h1] using e1
theorem Chg.ofBelowN {w w' : World} (h : Below w.heap.size w w') : Chg NoB w w' := ⟨h.os, h.tape, h.output, h.size, fun k hk _ => h.block k hk⟩

theorem strings_IndexByte_S {s : ByteArray} {c : Int} : SpecN Tryd.prog 84 [avS s, .v (.int .u8 c)] (fun y => y = avI (Lib.indexByte s.data.toList c.toNat.toUInt8)) := by
  intro w us ha
  rw [argsV2 ha]
  refine (Tryd.strings_IndexByte s c w).mono ?_
  rintro e w' ⟨rfl, rfl⟩
  exact ⟨_, _, rfl, rfl, .v _, Chg.refl _ _, trivial⟩
theorem strings_Trim_S {s cs : ByteArray} (hs : s.size ≤ 9223372036854775807) (hcs : cs.size < 4294967281) (hascii : ∀ (j : Nat) b, cs.data.toList[j]? = some b → b.toNat < 128) :
    SpecN Tryd.prog 85 [avS s, avS cs] (fun y => y = avS ⟨(Lib.trimS s.data.toList cs.data.toList).toArray⟩) := by
  intro w us ha
  rw [argsV2 ha]
  refine (Tryd.strings_Trim s cs w hs hcs hascii).mono ?_
  rintro e w' ⟨rfl, h⟩
  exact ⟨_, _, rfl, rfl, .v _, .ofBelowN h, trivial⟩



theorem lenB (p : ByteArray) : p.data.toList.length = p.size := by have := Lib.size_eq p; omega
theorem byteAt {p : ByteArray} {i : Nat} (h : i < p.size) : ((p[i].toNat : Int)).toNat.toUInt8 = p.data.toList.getD i 0 := by
  have : p[i] = p.data[i] := rfl
  rw [this]
  have h' : i < p.data.size := h
  simp [List.getD_eq_getElem?_getD]
  rw [Array.getElem?_eq_getElem h']; rfl
set_option maxRecDepth 100000 in
theorem rf_only {p cs : ByteArray} (hp : p.size ≤ 1000000000) :
    SpecN Tryd.prog 76 [avS p, avS cs] (fun y => y = avB (p.data.toList.all (inB cs.data.toList))) := by
  refine SpecN.of_VCN Tryd.func76 rfl Tryd.ntmps76 (Nat.le_of_ble_eq_true rfl) fun w A hB => ?_
  have hnew : True := trivial
  refine VC.seq ?_
  refine VC.region ?_
  refine VO.val rfl rfl (OpV.move (.inr rfl) rfl) ?_
  refine VO.nil ?_
  show VC _ _ _ _ _
  refine VC.seq ?_
  refine VC.seq ?_
  refine VC.region ?_
  refine VO.val rfl rfl (OpV.move (.inl rfl) rfl) ?_
  refine VO.val rfl rfl (OpV.len_s rfl Tryd.underlying9 rfl) ?_
  refine VO.val rfl rfl (OpV.move (.inl rfl) rfl) ?_
  refine VO.nil ?_
  show VC _ _ _ _ _
  refine VC.block ?_
  refine VC.loopK [] trivial ({q : Nat // q ≤ p.size ∧ ∀ j, j < q → inB cs.data.toList (p.data.toList.getD j 0) = true}) (fun (i : {q : Nat // q ≤ p.size ∧ ∀ j, j < q → inB cs.data.toList (p.data.toList.getD j 0) = true}) => match i with | ⟨q, hq, hn⟩ => [(0, avS p), (1, avS cs), (7, avI p.size), (8, avI (q : Int))]) (fun (i : {q : Nat // q ≤ p.size ∧ ∀ j, j < q → inB cs.data.toList (p.data.toList.getD j 0) = true}) => match i with | ⟨q, hq, hn⟩ => []) (fun (i : {q : Nat // q ≤ p.size ∧ ∀ j, j < q → inB cs.data.toList (p.data.toList.getD j 0) = true}) => match i with | ⟨q, hq, hn⟩ => 0) (fun (i : {q : Nat // q ≤ p.size ∧ ∀ j, j < q → inB cs.data.toList (p.data.toList.getD j 0) = true}) => match i with | ⟨q, hq, hn⟩ => p.size - q) ⟨0, Nat.zero_le _, fun j hj => absurd hj (Nat.not_lt_zero j)⟩ (Le.mk hB [] ⟨rfl, rfl, rfl, rfl, trivial⟩ rfl rfl (Nat.le_refl _)) ?_
  rintro ⟨q, hq, hn⟩
  show VC _ _ _ _ ⟨[(0, avS p), (1, avS cs), (7, avI p.size), (8, avI (q : Int))] ++ [], [], 0⟩
  refine VC.seq ?_
  refine VC.region ?_
  refine VO.val rfl rfl (OpV.lss rfl rfl rfl) ?_
  refine VO.nil ?_
  show VC _ _ _ _ _
  refine VC.seq ?_
  refine VC.cond rfl (fun aH1b => ?_) (fun aH1b => ?_)
  · have aH1 := aH1b
    try simp only [decide_eq_true_eq, decide_eq_false_iff_not, Bool.not_eq_true', Bool.not_eq_false', Int.not_lt, Int.not_le] at aH1
    refine VC.skip ?_
    show VC _ _ _ _ _
    refine VC.seq ?_
    refine VC.block ?_
    refine VC.seq ?_
    refine VC.region ?_
    refine VO.val rfl rfl (OpV.move (.inl rfl) rfl) ?_
    refine VO.val rfl rfl (OpV.move (.inr rfl) rfl) ?_
    refine VO.nil ?_
    show VC _ _ _ _ _
    refine VC.seq ?_
    refine VC.region ?_
    refine VO.val rfl rfl (OpV.move (.inl rfl) rfl) ?_
    refine VO.val rfl rfl (OpV.move (.inl rfl) rfl) ?_
    refine VO.val rfl rfl (OpV.move (.inl rfl) rfl) ?_
    refine VO.val rfl rfl (OpV.index_s rfl Tryd.underlying9 rfl rfl (by omega) (by omega)) ?_
    refine VO.op rfl (OpE.call rfl hB rfl Tryd.call84 rfl (SpecN.spec (strings_IndexByte_S)) ?_)
    rintro _ rfl
    refine VO.val rfl rfl (OpV.lss rfl rfl rfl) ?_
    refine VO.nil ?_
    show VC _ _ _ _ _
    refine VC.cond rfl (fun hcb => ?_) (fun hcb => ?_)
    · have hc := hcb
      try simp only [decide_eq_true_eq, decide_eq_false_iff_not, Bool.not_eq_true', Bool.not_eq_false', Int.not_lt, Int.not_le] at hc
      have hj : inB cs.data.toList (p.data.toList.getD q 0) = false := by unfold inB; rw [← byteAt (by omega)]; exact decide_eq_false (Int.not_le.2 hc)
      refine VC.seq ?_
      refine VC.region ?_
      refine VO.val rfl rfl (OpV.move (.inr rfl) rfl) ?_
      refine VO.nil ?_
      show VC _ _ _ _ _
      refine VC.ret ?_
      exact Exists.intro _ (And.intro (RetN.one Tryd.results76 (ResN.v rfl)) (by first | (rw [all_no (d := 0) (q := q) (by first | assumption | (simp; omega)) (by assumption)]) | (rw [all_yes (d := 0) (fun j hj => hn j (by have := lenB p; omega))])))
    · have hc := hcb
      try simp only [decide_eq_true_eq, decide_eq_false_iff_not, Bool.not_eq_true', Bool.not_eq_false', Int.not_lt, Int.not_le] at hc
      have hj : inB cs.data.toList (p.data.toList.getD q 0) = true := by unfold inB; rw [← byteAt (by omega)]; exact decide_eq_true hc
      refine VC.skip ?_
      show VC _ _ _ _ _
      refine VC.region ?_
      refine VO.val rfl rfl (OpV.add rfl rfl rfl (by unfold fits; omega)) ?_
      refine VO.val rfl rfl (OpV.move (.inl rfl) rfl) ?_
      refine VO.nil ?_
      exact Exists.intro (⟨q + 1, by omega, lt_succ_cases hn (by assumption)⟩) (And.intro (Le.mk hB [] ⟨rfl, rfl, rfl, rfl, trivial⟩ rfl rfl (Nat.le_refl _)) (by first | omega | (show _ < _; omega) | (simp only []; omega)))
  · have aH1 := aH1b
    try simp only [decide_eq_true_eq, decide_eq_false_iff_not, Bool.not_eq_true', Bool.not_eq_false', Int.not_lt, Int.not_le] at aH1
    refine VC.exit ?_
    show VC _ _ _ _ _
    refine VC.seq ?_
    refine VC.region ?_
    refine VO.val rfl rfl (OpV.move (.inr rfl) rfl) ?_
    refine VO.nil ?_
    show VC _ _ _ _ _
    refine VC.ret ?_
    exact Exists.intro _ (And.intro (RetN.one Tryd.results76 (ResN.v rfl)) (by first | (rw [all_no (d := 0) (q := q) (by first | assumption | (simp; omega)) (by assumption)]) | (rw [all_yes (d := 0) (fun j hj => hn j (by have := lenB p; omega))])))
theorem sEq_empty {p : ByteArray} : sEq p ⟨#[]⟩ = decide (p.size = 0) := by
  cases h : sEq p ⟨#[]⟩ with
  | true => rw [sEq_eq.1 h]; rfl
  | false =>
    refine (decide_eq_false fun e => ?_).symm
    have : p.data.toList = [] := List.eq_nil_of_length_eq_zero (by rw [lenB]; exact e)
    have : p = ⟨#[]⟩ := by cases p; simp at this; rw [this]
    rw [this] at h; rw [sEq_eq.2 rfl] at h; cases h
theorem pos_of_ne {p : ByteArray} (h : sEq p ⟨#[]⟩ = false) : 0 < p.size := by
  rw [sEq_empty] at h
  have := of_decide_eq_false h
  omega
theorem inB_contains (l : List UInt8) (b : UInt8) : inB l b = l.contains b := by
  induction l with
  | nil => rfl
  | cons x r ih =>
    unfold inB at ih ⊢
    rw [List.contains_cons, Lib.indexByte]
    have hge := Lib.indexByte_ge r b
    by_cases hx : x = b
    · subst hx; simp
    · have h1 : (x == b) = false := by simpa using hx
      have h2 : (b == x) = false := by simpa using fun e => hx e.symm
      rw [h1, h2, Bool.false_or, ← ih]
      simp only [Bool.false_eq_true, if_false]
      split
      · rename_i e
        have : Lib.indexByte r b = -1 := by simpa using e
        rw [this]
      · rename_i e
        have : Lib.indexByte r b ≠ -1 := by simpa using e
        congr 1
        exact propext ⟨fun _ => by omega, fun _ => by omega⟩
theorem dropWhile_nil {α : Type} {p : α → Bool} {l : List α} : l.dropWhile p = [] ↔ l.all p = true := by
  induction l with
  | nil => simp
  | cons x r ih =>
    by_cases h : p x = true
    · simp [List.dropWhile, h, ih]
    · simp [List.dropWhile, h]
theorem trimS_all (l cs : List UInt8) : Lib.trimS l cs = [] ↔ l.all (inB cs) = true := by
  have e : (inB cs) = (fun b => cs.contains b) := funext (inB_contains cs)
  rw [e]
  unfold Lib.trimS Lib.trimLeftS
  rw [dropWhile_nil]
  unfold Lib.trimRightS
  rw [List.all_reverse]
  have hsplit : l.reverse.takeWhile (cs.contains ·) ++ l.reverse.dropWhile (cs.contains ·) = l.reverse := List.takeWhile_append_dropWhile
  have h1 : l.all (fun b => cs.contains b) = l.reverse.all (fun b => cs.contains b) := by rw [List.all_reverse]
  rw [h1, ← hsplit, List.all_append]
  have h2 : (l.reverse.takeWhile (cs.contains ·)).all (fun b => cs.contains b) = true := List.all_takeWhile
  rw [h2, Bool.true_and, hsplit]
theorem take1 (p : ByteArray) : (p.extract 0 1).data.toList = p.data.toList.take 1 := by simp
theorem keyF_len {p : ByteArray} (h : (decide (1 ≤ (p.size : Int)) && decide ((p.size : Int) ≤ 40)) = false) : keyF p = false := by
  unfold keyF
  have e1 : decide (1 ≤ p.size) = decide (1 ≤ (p.size : Int)) := by congr 1; exact propext ⟨fun _ => by omega, fun _ => by omega⟩
  have e2 : decide (p.size ≤ 40) = decide ((p.size : Int) ≤ 40) := by congr 1; exact propext ⟨fun _ => by omega, fun _ => by omega⟩
  rw [e1, e2, h]; simp
theorem keyF_ok {p : ByteArray} (h : (decide (1 ≤ (p.size : Int)) && decide ((p.size : Int) ≤ 40)) = true) : keyF p = ((p.data.toList.take 1).all (inB smallsB) && p.data.toList.all (inB keysB)) := by
  unfold keyF
  have e1 : decide (1 ≤ p.size) = decide (1 ≤ (p.size : Int)) := by congr 1; exact propext ⟨fun _ => by omega, fun _ => by omega⟩
  have e2 : decide (p.size ≤ 40) = decide ((p.size : Int) ≤ 40) := by congr 1; exact propext ⟨fun _ => by omega, fun _ => by omega⟩
  rw [e1, e2, h]; simp
theorem keyF_1 {p : ByteArray} (h0 : (decide (1 ≤ (p.size : Int)) && decide ((p.size : Int) ≤ 40)) = true) (h : (p.extract 0 1).data.toList.all (inB smallsB) = false) : keyF p = false := by
  rw [keyF_ok h0, ← take1, h]; rfl
theorem keyF_2 {p : ByteArray} (h0 : (decide (1 ≤ (p.size : Int)) && decide ((p.size : Int) ≤ 40)) = true) (h : (p.extract 0 1).data.toList.all (inB smallsB) = true) : keyF p = p.data.toList.all (inB keysB) := by
  rw [keyF_ok h0, ← take1, h]; rfl
theorem kI_0 {p : ByteArray} (h : (!sEq p ⟨#[]⟩) = false) : keyF p = false := by
  have e : p = ⟨#[]⟩ := sEq_eq.1 (by simpa using h)
  subst e; rfl
theorem kI_len {p : ByteArray} (h : decide ((p.size : Int) ≤ 40) = false) : keyF p = false := keyF_len (by rw [h]; simp)
theorem kI_first {p : ByteArray} (h : 0 < p.size) : (p.data.toList.take 1).all (inB smallsB) = decide (0 ≤ Lib.indexByte smallsB ((p[0].toNat : Int)).toNat.toUInt8) := by
  rw [byteAt h]
  have hl := lenB p
  cases e : p.data.toList with
  | nil => rw [e] at hl; simp at hl; omega
  | cons x r => simp [inB]
theorem kI_in {p : ByteArray} (h0 : (!sEq p ⟨#[]⟩) = true) (h1 : decide ((p.size : Int) ≤ 40) = true) : 0 < p.size ∧ (decide (1 ≤ (p.size : Int)) && decide ((p.size : Int) ≤ 40)) = true := by
  have := pos_of_ne (p := p) (by simpa using h0)
  exact ⟨this, by rw [h1, decide_eq_true (by omega)]; rfl⟩
theorem kI_1 {p : ByteArray} (h0 : (!sEq p ⟨#[]⟩) = true) (h1 : decide ((p.size : Int) ≤ 40) = true) {hp : 0 < p.size} (h2 : decide (0 ≤ Lib.indexByte smallsB ((p[0].toNat : Int)).toNat.toUInt8) = false) : keyF p = false := by
  obtain ⟨h3, h4⟩ := kI_in h0 h1
  rw [keyF_ok h4, kI_first h3, h2]; rfl
theorem kI_2 {p : ByteArray} (h0 : (!sEq p ⟨#[]⟩) = true) (h1 : decide ((p.size : Int) ≤ 40) = true) {hp : 0 < p.size} (h2 : decide (0 ≤ Lib.indexByte smallsB ((p[0].toNat : Int)).toNat.toUInt8) = true) : keyF p = sEq ⟨(Lib.trimS p.data.toList keysB).toArray⟩ ⟨#[]⟩ := by
  obtain ⟨h3, h4⟩ := kI_in h0 h1
  rw [keyF_ok h4, kI_first h3, h2, Bool.true_and]
  have ht := trimS_all p.data.toList keysB
  cases h5 : p.data.toList.all (inB keysB) with
  | true => rw [ht.2 h5]; exact (sEq_eq.2 rfl).symm
  | false =>
    cases h6 : sEq ⟨(Lib.trimS p.data.toList keysB).toArray⟩ ⟨#[]⟩ with
    | false => rfl
    | true =>
      have e := congrArg (fun b : ByteArray => b.data.toList) (sEq_eq.1 h6)
      simp at e
      rw [ht.1 e] at h5; cases h5
set_option maxRecDepth 100000 in
theorem rf_Key {p : ByteArray} (hp : p.size ≤ 1000000000) :
    SpecN Tryd.prog 62 [avS p] (fun y => y = avB (keyF p)) := by
  refine SpecN.of_VCN Tryd.func62 rfl Tryd.ntmps62 (Nat.le_of_ble_eq_true rfl) fun w A hB => ?_
  have hnew : True := trivial
  refine VC.seq ?_
  refine VC.region ?_
  refine VO.val rfl rfl (OpV.move (.inr rfl) rfl) ?_
  refine VO.nil ?_
  show VC _ _ _ _ _
  refine VC.seq ?_
  refine VC.region ?_
  refine VO.val rfl rfl (OpV.move (.inl rfl) rfl) ?_
  refine VO.val rfl rfl (OpV.len_s rfl Tryd.underlying9 rfl) ?_
  refine VO.op rfl (OpE.call rfl hB rfl Tryd.call45 rfl (SpecN.spec (rf_in)) ?_)
  rintro _ rfl
  refine VO.val rfl rfl (OpV.move (.inl rfl) rfl) ?_
  refine VO.opG rfl rfl rfl rfl (fun aK1b => ?_) (fun aK1b => ?_)
  · replace aK1b : _ = true := aK1b
    have aK1 := aK1b
    try simp only [decide_eq_true_eq, decide_eq_false_iff_not, Bool.not_eq_true', Bool.not_eq_false', Int.not_lt, Int.not_le, Bool.and_eq_true] at aK1
    refine OpE.val (W := NoB) (OpV.move (.inl rfl) rfl) rfl ?_
    refine VO.opY rfl rfl rfl rfl aK1b ?_
    refine OpE.val (W := NoB) (OpV.slice_s (h := 1) rfl Tryd.underlying9 rfl rfl ⟨_, _, rfl, rfl⟩ (by omega) (by omega)) rfl ?_
    refine VO.opY rfl rfl rfl rfl aK1b ?_
    refine OpE.call rfl hB rfl Tryd.call76 rfl (SpecN.spec (rf_only (by rw [ByteArray.size_extract]; omega))) ?_
    rintro _ rfl
    refine VO.val rfl rfl (OpV.pickT rfl rfl rfl rfl aK1b) ?_
    refine VO.val rfl rfl (OpV.move (.inl rfl) rfl) ?_
    refine VO.opG rfl rfl rfl rfl (fun aK2b => ?_) (fun aK2b => ?_)
    · replace aK2b : _ = true := aK2b
      have aK2 := aK2b
      try simp only [decide_eq_true_eq, decide_eq_false_iff_not, Bool.not_eq_true', Bool.not_eq_false', Int.not_lt, Int.not_le, Bool.and_eq_true] at aK2
      refine OpE.val (W := NoB) (OpV.move (.inl rfl) rfl) rfl ?_
      refine VO.opY rfl rfl rfl rfl aK2b ?_
      refine OpE.call rfl hB rfl Tryd.call76 rfl (SpecN.spec ((rf_only (by omega)))) ?_
      rintro _ rfl
      refine VO.val rfl rfl (OpV.pickT rfl rfl rfl rfl aK2b) ?_
      refine VO.val rfl rfl (OpV.move (.inr rfl) rfl) ?_
      refine VO.nil ?_
      show VC _ _ _ _ _
      refine VC.ret ?_
      exact Exists.intro _ (And.intro (RetN.one Tryd.results62 (ResN.v rfl)) (by first | rw [keyF_len (by assumption)] | rw [keyF_1 (by assumption) (by assumption)] | (rw [keyF_2 (by assumption) (by assumption)]; rfl)))
    · replace aK2b : _ = false := aK2b
      have aK2 := aK2b
      try simp only [decide_eq_true_eq, decide_eq_false_iff_not, Bool.not_eq_true', Bool.not_eq_false', Int.not_lt, Int.not_le, Bool.and_eq_true] at aK2
      refine VO.opX rfl rfl rfl rfl aK2b ?_
      refine VO.val rfl rfl (OpV.pickF rfl rfl rfl rfl aK2b) ?_
      refine VO.val rfl rfl (OpV.move (.inr rfl) rfl) ?_
      refine VO.nil ?_
      show VC _ _ _ _ _
      refine VC.ret ?_
      exact Exists.intro _ (And.intro (RetN.one Tryd.results62 (ResN.v rfl)) (by first | rw [keyF_len (by assumption)] | rw [keyF_1 (by assumption) (by assumption)] | (rw [keyF_2 (by assumption) (by assumption)]; rfl)))
  · replace aK1b : _ = false := aK1b
    have aK1 := aK1b
    try simp only [decide_eq_true_eq, decide_eq_false_iff_not, Bool.not_eq_true', Bool.not_eq_false', Int.not_lt, Int.not_le, Bool.and_eq_true] at aK1
    refine VO.opX rfl rfl rfl rfl aK1b ?_
    refine VO.opX rfl rfl rfl rfl aK1b ?_
    refine VO.val rfl rfl (OpV.pickF rfl rfl rfl rfl aK1b) ?_
    refine VO.val rfl rfl (OpV.move (.inl rfl) rfl) ?_
    refine VO.opX rfl rfl rfl rfl rfl ?_
    refine VO.opX rfl rfl rfl rfl rfl ?_
    refine VO.val rfl rfl (OpV.pickF rfl rfl rfl rfl rfl) ?_
    refine VO.val rfl rfl (OpV.move (.inr rfl) rfl) ?_
    refine VO.nil ?_
    show VC _ _ _ _ _
    refine VC.ret ?_
    exact Exists.intro _ (And.intro (RetN.one Tryd.results62 (ResN.v rfl)) (by first | rw [keyF_len (by assumption)] | rw [keyF_1 (by assumption) (by assumption)] | (rw [keyF_2 (by assumption) (by assumption)]; rfl)))
set_option maxRecDepth 100000 in
theorem kit_IsKey {p : ByteArray} (hp : p.size ≤ 1000000000) :
    SpecN Tryd.prog 79 [avS p] (fun y => y = avB (keyF p)) := by
  refine SpecN.of_VCN Tryd.func79 rfl Tryd.ntmps79 (Nat.le_of_ble_eq_true rfl) fun w A hB => ?_
  have hnew : True := trivial
  refine VC.seq ?_
  refine VC.region ?_
  refine VO.val rfl rfl (OpV.move (.inr rfl) rfl) ?_
  refine VO.nil ?_
  show VC _ _ _ _ _
  refine VC.seq ?_
  refine VC.region ?_
  refine VO.val rfl rfl (OpV.move (.inl rfl) rfl) ?_
  refine VO.val rfl rfl (OpV.sneq rfl rfl rfl) ?_
  refine VO.val rfl rfl (OpV.move (.inl rfl) rfl) ?_
  refine VO.opG rfl rfl rfl rfl (fun aK1b => ?_) (fun aK1b => ?_)
  · replace aK1b : _ = true := aK1b
    have aK1 := aK1b
    try simp only [decide_eq_true_eq, decide_eq_false_iff_not, Bool.not_eq_true', Bool.not_eq_false', Int.not_lt, Int.not_le] at aK1
    refine OpE.val (W := NoB) (OpV.move (.inl rfl) rfl) rfl ?_
    refine VO.opY rfl rfl rfl rfl aK1b ?_
    refine OpE.val (W := NoB) (OpV.len_s rfl Tryd.underlying9 rfl) rfl ?_
    refine VO.opY rfl rfl rfl rfl aK1b ?_
    refine OpE.val (W := NoB) (OpV.leq rfl rfl rfl) rfl ?_
    refine VO.val rfl rfl (OpV.pickT rfl rfl rfl rfl aK1b) ?_
    refine VO.val rfl rfl (OpV.move (.inl rfl) rfl) ?_
    refine VO.opG rfl rfl rfl rfl (fun aK2b => ?_) (fun aK2b => ?_)
    · replace aK2b : _ = true := aK2b
      have aK2 := aK2b
      try simp only [decide_eq_true_eq, decide_eq_false_iff_not, Bool.not_eq_true', Bool.not_eq_false', Int.not_lt, Int.not_le] at aK2
      refine OpE.val (W := NoB) (OpV.move (.inl rfl) rfl) rfl ?_
      refine VO.opY rfl rfl rfl rfl aK2b ?_
      refine OpE.val (W := NoB) (OpV.index_s rfl Tryd.underlying9 rfl rfl (by omega) (by have h := pos_of_ne (p := p) (by assumption); simpa using h)) rfl ?_
      refine VO.opY rfl rfl rfl rfl aK2b ?_
      refine OpE.call rfl hB rfl Tryd.call84 rfl (SpecN.spec (strings_IndexByte_S)) ?_
      rintro _ rfl
      refine VO.opY rfl rfl rfl rfl aK2b ?_
      refine OpE.val (W := NoB) (OpV.geq rfl rfl rfl) rfl ?_
      refine VO.val rfl rfl (OpV.pickT rfl rfl rfl rfl aK2b) ?_
      refine VO.val rfl rfl (OpV.move (.inl rfl) rfl) ?_
      refine VO.opG rfl rfl rfl rfl (fun aK3b => ?_) (fun aK3b => ?_)
      · replace aK3b : _ = true := aK3b
        have aK3 := aK3b
        try simp only [decide_eq_true_eq, decide_eq_false_iff_not, Bool.not_eq_true', Bool.not_eq_false', Int.not_lt, Int.not_le] at aK3
        refine OpE.val (W := NoB) (OpV.move (.inl rfl) rfl) rfl ?_
        refine VO.opY rfl rfl rfl rfl aK3b ?_
        refine OpE.call rfl hB rfl Tryd.call85 rfl (SpecN.spec (strings_Trim_S (by omega) (by decide) (ascii_of_all (by decide)))) ?_
        rintro _ rfl
        refine VO.opY rfl rfl rfl rfl aK3b ?_
        refine OpE.val (W := NoB) (OpV.seql rfl rfl rfl) rfl ?_
        refine VO.val rfl rfl (OpV.pickT rfl rfl rfl rfl aK3b) ?_
        refine VO.val rfl rfl (OpV.move (.inr rfl) rfl) ?_
        refine VO.nil ?_
        show VC _ _ _ _ _
        refine VC.ret ?_
        exact Exists.intro _ (And.intro (RetN.one Tryd.results79 (ResN.v rfl)) (by first | rw [kI_0 (by assumption)] | rw [kI_len (by assumption)] | (rw [kI_1 (by assumption) (by assumption) (by assumption)]) | (rw [kI_2 (by assumption) (by assumption) (by assumption)]; rfl)))
      · replace aK3b : _ = false := aK3b
        have aK3 := aK3b
        try simp only [decide_eq_true_eq, decide_eq_false_iff_not, Bool.not_eq_true', Bool.not_eq_false', Int.not_lt, Int.not_le] at aK3
        refine VO.opX rfl rfl rfl rfl aK3b ?_
        refine VO.opX rfl rfl rfl rfl aK3b ?_
        refine VO.val rfl rfl (OpV.pickF rfl rfl rfl rfl aK3b) ?_
        refine VO.val rfl rfl (OpV.move (.inr rfl) rfl) ?_
        refine VO.nil ?_
        show VC _ _ _ _ _
        refine VC.ret ?_
        exact Exists.intro _ (And.intro (RetN.one Tryd.results79 (ResN.v rfl)) (by first | rw [kI_0 (by assumption)] | rw [kI_len (by assumption)] | (rw [kI_1 (by assumption) (by assumption) (by assumption)]) | (rw [kI_2 (by assumption) (by assumption) (by assumption)]; rfl)))
    · replace aK2b : _ = false := aK2b
      have aK2 := aK2b
      try simp only [decide_eq_true_eq, decide_eq_false_iff_not, Bool.not_eq_true', Bool.not_eq_false', Int.not_lt, Int.not_le] at aK2
      refine VO.opX rfl rfl rfl rfl aK2b ?_
      refine VO.opX rfl rfl rfl rfl aK2b ?_
      refine VO.opX rfl rfl rfl rfl aK2b ?_
      refine VO.val rfl rfl (OpV.pickF rfl rfl rfl rfl aK2b) ?_
      refine VO.val rfl rfl (OpV.move (.inl rfl) rfl) ?_
      refine VO.opX rfl rfl rfl rfl rfl ?_
      refine VO.opX rfl rfl rfl rfl rfl ?_
      refine VO.opX rfl rfl rfl rfl rfl ?_
      refine VO.val rfl rfl (OpV.pickF rfl rfl rfl rfl rfl) ?_
      refine VO.val rfl rfl (OpV.move (.inr rfl) rfl) ?_
      refine VO.nil ?_
      show VC _ _ _ _ _
      refine VC.ret ?_
      exact Exists.intro _ (And.intro (RetN.one Tryd.results79 (ResN.v rfl)) (by first | rw [kI_0 (by assumption)] | rw [kI_len (by assumption)] | (rw [kI_1 (by assumption) (by assumption) (by assumption)]) | (rw [kI_2 (by assumption) (by assumption) (by assumption)]; rfl)))
  · replace aK1b : _ = false := aK1b
    have aK1 := aK1b
    try simp only [decide_eq_true_eq, decide_eq_false_iff_not, Bool.not_eq_true', Bool.not_eq_false', Int.not_lt, Int.not_le] at aK1
    refine VO.opX rfl rfl rfl rfl aK1b ?_
    refine VO.opX rfl rfl rfl rfl aK1b ?_
    refine VO.val rfl rfl (OpV.pickF rfl rfl rfl rfl aK1b) ?_
    refine VO.val rfl rfl (OpV.move (.inl rfl) rfl) ?_
    refine VO.opX rfl rfl rfl rfl rfl ?_
    refine VO.opX rfl rfl rfl rfl rfl ?_
    refine VO.opX rfl rfl rfl rfl rfl ?_
    refine VO.opX rfl rfl rfl rfl rfl ?_
    refine VO.val rfl rfl (OpV.pickF rfl rfl rfl rfl rfl) ?_
    refine VO.val rfl rfl (OpV.move (.inl rfl) rfl) ?_
    refine VO.opX rfl rfl rfl rfl rfl ?_
    refine VO.opX rfl rfl rfl rfl rfl ?_
    refine VO.opX rfl rfl rfl rfl rfl ?_
    refine VO.val rfl rfl (OpV.pickF rfl rfl rfl rfl rfl) ?_
    refine VO.val rfl rfl (OpV.move (.inr rfl) rfl) ?_
    refine VO.nil ?_
    show VC _ _ _ _ _
    refine VC.ret ?_
    exact Exists.intro _ (And.intro (RetN.one Tryd.results79 (ResN.v rfl)) (by first | rw [kI_0 (by assumption)] | rw [kI_len (by assumption)] | (rw [kI_1 (by assumption) (by assumption) (by assumption)]) | (rw [kI_2 (by assumption) (by assumption) (by assumption)]; rfl)))
end Go.Proofs.YtgikefjbdhnffaaDoor
