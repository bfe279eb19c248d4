/- Setups and the parts of products: their errors, what is missing, changes and loads, as plain functions. -/
import Derived.Test.YtpajnlcikmhpdaaDoorMach
namespace Go.Proofs.YtpajnlcikmhpdaaDoor
open Go.RowKit
set_option linter.unusedVariables false
set_option linter.unusedSimpArgs false

structure ChgS where
  slot : Int
  out : ByteArray
  inn : ByteArray
instance : Inhabited ChgS := ⟨⟨0, ByteArray.empty, ByteArray.empty⟩⟩
instance : Sxc ChgS where
  k := 3
  pos := by decide
  cell m j := match j with
    | 0 => avI m.slot
    | 1 => avS m.out
    | 2 => avS m.inn
    | _ => .any
abbrev ε : ByteArray := ⟨#[]⟩
def has (s : List ByteArray) (x : ByteArray) : Bool := s.any fun y => sEq x y
def setupE (s : List ByteArray) (i : Nat) : Int :=
  if sEq (s.getD i ByteArray.empty) ε = true then 0 else if keyF (s.getD i ByteArray.empty) = false then 5 else if has (s.take i) (s.getD i ByteArray.empty) = true then 6 else 0
def setupF (s : List ByteArray) : Int := if s.length = 0 then 8 else if 100 < s.length then 2 else firstE (setupE s) s.length
def partE (slots : Int) (l : List ByteArray) : Int := if slots < l.length then 12 else firstE (canE l) l.length
def partsF (slots : Int) (p : List (List ByteArray)) : Int := if outR slots 1 100 = true then 1 else if 200 < p.length then 2 else firstE (fun i => partE slots (p.getD i default)) p.length
def missF (s parts : List ByteArray) : List ByteArray := parts.filter fun x => !has s x
/-- The changes of the first n slots. -/
def chgF (a b : List ByteArray) : Nat → List ChgS
  | 0 => []
  | n + 1 => if sEq (a.getD n ByteArray.empty) (b.getD n ByteArray.empty) = true then chgF a b n else chgF a b n ++ [⟨n, a.getD n ByteArray.empty, b.getD n ByteArray.empty⟩]
def changesE (a b : List ByteArray) : Int := if setupF a ≠ 0 then setupF a else if setupF b ≠ 0 then setupF b else if a.length ≠ b.length then 3 else 0
def changesF (a b : List ByteArray) : List ChgS := if changesE a b = 0 then chgF a b a.length else []
/-- How many of the changes put something in. -/
def loadN : List ChgS → Int
  | [] => 0
  | c :: r => (if sEq c.inn ε = true then 0 else 1) + loadN r
theorem loadN_snoc (l : List ChgS) (c : ChgS) : loadN (l ++ [c]) = loadN l + (if sEq c.inn ε = true then 0 else 1) := by
  induction l with
  | nil => simp [loadN]
  | cons x r ih => simp only [List.cons_append, loadN, ih]; omega
theorem setupF_none {s : List ByteArray} (h : s.length = 0) : setupF s = 8 := by rw [setupF, if_pos h]
theorem setupF_big {s : List ByteArray} (h : 100 < s.length) : setupF s = 2 := by rw [setupF, if_neg (by omega), if_pos h]
theorem setupF_at {s : List ByteArray} {e : Int} (h0 : 0 < s.length) (h : s.length ≤ 100) {q : Nat} (hq : q < s.length) (hn : ∀ j, j < q → setupE s j = 0) (he : setupE s q = e) (h1 : e ≠ 0) : setupF s = e := by
  rw [setupF, if_neg (by omega), if_neg (by omega), firstE_found hn (by rw [he]; exact h1) hq, he]
theorem setupF_ok {s : List ByteArray} (h0 : 0 < s.length) (h : s.length ≤ 100) (hn : ∀ j, j < s.length → setupE s j = 0) : setupF s = 0 := by
  rw [setupF, if_neg (by omega), if_neg (by omega), firstE_none hn]
theorem setupF_len {s : List ByteArray} (h : setupF s = 0) : 0 < s.length ∧ s.length ≤ 100 := by
  rw [setupF] at h
  split at h
  · cases h
  · split at h
    · cases h
    · omega
theorem setupF_zero {s : List ByteArray} (h : setupF s = 0) : ∀ j, j < s.length → setupE s j = 0 := by
  have hl := setupF_len h
  rw [setupF, if_neg (by omega), if_neg (by omega)] at h
  exact firstE_zero h
section
variable {s : List ByteArray} {i : Nat}
theorem setupE_e (h : sEq (s.getD i ByteArray.empty) ε = true) : setupE s i = 0 := by rw [setupE, if_pos h]
theorem setupE_5 (h : sEq (s.getD i ByteArray.empty) ε = false) (h2 : keyF (s.getD i ByteArray.empty) = false) : setupE s i = 5 := by rw [setupE, if_neg (by rw [h]; simp), if_pos h2]
theorem setupE_6 (h : sEq (s.getD i ByteArray.empty) ε = false) (h2 : keyF (s.getD i ByteArray.empty) = true) (h3 : has (s.take i) (s.getD i ByteArray.empty) = true) : setupE s i = 6 := by
  rw [setupE, if_neg (by rw [h]; simp), if_neg (by rw [h2]; simp), if_pos h3]
theorem setupE_0 (h : sEq (s.getD i ByteArray.empty) ε = false) (h2 : keyF (s.getD i ByteArray.empty) = true) (h3 : has (s.take i) (s.getD i ByteArray.empty) = false) : setupE s i = 0 := by
  rw [setupE, if_neg (by rw [h]; simp), if_neg (by rw [h2]; simp), if_neg (by rw [h3]; simp)]
end
section
variable {slots : Int} {p : List (List ByteArray)} {l : List ByteArray}
theorem partsF_1 (h : outR slots 1 100 = true) : partsF slots p = 1 := by rw [partsF, if_pos h]
theorem partsF_2 (h : outR slots 1 100 = false) (h2 : 200 < p.length) : partsF slots p = 2 := by rw [partsF, if_neg (by rw [h]; simp), if_pos h2]
theorem partsF_at (h : outR slots 1 100 = false) (h2 : p.length ≤ 200) {q : Nat} (hq : q < p.length) (hn : ∀ j, j < q → partE slots (p.getD j default) = 0) {e : Int} (he : partE slots (p.getD q default) = e) (h1 : e ≠ 0) : partsF slots p = e := by
  rw [partsF, if_neg (by rw [h]; simp), if_neg (by omega), firstE_found hn (by rw [he]; exact h1) hq, he]
theorem partsF_ok (h : outR slots 1 100 = false) (h2 : p.length ≤ 200) (hn : ∀ j, j < p.length → partE slots (p.getD j default) = 0) : partsF slots p = 0 := by
  rw [partsF, if_neg (by rw [h]; simp), if_neg (by omega), firstE_none hn]
theorem partsF_zero (h : partsF slots p = 0) : outR slots 1 100 = false ∧ p.length ≤ 200 ∧ ∀ j, j < p.length → partE slots (p.getD j default) = 0 := by
  rw [partsF] at h
  split at h
  · cases h
  · rename_i h1
    split at h
    · cases h
    · exact ⟨Bool.eq_false_iff.2 h1, by omega, firstE_zero h⟩
theorem partE_12 (h : slots < l.length) : partE slots l = 12 := by rw [partE, if_pos h]
theorem partE_at (h : ¬ slots < l.length) {q : Nat} (hq : q < l.length) (hn : ∀ j, j < q → canE l j = 0) {e : Int} (he : canE l q = e) (h1 : e ≠ 0) : partE slots l = e := by
  rw [partE, if_neg h, firstE_found hn (by rw [he]; exact h1) hq, he]
theorem partE_ok (h : ¬ slots < l.length) (hn : ∀ j, j < l.length → canE l j = 0) : partE slots l = 0 := by rw [partE, if_neg h, firstE_none hn]
theorem partE_zero (h : partE slots l = 0) : (l.length : Int) ≤ slots ∧ ∀ j, j < l.length → canE l j = 0 := by
  rw [partE] at h
  split at h
  · cases h
  · exact ⟨by omega, firstE_zero h⟩
end
theorem missF_yes {s p : List ByteArray} {q : Nat} (hq : q < p.length) (h : has s (p.getD q ByteArray.empty) = false) : missF s (p.take (q + 1)) = missF s (p.take q) ++ [p.getD q ByteArray.empty] := by
  rw [List.take_succ_eq_append_getElem hq]
  have e : p.getD q ByteArray.empty = p[q] := by simp [hq]
  rw [e] at h ⊢
  simp only [missF, List.filter_append, List.filter_cons, h, List.filter_nil, Bool.not_false, if_true]
theorem missF_no {s p : List ByteArray} {q : Nat} (hq : q < p.length) (h : has s (p.getD q ByteArray.empty) = true) : missF s (p.take (q + 1)) = missF s (p.take q) := by
  rw [List.take_succ_eq_append_getElem hq]
  have e : p.getD q ByteArray.empty = p[q] := by simp [hq]
  rw [e] at h
  simp only [missF, List.filter_append, List.filter_cons, h, List.filter_nil, Bool.not_true, if_false, List.append_nil, Bool.false_eq_true]
end Go.Proofs.YtpajnlcikmhpdaaDoor
