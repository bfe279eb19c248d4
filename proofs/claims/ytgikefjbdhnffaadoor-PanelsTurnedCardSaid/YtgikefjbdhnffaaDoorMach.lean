/- Machines, needs and plans: their errors and cycles as plain functions. -/
import Derived.Test.YtgikefjbdhnffaaDoorKeys
namespace Go.Proofs.YtgikefjbdhnffaaDoor
open Go.RowKit
set_option linter.unusedVariables false
set_option linter.unusedSimpArgs false

structure Mach where
  key : ByteArray
  each : Int
  fixed : Int
  feeders : Int
  can : List ByteArray
instance : Inhabited Mach := ⟨⟨ByteArray.empty, 0, 0, 0, []⟩⟩
instance : Sxc Mach where
  k := 5
  pos := by decide
  cell m j := match j with
    | 0 => avS m.key
    | 1 => avI m.each
    | 2 => avI m.fixed
    | 3 => avI m.feeders
    | 4 => avStrs m.can
    | _ => .any
structure NeedS where
  key : ByteArray
  count : Int
instance : Inhabited NeedS := ⟨⟨ByteArray.empty, 0⟩⟩
instance : Sxc NeedS where
  k := 2
  pos := by decide
  cell m j := match j with
    | 0 => avS m.key
    | 1 => avI m.count
    | _ => .any

/-- The first that is not 0, of the first n; else 0. -/
def firstE (e : Nat → Int) : Nat → Int
  | 0 => 0
  | n + 1 => if firstE e n = 0 then e n else firstE e n
theorem firstE_none {e : Nat → Int} : ∀ {n : Nat}, (∀ j, j < n → e j = 0) → firstE e n = 0
  | 0, _ => rfl
  | n + 1, h => by
    rw [firstE, firstE_none (fun j hj => h j (by omega)), if_pos rfl]
    exact h n (by omega)
theorem firstE_found {e : Nat → Int} {q : Nat} (h : ∀ j, j < q → e j = 0) (hq : e q ≠ 0) : ∀ {n : Nat}, q < n → firstE e n = e q
  | 0, hn => by omega
  | n + 1, hn => by
    rw [firstE]
    by_cases hqn : q = n
    · subst hqn; rw [firstE_none h, if_pos rfl]
    · have := firstE_found h hq (n := n) (by omega)
      rw [this, if_neg hq]
theorem firstE_zero {e : Nat → Int} : ∀ {n : Nat}, firstE e n = 0 → ∀ j, j < n → e j = 0
  | 0, _, j, hj => by omega
  | n + 1, h, j, hj => by
    rw [firstE] at h
    split at h
    · rename_i h0
      by_cases hjn : j = n
      · rw [hjn]; exact h
      · exact firstE_zero h0 j (by omega)
    · rename_i h0; exact absurd h h0

def sLe (p q : ByteArray) : Bool := sLt p q || sEq p q
def outR (n a b : Int) : Bool := decide (n < a) || decide (b < n)
def canE (l : List ByteArray) (i : Nat) : Int :=
  if keyF (l.getD i ByteArray.empty) = false then 5
  else if (decide (0 < i) && sLe (l.getD i ByteArray.empty) (l.getD (i - 1) ByteArray.empty)) = true then 7 else 0
def canF (l : List ByteArray) : Int := if 1000 < l.length then 2 else firstE (canE l) l.length
def machE (ms : List Mach) (i : Nat) : Int :=
  if keyF (ms.getD i default).key = false then 5
  else if (ms.take i).any (fun o => sEq o.key (ms.getD i default).key) = true then 6
  else if (outR (ms.getD i default).each 0 10000000 || (outR (ms.getD i default).fixed 0 10000000 || outR (ms.getD i default).feeders 0 100)) = true then 1
  else canF (ms.getD i default).can
def machF (ms : List Mach) : Int := if ms.length = 0 then 8 else if 6 < ms.length then 2 else firstE (machE ms) ms.length
def needE (ns : List NeedS) (lo hi : Int) (i : Nat) : Int :=
  if keyF (ns.getD i default).key = false then 5
  else if (decide (0 < i) && sLe (ns.getD i default).key (ns.getD (i - 1) default).key) = true then 7
  else if outR (ns.getD i default).count lo hi = true then 1 else 0
def needsF (ns : List NeedS) (lo hi : Int) : Int := if 1000 < ns.length then 2 else firstE (needE ns lo hi) ns.length
theorem canF_big {l : List ByteArray} (h : 1000 < l.length) : canF l = 2 := by rw [canF, if_pos h]
theorem canF_at {l : List ByteArray} (h : l.length ≤ 1000) {q : Nat} (hq : q < l.length) (hn : ∀ j, j < q → canE l j = 0) (he : canE l q ≠ 0) : canF l = canE l q := by
  rw [canF, if_neg (by omega), firstE_found hn he hq]
theorem canF_ok {l : List ByteArray} (h : l.length ≤ 1000) (hn : ∀ j, j < l.length → canE l j = 0) : canF l = 0 := by
  rw [canF, if_neg (by omega), firstE_none hn]
theorem canE_5 {l : List ByteArray} {i : Nat} (h : keyF (l.getD i ByteArray.empty) = false) : canE l i = 5 := by rw [canE, if_pos h]
theorem canE_7 {l : List ByteArray} {i : Nat} (h : keyF (l.getD i ByteArray.empty) = true) (hi : 0 < i) (hs : sLe (l.getD i ByteArray.empty) (l.getD (i - 1) ByteArray.empty) = true) : canE l i = 7 := by
  rw [canE, if_neg (by rw [h]; simp), if_pos (by rw [hs, decide_eq_true hi]; rfl)]
theorem canE_0 {l : List ByteArray} {i : Nat} (h : keyF (l.getD i ByteArray.empty) = true) (hs : i = 0 ∨ sLe (l.getD i ByteArray.empty) (l.getD (i - 1) ByteArray.empty) = false) : canE l i = 0 := by
  rw [canE, if_neg (by rw [h]; simp), if_neg]
  rcases hs with rfl | hs
  · simp
  · rw [hs]; simp
theorem needsF_big {l : List NeedS} {lo hi : Int} (h : 1000 < l.length) : needsF l lo hi = 2 := by rw [needsF, if_pos h]
theorem needsF_at {l : List NeedS} {lo hi e : Int} (h : l.length ≤ 1000) {q : Nat} (hq : q < l.length) (hn : ∀ j, j < q → needE l lo hi j = 0) (he : needE l lo hi q = e) (h0 : e ≠ 0) : needsF l lo hi = e := by
  rw [needsF, if_neg (by omega), firstE_found hn (by rw [he]; exact h0) hq, he]
theorem needsF_ok {l : List NeedS} {lo hi : Int} (h : l.length ≤ 1000) (hn : ∀ j, j < l.length → needE l lo hi j = 0) : needsF l lo hi = 0 := by
  rw [needsF, if_neg (by omega), firstE_none hn]
section
variable {l : List NeedS} {lo hi : Int} {i : Nat}
theorem needE_5 (h : keyF (l.getD i default).key = false) : needE l lo hi i = 5 := by rw [needE, if_pos h]
theorem needE_7 (h : keyF (l.getD i default).key = true) (hi' : 0 < i) (hs : sLe (l.getD i default).key (l.getD (i - 1) default).key = true) : needE l lo hi i = 7 := by
  rw [needE, if_neg (by rw [h]; simp), if_pos (by rw [hs, decide_eq_true hi']; rfl)]
theorem needE_x (h : keyF (l.getD i default).key = true) (hs : i = 0 ∨ sLe (l.getD i default).key (l.getD (i - 1) default).key = false) : needE l lo hi i = if outR (l.getD i default).count lo hi = true then 1 else 0 := by
  rw [needE, if_neg (by rw [h]; simp), if_neg]
  rcases hs with rfl | hs
  · simp
  · rw [hs]; simp
theorem needE_1 (h : keyF (l.getD i default).key = true) (hs : i = 0 ∨ sLe (l.getD i default).key (l.getD (i - 1) default).key = false) (ho : outR (l.getD i default).count lo hi = true) : needE l lo hi i = 1 := by rw [needE_x h hs, if_pos ho]
theorem needE_0 (h : keyF (l.getD i default).key = true) (hs : i = 0 ∨ sLe (l.getD i default).key (l.getD (i - 1) default).key = false) (ho : outR (l.getD i default).count lo hi = false) : needE l lo hi i = 0 := by rw [needE_x h hs, if_neg (by rw [ho]; simp)]
end
theorem machF_none {ms : List Mach} (h : ms.length = 0) : machF ms = 8 := by rw [machF, if_pos h]
theorem machF_big {ms : List Mach} (h : 6 < ms.length) : machF ms = 2 := by rw [machF, if_neg (by omega), if_pos h]
theorem machF_at {ms : List Mach} {e : Int} (h0 : 0 < ms.length) (h : ms.length ≤ 6) {q : Nat} (hq : q < ms.length) (hn : ∀ j, j < q → machE ms j = 0) (he : machE ms q = e) (h1 : e ≠ 0) : machF ms = e := by
  rw [machF, if_neg (by omega), if_neg (by omega), firstE_found hn (by rw [he]; exact h1) hq, he]
theorem machF_ok {ms : List Mach} (h0 : 0 < ms.length) (h : ms.length ≤ 6) (hn : ∀ j, j < ms.length → machE ms j = 0) : machF ms = 0 := by
  rw [machF, if_neg (by omega), if_neg (by omega), firstE_none hn]
section
variable {ms : List Mach} {i : Nat}
theorem machE_5 (h : keyF (ms.getD i default).key = false) : machE ms i = 5 := by rw [machE, if_pos h]
theorem machE_6 (h : keyF (ms.getD i default).key = true) (h2 : (ms.take i).any (fun o => sEq o.key (ms.getD i default).key) = true) : machE ms i = 6 := by rw [machE, if_neg (by rw [h]; simp), if_pos h2]
theorem machE_1 (h : keyF (ms.getD i default).key = true) (h2 : (ms.take i).any (fun o => sEq o.key (ms.getD i default).key) = false)
    (h3 : (outR (ms.getD i default).each 0 10000000 || (outR (ms.getD i default).fixed 0 10000000 || outR (ms.getD i default).feeders 0 100)) = true) : machE ms i = 1 := by
  rw [machE, if_neg (by rw [h]; simp), if_neg (by rw [h2]; simp), if_pos h3]
theorem machE_x (h : keyF (ms.getD i default).key = true) (h2 : (ms.take i).any (fun o => sEq o.key (ms.getD i default).key) = false)
    (h3 : (outR (ms.getD i default).each 0 10000000 || (outR (ms.getD i default).fixed 0 10000000 || outR (ms.getD i default).feeders 0 100)) = false) : machE ms i = canF (ms.getD i default).can := by
  rw [machE, if_neg (by rw [h]; simp), if_neg (by rw [h2]; simp), if_neg (by rw [h3]; simp)]
end
theorem or3a {a b c : Bool} (h : a = true) : (a || (b || c)) = true := by rw [h]; rfl
theorem or3b {a b c : Bool} (h : b = true) : (a || (b || c)) = true := by rw [h]; cases a <;> rfl
theorem or3c {a b c : Bool} (h : c = true) : (a || (b || c)) = true := by rw [h]; cases a <;> cases b <;> rfl
theorem or3f {a b c : Bool} (h1 : a = false) (h2 : b = false) (h3 : c = false) : (a || (b || c)) = false := by rw [h1, h2, h3]; rfl
theorem outR_in (n a b : Int) : outR n a b = !(decide (a ≤ n) && decide (n ≤ b)) := by
  unfold outR
  rw [Bool.eq_iff_iff]
  simp only [Bool.or_eq_true, decide_eq_true_eq, Bool.not_eq_true', Bool.and_eq_false_iff, decide_eq_false_iff_not]
  omega
theorem o3a {n a b : Int} {x y : Bool} (h : (!(decide (a ≤ n) && decide (n ≤ b))) = true) : (outR n a b || (x || y)) = true := or3a ((outR_in n a b).trans h)
theorem o3b {n a b : Int} {x y : Bool} (h : (!(decide (a ≤ n) && decide (n ≤ b))) = true) : (x || (outR n a b || y)) = true := or3b ((outR_in n a b).trans h)
theorem o3c {n a b : Int} {x y : Bool} (h : (!(decide (a ≤ n) && decide (n ≤ b))) = true) : (x || (y || outR n a b)) = true := or3c ((outR_in n a b).trans h)
theorem o3f {n a b m c d k e f : Int} (h1 : (!(decide (a ≤ n) && decide (n ≤ b))) = false) (h2 : (!(decide (c ≤ m) && decide (m ≤ d))) = false) (h3 : (!(decide (e ≤ k) && decide (k ≤ f))) = false) : (outR n a b || (outR m c d || outR k e f)) = false :=
  or3f ((outR_in _ _ _).trans h1) ((outR_in _ _ _).trans h2) ((outR_in _ _ _).trans h3)
theorem sLe_empty {p : ByteArray} (h : keyF p = true) : sLe p ⟨#[]⟩ = false := by
  unfold sLe
  have h1 : sLt p ⟨#[]⟩ = false := by
    unfold sLt
    rw [Lib.toList_data, Lib.toList_data]
    cases p.data.toList <;> rfl
  rw [h1, Bool.false_or, sEq_empty]
  refine decide_eq_false fun e => ?_
  have : keyF p = false := keyF_len (by rw [e]; rfl)
  rw [this] at h; cases h
def lastS (l : List ByteArray) (q : Nat) : ByteArray := if q = 0 then ⟨#[]⟩ else l.getD (q - 1) ByteArray.empty
theorem lastS_succ (l : List ByteArray) (q : Nat) : lastS l (q + 1) = l.getD q ByteArray.empty := by simp [lastS]
theorem canE_7' {l : List ByteArray} {q : Nat} (h : keyF (l.getD q ByteArray.empty) = true) (hs : sLe (l.getD q ByteArray.empty) (lastS l q) = true) : canE l q = 7 := by
  by_cases hq : q = 0
  · rw [lastS, if_pos hq, sLe_empty h] at hs; cases hs
  · rw [lastS, if_neg hq] at hs; exact canE_7 h (by omega) hs
theorem canE_0' {l : List ByteArray} {q : Nat} (h : keyF (l.getD q ByteArray.empty) = true) (hs : sLe (l.getD q ByteArray.empty) (lastS l q) = false) : canE l q = 0 := by
  by_cases hq : q = 0
  · exact canE_0 h (.inl hq)
  · rw [lastS, if_neg hq] at hs; exact canE_0 h (.inr hs)
def lastN (l : List NeedS) (q : Nat) : ByteArray := if q = 0 then ⟨#[]⟩ else (l.getD (q - 1) default).key
theorem lastN_succ (l : List NeedS) (q : Nat) : lastN l (q + 1) = (l.getD q default).key := by simp [lastN]
theorem needE_7' {l : List NeedS} {lo hi : Int} {q : Nat} (h : keyF (l.getD q default).key = true) (hs : sLe (l.getD q default).key (lastN l q) = true) : needE l lo hi q = 7 := by
  by_cases hq : q = 0
  · rw [lastN, if_pos hq, sLe_empty h] at hs; cases hs
  · rw [lastN, if_neg hq] at hs; exact needE_7 h (by omega) hs
theorem lastN_ne {l : List NeedS} {q : Nat} (h : keyF (l.getD q default).key = true) (hs : sLe (l.getD q default).key (lastN l q) = false) : q = 0 ∨ sLe (l.getD q default).key (l.getD (q - 1) default).key = false := by
  by_cases hq : q = 0
  · exact .inl hq
  · rw [lastN, if_neg hq] at hs; exact .inr hs
def faultF (ms : List Mach) (ns : List NeedS) : Int := if machF ms ≠ 0 then machF ms else needsF ns 1 1000
theorem faultF_0 {ms : List Mach} {ns : List NeedS} (h : faultF ms ns = 0) : machF ms = 0 ∧ needsF ns 1 1000 = 0 := by
  rw [faultF] at h
  split at h
  · rename_i h1; exact absurd h h1
  · rename_i h1; exact ⟨by omega, h⟩
theorem or_mid {a b c : Bool} (h : (a || b) = true) : (a || (b || c)) = true := by revert h; cases a <;> cases b <;> simp
end Go.Proofs.YtgikefjbdhnffaaDoor
