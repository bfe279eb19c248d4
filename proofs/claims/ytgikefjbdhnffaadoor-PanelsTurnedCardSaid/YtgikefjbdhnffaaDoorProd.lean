/- Products: what is wrong with one, how often each part is placed, as plain functions. -/
import Derived.Test.YtgikefjbdhnffaaDoorMach
import Derived.Test.YtgikefjbdhnffaaDoorKeysM
namespace Go.Proofs.YtgikefjbdhnffaaDoor
open Go.RowKit
set_option linter.unusedVariables false
set_option linter.unusedSimpArgs false

structure PlaceS where
  name : ByteArray
  part : ByteArray
  x : Int
  y : Int
  quarter : Int
instance : Inhabited PlaceS := ⟨⟨ByteArray.empty, ByteArray.empty, 0, 0, 0⟩⟩
instance : Sxc PlaceS where
  k := 5
  pos := by decide
  cell m j := match j with
    | 0 => avS m.name
    | 1 => avS m.part
    | 2 => avI m.x
    | 3 => avI m.y
    | 4 => avI m.quarter
    | _ => .any
structure ProdS where
  key : ByteArray
  wide : Int
  high : Int
  places : List PlaceS
instance : Inhabited ProdS := ⟨⟨ByteArray.empty, 0, 0, []⟩⟩
abbrev avProd (p : ProdS) : AV := .agg [avS p.key, avI p.wide, avI p.high, avL p.places]
abbrev boxProd (g : Nat) (p : ProdS) (ty : TypeId) : Ent := .box g ⟨[avS p.key, avI p.wide, avI p.high, avL p.places], ty, 4⟩
/-- Strings that are short. -/
structure SmP (p : ProdS) : Prop where
  key : p.key.size ≤ 1000000
  len : p.places.length ≤ 1000000
  name : ∀ i, (p.places.getD i default).name.size ≤ 1000000
  part : ∀ i, (p.places.getD i default).part.size ≤ 1000000
def placeE (p : ProdS) (i : Nat) : Int :=
  if (keyF (p.places.getD i default).name && keyF (p.places.getD i default).part) = false then 5
  else if (decide (0 < i) && sLe (p.places.getD i default).name (p.places.getD (i - 1) default).name) = true then 7
  else if (outR (p.places.getD i default).x 0 p.wide || (outR (p.places.getD i default).y 0 p.high || outR (p.places.getD i default).quarter 0 3)) = true then 1
  else 0
def prodF (p : ProdS) : Int :=
  if keyF p.key = false then 5
  else if (outR p.wide 1 500000 || outR p.high 1 500000) = true then 1
  else if 1000 < p.places.length then 2
  else firstE (placeE p) p.places.length
section
variable {p : ProdS} {i : Nat}
theorem placeE_5a (h : keyF (p.places.getD i default).name = false) : placeE p i = 5 := by rw [placeE, if_pos (by rw [h]; rfl)]
theorem placeE_5b (h : keyF (p.places.getD i default).part = false) : placeE p i = 5 := by rw [placeE, if_pos (by rw [h, Bool.and_false])]
theorem placeE_7 (h1 : keyF (p.places.getD i default).name = true) (h2 : keyF (p.places.getD i default).part = true) (hi : 0 < i) (hs : sLe (p.places.getD i default).name (p.places.getD (i - 1) default).name = true) : placeE p i = 7 := by
  rw [placeE, if_neg (by rw [h1, h2]; simp), if_pos (by rw [hs, decide_eq_true hi]; rfl)]
theorem placeE_x (h1 : keyF (p.places.getD i default).name = true) (h2 : keyF (p.places.getD i default).part = true) (hs : i = 0 ∨ sLe (p.places.getD i default).name (p.places.getD (i - 1) default).name = false) :
    placeE p i = if (outR (p.places.getD i default).x 0 p.wide || (outR (p.places.getD i default).y 0 p.high || outR (p.places.getD i default).quarter 0 3)) = true then 1 else 0 := by
  rw [placeE, if_neg (by rw [h1, h2]; simp), if_neg]
  rcases hs with rfl | hs
  · simp
  · rw [hs]; simp
theorem placeE_1 (h1 : keyF (p.places.getD i default).name = true) (h2 : keyF (p.places.getD i default).part = true) (hs : i = 0 ∨ sLe (p.places.getD i default).name (p.places.getD (i - 1) default).name = false)
    (ho : (outR (p.places.getD i default).x 0 p.wide || (outR (p.places.getD i default).y 0 p.high || outR (p.places.getD i default).quarter 0 3)) = true) : placeE p i = 1 := by rw [placeE_x h1 h2 hs, if_pos ho]
theorem placeE_0 (h1 : keyF (p.places.getD i default).name = true) (h2 : keyF (p.places.getD i default).part = true) (hs : i = 0 ∨ sLe (p.places.getD i default).name (p.places.getD (i - 1) default).name = false)
    (ho : (outR (p.places.getD i default).x 0 p.wide || (outR (p.places.getD i default).y 0 p.high || outR (p.places.getD i default).quarter 0 3)) = false) : placeE p i = 0 := by rw [placeE_x h1 h2 hs, if_neg (by rw [ho]; simp)]
theorem prodF_5 (h : keyF p.key = false) : prodF p = 5 := by rw [prodF, if_pos h]
theorem prodF_1 (h : keyF p.key = true) (h1 : (outR p.wide 1 500000 || outR p.high 1 500000) = true) : prodF p = 1 := by rw [prodF, if_neg (by rw [h]; simp), if_pos h1]
theorem prodF_2 (h : keyF p.key = true) (h1 : (outR p.wide 1 500000 || outR p.high 1 500000) = false) (h2 : 1000 < p.places.length) : prodF p = 2 := by rw [prodF, if_neg (by rw [h]; simp), if_neg (by rw [h1]; simp), if_pos h2]
theorem prodF_x (h : keyF p.key = true) (h1 : (outR p.wide 1 500000 || outR p.high 1 500000) = false) (h2 : p.places.length ≤ 1000) : prodF p = firstE (placeE p) p.places.length := by rw [prodF, if_neg (by rw [h]; simp), if_neg (by rw [h1]; simp), if_neg (by omega)]
theorem prodF_at (h : keyF p.key = true) (h1 : (outR p.wide 1 500000 || outR p.high 1 500000) = false) (h2 : p.places.length ≤ 1000) {q : Nat} (hq : q < p.places.length) (hn : ∀ j, j < q → placeE p j = 0) {e : Int} (he : placeE p q = e) (h0 : e ≠ 0) : prodF p = e := by
  rw [prodF_x h h1 h2, firstE_found hn (by rw [he]; exact h0) hq, he]
theorem prodF_ok (h : keyF p.key = true) (h1 : (outR p.wide 1 500000 || outR p.high 1 500000) = false) (h2 : p.places.length ≤ 1000) (hn : ∀ j, j < p.places.length → placeE p j = 0) : prodF p = 0 := by
  rw [prodF_x h h1 h2, firstE_none hn]
theorem or2a {a b : Bool} (h : a = true) : (a || b) = true := by rw [h]; rfl
theorem or2b {a b : Bool} (h : b = true) : (a || b) = true := by rw [h, Bool.or_true]
theorem or2f {a b : Bool} (h : a = false) (h' : b = false) : (a || b) = false := by rw [h, h']; rfl
end
/-- What a right product is. -/
structure ProdOk (p : ProdS) : Prop where
  key : keyF p.key = true
  wide : 1 ≤ p.wide ∧ p.wide ≤ 500000
  high : 1 ≤ p.high ∧ p.high ≤ 500000
  len : p.places.length ≤ 1000
  all : ∀ j, j < p.places.length → placeE p j = 0
theorem prodOk {p : ProdS} (h : prodF p = 0) : ProdOk p := by
  unfold prodF at h
  split at h
  · cases h
  · rename_i h1
    split at h
    · cases h
    · rename_i h2
      split at h
      · cases h
      · rename_i h3
        have h2' : (outR p.wide 1 500000 || outR p.high 1 500000) = false := by simpa using h2
        simp only [outR, Bool.or_eq_false_iff, decide_eq_false_iff_not] at h2'
        exact ⟨by simpa using h1, by omega, by omega, by omega, firstE_zero h⟩
/-- How often each part is placed: in the order in which the parts come. -/
def cntP (l : List PlaceS) : List (ByteArray × Int) := l.foldl (fun m x => mput m x.part (mgetD m x.part 0 + 1)) []
theorem cntP_snoc (l : List PlaceS) (x : PlaceS) : cntP (l ++ [x]) = mput (cntP l) x.part (mgetD (cntP l) x.part 0 + 1) := by simp [cntP]
theorem take_snocD {α : Type} {l : List α} {q : Nat} (h : q < l.length) (d : α) : l.take (q + 1) = l.take q ++ [l.getD q d] := by
  rw [List.take_add_one, List.getD_eq_getElem?_getD, List.getElem?_eq_getElem h]; rfl
theorem cntP_take {l : List PlaceS} {q : Nat} (h : q < l.length) : cntP (l.take (q + 1)) = mput (cntP (l.take q)) (l.getD q default).part (mgetD (cntP (l.take q)) (l.getD q default).part 0 + 1) := by
  rw [take_snocD h default, cntP_snoc]
theorem mget_mput {α : Type} : ∀ (l : List (ByteArray × α)) (k k' : ByteArray) (x : α), mget (mput l k x) k' = if k' = k then some x else mget l k'
  | [], k, k', x => by simp [mput, mget]
  | p :: r, k, k', x => by
    by_cases e : k = p.1
    · subst e
      simp only [mput, if_true, mget]
      by_cases e2 : k' = p.1
      · simp [e2]
      · simp [e2]
    · simp only [mput, if_neg e, mget]
      by_cases e2 : k' = p.1
      · rw [if_pos e2, if_neg (fun h => e (h.symm.trans e2))]; simp [e2]
      · rw [if_neg e2, mget_mput r k k' x]; simp [e2]
theorem mgetD_mput {α : Type} (l : List (ByteArray × α)) (k k' : ByteArray) (x z : α) : mgetD (mput l k x) k' z = if k' = k then x else mgetD l k' z := by
  unfold mgetD; rw [mget_mput]; split <;> rfl
theorem cntP_count : ∀ (l : List PlaceS) (m : List (ByteArray × Int)) (k : ByteArray), mgetD (l.foldl (fun m x => mput m x.part (mgetD m x.part 0 + 1)) m) k 0 = mgetD m k 0 + (l.filter fun x => decide (x.part = k)).length
  | [], m, k => by simp
  | x :: l, m, k => by
    rw [List.foldl_cons, cntP_count l, mgetD_mput]
    by_cases e : k = x.part
    · subst e; simp; omega
    · rw [if_neg e, List.filter_cons_of_neg (by simp; exact fun h => e h.symm)]
theorem cntP_get (l : List PlaceS) (k : ByteArray) : mgetD (cntP l) k 0 = (l.filter fun x => decide (x.part = k)).length := by
  rw [cntP, cntP_count]; simp [mgetD, mget]
theorem cntP_bd (l : List PlaceS) (k : ByteArray) : 0 ≤ mgetD (cntP l) k 0 ∧ mgetD (cntP l) k 0 ≤ l.length := by
  rw [cntP_get]
  have := List.length_filter_le (fun x : PlaceS => decide (x.part = k)) l
  omega
theorem cntP_nodup' : ∀ (l : List PlaceS) (m : List (ByteArray × Int)), (m.map (·.1)).Nodup → ((l.foldl (fun m x => mput m x.part (mgetD m x.part 0 + 1)) m).map (·.1)).Nodup
  | [], m, h => h
  | x :: l, m, h => cntP_nodup' l _ (mput_nodup h _ _)
theorem cntP_nodup (l : List PlaceS) : ((cntP l).map (·.1)).Nodup := cntP_nodup' l [] List.nodup_nil
theorem cntP_mem' : ∀ (l : List PlaceS) (m : List (ByteArray × Int)) (k : ByteArray), k ∈ (l.foldl (fun m x => mput m x.part (mgetD m x.part 0 + 1)) m).map (·.1) ↔ k ∈ m.map (·.1) ∨ ∃ x ∈ l, x.part = k
  | [], m, k => by simp
  | x :: l, m, k => by
    rw [List.foldl_cons, cntP_mem' l, mput_mem, or_assoc]
    simp only [List.mem_cons, exists_eq_or_imp]
    exact ⟨fun h => h.elim .inl fun h => h.elim (fun h => .inr (.inl h.symm)) fun h => .inr (.inr h), fun h => h.elim .inl fun h => h.elim (fun h => .inr (.inl h.symm)) fun h => .inr (.inr h)⟩
theorem cntP_mem {l : List PlaceS} {k : ByteArray} : k ∈ (cntP l).map (·.1) ↔ ∃ x ∈ l, x.part = k := by rw [cntP, cntP_mem']; simp
theorem cntP_len (l : List PlaceS) : (cntP l).length ≤ l.length := by
  unfold cntP
  have : ∀ (l : List PlaceS) (m : List (ByteArray × Int)), (l.foldl (fun m x => mput m x.part (mgetD m x.part 0 + 1)) m).length ≤ m.length + l.length := by
    intro l
    induction l with
    | nil => intro m; simp
    | cons x l ih =>
      intro m
      have := ih (mput m x.part (mgetD m x.part 0 + 1))
      have h2 := mput_len m x.part (mgetD m x.part 0 + 1)
      simp only [List.foldl_cons, List.length_cons]
      split at h2 <;> omega
  simpa using this l []
def needsL (p : ProdS) : List NeedS := (sKeys (cntP p.places)).map fun k => ⟨k, mgetD (cntP p.places) k 0⟩
def needsR (p : ProdS) : List NeedS := if prodF p = 0 then needsL p else []
theorem needsL_len (p : ProdS) : (needsL p).length = (cntP p.places).length := by simp [needsL, sKeys_len]
end Go.Proofs.YtgikefjbdhnffaaDoor
