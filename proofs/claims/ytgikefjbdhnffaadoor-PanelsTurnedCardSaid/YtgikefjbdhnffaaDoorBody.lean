/- Bodies of parts: what is wrong with them, which placements are crowded or beyond an edge, as plain functions. -/
import Derived.Test.YtgikefjbdhnffaaDoorProd
namespace Go.Proofs.YtgikefjbdhnffaaDoor
open Go.RowKit
set_option linter.unusedVariables false
set_option linter.unusedSimpArgs false

structure BodyS where
  part : ByteArray
  wide : Int
  high : Int
instance : Inhabited BodyS := ⟨⟨ByteArray.empty, 0, 0⟩⟩
instance : Sxc BodyS where
  k := 3
  pos := by decide
  cell m j := match j with
    | 0 => avS m.part
    | 1 => avI m.wide
    | 2 => avI m.high
    | _ => .any
structure LyS where
  name : ByteArray
  left : Int
  right : Int
  lower : Int
  high : Int
instance : Inhabited LyS := ⟨⟨ByteArray.empty, 0, 0, 0, 0⟩⟩
instance : Sxc LyS where
  k := 5
  pos := by decide
  cell m j := match j with
    | 0 => avS m.name
    | 1 => avI m.left
    | 2 => avI m.right
    | 3 => avI m.lower
    | 4 => avI m.high
    | _ => .any
structure PairS where
  name : ByteArray
  value : ByteArray
instance : Inhabited PairS := ⟨⟨ByteArray.empty, ByteArray.empty⟩⟩
instance : Sxc PairS where
  k := 2
  pos := by decide
  cell m j := match j with
    | 0 => avS m.name
    | 1 => avS m.value
    | _ => .any
structure SmB (l : List BodyS) : Prop where
  len : l.length ≤ 1000000
  part : ∀ i, (l.getD i default).part.size ≤ 1000000
def bodyE (l : List BodyS) (i : Nat) : Int :=
  if keyF (l.getD i default).part = false then 5
  else if (outR (l.getD i default).wide 1 500000 || outR (l.getD i default).high 1 500000) = true then 1
  else if (decide (0 < i) && sLe (l.getD i default).part (l.getD (i - 1) default).part) = true then 7
  else 0
def bodiesF (l : List BodyS) : Int := if 500 < l.length then 2 else firstE (bodyE l) l.length
def gapF (n : Int) : Int := if outR n 0 500000 = true then 1 else 0
section
variable {l : List BodyS} {i : Nat}
theorem bodyE_5 (h : keyF (l.getD i default).part = false) : bodyE l i = 5 := by rw [bodyE, if_pos h]
theorem bodyE_1 (h : keyF (l.getD i default).part = true) (h1 : (outR (l.getD i default).wide 1 500000 || outR (l.getD i default).high 1 500000) = true) : bodyE l i = 1 := by rw [bodyE, if_neg (by rw [h]; simp), if_pos h1]
theorem bodyE_7 (h : keyF (l.getD i default).part = true) (h1 : (outR (l.getD i default).wide 1 500000 || outR (l.getD i default).high 1 500000) = false) (hi : 0 < i) (hs : sLe (l.getD i default).part (l.getD (i - 1) default).part = true) : bodyE l i = 7 := by
  rw [bodyE, if_neg (by rw [h]; simp), if_neg (by rw [h1]; simp), if_pos (by rw [hs, decide_eq_true hi]; rfl)]
theorem bodyE_0 (h : keyF (l.getD i default).part = true) (h1 : (outR (l.getD i default).wide 1 500000 || outR (l.getD i default).high 1 500000) = false) (hs : i = 0 ∨ sLe (l.getD i default).part (l.getD (i - 1) default).part = false) : bodyE l i = 0 := by
  rw [bodyE, if_neg (by rw [h]; simp), if_neg (by rw [h1]; simp), if_neg]
  rcases hs with rfl | hs
  · simp
  · rw [hs]; simp
def lastB (l : List BodyS) (q : Nat) : ByteArray := if q = 0 then ⟨#[]⟩ else (l.getD (q - 1) default).part
theorem lastB_succ (l : List BodyS) (q : Nat) : lastB l (q + 1) = (l.getD q default).part := by simp [lastB]
theorem bodyE_7' (h : keyF (l.getD i default).part = true) (h1 : (outR (l.getD i default).wide 1 500000 || outR (l.getD i default).high 1 500000) = false) (hs : sLe (l.getD i default).part (lastB l i) = true) : bodyE l i = 7 := by
  by_cases hq : i = 0
  · rw [lastB, if_pos hq, sLe_empty h] at hs; cases hs
  · rw [lastB, if_neg hq] at hs; exact bodyE_7 h h1 (by omega) hs
theorem bodyE_0' (h : keyF (l.getD i default).part = true) (h1 : (outR (l.getD i default).wide 1 500000 || outR (l.getD i default).high 1 500000) = false) (hs : sLe (l.getD i default).part (lastB l i) = false) : bodyE l i = 0 := by
  by_cases hq : i = 0
  · exact bodyE_0 h h1 (.inl hq)
  · rw [lastB, if_neg hq] at hs; exact bodyE_0 h h1 (.inr hs)
theorem bodiesF_2 (h : 500 < l.length) : bodiesF l = 2 := by rw [bodiesF, if_pos h]
theorem bodiesF_at (h : l.length ≤ 500) {q : Nat} (hq : q < l.length) (hn : ∀ j, j < q → bodyE l j = 0) {e : Int} (he : bodyE l q = e) (h0 : e ≠ 0) : bodiesF l = e := by rw [bodiesF, if_neg (by omega), firstE_found hn (by rw [he]; exact h0) hq, he]
theorem bodiesF_ok (h : l.length ≤ 500) (hn : ∀ j, j < l.length → bodyE l j = 0) : bodiesF l = 0 := by rw [bodiesF, if_neg (by omega), firstE_none hn]
end
structure BodOk (l : List BodyS) : Prop where
  len : l.length ≤ 500
  all : ∀ j, j < l.length → bodyE l j = 0
theorem bodOk {l : List BodyS} (h : bodiesF l = 0) : BodOk l := by
  unfold bodiesF at h
  split at h
  · cases h
  · exact ⟨by omega, firstE_zero h⟩
theorem bodyE_zero {l : List BodyS} {i : Nat} (h : bodyE l i = 0) : ((1 ≤ (l.getD i default).wide ∧ (l.getD i default).wide ≤ 500000) ∧ 1 ≤ (l.getD i default).high ∧ (l.getD i default).high ≤ 500000) ∧ (i = 0 ∨ sLe (l.getD i default).part (l.getD (i - 1) default).part = false) := by
  unfold bodyE at h
  split at h
  · cases h
  · split at h
    · cases h
    · rename_i h1
      split at h
      · cases h
      · rename_i h2
        have h1' : (outR (l.getD i default).wide 1 500000 || outR (l.getD i default).high 1 500000) = false := by simpa using h1
        simp only [outR, Bool.or_eq_false_iff, decide_eq_false_iff_not] at h1'
        refine ⟨by omega, ?_⟩
        by_cases hi : i = 0
        · exact .inl hi
        · right
          cases hs : sLe (l.getD i default).part (l.getD (i - 1) default).part with
          | false => rfl
          | true => exact absurd (by rw [hs, decide_eq_true (by omega : 0 < i)]; rfl) h2
theorem placeE_zero {p : ProdS} {i : Nat} (h : placeE p i = 0) : (0 ≤ (p.places.getD i default).x ∧ (p.places.getD i default).x ≤ p.wide) ∧ (0 ≤ (p.places.getD i default).y ∧ (p.places.getD i default).y ≤ p.high) ∧ (0 ≤ (p.places.getD i default).quarter ∧ (p.places.getD i default).quarter ≤ 3) := by
  unfold placeE at h
  split at h
  · cases h
  · split at h
    · cases h
    · split at h
      · cases h
      · rename_i h1
        have h1' := Bool.not_eq_true _ ▸ h1
        simp only [outR, Bool.or_eq_true, decide_eq_true_eq, not_or] at h1
        omega
/-- The sizes of a body that is turned. -/
def bW (q : Int) (b : BodyS) : Int := if Int.tmod q 2 = 1 then b.high else b.wide
def bH (q : Int) (b : BodyS) : Int := if Int.tmod q 2 = 1 then b.wide else b.high
def lyOf (c : PlaceS) (b : BodyS) : LyS := ⟨c.name, 2 * c.x - bW c.quarter b, 2 * c.x + bW c.quarter b, 2 * c.y - bH c.quarter b, 2 * c.y + bH c.quarter b⟩
def bodM (l : List BodyS) : List (ByteArray × BodyS) := l.foldl (fun m x => mput m x.part x) []
theorem bodM_take {l : List BodyS} {q : Nat} (h : q < l.length) : bodM (l.take (q + 1)) = mput (bodM (l.take q)) (l.getD q default).part (l.getD q default) := by
  rw [take_snocD h default]; simp [bodM]
def lyO (b : List BodyS) (c : PlaceS) : Option LyS := (mget (bodM b) c.part).map (lyOf c)
def lyL (p : ProdS) (b : List BodyS) : List LyS := p.places.filterMap (lyO b)
theorem lyL_take {p : ProdS} {b : List BodyS} {q : Nat} (h : q < p.places.length) : (p.places.take (q + 1)).filterMap (lyO b) = (p.places.take q).filterMap (lyO b) ++ (match mget (bodM b) (p.places.getD q default).part with | some x => [lyOf (p.places.getD q default) x] | none => []) := by
  rw [take_snocD h default, List.filterMap_append]
  congr 1
  generalize p.places.getD q default = c
  rw [List.filterMap_cons, List.filterMap_nil]
  unfold lyO
  cases mget (bodM b) c.part <;> rfl
def bodsE (p : ProdS) (b : List BodyS) (n : Int) : Int := if prodF p ≠ 0 then prodF p else if bodiesF b ≠ 0 then bodiesF b else gapF n
def lyR (p : ProdS) (b : List BodyS) (n : Int) : List LyS := if bodsE p b n = 0 then lyL p b else []
/-- Nearer than a gap. -/
def nearL (gap : Int) (x y : LyS) : Bool := decide (max (x.left - y.right) (y.left - x.right) < 2 * gap) && decide (max (x.lower - y.high) (y.lower - x.high) < 2 * gap)
def pairO (gap : Int) (x y : LyS) : Option PairS := if nearL gap x y = true then some ⟨x.name, y.name⟩ else none
def beyondO (p : ProdS) (edge : Int) (x : LyS) : Option ByteArray := if min (min (min x.left (2 * p.wide - x.right)) x.lower) (2 * p.high - x.high) < 2 * edge then some x.name else none
/-- All pairs, by rows. -/
def pairsR {α β : Type} [Inhabited α] (f : α → α → Option β) (l : List α) (q : Nat) : List β := (List.range q).flatMap fun i => (l.drop (i + 1)).filterMap (f (l.getD i default))
theorem pairsR_succ {α β : Type} [Inhabited α] (f : α → α → Option β) (l : List α) (q : Nat) : pairsR f l (q + 1) = pairsR f l q ++ (l.drop (q + 1)).filterMap (f (l.getD q default)) := by
  simp [pairsR, List.range_succ]
def pairsL {α β : Type} (f : α → α → Option β) : List α → List β
  | [] => []
  | x :: r => r.filterMap (f x) ++ pairsL f r
theorem pairsR_cons {α β : Type} [Inhabited α] (f : α → α → Option β) (x : α) (r : List α) : ∀ q, pairsR f (x :: r) (q + 1) = r.filterMap (f x) ++ pairsR f r q
  | 0 => by simp [pairsR]
  | q + 1 => by
    rw [pairsR_succ, pairsR_cons f x r q, pairsR_succ, List.append_assoc]
    simp
theorem pairsR_all {α β : Type} [Inhabited α] (f : α → α → Option β) : ∀ l : List α, pairsR f l l.length = pairsL f l
  | [] => rfl
  | x :: r => by rw [List.length_cons, pairsR_cons, pairsR_all f r]; rfl
theorem pairsL_map {α β γ : Type} (f : α → α → Option β) (g : γ → Option α) : ∀ l : List γ, pairsL f (l.filterMap g) = pairsL (fun a b => (g a).bind fun x => (g b).bind (f x)) l
  | [] => rfl
  | c :: r => by
    rw [List.filterMap_cons]
    cases e : g c with
    | none => simp [pairsL, e, pairsL_map f g r, List.filterMap_eq_nil_iff]
    | some x =>
      simp only [pairsL, e, Option.bind_some, pairsL_map f g r, List.filterMap_filterMap]
def crowdR (p : ProdS) (b : List BodyS) (n : Int) : List PairS := if bodsE p b n = 0 then pairsL (pairO n) (lyL p b) else []
def beyondR (p : ProdS) (b : List BodyS) (n : Int) : List ByteArray := if bodsE p b n = 0 then (lyL p b).filterMap (beyondO p n) else []
/-- The reference's pairs and placements. -/
def crowdRef (p : ProdS) (b : List BodyS) (n : Int) : List PairS := pairsL (fun c d => (lyO b c).bind fun x => (lyO b d).bind (pairO n x)) p.places
def beyondRef (p : ProdS) (b : List BodyS) (n : Int) : List ByteArray := p.places.filterMap fun c => (lyO b c).bind (beyondO p n)
theorem crowd_eq (p : ProdS) (b : List BodyS) (n : Int) : pairsL (pairO n) (lyL p b) = crowdRef p b n := pairsL_map _ _ _
theorem beyond_eq (p : ProdS) (b : List BodyS) (n : Int) : (lyL p b).filterMap (beyondO p n) = beyondRef p b n := by
  rw [lyL, List.filterMap_filterMap]; rfl
end Go.Proofs.YtgikefjbdhnffaaDoor
