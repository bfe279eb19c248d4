/- Panels: what is wrong with one, which boards are outside, which overlap, the panel turned, as plain functions. -/
import Derived.Test.YtgikefjbdhnffaaDoorProd
import Derived.Test.YtgikefjbdhnffaaDoorBody
namespace Go.Proofs.YtgikefjbdhnffaaDoor
open Go.RowKit
set_option linter.unusedVariables false
set_option linter.unusedSimpArgs false

structure SlotS where
  x : Int
  y : Int
  quarter : Int
  skip : Bool
instance : Inhabited SlotS := ⟨⟨0, 0, 0, false⟩⟩
instance : Sxc SlotS where
  k := 4
  pos := by decide
  cell m j := match j with
    | 0 => avI m.x
    | 1 => avI m.y
    | 2 => avI m.quarter
    | 3 => avB m.skip
    | _ => .any
structure PanS where
  wide : Int
  high : Int
  slots : List SlotS
abbrev avPan (n : PanS) : AV := .agg [avI n.wide, avI n.high, avL n.slots]
abbrev boxPan (g : Nat) (n : PanS) (ty : TypeId) : Ent := .box g ⟨[avI n.wide, avI n.high, avL n.slots], ty, 3⟩
structure IPair where
  a : Int
  b : Int
instance : Inhabited IPair := ⟨⟨0, 0⟩⟩
instance : Sxc IPair where
  k := 2
  pos := by decide
  cell m j := match j with
    | 0 => avI m.a
    | 1 => avI m.b
    | _ => .any
def slotB (s : SlotS) : Bool := outR s.x 0 500000 || (outR s.y 0 500000 || outR s.quarter 0 3)
def panF (n : PanS) : Int :=
  if (outR n.wide 1 500000 || outR n.high 1 500000) = true then 1
  else if 100 < n.slots.length then 2
  else if n.slots.any slotB = true then 1 else 0
def panelF (p : ProdS) (n : PanS) : Int := if prodF p ≠ 0 then prodF p else panF n
section
variable {n : PanS}
theorem panF_1 (h : (outR n.wide 1 500000 || outR n.high 1 500000) = true) : panF n = 1 := if_pos h
theorem panF_2 (h : (outR n.wide 1 500000 || outR n.high 1 500000) = false) (h2 : 100 < n.slots.length) : panF n = 2 := by rw [panF, if_neg (by rw [h]; simp), if_pos h2]
theorem panF_3 (h : (outR n.wide 1 500000 || outR n.high 1 500000) = false) (h2 : n.slots.length ≤ 100) {q : Nat} (hq : q < n.slots.length) (h3 : slotB (n.slots.getD q default) = true) : panF n = 1 := by
  rw [panF, if_neg (by rw [h]; simp), if_neg (by omega), if_pos]
  rw [List.any_eq_true]
  refine ⟨_, List.getElem_mem hq, ?_⟩
  rwa [List.getD_eq_getElem?_getD, List.getElem?_eq_getElem hq] at h3
theorem panF_0 (h : (outR n.wide 1 500000 || outR n.high 1 500000) = false) (h2 : n.slots.length ≤ 100) (hn : ∀ j, j < n.slots.length → slotB (n.slots.getD j default) = false) : panF n = 0 := by
  rw [panF, if_neg (by rw [h]; simp), if_neg (by omega), if_neg]
  rw [Bool.not_eq_true, List.any_eq_false]
  intro x hx
  obtain ⟨j, hj, rfl⟩ := List.getElem_of_mem hx
  have := hn j hj
  rw [List.getD_eq_getElem?_getD, List.getElem?_eq_getElem hj] at this
  simpa using this
structure PanOk (n : PanS) : Prop where
  wide : 1 ≤ n.wide ∧ n.wide ≤ 500000
  high : 1 ≤ n.high ∧ n.high ≤ 500000
  len : n.slots.length ≤ 100
  all : ∀ j, j < n.slots.length → (0 ≤ (n.slots.getD j default).x ∧ (n.slots.getD j default).x ≤ 500000) ∧ (0 ≤ (n.slots.getD j default).y ∧ (n.slots.getD j default).y ≤ 500000) ∧ 0 ≤ (n.slots.getD j default).quarter ∧ (n.slots.getD j default).quarter ≤ 3
theorem panOk (h : panF n = 0) : PanOk n := by
  unfold panF at h
  split at h
  · cases h
  · rename_i h1
    split at h
    · cases h
    · rename_i h2
      split at h
      · cases h
      · rename_i h3
        have h1' : (outR n.wide 1 500000 || outR n.high 1 500000) = false := by simpa using h1
        simp only [outR, Bool.or_eq_false_iff, decide_eq_false_iff_not] at h1'
        refine ⟨by omega, by omega, by omega, fun j hj => ?_⟩
        have h4 := Bool.not_eq_true _ ▸ h3
        rw [Bool.not_eq_true, List.any_eq_false] at h3
        have h5 := h3 _ (List.getElem_mem hj)
        rw [List.getD_eq_getElem?_getD, List.getElem?_eq_getElem hj]
        simp only [slotB, outR, Bool.or_eq_true, decide_eq_true_eq, not_or] at h5
        simp only [Option.getD_some]
        omega
end
theorem panelF_0 {p : ProdS} {n : PanS} (h : panelF p n = 0) : prodF p = 0 ∧ panF n = 0 := by
  unfold panelF at h
  split at h
  · rename_i h1; exact absurd h h1
  · exact ⟨by omega, h⟩
/-- How wide, how high a board is in a slot. -/
def szW (p : ProdS) (q : Int) : Int := if Int.tmod q 2 = 1 then p.high else p.wide
def szH (p : ProdS) (q : Int) : Int := if Int.tmod q 2 = 1 then p.wide else p.high
def outO (p : ProdS) (n : PanS) (s : SlotS) : Bool := decide (s.x + szW p s.quarter > n.wide) || decide (s.y + szH p s.quarter > n.high)
/-- The numbers of those for which f holds. -/
def numsL {α : Type} [Inhabited α] (f : α → Bool) (l : List α) (q : Nat) : List Int := ((List.range q).filter fun i => f (l.getD i default)).map fun i : Nat => (i : Int)
theorem numsL_succ {α : Type} [Inhabited α] (f : α → Bool) (l : List α) (q : Nat) : numsL f l (q + 1) = numsL f l q ++ (if f (l.getD q default) = true then [(q : Int)] else []) := by
  unfold numsL
  rw [List.range_succ, List.filter_append, List.map_append]
  congr 1
  by_cases h : f (l.getD q default) = true
  · rw [if_pos h, List.filter_cons_of_pos (p := fun i => f (l.getD i default)) h]; rfl
  · rw [if_neg h, List.filter_cons_of_neg (p := fun i => f (l.getD i default)) h]; rfl
theorem numsL_len {α : Type} [Inhabited α] (f : α → Bool) (l : List α) (q : Nat) : (numsL f l q).length ≤ q := by
  unfold numsL
  have := List.length_filter_le (fun i => f (l.getD i default)) (List.range q)
  simpa using this
theorem numsL_congr {α : Type} [Inhabited α] {f g : α → Bool} {l : List α} : ∀ q, (∀ j, j < q → f (l.getD j default) = g (l.getD j default)) → numsL f l q = numsL g l q
  | 0, _ => rfl
  | q + 1, h => by rw [numsL_succ, numsL_succ, numsL_congr q fun j hj => h j (by omega), h q (by omega)]
def outL (p : ProdS) (n : PanS) : List Int := numsL (outO p n) n.slots n.slots.length
def outsR (p : ProdS) (n : PanS) : List Int := if panelF p n = 0 then outL p n else []
def ovO (p : ProdS) (a b : SlotS) : Bool := decide (a.x < b.x + szW p b.quarter) && (decide (b.x < a.x + szW p a.quarter) && (decide (a.y < b.y + szH p b.quarter) && decide (b.y < a.y + szH p a.quarter)))
/-- The pairs of numbers i < k for which f holds. -/
def rowN {α : Type} [Inhabited α] (f : α → α → Bool) (l : List α) (i k : Nat) : List IPair := ((List.range' (i + 1) (k - (i + 1))).filter fun j => f (l.getD i default) (l.getD j default)).map fun j : Nat => ⟨(i : Int), (j : Int)⟩
theorem rowN_succ {α : Type} [Inhabited α] (f : α → α → Bool) (l : List α) {i k : Nat} (h : i < k) : rowN f l i (k + 1) = rowN f l i k ++ (if f (l.getD i default) (l.getD k default) = true then [⟨(i : Int), (k : Int)⟩] else []) := by
  unfold rowN
  rw [show k + 1 - (i + 1) = (k - (i + 1)) + 1 by omega, List.range'_1_concat, List.filter_append, List.map_append, show i + 1 + (k - (i + 1)) = k by omega]
  congr 1
  by_cases h : f (l.getD i default) (l.getD k default) = true
  · rw [if_pos h, List.filter_cons_of_pos (p := fun j => f (l.getD i default) (l.getD j default)) h]; rfl
  · rw [if_neg h, List.filter_cons_of_neg (p := fun j => f (l.getD i default) (l.getD j default)) h]; rfl
theorem rowN_len {α : Type} [Inhabited α] (f : α → α → Bool) (l : List α) (i k : Nat) : (rowN f l i k).length ≤ k := by
  unfold rowN
  have := List.length_filter_le (fun j => f (l.getD i default) (l.getD j default)) (List.range' (i + 1) (k - (i + 1)))
  simp only [List.length_map, List.length_range'] at this ⊢
  omega
theorem rowN_0 {α : Type} [Inhabited α] (f : α → α → Bool) (l : List α) (i : Nat) : rowN f l i (i + 1) = [] := by simp [rowN]
def pairN {α : Type} [Inhabited α] (f : α → α → Bool) (l : List α) (q : Nat) : List IPair := (List.range q).flatMap fun i => rowN f l i (max (i + 1) l.length)
theorem pairN_succ {α : Type} [Inhabited α] (f : α → α → Bool) (l : List α) (q : Nat) : pairN f l (q + 1) = pairN f l q ++ rowN f l q (max (q + 1) l.length) := by
  simp [pairN, List.range_succ]
theorem pairN_len {α : Type} [Inhabited α] (f : α → α → Bool) (l : List α) : ∀ q, q ≤ l.length → (pairN f l q).length ≤ q * l.length
  | 0, _ => by simp [pairN]
  | q + 1, h => by
    rw [pairN_succ, List.length_append, Nat.add_mul]
    have h1 := pairN_len f l q (by omega)
    have h2 := rowN_len f l q (max (q + 1) l.length)
    omega
theorem rowN_congr {α : Type} [Inhabited α] {f g : α → α → Bool} {l : List α} {i : Nat} (h : ∀ j, j < l.length → f (l.getD i default) (l.getD j default) = g (l.getD i default) (l.getD j default)) : ∀ k, k ≤ l.length → i < k → rowN f l i k = rowN g l i k
  | 0, _, h0 => by omega
  | k + 1, hk, h0 => by
    by_cases e : i = k
    · subst e; rw [rowN_0, rowN_0]
    · rw [rowN_succ f l (by omega), rowN_succ g l (by omega), rowN_congr h k (by omega) (by omega), h k (by omega)]
theorem pairN_congr {α : Type} [Inhabited α] {f g : α → α → Bool} {l : List α} (h : ∀ i j, i < l.length → j < l.length → f (l.getD i default) (l.getD j default) = g (l.getD i default) (l.getD j default)) : ∀ q, q ≤ l.length → pairN f l q = pairN g l q
  | 0, _ => rfl
  | q + 1, hq => by
    rw [pairN_succ, pairN_succ, pairN_congr h q (by omega), Nat.max_eq_right hq, rowN_congr (fun j hj => h q j (by omega) hj) _ (Nat.le_refl _) (by omega)]
def ovL (p : ProdS) (n : PanS) : List IPair := pairN (ovO p) n.slots n.slots.length
def ovsR (p : ProdS) (n : PanS) : List IPair := if panelF p n = 0 then ovL p n else []
/-- A slot of the panel turned. -/
def turnS (p : ProdS) (n : PanS) (s : SlotS) : SlotS := ⟨n.high - s.y - szH p s.quarter, s.x, Int.tmod (s.quarter + 1) 4, s.skip⟩
def turnP (p : ProdS) (n : PanS) : PanS := ⟨n.high, n.wide, n.slots.map (turnS p n)⟩
def turnE (p : ProdS) (n : PanS) : Int := if panelF p n ≠ 0 then panelF p n else panF (turnP p n)
def turnR (p : ProdS) (n : PanS) : PanS := if turnE p n = 0 then turnP p n else ⟨0, 0, []⟩
/-- The rectangle of a board in a slot, by its corners. -/
structure BoxS where
  left : Int
  low : Int
  right : Int
  high : Int
def plX (p : ProdS) (q : Int) (x y : Int) : Int := if q = 0 then x else if q = 1 then p.high - y else if q = 2 then p.wide - x else y
def plY (p : ProdS) (q : Int) (x y : Int) : Int := if q = 0 then y else if q = 1 then x else if q = 2 then p.high - y else p.wide - x
def boxF (p : ProdS) (s : SlotS) : BoxS :=
  ⟨min (plX p s.quarter 0 0 + s.x) (plX p s.quarter p.wide p.high + s.x), min (plY p s.quarter 0 0 + s.y) (plY p s.quarter p.wide p.high + s.y), max (plX p s.quarter 0 0 + s.x) (plX p s.quarter p.wide p.high + s.x), max (plY p s.quarter 0 0 + s.y) (plY p s.quarter p.wide p.high + s.y)⟩
theorem tmod2 {q : Int} (h : 0 ≤ q ∧ q ≤ 3) : Int.tmod q 2 = q % 2 := Int.tmod_eq_emod_of_nonneg (by omega)
theorem boxF_eq {p : ProdS} {s : SlotS} (hw : 1 ≤ p.wide) (hh : 1 ≤ p.high) (hq : 0 ≤ s.quarter ∧ s.quarter ≤ 3) : boxF p s = ⟨s.x, s.y, s.x + szW p s.quarter, s.y + szH p s.quarter⟩ := by
  have h2 := tmod2 hq
  unfold boxF plX plY szW szH
  rw [h2]
  rcases (show s.quarter = 0 ∨ s.quarter = 1 ∨ s.quarter = 2 ∨ s.quarter = 3 by omega) with h | h | h | h <;> rw [h] <;> simp <;> omega
end Go.Proofs.YtgikefjbdhnffaaDoor
