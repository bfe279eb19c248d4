/- The plain meaning of the slices package's searches. -/
import Derived.Test.YtgikefjbdhnffaaDoorSxOwn
import Derived.Lib.Strings
namespace Go.Proofs.YtgikefjbdhnffaaDoor
open Go.RowKit
set_option linter.unusedVariables false
set_option linter.unusedSimpArgs false

theorem bA_beq (a b : ByteArray) : (a == b) = decide (a = b) := by
  cases a with | mk x => cases b with | mk y =>
  have : ((⟨x⟩ : ByteArray) == ⟨y⟩) = (x == y) := rfl
  rw [this, Bool.eq_iff_iff, beq_iff_eq, decide_eq_true_eq]
  exact ⟨fun h => by rw [h], fun h => by cases h; rfl⟩
instance : LawfulBEq ByteArray where
  eq_of_beq h := by rw [bA_beq] at h; exact of_decide_eq_true h
  rfl {a} := by rw [bA_beq]; exact decide_eq_true rfl
/-- The first place with p, or -1. -/
def fidx {α : Type} (p : α → Bool) : List α → Int
  | [] => -1
  | x :: r => match p x with
    | true => 0
    | false => match fidx p r with
      | Int.ofNat n => Int.ofNat (n + 1)
      | i => i
theorem fidx_found {α : Type} {p : α → Bool} {d : α} : ∀ {xs : List α} {q : Nat}, q < xs.length → (∀ j, j < q → p (xs.getD j d) = false) → p (xs.getD q d) = true → fidx p xs = q
  | [], q, h, _, _ => by simp at h
  | x :: r, 0, h, h1, h2 => by simp at h2; simp [fidx, h2]
  | x :: r, q + 1, h, h1, h2 => by
    have h0 := h1 0 (by omega)
    simp at h0
    have ih := fidx_found (d := d) (xs := r) (q := q) (by simpa using h) (fun j hj => by simpa using h1 (j + 1) (by omega)) (by simpa using h2)
    simp only [fidx, h0, ih]
    rfl
theorem fidx_none {α : Type} {p : α → Bool} {d : α} : ∀ {xs : List α}, (∀ j, j < xs.length → p (xs.getD j d) = false) → fidx p xs = -1
  | [], _ => rfl
  | x :: r, h => by
    have h0 := h 0 (by simp)
    simp at h0
    have ih := fidx_none (d := d) (xs := r) (fun j hj => by simpa using h (j + 1) (by simpa using hj))
    simp only [fidx, h0, ih]
theorem fidx_at {α : Type} {p : α → Bool} {d : α} : ∀ {xs : List α}, 0 ≤ fidx p xs → (fidx p xs).toNat < xs.length ∧ p (xs.getD (fidx p xs).toNat d) = true ∧ ∀ j, j < (fidx p xs).toNat → p (xs.getD j d) = false
  | [], h => by simp [fidx] at h
  | x :: r, h => by
    cases hx : p x with
    | true =>
      have e : fidx p (x :: r) = 0 := by simp [fidx, hx]
      rw [e]
      exact ⟨by simp, by simpa using hx, fun j hj => by simp at hj⟩
    | false =>
      cases hf : fidx p r with
      | ofNat n =>
        have e : fidx p (x :: r) = Int.ofNat (n + 1) := by simp [fidx, hx, hf]
        have ih := fidx_at (d := d) (xs := r) (by rw [hf]; exact Int.natCast_nonneg n)
        rw [hf] at ih
        rw [e]
        refine ⟨Nat.succ_lt_succ ih.1, by simpa using ih.2.1, fun j hj => ?_⟩
        cases j with
        | zero => simpa using hx
        | succ j => simpa using ih.2.2 j (Nat.lt_of_succ_lt_succ hj)
      | negSucc n =>
        have e : fidx p (x :: r) = Int.negSucc n := by simp [fidx, hx, hf]
        rw [e] at h
        exact absurd h (by simp)
theorem fidx_ge {α : Type} (p : α → Bool) : ∀ xs : List α, -1 ≤ fidx p xs ∧ fidx p xs < xs.length + 1
  | [] => by simp [fidx]
  | x :: r => by
    have ih := fidx_ge p r
    simp only [fidx]
    split
    · simp; omega
    · split
      · rename_i n h; rw [h] at ih; simp at ih ⊢; omega
      · simp; omega
theorem fidx_any {α : Type} (p : α → Bool) : ∀ xs : List α, decide (0 ≤ fidx p xs) = xs.any p
  | [] => rfl
  | x :: r => by
    have ih := fidx_any p r
    cases hp : p x with
    | true => simp [fidx, hp]
    | false =>
      rw [List.any_cons, hp, Bool.false_or, ← ih]
      simp only [fidx, hp]
      cases fidx p r with
      | ofNat n => simp; omega
      | negSucc n => rfl
theorem any_found {α : Type} {p : α → Bool} {d : α} {xs : List α} {q : Nat} (hq : q < xs.length) (h : p (xs.getD q d) = true) : xs.any p = true :=
  List.any_eq_true.2 ⟨_, List.getElem_mem hq, by simpa [hq] using h⟩
theorem any_none {α : Type} {p : α → Bool} {d : α} {xs : List α} (h : ∀ j, j < xs.length → p (xs.getD j d) = false) : xs.any p = false := by
  apply Bool.eq_false_iff.2
  intro hc
  obtain ⟨x, hx, hp⟩ := List.any_eq_true.1 hc
  obtain ⟨j, hj, rfl⟩ := List.mem_iff_getElem.1 hx
  have := h j hj
  simp [hj] at this
  rw [this] at hp; cases hp
theorem lt_succ_cases {q : Nat} {φ : Nat → Prop} (h : ∀ j, j < q → φ j) (hq : φ q) : ∀ j, j < q + 1 → φ j := fun j hj => by
  by_cases e : j = q
  · rw [e]; exact hq
  · exact h j (by omega)
/-- The least upper bound of a list and a start. -/
def maxF (m : Int) : List Int → Int
  | [] => m
  | x :: r => maxF (max m x) r
def maxL : List Int → Int
  | [] => 0
  | x :: r => maxF x r
theorem maxF_take (m : Int) (xs : List Int) {q : Nat} (h : q < xs.length) : max (maxF m (xs.take q)) (xs.getD q 0) = maxF m (xs.take (q + 1)) := by
  induction xs generalizing m q with
  | nil => simp at h
  | cons x r ih =>
    cases q with
    | zero => simp [maxF]
    | succ q =>
      have := ih (max m x) (q := q) (by simpa using h)
      simpa [maxF] using this
theorem all_no {α : Type} {p : α → Bool} {d : α} {xs : List α} {q : Nat} (hq : q < xs.length) (h : p (xs.getD q d) = false) : xs.all p = false := by
  apply Bool.eq_false_iff.2
  intro hc
  have := List.all_eq_true.1 hc _ (List.getElem_mem hq)
  simp [hq] at h
  rw [h] at this; cases this
theorem all_yes {α : Type} {p : α → Bool} {d : α} {xs : List α} (h : ∀ j, j < xs.length → p (xs.getD j d) = true) : xs.all p = true := by
  refine List.all_eq_true.2 fun x hx => ?_
  obtain ⟨j, hj, rfl⟩ := List.mem_iff_getElem.1 hx
  have := h j hj
  simpa [hj] using this
/-- n ints by a function. -/
def tabI (n : Nat) (f : Nat → Int) : List Int := (List.range n).map f
theorem tabI_len (n : Nat) (f : Nat → Int) : (tabI n f).length = n := by simp [tabI]
theorem tabI_get {n : Nat} {f : Nat → Int} {k : Nat} (h : k < n) : (tabI n f).getD k 0 = f k := by simp [tabI, h]
theorem tabI_congr {n : Nat} {f g : Nat → Int} (h : ∀ k, k < n → f k = g k) : tabI n f = tabI n g := by
  unfold tabI
  exact List.map_congr_left fun k hk => h k (by simpa using hk)
theorem tabI_set {n : Nat} {f : Nat → Int} {k : Nat} {v : Int} : (tabI n f).set k v = tabI n (fun j => if j = k then v else f j) := by
  apply List.ext_getElem (by simp [tabI])
  intro i h1 h2
  simp [tabI, List.getElem_set]
  split <;> rename_i e
  · subst e; simp
  · rw [if_neg (fun x => e x.symm)]
theorem tabI_set' {n : Nat} {f g : Nat → Int} {k : Nat} {v : Int} (h1 : v = g k) (h2 : ∀ j, j < n → j ≠ k → f j = g j) : (tabI n f).set k v = tabI n g := by
  rw [tabI_set]
  refine tabI_congr fun j hj => ?_
  split
  · rename_i e; rw [e, h1]
  · rename_i e; exact h2 j hj e
theorem tabI_rep (n : Nat) : List.replicate n (0 : Int) = tabI n (fun _ => 0) := by
  apply List.ext_getElem (by simp [tabI])
  intro i h1 h2
  simp [tabI]
theorem intsT_get {n : Nat} {f : Nat → Int} {k : Nat} (h : k < n) : (intsL (tabI n f))[k]? = some (avI (f k)) := by
  rw [intsL_get (by rw [tabI_len]; exact h), tabI_get h]
theorem eqL_ne {xs ys : List Int} {q : Nat} (h : xs.getD q 0 ≠ ys.getD q 0) : decide (xs = ys) = false := decide_eq_false fun e => h (by rw [e])
theorem eqL_len {xs ys : List Int} (h : (xs.length : Int) ≠ ys.length) : decide (xs = ys) = false := decide_eq_false fun e => h (by rw [e])
theorem eqL_all {xs ys : List Int} {q : Nat} (hl : (xs.length : Int) = ys.length) (hn : ∀ j, j < q → xs.getD j 0 = ys.getD j 0) (hq : xs.length ≤ q) : decide (xs = ys) = true := decide_eq_true (List.ext_getElem (by omega) fun i h1 h2 => by
  have := hn i (by omega)
  simpa [h1, h2] using this)
theorem sEq_eq {p q : ByteArray} : sEq p q = true ↔ p = q := by
  unfold sEq
  constructor
  · intro h
    have h' : p.toList = q.toList := by simpa using h
    rw [Lib.toList_data, Lib.toList_data] at h'
    cases p; cases q; simp at h'; rw [h']
  · rintro rfl; simp
end Go.Proofs.YtgikefjbdhnffaaDoor
