/- The symbolic walk: maps that have lost nothing. -/
import Derived.Test.YtgikefjbdhnffaaDoorSxMore
import Derived.Test.YtgikefjbdhnffaaDoorPure0
import Derived.MapKept
namespace Go.Proofs.YtgikefjbdhnffaaDoor
open Go.RowKit
set_option linter.unusedVariables false
set_option linter.unusedSimpArgs false

/-- The entries of a map that has lost none: in the order in which they came. -/
def mE {κ α : Type} (kv : κ → Value) (E : α → AV) : List (κ × α) → Nat → List (Value × AV × Nat)
  | [], _ => []
  | p :: r, j => (kv p.1, E p.2, j) :: mE kv E r (j + 1)
abbrev mapE {κ α : Type} (kv : κ → Value) (g : Nat) (E : α → AV) (l : List (κ × α)) : Ent := .mp g (mE kv E l 0) l.length
def mget {κ α : Type} [DecidableEq κ] : List (κ × α) → κ → Option α
  | [], _ => none
  | p :: r, k => if k = p.1 then some p.2 else mget r k
def mput {κ α : Type} [DecidableEq κ] : List (κ × α) → κ → α → List (κ × α)
  | [], k, x => [(k, x)]
  | p :: r, k, x => if k = p.1 then (k, x) :: r else p :: mput r k x
/-- The place of a key, or the length. -/
def mpos {κ α : Type} [DecidableEq κ] : List (κ × α) → κ → Nat
  | [], _ => 0
  | p :: r, k => if k = p.1 then 0 else mpos r k + 1
section
variable {κ α : Type} {kv : κ → Value} {E : α → AV}
theorem mE_len : ∀ (l : List (κ × α)) (i : Nat), (mE kv E l i).length = l.length
  | [], _ => rfl
  | _ :: r, i => by simp [mE, mE_len r]
theorem mE_get : ∀ (l : List (κ × α)) (i j : Nat) (h : j < l.length), (mE kv E l i)[j]? = some (kv (l[j]).1, E (l[j]).2, i + j)
  | [], _, _, h => by simp at h
  | p :: r, i, 0, _ => by simp [mE]
  | p :: r, i, j + 1, h => by
    simp only [mE, List.getElem?_cons_succ, List.getElem_cons_succ]
    rw [mE_get r (i + 1) j (by simpa using h)]
    congr 3; omega
theorem mE_append : ∀ (l r : List (κ × α)) (i : Nat), mE kv E (l ++ r) i = mE kv E l i ++ mE kv E r (i + l.length)
  | [], r, i => by simp [mE]
  | p :: l, r, i => by
    simp only [List.cons_append, mE, mE_append l r (i + 1), List.length_cons]
    congr 3; omega
theorem mE_born : ∀ (l : List (κ × α)) (i : Nat), (mE kv E l i).map (·.2.2) = List.range' i l.length
  | [], _ => rfl
  | p :: r, i => by simp [mE, mE_born r, List.range'_succ]
variable [DecidableEq κ]
theorem mpos_le : ∀ (l : List (κ × α)) (k : κ), mpos l k ≤ l.length
  | [], _ => Nat.le_refl _
  | p :: r, k => by
    have := mpos_le r k
    simp only [mpos, List.length_cons]; split <;> omega
theorem mget_pos : ∀ (l : List (κ × α)) (k : κ), mget l k = (l[mpos l k]?).map (·.2)
  | [], _ => rfl
  | p :: r, k => by
    simp only [mget, mpos]
    split
    · rfl
    · rw [mget_pos r k]; simp
theorem mpos_key : ∀ (l : List (κ × α)) (k : κ) (h : mpos l k < l.length), (l[mpos l k]).1 = k
  | [], _, h => by simp at h
  | p :: r, k, h => by
    by_cases e : k = p.1
    · simp [mpos, e]
    · simp only [mpos, if_neg e, List.getElem_cons_succ]
      exact mpos_key r k (by simp only [mpos, if_neg e, List.length_cons] at h; omega)
theorem mpos_ne : ∀ (l : List (κ × α)) (k : κ) (j : Nat) (h : j < mpos l k), ∃ h' : j < l.length, (l[j]).1 ≠ k
  | [], _, j, h => by simp [mpos] at h
  | p :: r, k, j, h => by
    by_cases e : k = p.1
    · simp [mpos, e] at h
    · simp only [mpos, if_neg e] at h
      cases j with
      | zero => exact ⟨by simp, fun h' => e h'.symm⟩
      | succ j => obtain ⟨h1, h2⟩ := mpos_ne r k j (by omega); exact ⟨by simpa using h1, by simpa using h2⟩
theorem mput_new : ∀ (l : List (κ × α)) (k : κ) (x : α), mpos l k = l.length → mput l k x = l ++ [(k, x)]
  | [], _, _, _ => rfl
  | p :: r, k, x, h => by
    by_cases e : k = p.1
    · simp [mpos, e] at h
    · simp only [mpos, if_neg e, List.length_cons] at h
      simp only [mput, if_neg e, List.cons_append]
      rw [mput_new r k x (by omega)]
theorem mput_old : ∀ (l : List (κ × α)) (k : κ) (x : α), mpos l k < l.length → mput l k x = l.set (mpos l k) (k, x)
  | [], _, _, h => by simp at h
  | p :: r, k, x, h => by
    by_cases e : k = p.1
    · simp [mput, mpos, e]
    · simp only [mpos, if_neg e, List.length_cons] at h
      simp only [mput, mpos, if_neg e, List.set_cons_succ]
      rw [mput_old r k x (by omega)]
theorem mput_len (l : List (κ × α)) (k : κ) (x : α) : (mput l k x).length = if mpos l k < l.length then l.length else l.length + 1 := by
  split
  · rename_i h; rw [mput_old l k x h]; simp
  · rename_i h; rw [mput_new l k x (by have := mpos_le l k; omega)]; simp
end

/-- What holds of the keys of a map's type. -/
structure KeyOk (P : Program) (kt : TypeId) {κ : Type} [DecidableEq κ] (kv : κ → Value) : Prop where
  check : ∀ (e : Bool) (k : κ) (w : World), (Instr.checkKey e 10000 kt (kv k)).run P w = .ok () w
  find : ∀ {α : Type} (l : List (κ × α)) (c : List MapEntry) (k : κ) (w : World), c.length = l.length → (∀ j (h : j < l.length), ∃ e, c[j]? = some e ∧ e.key = kv (l[j]).1) →
    (Instr.findKey kt (kv k) c).run P w = .ok (if mpos l k < l.length then (c[mpos l k]?).map fun e => (mpos l k, e.val) else none) w
  stay : ∀ (k : κ) (w : World), (Instr.keyThatStays (kv k) (kv k)).run P w = .ok (kv k) w
theorem findNow_str {α : Type} : ∀ (l : List (ByteArray × α)) (c : List MapEntry) (k : ByteArray), c.length = l.length → (∀ j (h : j < l.length), ∃ e, c[j]? = some e ∧ e.key = .string (l[j]).1) →
    ∀ i, Instr.findNow .string (.string k) c i = some (if mpos l k < l.length then (c[mpos l k]?).map fun e => (i + mpos l k, e.val) else none)
  | [], c, k, hl, h, i => by
    have : c = [] := List.eq_nil_of_length_eq_zero (by simpa using hl)
    subst this; rfl
  | p :: r, [], k, hl, h, i => by simp at hl
  | p :: r, e :: c, k, hl, h, i => by
    obtain ⟨e0, h1, h2⟩ := h 0 (by simp)
    simp at h1 h2
    subst h1
    simp only [Instr.findNow, h2, Instr.sameNow]
    by_cases ek : k = p.1
    · have : (k == p.1) = true := by rw [bA_beq]; exact decide_eq_true ek
      rw [this]
      simp [mpos, ek]
    · have : (k == p.1) = false := by rw [bA_beq]; exact decide_eq_false ek
      rw [this]
      simp only
      rw [findNow_str r c k (by simpa using hl) (fun j hj => h (j + 1) (Nat.succ_lt_succ hj)) (i + 1)]
      simp only [mpos, if_neg ek, List.length_cons, Nat.add_lt_add_iff_right, List.getElem?_cons_succ]
      rw [show i + 1 + mpos r k = i + (mpos r k + 1) by omega]
theorem KeyOk.str {P : Program} {kt : TypeId} (hk : P.underlying kt = some .string) : KeyOk P kt (fun k : ByteArray => Value.string k) where
  check e k w := by
    rw [show (10000 : Nat) = 9999 + 1 from rfl, Instr.checkKey]
    simp only [Sem.run_bind, run_underlying hk, Result.andThen_ok, Sem.run_pure]
  find l c k w hl h := by
    have := findNow_str l c k hl h 0
    simp only [Nat.zero_add] at this
    simp only [Instr.findKey, Sem.run_bind, run_underlying hk, Result.andThen_ok, this, Sem.run_pure]
  stay k w := by
    have : Instr.sameBits 10000 (.string k) (.string k) = true := by
      simp only [Instr.sameBits, bA_beq, decide_true]
    simp [Instr.keyThatStays, this]
end Go.Proofs.YtgikefjbdhnffaaDoor
