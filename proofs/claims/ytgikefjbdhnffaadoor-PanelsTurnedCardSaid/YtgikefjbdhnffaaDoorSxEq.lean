/- The symbolic walk: structs compared, cell by cell. -/
import Derived.Test.YtgikefjbdhnffaaDoorSxMore
import Derived.Laws.StructEq
namespace Go.Proofs.YtgikefjbdhnffaaDoor
open Go.RowKit
set_option linter.unusedVariables false
set_option linter.unusedSimpArgs false

/-- Fields of one cell each, from off on, and the cells of two structs: they are equal just if r. -/
inductive EqFs (P : Program) : Nat → List Field → List AV → List AV → Bool → Prop where
  | nil (off : Nat) : EqFs P off [] [] [] true
  | int {off : Nat} {f : Field} {fs : List Field} {k k' : IntKind} {a b : Int} {xs ys : List AV} {r : Bool} (hu : P.underlying f.type = some (.int k')) (hag : ∀ w, (isAgg f.type).run P w = .ok false w) (ho : f.offset = off) (hn : f.name ≠ "_") (h : EqFs P (off + 1) fs xs ys r) :
      EqFs P off (f :: fs) (.v (.int k a) :: xs) (.v (.int k b) :: ys) (decide (a = b) && r)
  | str {off : Nat} {f : Field} {fs : List Field} {a b : ByteArray} {xs ys : List AV} {r : Bool} (hu : P.underlying f.type = some .string) (hag : ∀ w, (isAgg f.type).run P w = .ok false w) (ho : f.offset = off) (hn : f.name ≠ "_") (h : EqFs P (off + 1) fs xs ys r) :
      EqFs P off (f :: fs) (.v (.string a) :: xs) (.v (.string b) :: ys) (sEq a b && r)
  | bool {off : Nat} {f : Field} {fs : List Field} {a b : Bool} {xs ys : List AV} {r : Bool} (hu : P.underlying f.type = some .bool) (hag : ∀ w, (isAgg f.type).run P w = .ok false w) (ho : f.offset = off) (hn : f.name ≠ "_") (h : EqFs P (off + 1) fs xs ys r) :
      EqFs P off (f :: fs) (.v (.bool a) :: xs) (.v (.bool b) :: ys) ((a == b) && r)

theorem EqFs.run {P : Program} {w : World} {Z : Nat → Prop} {us vs : Array Value} {d : Nat} : ∀ {off : Nat} {fs : List Field} {xs ys : List AV} {r : Bool}, EqFs P off fs xs ys r →
    (∀ j, (h : j < xs.length) → off + j < us.size ∧ Rep w Z xs[j] (us.getD (off + j) undef)) → (∀ j, (h : j < ys.length) → off + j < vs.size ∧ Rep w Z ys[j] (vs.getD (off + j) undef)) → ∀ w', (Op.eqFields (d + 1) us vs fs).run P w' = .ok r w' := by
  intro off fs xs ys r h
  have cellP : ∀ (t : TypeId) (us : Array Value) (off : Nat) (v : Value) (w' : World), (∀ w, (isAgg t).run P w = .ok false w) → off < us.size → us.getD off undef = v → (part t us off).run P w' = .ok v w' := fun t us off v w' hag hl hv => by
    have : us[off]? = some v := by rw [← hv, Array.getD_eq_getD_getElem?, Array.getElem?_eq_getElem hl]; rfl
    simp [part, hag, this]
  have sh : ∀ n j : Nat, n + (j + 1) = n + 1 + j := fun n j => by omega
  induction h with
  | nil off => intro _ _ w'; rfl
  | int hu hag ho hn h ih =>
    intro h1 h2 w'
    obtain ⟨k1, k2⟩ := h1 0 (by simp)
    obtain ⟨k3, k4⟩ := h2 0 (by simp)
    subst ho
    have e1 := cellP _ us _ _ w' hag k1 k2.eq_v
    have e2 := cellP _ vs _ _ w' hag k3 k4.eq_v
    have ih' := ih (fun j hj => by have := h1 (j + 1) (by simpa using hj); rw [sh] at this; exact this) (fun j hj => by have := h2 (j + 1) (by simpa using hj); rw [sh] at this; exact this) w'
    simp only [Nat.add_zero] at e1 e2
    rename_i a b _ _ _
    have e3 := fun k => run_equalIn_int (P := P) w' d _ k _ a b hu
    simp only [Op.eqFields, hn, ne_eq, not_false_eq_true, if_true, Sem.run_bind, e1, e2, e3, Result.andThen_ok]
    by_cases hab : a = b
    · subst hab; simpa using ih'
    · simp [hab]
  | str hu hag ho hn h ih =>
    intro h1 h2 w'
    obtain ⟨k1, k2⟩ := h1 0 (by simp)
    obtain ⟨k3, k4⟩ := h2 0 (by simp)
    subst ho
    have e1 := cellP _ us _ _ w' hag k1 k2.eq_v
    have e2 := cellP _ vs _ _ w' hag k3 k4.eq_v
    have ih' := ih (fun j hj => by have := h1 (j + 1) (by simpa using hj); rw [sh] at this; exact this) (fun j hj => by have := h2 (j + 1) (by simpa using hj); rw [sh] at this; exact this) w'
    simp only [Nat.add_zero] at e1 e2
    rename_i a b _ _ _
    have e3 := run_equalIn_string (P := P) w' d _ a b hu
    simp only [Op.eqFields, hn, ne_eq, not_false_eq_true, if_true, Sem.run_bind, e1, e2, e3, Result.andThen_ok]
    cases hab : sEq a b with
    | true => unfold sEq at hab; rw [hab]; simpa using ih'
    | false => unfold sEq at hab; rw [hab]; simp
  | bool hu hag ho hn h ih =>
    intro h1 h2 w'
    obtain ⟨k1, k2⟩ := h1 0 (by simp)
    obtain ⟨k3, k4⟩ := h2 0 (by simp)
    subst ho
    have e1 := cellP _ us _ _ w' hag k1 k2.eq_v
    have e2 := cellP _ vs _ _ w' hag k3 k4.eq_v
    have ih' := ih (fun j hj => by have := h1 (j + 1) (by simpa using hj); rw [sh] at this; exact this) (fun j hj => by have := h2 (j + 1) (by simpa using hj); rw [sh] at this; exact this) w'
    simp only [Nat.add_zero] at e1 e2
    rename_i a b _ _ _
    have e3 := run_equalIn_bool' (P := P) w' d _ a b hu
    simp only [Op.eqFields, hn, ne_eq, not_false_eq_true, if_true, Sem.run_bind, e1, e2, e3, Result.andThen_ok]
    cases hab : (a == b) with
    | true => simpa using ih'
    | false => simp

section
variable {P : Program} {B : Bs} {W : Nat → Prop} {s : St'} {o : Oper}
theorem agg_eq {w : World} {Z : Nat → Prop} {t : TypeId} {xs ys : List AV} {u v : Value} {r : Bool} (hu : P.underlying t = some (.struct (P.fieldsOf t))) (hs : P.stoodInHeld t = false) (h : EqFs P 0 (P.fieldsOf t).toList xs ys r) (hx : Rep w Z (.agg xs) u) (hy : Rep w Z (.agg ys) v) :
    ∃ us vs, u = .agg us ∧ v = .agg vs ∧ ∀ w', (Op.equalIn 10000 t u v).run P w' = .ok r w' := by
  cases hx with
  | agg _ us l1 r1 =>
    cases hy with
    | agg _ vs l2 r2 =>
      refine ⟨us, vs, rfl, rfl, fun w' => ?_⟩
      rw [run_equalIn_struct w' 9999 t us vs hu hs]
      exact h.run (w := w) (Z := Z) (fun j hj => ⟨by omega, by rw [Nat.zero_add]; exact r1 j hj⟩) (fun j hj => ⟨by omega, by rw [Nat.zero_add]; exact r2 j hj⟩) w'
theorem OpV.aeql {x y : Operand} {t u : TypeId} {xs ys : List AV} {r : Bool} (ho : o.op = .binOp .eql t x y u) (hu : P.underlying t = some (.struct (P.fieldsOf t))) (hs : P.stoodInHeld t = false) (hg : P.eqGuardType P.depth t = false)
    (hx : evO s x = some (.agg xs)) (hy : evO s y = some (.agg ys)) (h : EqFs P 0 (P.fieldsOf t).toList xs ys r) : OpV P B W s o (avB r) := fun a w hr => by
  obtain ⟨us, vs, e1, e2, e3⟩ := agg_eq hu hs h (hr.ev hx) (hr.ev hy)
  rw [e1, e2] at e3
  refine ⟨_, fun w' _ => ?_, .v _⟩
  simp only [execOp, ho, e1, e2, Sem.run_bind, run_eqGuard_agg w' _ t x y us vs hg, run_eql_struct, e3, Result.andThen_ok, Sem.run_pure]
theorem OpV.aneq {x y : Operand} {t u : TypeId} {xs ys : List AV} {r : Bool} (ho : o.op = .binOp .neq t x y u) (hu : P.underlying t = some (.struct (P.fieldsOf t))) (hs : P.stoodInHeld t = false) (hg : P.eqGuardType P.depth t = false)
    (hx : evO s x = some (.agg xs)) (hy : evO s y = some (.agg ys)) (h : EqFs P 0 (P.fieldsOf t).toList xs ys r) : OpV P B W s o (avB (!r)) := fun a w hr => by
  obtain ⟨us, vs, e1, e2, e3⟩ := agg_eq hu hs h (hr.ev hx) (hr.ev hy)
  rw [e1, e2] at e3
  refine ⟨_, fun w' _ => ?_, .v _⟩
  simp only [execOp, ho, e1, e2, Sem.run_bind, run_eqGuard_agg w' _ t x y us vs hg, run_neq_struct, e3, Result.andThen_ok, Sem.run_pure]
end
end Go.Proofs.YtgikefjbdhnffaaDoor
