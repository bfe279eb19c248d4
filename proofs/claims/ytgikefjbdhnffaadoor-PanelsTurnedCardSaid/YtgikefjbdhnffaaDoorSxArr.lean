/- The symbolic walk: arrays of two integers compared. -/
import Derived.Test.YtgikefjbdhnffaaDoorSxEq
namespace Go.Proofs.YtgikefjbdhnffaaDoor
open Go.RowKit
set_option linter.unusedVariables false
set_option linter.unusedSimpArgs false
section
variable {P : Program} {B : Bs} {W : Nat → Prop} {s : St'} {o : Oper}
theorem run_part1 {t : TypeId} {us : Array Value} {off : Nat} {v : Value} (w : World) (hag : ∀ w, (isAgg t).run P w = .ok false w) (hl : off < us.size) (hv : us.getD off undef = v) : (part t us off).run P w = .ok v w := by
  have : us[off]? = some v := by rw [← hv, Array.getD_eq_getD_getElem?, Array.getElem?_eq_getElem hl]; rfl
  simp [part, hag, this]
theorem run_arr2' (d' : Nat) {t e : TypeId} {k k' : IntKind} {us vs : Array Value} {a b c d : Int} (hu : P.underlying t = some (.array 2 e)) (he : P.underlying e = some (.int k')) (hsz : ∀ w, (sizeOf e).run P w = .ok 1 w) (hag : ∀ w, (isAgg e).run P w = .ok false w)
    (h1 : 2 ≤ us.size) (h2 : 2 ≤ vs.size) (hqq : ∀ w a b, (Op.equalIn d' e (.int k a) (.int k b)).run P w = .ok (a == b) w) (ha : us.getD 0 undef = .int k a) (hb : us.getD 1 undef = .int k b) (hc : vs.getD 0 undef = .int k c) (hd : vs.getD 1 undef = .int k d) (w : World) :
    (Op.equalIn (d' + 1) t (.agg us) (.agg vs)).run P w = .ok (decide (a = c) && (decide (b = d) && true)) w := by
  have e1 := run_part1 (P := P) w hag (show 0 * 1 < us.size by omega) ha
  have e2 := run_part1 (P := P) w hag (show 1 * 1 < us.size by omega) hb
  have e3 := run_part1 (P := P) w hag (show 0 * 1 < vs.size by omega) hc
  have e4 := run_part1 (P := P) w hag (show 1 * 1 < vs.size by omega) hd
  have q := hqq w
  simp only [Op.equalIn, Sem.run_bind, run_underlying hu, Result.andThen_ok, hsz]
  simp only [Std.Legacy.Range.forIn_eq_forIn_range', Std.Legacy.Range.size, Nat.sub_zero, Nat.add_one_sub_one, Nat.div_one]
  rw [show List.range' 0 2 = [0, 1] from rfl]
  simp only [List.forIn_cons, List.forIn_nil, Sem.run_bind, e1, e2, e3, e4, q, Result.andThen_ok]
  have e2' := e2
  have e4' := e4
  rw [Nat.mul_one] at e2' e4'
  by_cases h : a = c
  · by_cases h' : b = d
    · simp [h, h', e2', e4', q]
    · simp [h, h', e2', e4', q]
  · simp [h]
theorem run_arr2 {t e : TypeId} {k k' : IntKind} {us vs : Array Value} {a b c d : Int} (hu : P.underlying t = some (.array 2 e)) (he : P.underlying e = some (.int k')) (hsz : ∀ w, (sizeOf e).run P w = .ok 1 w) (hag : ∀ w, (isAgg e).run P w = .ok false w)
    (h1 : 2 ≤ us.size) (h2 : 2 ≤ vs.size) (ha : us.getD 0 undef = .int k a) (hb : us.getD 1 undef = .int k b) (hc : vs.getD 0 undef = .int k c) (hd : vs.getD 1 undef = .int k d) (w : World) :
    (Op.equalIn 10000 t (.agg us) (.agg vs)).run P w = .ok (decide (a = c) && (decide (b = d) && true)) w := run_arr2' 9999 hu he hsz hag h1 h2 (fun w a b => run_equalIn_int (P := P) w 9998 e k k' a b he) ha hb hc hd w
theorem arr2_eq {w : World} {Z : Nat → Prop} {t e : TypeId} {k' : IntKind} {xs ys : List AV} {a b c d : Int} {u v : Value} (hu : P.underlying t = some (.array 2 e)) (he : P.underlying e = some (.int k')) (hsz : ∀ w, (sizeOf e).run P w = .ok 1 w) (hag : ∀ w, (isAgg e).run P w = .ok false w)
    (hxs : xs = [avI a, avI b]) (hys : ys = [avI c, avI d]) (hx : Rep w Z (.agg xs) u) (hy : Rep w Z (.agg ys) v) :
    ∃ us vs, u = .agg us ∧ v = .agg vs ∧ ∀ w', (Op.equalIn 10000 t u v).run P w' = .ok (decide (a = c) && (decide (b = d) && true)) w' := by
  subst hxs
  subst hys
  cases hx with
  | agg _ us l1 r1 =>
    cases hy with
    | agg _ vs l2 r2 =>
      have z1 := (r1 0 (by simp)).eq_v
      have z2 := (r1 1 (by simp)).eq_v
      have z3 := (r2 0 (by simp)).eq_v
      have z4 := (r2 1 (by simp)).eq_v
      simp only [List.length_cons, List.length_nil] at l1 l2
      exact ⟨us, vs, rfl, rfl, run_arr2 hu he hsz hag (by omega) (by omega) z1 z2 z3 z4⟩
theorem OpV.arr2neq {x y : Operand} {t u e : TypeId} {k' : IntKind} {xs ys : List AV} {a b c d : Int} (ho : o.op = .binOp .neq t x y u) (hu : P.underlying t = some (.array 2 e)) (he : P.underlying e = some (.int k')) (hsz : ∀ w, (sizeOf e).run P w = .ok 1 w) (hag : ∀ w, (isAgg e).run P w = .ok false w) (hg : P.eqGuardType P.depth t = false)
    (hx : evO s x = some (.agg xs)) (hy : evO s y = some (.agg ys)) (hxs : xs = [avI a, avI b]) (hys : ys = [avI c, avI d]) : OpV P B W s o (avB (!(decide (a = c) && (decide (b = d) && true)))) := fun a w hr => by
  obtain ⟨us, vs, e1, e2, e3⟩ := arr2_eq hu he hsz hag hxs hys (hr.ev hx) (hr.ev hy)
  rw [e1, e2] at e3
  refine ⟨_, fun w' _ => ?_, .v _⟩
  simp only [execOp, ho, e1, e2, Sem.run_bind, run_eqGuard_agg w' _ t x y us vs hg, run_neq_struct, e3, Result.andThen_ok, Sem.run_pure]
end
end Go.Proofs.YtgikefjbdhnffaaDoor
