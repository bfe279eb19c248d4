/- The symbolic walk's rules for the operations that leave the world alone. -/
import Derived.Test.YtgikefjbdhnffaaDoorSx
namespace Go.Proofs.YtgikefjbdhnffaaDoor
open Go.RowKit
set_option linter.unusedVariables false
set_option linter.unusedSimpArgs false

section
variable {P : Program} {B : Bs} {W : Nat → Prop} {s : St'} {o : Oper} {K : St' → Prop}

/-- The operation yields a value that fits x; the same one in all worlds that differ only in the resource's blocks and in those of W. -/
def OpV (P : Program) (B : Bs) (W : Nat → Prop) (s : St') (o : Oper) (x : AV) : Prop :=
  ∀ a w, R B s a w → ∃ v, (∀ w', Chg (fun b => B.str b ∨ W b) w w' → (execOp a.eval o).run P w' = .ok (.value v) w') ∧ Rep w (Zn B s.hp w) x v

theorem OpE.val {W' : Nat → Prop} {x : AV} (hv : OpV P B W s o x) (hd : okd B.nt o.dst = true) (hK : K (s.put o.dst x)) : OpE P B W' s o K := by
  intro a w hr next Qx hn
  obtain ⟨v, h1, h2⟩ := hv a w hr
  unfold Oper.wp
  rw [h1 w (Chg.refl _ _)]
  exact hn _ _ _ hK (hr.put _ hd _ _ h2) (Ew.rf w)
theorem VO.val {ops : Array Oper} {rest : List Oper} {Q : Exit → St' → Prop} {x : AV} (hg : o.guard = none) (hd : okd B.nt o.dst = true) (hv : OpV P B NoB s o x) (hK : VO P B ops rest Q (s.put o.dst x)) : VO P B ops (o :: rest) Q s :=
  VO.op hg (OpE.val hv hd hK)

theorem OpV.move {x : Operand} {v : AV} (ho : o.op = .move x ∨ o.op = .assign x) (hx : evO s x = some v) : OpV P B W s o v :=
  fun a w hr => ⟨a.eval x, fun w' _ => by rcases ho with ho | ho <;> simp [execOp, ho], hr.ev hx⟩

/-- An operation on values that are known. -/
theorem OpV.conc {v : Value} (hrun : ∀ a w, R B s a w → ∀ w', Chg (fun b => B.str b ∨ W b) w w' → (execOp a.eval o).run P w' = .ok (.value v) w') : OpV P B W s o (.v v) :=
  fun a w hr => ⟨v, hrun a w hr, .v _⟩

def fits (n : Int) : Prop := -9223372036854775808 ≤ n ∧ n ≤ 9223372036854775807

section
variable {t u : TypeId} {x y : Operand} {m n : Int}
theorem OpV.add (ho : o.op = .binOp .add t x y u) (hx : evO s x = some (.v (.int .i64 m))) (hy : evO s y = some (.v (.int .i64 n))) (hf : fits (m + n)) : OpV P B W s o (.v (.int .i64 (m + n))) :=
  OpV.conc (fun a w hr w' hcw => by simp [execOp, ho, hr.evv hx, hr.evv hy, eqGuard, binOp, Op.intArith, IntWalk.i64_in _ hf])
theorem OpV.sub (ho : o.op = .binOp .sub t x y u) (hx : evO s x = some (.v (.int .i64 m))) (hy : evO s y = some (.v (.int .i64 n))) (hf : fits (m - n)) : OpV P B W s o (.v (.int .i64 (m - n))) :=
  OpV.conc (fun a w hr w' hcw => by simp [execOp, ho, hr.evv hx, hr.evv hy, eqGuard, binOp, Op.intArith, IntWalk.i64_in _ hf])
theorem OpV.mul (ho : o.op = .binOp .mul t x y u) (hx : evO s x = some (.v (.int .i64 m))) (hy : evO s y = some (.v (.int .i64 n))) (hf : fits (m * n)) : OpV P B W s o (.v (.int .i64 (m * n))) :=
  OpV.conc (fun a w hr w' hcw => by simp [execOp, ho, hr.evv hx, hr.evv hy, eqGuard, binOp, Op.intArith, IntWalk.i64_in _ hf])
theorem OpV.quo (ho : o.op = .binOp .quo t x y u) (hx : evO s x = some (.v (.int .i64 m))) (hy : evO s y = some (.v (.int .i64 n))) (hn : n ≠ 0) (hf : fits (m.tdiv n)) : OpV P B W s o (.v (.int .i64 (m.tdiv n))) :=
  OpV.conc (fun a w hr w' hcw => by simp [execOp, ho, hr.evv hx, hr.evv hy, eqGuard, binOp, Op.intDiv, hn, IntWalk.i64_in _ hf])
theorem OpV.rem (ho : o.op = .binOp .rem t x y u) (hx : evO s x = some (.v (.int .i64 m))) (hy : evO s y = some (.v (.int .i64 n))) (hn : n ≠ 0) (hf : fits (m.tmod n)) : OpV P B W s o (.v (.int .i64 (m.tmod n))) :=
  OpV.conc (fun a w hr w' hcw => by simp [execOp, ho, hr.evv hx, hr.evv hy, eqGuard, binOp, Op.intDiv, hn, IntWalk.i64_in _ hf])
variable {k : IntKind}
theorem OpV.eql (ho : o.op = .binOp .eql t x y u) (hx : evO s x = some (.v (.int k m))) (hy : evO s y = some (.v (.int k n))) : OpV P B W s o (.v (.bool (decide (m = n)))) :=
  OpV.conc (fun a w hr w' hcw => by simp [execOp, ho, hr.evv hx, hr.evv hy, eqGuard, binOp, Op.intCmp]; rfl)
theorem OpV.neq (ho : o.op = .binOp .neq t x y u) (hx : evO s x = some (.v (.int k m))) (hy : evO s y = some (.v (.int k n))) : OpV P B W s o (.v (.bool (decide (m ≠ n)))) :=
  OpV.conc (fun a w hr w' hcw => by simp [execOp, ho, hr.evv hx, hr.evv hy, eqGuard, binOp, Op.intCmp, bne]; rfl)
theorem OpV.lss (ho : o.op = .binOp .lss t x y u) (hx : evO s x = some (.v (.int k m))) (hy : evO s y = some (.v (.int k n))) : OpV P B W s o (.v (.bool (decide (m < n)))) :=
  OpV.conc (fun a w hr w' hcw => by simp [execOp, ho, hr.evv hx, hr.evv hy, eqGuard, binOp, Op.intCmp])
theorem OpV.leq (ho : o.op = .binOp .leq t x y u) (hx : evO s x = some (.v (.int k m))) (hy : evO s y = some (.v (.int k n))) : OpV P B W s o (.v (.bool (decide (m ≤ n)))) :=
  OpV.conc (fun a w hr w' hcw => by simp [execOp, ho, hr.evv hx, hr.evv hy, eqGuard, binOp, Op.intCmp])
theorem OpV.gtr (ho : o.op = .binOp .gtr t x y u) (hx : evO s x = some (.v (.int k m))) (hy : evO s y = some (.v (.int k n))) : OpV P B W s o (.v (.bool (decide (n < m)))) :=
  OpV.conc (fun a w hr w' hcw => by simp [execOp, ho, hr.evv hx, hr.evv hy, eqGuard, binOp, Op.intCmp])
theorem OpV.geq (ho : o.op = .binOp .geq t x y u) (hx : evO s x = some (.v (.int k m))) (hy : evO s y = some (.v (.int k n))) : OpV P B W s o (.v (.bool (decide (n ≤ m)))) :=
  OpV.conc (fun a w hr w' hcw => by simp [execOp, ho, hr.evv hx, hr.evv hy, eqGuard, binOp, Op.intCmp])
theorem OpV.neg (ho : o.op = .unOp .neg t x) (hx : evO s x = some (.v (.int .i64 m))) (hf : fits (-m)) : OpV P B W s o (.v (.int .i64 (-m))) :=
  OpV.conc (fun a w hr w' hcw => by simp [execOp, ho, hr.evv hx, Op.unary, Op.intArith, IntWalk.i64_in _ hf])
theorem OpV.not {b : Bool} (ho : o.op = .unOp .not t x) (hx : evO s x = some (.v (.bool b))) : OpV P B W s o (.v (.bool (!b))) :=
  OpV.conc (fun a w hr w' hcw => by simp [execOp, ho, hr.evv hx, Op.unary])
def pk (b : Bool) (x y : AV) : AV := match b with
  | true => x
  | false => y
theorem OpV.pick {c : Operand} {b : Bool} {v1 v2 : AV} (ho : o.op = .pick c x y) (hc : evO s c = some (.v (.bool b))) (hx : evO s x = some v1) (hy : evO s y = some v2) : OpV P B W s o (pk b v1 v2) := by
  refine fun a w hr => ⟨if b then a.eval x else a.eval y, fun w' _ => by simp [execOp, ho, hr.evv hc, asBool], ?_⟩
  cases b
  · exact hr.ev hy
  · exact hr.ev hx
/-- int to int of a type of the same kind. -/
theorem OpV.conv (ho : o.op = .convert t u x) {kk : IntKind} (h1 : P.underlying t = some (.int k)) (h2 : P.underlying u = some (.int kk)) (hx : evO s x = some (.v (.int k n))) (hf : kk.wrap n = n) : OpV P B W s o (.v (.int kk n)) :=
  OpV.conc (fun a w hr w' hcw => by simp [execOp, ho, hr.evv hx, convert, run_underlying h1, run_underlying h2, Conv.intToInt, hf])

def sEq (x y : ByteArray) : Bool := x.toList == y.toList
def sLt (x y : ByteArray) : Bool := Op.bytesLess x.toList y.toList
variable {p q : ByteArray}
theorem OpV.seql (ho : o.op = .binOp .eql t x y u) (hx : evO s x = some (.v (.string p))) (hy : evO s y = some (.v (.string q))) : OpV P B W s o (.v (.bool (sEq p q))) :=
  OpV.conc (fun a w hr w' hcw => by simp [execOp, ho, hr.evv hx, hr.evv hy, eqGuard, binOp, Op.stringOp, sEq])
theorem OpV.sneq (ho : o.op = .binOp .neq t x y u) (hx : evO s x = some (.v (.string p))) (hy : evO s y = some (.v (.string q))) : OpV P B W s o (.v (.bool (!sEq p q))) :=
  OpV.conc (fun a w hr w' hcw => by simp [execOp, ho, hr.evv hx, hr.evv hy, eqGuard, binOp, Op.stringOp, sEq])
theorem OpV.slss (ho : o.op = .binOp .lss t x y u) (hx : evO s x = some (.v (.string p))) (hy : evO s y = some (.v (.string q))) : OpV P B W s o (.v (.bool (sLt p q))) :=
  OpV.conc (fun a w hr w' hcw => by simp [execOp, ho, hr.evv hx, hr.evv hy, eqGuard, binOp, Op.stringOp, sLt])
theorem OpV.sleq (ho : o.op = .binOp .leq t x y u) (hx : evO s x = some (.v (.string p))) (hy : evO s y = some (.v (.string q))) : OpV P B W s o (.v (.bool (sLt p q || sEq p q))) :=
  OpV.conc (fun a w hr w' hcw => by simp [execOp, ho, hr.evv hx, hr.evv hy, eqGuard, binOp, Op.stringOp, sLt, sEq])
theorem OpV.sgtr (ho : o.op = .binOp .gtr t x y u) (hx : evO s x = some (.v (.string p))) (hy : evO s y = some (.v (.string q))) : OpV P B W s o (.v (.bool (!(sLt p q || sEq p q)))) :=
  OpV.conc (fun a w hr w' hcw => by simp [execOp, ho, hr.evv hx, hr.evv hy, eqGuard, binOp, Op.stringOp, sLt, sEq])
theorem OpV.sgeq (ho : o.op = .binOp .geq t x y u) (hx : evO s x = some (.v (.string p))) (hy : evO s y = some (.v (.string q))) : OpV P B W s o (.v (.bool (!sLt p q))) :=
  OpV.conc (fun a w hr w' hcw => by simp [execOp, ho, hr.evv hx, hr.evv hy, eqGuard, binOp, Op.stringOp, sLt])
theorem OpV.sadd (ho : o.op = .binOp .add t x y u) (hx : evO s x = some (.v (.string p))) (hy : evO s y = some (.v (.string q))) (hf : p.size + q.size ≤ 1000000000000) : OpV P B W s o (.v (.string (p ++ q))) :=
  OpV.conc (fun a w hr w' hcw => by
    have : ¬ (((p.size + q.size : Nat) : Int) > IntKind.i64.max) := by
      have : IntKind.i64.max = 9223372036854775807 := by decide
      rw [this]; omega
    simp [execOp, ho, hr.evv hx, hr.evv hy, eqGuard, binOp, Op.stringOp, this]
    omega)
end

/-- len. -/
theorem OpV.len_im {x : Operand} {T : TypeId} {n sz : Nat} {f : Nat → AV} {e : TypeId} (ho : o.op = .call { callee := .builtin .len, args := #[x], argTypes := #[T] }) (hu : P.underlying T = some (.slice e))
    (hx : evO s x = some (.im n sz f)) : OpV P B W s o (.v (.int .i64 n)) :=
  OpV.conc (fun a w hr w' hcw => by
    have := hr.ev hx
    generalize hv : a.eval x = v at this
    cases this with
    | nil sz f => simp [execOp, ho, resolve, invoke, builtin, Builtin.len_, run_underlying hu, hv, goInt]
    | im n sz f b off cap c e u hZ h1 h2 hb hc hr => simp [execOp, ho, resolve, invoke, builtin, Builtin.len_, run_underlying hu, hv, goInt])
theorem OpV.len_v {x : Operand} {T : TypeId} {a0 : Option Addr} {n c : Nat} {e : TypeId} (ho : o.op = .call { callee := .builtin .len, args := #[x], argTypes := #[T] }) (hu : P.underlying T = some (.slice e))
    (hx : evO s x = some (.v (.slice a0 n c))) : OpV P B W s o (.v (.int .i64 n)) :=
  OpV.conc (fun a w hr w' hcw => by simp [execOp, ho, resolve, invoke, builtin, Builtin.len_, run_underlying hu, hr.evv hx, goInt])
theorem OpV.len_s {x : Operand} {T : TypeId} {p : ByteArray} (ho : o.op = .call { callee := .builtin .len, args := #[x], argTypes := #[T] }) (hu : P.underlying T = some .string)
    (hx : evO s x = some (.v (.string p))) : OpV P B W s o (.v (.int .i64 p.size)) :=
  OpV.conc (fun a w hr w' hcw => by simp [execOp, ho, resolve, invoke, builtin, Builtin.len_, run_underlying hu, hr.evv hx, goInt])
theorem OpV.len_row {x : Operand} {T : TypeId} {i n sz : Nat} {u : Value} {cs : List AV} {ty e : TypeId} (ho : o.op = .call { callee := .builtin .len, args := #[x], argTypes := #[T] }) (hu : P.underlying T = some (.slice e))
    (hx : evO s x = some (.v u)) (hi : s.hp[i]? = some (.row u n sz cs ty)) : OpV P B W s o (.v (.int .i64 n)) :=
  OpV.conc (fun a w hr w' hcw => by
    obtain ⟨_, ⟨rfl, rfl⟩ | ⟨g, cap, c, rfl, _⟩⟩ := hr.blocks _ (List.mem_of_getElem? hi)
    · simp [execOp, ho, resolve, invoke, builtin, Builtin.len_, run_underlying hu, hr.evv hx, goInt]
    · simp [execOp, ho, resolve, invoke, builtin, Builtin.len_, run_underlying hu, hr.evv hx, goInt])
theorem OpV.max2 {x y : Operand} {ts : Array TypeId} {m n : Int} (ho : o.op = .call { callee := .builtin .max, args := #[x, y], argTypes := ts })
    (hx : evO s x = some (.v (.int .i64 m))) (hy : evO s y = some (.v (.int .i64 n))) : OpV P B W s o (.v (.int .i64 (max m n))) :=
  OpV.conc (fun a w hr w' hcw => by simp [execOp, ho, resolve, invoke, builtin, hr.evv hx, hr.evv hy, max_two])
theorem OpV.min2 {x y : Operand} {ts : Array TypeId} {m n : Int} (ho : o.op = .call { callee := .builtin .min, args := #[x, y], argTypes := ts })
    (hx : evO s x = some (.v (.int .i64 m))) (hy : evO s y = some (.v (.int .i64 n))) : OpV P B W s o (.v (.int .i64 (min m n))) :=
  OpV.conc (fun a w hr w' hcw => by simp [execOp, ho, resolve, invoke, builtin, hr.evv hx, hr.evv hy, min_two])

/-- A part of a tuple. -/
theorem OpV.extract {x : Operand} {i : Nat} {cs : List AV} {v : AV} (ho : o.op = .extract x i) (hx : evO s x = some (.tup cs)) (hi : cs[i]? = some v) : OpV P B W s o v := by
  intro a w hr
  have := hr.ev hx
  generalize hv : a.eval x = u at this
  cases this with
  | tup cs us hl hr' =>
    obtain ⟨hlt, rfl⟩ := List.getElem?_eq_some_iff.1 hi
    have hlu : i < us.size := by omega
    have h2 : us.getD i undef = us[i] := by rw [Array.getD_eq_getD_getElem?, Array.getElem?_eq_getElem hlu]; rfl
    refine ⟨us[i], fun w' _ => ?_, h2 ▸ hr' i hlt⟩
    simp [execOp, ho, hv, Instr.extract, Array.getElem?_eq_getElem hlu]
theorem OpV.extract_v {x : Operand} {i : Nat} {us : Array Value} {v : Value} (ho : o.op = .extract x i) (hx : evO s x = some (.v (.tuple us))) (hi : us[i]? = some v) : OpV P B W s o (.v v) :=
  OpV.conc (fun a w hr w' hcw => by simp [execOp, ho, hr.evv hx, Instr.extract, hi])

/-- The first k cells. -/
def tab : Nat → (Nat → AV) → List AV
  | 0, _ => []
  | k + 1, f => f 0 :: tab k fun j => f (j + 1)
theorem tab_len (k : Nat) (f : Nat → AV) : (tab k f).length = k := by
  induction k generalizing f with
  | zero => rfl
  | succ k ih => simp [tab, ih]
theorem tab_get (k : Nat) (f : Nat → AV) (j : Nat) (h : j < (tab k f).length) : (tab k f)[j] = f j := by
  induction k generalizing f j with
  | zero => simp [tab] at h
  | succ k ih =>
    cases j with
    | zero => rfl
    | succ j => simp only [tab, List.getElem_cons_succ]; rw [ih]

/-- k cells of a list from j on. -/
def cutL (l : List AV) (j k : Nat) : Option (List AV) :=
  match Nat.ble (j + k) l.length with
  | true => some ((l.drop j).take k)
  | false => none
theorem cutL_spec {l r : List AV} {j k : Nat} (h : cutL l j k = some r) : r.length = k ∧ j + k ≤ l.length ∧ ∀ q, (hq : q < r.length) → l[j + q]? = some r[q] := by
  unfold cutL at h
  split at h
  · rename_i e
    have hle : j + k ≤ l.length := Nat.le_of_ble_eq_true e
    cases h
    refine ⟨by simp; omega, hle, fun q hq => ?_⟩
    simp at hq
    rw [List.getElem_take, List.getElem_drop]
    exact List.getElem?_eq_getElem (by omega)
  · cases h

/-- A field of an aggregate: one cell, or an aggregate again. -/
theorem OpV.field1 {x : Operand} {t f : Nat} {fs : Array Field} {fd : Field} {cs : List AV} {v : AV} (ho : o.op = .field t x f) (hu : P.underlying t = some (.struct fs)) (hf : fs[f]? = some fd)
    (hag : ∀ w, (isAgg fd.type).run P w = .ok false w) (hx : evO s x = some (.agg cs)) (hc : cs[fd.offset]? = some v) : OpV P B W s o v := by
  intro a w hr
  have := hr.ev hx
  generalize hv : a.eval x = u at this
  cases this with
  | agg cs us hl hr' =>
    obtain ⟨hlt, rfl⟩ := List.getElem?_eq_some_iff.1 hc
    have hlu : fd.offset < us.size := by omega
    have h2 : us.getD fd.offset undef = us[fd.offset] := by rw [Array.getD_eq_getD_getElem?, Array.getElem?_eq_getElem hlu]; rfl
    refine ⟨us[fd.offset], fun w' _ => ?_, h2 ▸ hr' _ hlt⟩
    simp [execOp, ho, hv, Instr.field, run_underlying hu, hf, asAgg, part, hag, Array.getElem?_eq_getElem hlu]
theorem OpV.fieldK {x : Operand} {t f : Nat} {fs : Array Field} {fd : Field} {cs r : List AV} {k : Nat} (ho : o.op = .field t x f) (hu : P.underlying t = some (.struct fs)) (hf : fs[f]? = some fd)
    (hag : ∀ w, (isAgg fd.type).run P w = .ok true w) (hsz : ∀ w, (sizeOf fd.type).run P w = .ok k w) (hx : evO s x = some (.agg cs)) (hc : cutL cs fd.offset k = some r) : OpV P B W s o (.agg r) := by
  intro a w hr
  have := hr.ev hx
  generalize hv : a.eval x = u at this
  cases this with
  | agg cs us hl hr' =>
    obtain ⟨h1, h2, h3⟩ := cutL_spec hc
    refine ⟨.agg (us.extract fd.offset (fd.offset + k)), fun w' _ => by simp [execOp, ho, hv, Instr.field, run_underlying hu, hf, asAgg, part, hag, hsz], .agg _ _ (by simp; omega) fun j hj => ?_⟩
    have h4 := h3 j hj
    obtain ⟨hlt, h5⟩ := List.getElem?_eq_some_iff.1 h4
    rw [← h5]
    have := hr' _ hlt
    rwa [show (us.extract fd.offset (fd.offset + k)).getD j undef = us.getD (fd.offset + j) undef by
      simp only [Array.getD_eq_getD_getElem?, Array.getElem?_extract]
      rw [if_pos (by omega)]]

/-- The address of a field. -/
theorem OpV.fieldAddr {x : Operand} {t f : Nat} {fs : Array Field} {fd : Field} {g j k : Nat} (ho : o.op = .fieldAddr t x f) (hu : P.underlying t = some (.struct fs)) (hf : fs[f]? = some fd)
    (hsz : ∀ w, (sizeOf fd.type).run P w = .ok (k + 1) w) (hx : evO s x = some (.v (.pointer (some ⟨g, j, none⟩)))) : OpV P B W s o (.v (.pointer (some ⟨g, j + fd.offset, none⟩))) :=
  OpV.conc (fun a w hr w' hcw => by simp [execOp, ho, hr.evv hx, Instr.fieldAt, run_underlying hu, hf, Instr.sureAddr, fieldPlace, hsz, Addr.add_lit])
theorem OpV.fieldAddr_at {x : Operand} {t f : Nat} {fs : Array Field} {fd : Field} {m k : Nat} {F : Nat → AV} (ho : o.op = .fieldAddr t x f) (hu : P.underlying t = some (.struct fs)) (hf : fs[f]? = some fd)
    (hsz : ∀ w, (sizeOf fd.type).run P w = .ok (k + 1) w) (hx : evO s x = some (.at_ m F)) (hm : Nat.ble (fd.offset + (k + 1)) m = true) : OpV P B W s o (.at_ (k + 1) fun j => F (fd.offset + j)) := by
  intro a w hr
  have := hr.ev hx
  generalize hv : a.eval x = u at this
  have hm' := Nat.le_of_ble_eq_true hm
  cases this with
  | at_ m f' b off c e u hZ hb hc hr' =>
    refine ⟨.pointer (some ⟨b, off + fd.offset, none⟩), fun w' _ => by simp [execOp, ho, hv, Instr.fieldAt, run_underlying hu, hf, Instr.sureAddr, fieldPlace, hsz, Addr.add_lit], .at_ _ _ b _ c e (fun j => u (fd.offset + j)) hZ hb (fun j hj => ?_) fun j hj => hr' _ (by omega)⟩
    rw [Nat.add_assoc]; exact hc _ (by omega)

/-- The blocks of W are the function's own. -/
def OutW (B : Bs) (W : Nat → Prop) (s : St') : Prop := ∀ b, W b → ∃ e ∈ s.hp, e.blk = some b
theorem OutW.no {B : Bs} {s : St'} : OutW B NoB s := fun _ h => h.elim
theorem OutW.keep (hW : OutW B W s) (hB : B.Ok) {a : Act} {w w' : World} (hr : R B s a w) (hc : Chg (fun b => B.str b ∨ W b) w w') {b : Nat} (hZ : Zn B s.hp w b) : w'.heap[b]? = w.heap[b]? := by
  refine hc.block b hZ.1 ?_
  rintro (h | h)
  · obtain ⟨h1, h2⟩ := hB.str b h
    exact (hZ.2.2 (hB.low b h1)).2 h
  · obtain ⟨e, he, hb⟩ := hW b h
    exact hZ.2.1 e he hb

/-- Loads. -/
theorem OpV.load_at {x : Operand} {t m : Nat} {F : Nat → AV} (ho : o.op = .load t x) (hB : B.Ok) (hW : OutW B W s) (hag : ∀ w, (isAgg t).run P w = .ok false w) (hx : evO s x = some (.at_ m F)) (hm : Nat.blt 0 m = true) : OpV P B W s o (F 0) := by
  intro a w hr
  have := hr.ev hx
  generalize hv : a.eval x = u at this
  have hm' : 0 < m := by simpa using hm
  cases this with
  | at_ m f' b off c e u hZ hb hc hr' =>
    refine ⟨u 0, fun w' hcw => ?_, hr' 0 hm'⟩
    have hb' := (hW.keep hB hr hcw hZ).trans hb
    have hcell : w'.cell? ⟨b, off, none⟩ = some (u 0) := by simpa [World.cell?, hb'] using hc 0 hm'
    simp [execOp, ho, hv, Instr.loadAt, Instr.sureAddr, loadVar, hag, load, Sem.run, hcell]
theorem OpV.loadK_at {x : Operand} {t m k : Nat} {F : Nat → AV} (ho : o.op = .load t x) (hB : B.Ok) (hW : OutW B W s) (hag : ∀ w, (isAgg t).run P w = .ok true w) (hsz : ∀ w, (sizeOf t).run P w = .ok k w) (hx : evO s x = some (.at_ m F)) (hm : Nat.ble k m = true) : OpV P B W s o (.agg (tab k F)) := by
  intro a w hr
  have := hr.ev hx
  generalize hv : a.eval x = u at this
  have hm' := Nat.le_of_ble_eq_true hm
  cases this with
  | at_ m f' b off c e u hZ hb hc hr' =>
    refine ⟨.agg ((List.range k).map u).toArray, fun w' hcw => ?_, .agg _ _ (by simp [tab_len]) fun j hj => ?_⟩
    · have hb' := (hW.keep hB hr hcw hZ).trans hb
      have hcell : ∀ j v, ((List.range k).map u)[j]? = some v → w'.cell? ((⟨b, off, none⟩ : Addr).add j) = some v := by
        intro j v hj
        simp only [List.getElem?_map, Option.map_eq_some_iff] at hj
        obtain ⟨q, hq, rfl⟩ := hj
        obtain ⟨hlt, hq'⟩ := List.getElem?_eq_some_iff.1 hq
        simp at hlt hq'
        subst hq'
        rw [Addr.add_lit]
        simpa [World.cell?, hb'] using hc j (by omega)
      have hl := run_loadCells_list (P := P) w' ⟨b, off, none⟩ ((List.range k).map u) hcell
      simp only [List.length_map, List.length_range] at hl
      simp [execOp, ho, hv, Instr.loadAt, Instr.sureAddr, loadVar, hag, hsz, hl]
    · rw [tab_get]
      rw [tab_len] at hj
      have := hr' j (by omega)
      simpa [hj] using this

/-- The address of an element. -/
theorem OpV.indexAddr_im {x y : Operand} {t e n sz : Nat} {k : IntKind} {i : Int} {F : Nat → AV} (ho : o.op = .indexAddr t x y) (hu : P.underlying t = some (.slice e)) (hsz : ∀ w, (sizeOf e).run P w = .ok sz w)
    (hx : evO s x = some (.im n sz F)) (hy : evO s y = some (.v (.int k i))) (h0 : 0 ≤ i) (h1 : i < n) : OpV P B W s o (.at_ sz fun j => F (i.toNat * sz + j)) := by
  intro a w hr
  have := hr.ev hx
  generalize hv : a.eval x = u at this
  cases this with
  | nil => omega
  | im n sz f' b off cap c e' u hZ h2 h3 hb hc hr' =>
    have hlt : ∀ j, j < sz → i.toNat * sz + j < n * sz := fun j hj => by
      have := Nat.mul_le_mul_right sz (show i.toNat + 1 ≤ n by omega)
      rw [Nat.add_mul] at this; omega
    refine ⟨.pointer (some ⟨b, off + i.toNat * sz, none⟩), fun w' _ => by simp [execOp, ho, hv, hr.evv hy, Instr.indexAt, asIntOf, run_underlying hu, hsz, h0, h1, Addr.add_lit], .at_ _ _ b _ c e' (fun j => u (i.toNat * sz + j)) hZ hb (fun j hj => ?_) fun j hj => hr' _ (hlt j hj)⟩
    rw [Nat.add_assoc]; exact hc _ (hlt j hj)
theorem OpV.indexAddr_v {x y : Operand} {t e n sz g off cap : Nat} {k : IntKind} {i : Int} (ho : o.op = .indexAddr t x y) (hu : P.underlying t = some (.slice e)) (hsz : ∀ w, (sizeOf e).run P w = .ok sz w)
    (hx : evO s x = some (.v (.slice (some ⟨g, off, none⟩) n cap))) (hy : evO s y = some (.v (.int k i))) (h0 : 0 ≤ i) (h1 : i < n) : OpV P B W s o (.v (.pointer (some ⟨g, off + i.toNat * sz, none⟩))) :=
  OpV.conc (fun a w hr w' hcw => by simp [execOp, ho, hr.evv hx, hr.evv hy, Instr.indexAt, asIntOf, run_underlying hu, hsz, h0, h1, Addr.add_lit])
/-- The address of an element of an array that lies in a block. -/
theorem OpV.indexAddr_arr {x y : Operand} {t e n sz g off : Nat} {k : IntKind} {i : Int} (ho : o.op = .indexAddr t x y) (hu : P.underlying t = some (.array n e)) (hsz : ∀ w, (sizeOf e).run P w = .ok sz w)
    (hx : evO s x = some (.v (.pointer (some ⟨g, off, none⟩)))) (hy : evO s y = some (.v (.int k i))) (h0 : 0 ≤ i) (h1 : i < n) : OpV P B W s o (.v (.pointer (some ⟨g, off + i.toNat * sz, none⟩))) :=
  OpV.conc (fun a w hr w' hcw => by simp [execOp, ho, hr.evv hx, hr.evv hy, Instr.indexAt, Instr.sureAddr, asIntOf, run_underlying hu, hsz, h0, h1, Addr.add_lit])
/-- A byte of a string. -/
theorem OpV.index_s {x y : Operand} {t : Nat} {k : IntKind} {i : Int} {p : ByteArray} (ho : o.op = .index t x y) (hu : P.underlying t = some .string)
    (hx : evO s x = some (.v (.string p))) (hy : evO s y = some (.v (.int k i))) (h0 : 0 ≤ i) (h1 : i.toNat < p.size) : OpV P B W s o (.v (.int .u8 (p[i.toNat].toNat))) :=
  OpV.conc (fun a w hr w' hcw => by
    have : p[i.toNat]? = some p[i.toNat] := by simp [h1]
    simp [execOp, ho, hr.evv hx, hr.evv hy, Instr.index, asIntOf, run_underlying hu, h0, this])

/-- A function value. -/
theorem OpV.makeFunc {fn : Fn} {cap : Array Operand} {us : Array Value} (ho : o.op = .makeFunc fn #[] cap) (hc : ∀ a w, R B s a w → cap.map a.eval = us) : OpV P B W s o (.v (.func fn #[] us)) :=
  OpV.conc (fun a w hr w' hcw => by simp [execOp, ho, Instr.makeFunc, hc a w hr])
theorem OpV.nilCheck {x : Operand} {v : Addr} (ho : o.op = .nilCheck x) (hx : evO s x = some (.v (.pointer (some v)))) : OpV P B W s o (.v (.pointer (some v))) :=
  OpV.conc (fun a w hr w' hcw => by simp [execOp, ho, hr.evv hx])
theorem OpV.nilCheck_at {x : Operand} {m : Nat} {F : Nat → AV} (ho : o.op = .nilCheck x) (hx : evO s x = some (.at_ m F)) : OpV P B W s o (.at_ m F) := by
  intro a w hr
  have := hr.ev hx
  generalize hv : a.eval x = u at this
  cases this with
  | at_ m f' b off c e u hZ hb hc hr' => exact ⟨.pointer (some ⟨b, off, none⟩), fun w' _ => by simp [execOp, ho, hv], .at_ m F b off c e u hZ hb hc hr'⟩
end
end Go.Proofs.YtgikefjbdhnffaaDoor
