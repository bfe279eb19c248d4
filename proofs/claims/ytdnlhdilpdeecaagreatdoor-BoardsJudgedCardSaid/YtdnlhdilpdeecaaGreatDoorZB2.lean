/- Part 2 of a proof: the walks and laws that it needs. -/
import Derived.Laws.StructEq
import Derived.Test.YtdnlhdilpdeecaaGreatDoorProg
import Derived.Deep.QuietTactic
import Derived.BigQuiet
import Derived.Shelf.SlIter.Nil
import Derived.Shelf.SortM.Plain
import Derived.Shelf.SortM.SortNone
import Derived.Ground.GgzProg
import Derived.Ground.SlgmProg
import Derived.StringKeys
import Derived.Laws.IdiomRangeMap
import Derived.Sort.Walk0
import Derived.Shelf.Strings.Builder1
import Derived.Shelf.Strings.Builder2
import Derived.Shelf.Strings.OnBuilder
import Derived.Shelf.Strings.Trim
import Derived.Shelf.Small.Utf8
import Derived.Shelf.Small.Bits
import Derived.Shelf.Small.Strs
import Derived.Shelf.Small.Wraps
import Derived.Shelf.Strconv.Atoi
import Derived.Shelf.Strconv.Itoa0
import Derived.Shelf.Strconv.Itoa1
import Derived.Shelf.LaysM
import Derived.Shelf.Strconv.Itoa2
import Derived.Shelf.Strconv.Itoa3
import Derived.Shelf.Strings.Search1
import Derived.Shelf.Strings.Search2
import Derived.Shelf.Strings.Search3
import Derived.Shelf.Strings.Cut
import Derived.Shelf.Strings.Count
import Derived.Shelf.Strings.Shaped
import Derived.Shelf.Strings.Prefix
import Derived.Shelf.Strings.Split
import Derived.Shelf.Strings.Runes
import Derived.Shelf.Strings.AsciiSet
import Derived.Shelf.Bits.Mul64
import Derived.Shelf.Unicode.DecodeSlow
import Derived.Ground.SlgnProg
import Derived.Shelf.SlicesG.CompactS
import Derived.Lib.SlicesCompact
import Derived.Test.YtdnlhdilpdeecaaGreatDoorZB1
namespace Go.Proofs.YtdnlhdilpdeecaaGreatDoor
open Go.RowKit
set_option linter.unusedVariables false
set_option linter.unusedSimpArgs false

inductive EqFs (P : Program) : Nat → List Field → List AV → List AV → Bool → Prop where
 | nil (off : Nat) : EqFs P off [] [] [] true
 | int {off : Nat} {f : Field} {fs : List Field} {k k' : IntKind} {a b : Int} {xs ys : List AV} {r : Bool} (hu : P.underlying f.type = some (.int k')) (hag : ∀ w, (isAgg f.type).run P w = .ok false w) (ho : f.offset = off) (hn : f.name ≠ "_") (h : EqFs P (off + 1) fs xs ys r) :
   EqFs P off (f :: fs) (.v (.int k a) :: xs) (.v (.int k b) :: ys) (decide (a = b) && r)
 | str {off : Nat} {f : Field} {fs : List Field} {a b : ByteArray} {xs ys : List AV} {r : Bool} (hu : P.underlying f.type = some .string) (hag : ∀ w, (isAgg f.type).run P w = .ok false w) (ho : f.offset = off) (hn : f.name ≠ "_") (h : EqFs P (off + 1) fs xs ys r) :
   EqFs P off (f :: fs) (.v (.string a) :: xs) (.v (.string b) :: ys) (sEq a b && r)
 | bool {off : Nat} {f : Field} {fs : List Field} {a b : Bool} {xs ys : List AV} {r : Bool} (hu : P.underlying f.type = some .bool) (hag : ∀ w, (isAgg f.type).run P w = .ok false w) (ho : f.offset = off) (hn : f.name ≠ "_") (h : EqFs P (off + 1) fs xs ys r) :
   EqFs P off (f :: fs) (.v (.bool a) :: xs) (.v (.bool b) :: ys) ((a == b) && r)

theorem EqFs.run {P : Program} {w : World} {Z : Nat → Prop} {us vs : Array Value} {d : Nat} : ∀ {off : Nat} {fs : List Field} {xs ys : List AV} {r : Bool}, EqFs P off fs xs ys r →
  (∀ j, (h : j < xs.length) → off + j < us.size ∧ Rep w Z xs[j] (us.getD (off + j) undef)) → (∀ j, (h : j < ys.length) → off + j < vs.size ∧ Rep w Z ys[j] (vs.getD (off + j) undef)) → ∀ w', (Op.eqFields (d + 1) us vs fs).run P w' = .ok r w' := by
 intro off fs xs ys r h
 have cellP : ∀ (t : TypeId) (us : Array Value) (off : Nat) (v : Value) (w' : World), (∀ w, (isAgg t).run P w = .ok false w) → off < us.size → us.getD off undef = v → (part t us off).run P w' = .ok v w' := fun t us off v w' hag hl hv => by
  have : us[off]? = some v := by rw [← hv, Array.getD_eq_getD_getElem?, Array.getElem?_eq_getElem hl]; rfl
  simp [part, hag, this]
 have sh : ∀ n j : Nat, n + (j + 1) = n + 1 + j := fun n j => by omega
 induction h with
 | nil off => intro _ _ w'; rfl
 | int hu hag ho hn h ih =>
  intro h1 h2 w'
  obtain ⟨k1, k2⟩ := h1 0 (by simp)
  obtain ⟨k3, k4⟩ := h2 0 (by simp)
  subst ho
  have e1 := cellP _ us _ _ w' hag k1 k2.eq_v
  have e2 := cellP _ vs _ _ w' hag k3 k4.eq_v
  have ih' := ih (fun j hj => by have := h1 (j + 1) (by simpa using hj); rw [sh] at this; exact this) (fun j hj => by have := h2 (j + 1) (by simpa using hj); rw [sh] at this; exact this) w'
  simp only [Nat.add_zero] at e1 e2
  rename_i a b _ _ _
  have e3 := fun k => run_equalIn_int (P := P) w' d _ k _ a b hu
  simp only [Op.eqFields, hn, ne_eq, not_false_eq_true, if_true, Sem.run_bind, e1, e2, e3, Result.andThen_ok]
  by_cases hab : a = b
  ·subst hab; simpa using ih'
  ·simp [hab]
 | str hu hag ho hn h ih =>
  intro h1 h2 w'
  obtain ⟨k1, k2⟩ := h1 0 (by simp)
  obtain ⟨k3, k4⟩ := h2 0 (by simp)
  subst ho
  have e1 := cellP _ us _ _ w' hag k1 k2.eq_v
  have e2 := cellP _ vs _ _ w' hag k3 k4.eq_v
  have ih' := ih (fun j hj => by have := h1 (j + 1) (by simpa using hj); rw [sh] at this; exact this) (fun j hj => by have := h2 (j + 1) (by simpa using hj); rw [sh] at this; exact this) w'
  simp only [Nat.add_zero] at e1 e2
  rename_i a b _ _ _
  have e3 := run_equalIn_string (P := P) w' d _ a b hu
  simp only [Op.eqFields, hn, ne_eq, not_false_eq_true, if_true, Sem.run_bind, e1, e2, e3, Result.andThen_ok]
  cases hab : sEq a b with
  | true => unfold sEq at hab; rw [hab]; simpa using ih'
  | false => unfold sEq at hab; rw [hab]; simp
 | bool hu hag ho hn h ih =>
  intro h1 h2 w'
  obtain ⟨k1, k2⟩ := h1 0 (by simp)
  obtain ⟨k3, k4⟩ := h2 0 (by simp)
  subst ho
  have e1 := cellP _ us _ _ w' hag k1 k2.eq_v
  have e2 := cellP _ vs _ _ w' hag k3 k4.eq_v
  have ih' := ih (fun j hj => by have := h1 (j + 1) (by simpa using hj); rw [sh] at this; exact this) (fun j hj => by have := h2 (j + 1) (by simpa using hj); rw [sh] at this; exact this) w'
  simp only [Nat.add_zero] at e1 e2
  rename_i a b _ _ _
  have e3 := run_equalIn_bool' (P := P) w' d _ a b hu
  simp only [Op.eqFields, hn, ne_eq, not_false_eq_true, if_true, Sem.run_bind, e1, e2, e3, Result.andThen_ok]
  cases hab : (a == b) with
  | true => simpa using ih'
  | false => simp

section
variable {P : Program} {B : Bs} {W : Nat → Prop} {s : St'} {o : Oper}
theorem agg_eq {w : World} {Z : Nat → Prop} {t : TypeId} {xs ys : List AV} {u v : Value} {r : Bool} (hu : P.underlying t = some (.struct (P.fieldsOf t))) (hs : P.stoodInHeld t = false) (h : EqFs P 0 (P.fieldsOf t).toList xs ys r) (hx : Rep w Z (.agg xs) u) (hy : Rep w Z (.agg ys) v) :
  ∃ us vs, u = .agg us ∧ v = .agg vs ∧ ∀ w', (Op.equalIn 10000 t u v).run P w' = .ok r w' := by
 cases hx with
 | agg _ us l1 r1 =>
  cases hy with
  | agg _ vs l2 r2 =>
   refine ⟨us, vs, rfl, rfl, fun w' => ?_⟩
   rw [run_equalIn_struct w' 9999 t us vs hu hs]
   exact h.run (w := w) (Z := Z) (fun j hj => ⟨by omega, by rw [Nat.zero_add]; exact r1 j hj⟩) (fun j hj => ⟨by omega, by rw [Nat.zero_add]; exact r2 j hj⟩) w'
theorem OpV.aneq {x y : Operand} {t u : TypeId} {xs ys : List AV} {r : Bool} (ho : o.op = .binOp .neq t x y u) (hu : P.underlying t = some (.struct (P.fieldsOf t))) (hs : P.stoodInHeld t = false) (hg : P.eqGuardType P.depth t = false)
  (hx : evO s x = some (.agg xs)) (hy : evO s y = some (.agg ys)) (h : EqFs P 0 (P.fieldsOf t).toList xs ys r) : OpV P B W s o (avB (!r)) := fun a w hr => by
 obtain ⟨us, vs, e1, e2, e3⟩ := agg_eq hu hs h (hr.ev hx) (hr.ev hy)
 rw [e1, e2] at e3
 refine ⟨_, fun w' _ => ?_, .v _⟩
 simp only [execOp, ho, e1, e2, Sem.run_bind, run_eqGuard_agg w' _ t x y us vs hg, run_neq_struct, e3, Result.andThen_ok, Sem.run_pure]
end
end Go.Proofs.YtdnlhdilpdeecaaGreatDoor
namespace Go.Proofs.YtdnlhdilpdeecaaGreatDoor
open Go.RowKit
set_option linter.unusedVariables false
set_option linter.unusedSimpArgs false
abbrev kv2 : ByteArray × ByteArray → Value := fun k => .agg #[.string k.1, .string k.2]
theorem sEq_dec (a b : ByteArray) : sEq a b = decide (a = b) := by
 by_cases h : a = b
 ·rw [decide_eq_true h]; exact sEq_eq.2 h
 ·rw [decide_eq_false h]
  cases e : sEq a b with
  | false => rfl
  | true => exact absurd (sEq_eq.1 e) h
section
variable {P : Program} {kt : TypeId} {f1 f2 : Field} (hu : P.underlying kt = some (.struct (P.fieldsOf kt))) (hs : P.stoodInHeld kt = false) (hf : P.fieldsOf kt = #[f1, f2]) (h1 : P.underlying f1.type = some .string) (h2 : P.underlying f2.type = some .string)
 (a1 : ∀ w, (isAgg f1.type).run P w = .ok false w) (a2 : ∀ w, (isAgg f2.type).run P w = .ok false w) (o1 : f1.offset = 0) (o2 : f2.offset = 1) (n1 : f1.name ≠ "_") (n2 : f2.name ≠ "_")
include hu hs hf h1 h2 a1 a2 o1 o2 n1 n2
theorem key2_eq (k k' : ByteArray × ByteArray) (w : World) : (Op.equal kt (kv2 k) (kv2 k')).run P w = .ok (decide (k = k')) w := by
 have hE : EqFs P 0 (P.fieldsOf kt).toList [avS k.1, avS k.2] [avS k'.1, avS k'.2] (sEq k.1 k'.1 && (sEq k.2 k'.2 && true)) := by
  rw [hf]
  exact EqFs.str h1 a1 o1 n1 (EqFs.str h2 a2 o2 n2 (EqFs.nil _))
 have rep : ∀ q : ByteArray × ByteArray, Rep w (fun _ => True) (.agg [avS q.1, avS q.2]) (kv2 q) := fun q => .agg _ _ rfl fun j hj => by
  match j, hj with
  | 0, _ => exact .v _
  | 1, _ => exact .v _
 obtain ⟨us, vs, e1, e2, e3⟩ := agg_eq hu hs hE (rep k) (rep k')
 have := e3 w
 have e4 : (sEq k.1 k'.1 && (sEq k.2 k'.2 && true)) = decide (k = k') := by
  rw [sEq_dec, sEq_dec, Bool.and_true]
  obtain ⟨a, b⟩ := k
  obtain ⟨c, d⟩ := k'
  simp [Prod.mk.injEq]
 rw [e4] at this
 exact this
theorem asking2 {α : Type} : ∀ (l : List ((ByteArray × ByteArray) × α)) (c : List MapEntry) (k : ByteArray × ByteArray) (w : World) (i : Nat), c.length = l.length → (∀ j (h : j < l.length), ∃ e, c[j]? = some e ∧ e.key = kv2 (l[j]).1) →
  (Instr.findAsking kt (kv2 k) c i).run P w = .ok (if mpos l k < l.length then (c[mpos l k]?).map fun e => (i + mpos l k, e.val) else none) w
 | [], c, k, w, i, hl, h => by
  have : c = [] := List.eq_nil_of_length_eq_zero (by simpa using hl)
  subst this; rfl
 | p :: r, [], k, w, i, hl, h => by simp at hl
 | p :: r, e :: c, k, w, i, hl, h => by
  obtain ⟨e0, g1, g2⟩ := h 0 (by simp)
  simp at g1 g2
  subst g1
  have hq := key2_eq hu hs hf h1 h2 a1 a2 o1 o2 n1 n2 k p.1 w
  simp only [Instr.findAsking, Sem.run_bind, g2, hq, Result.andThen_ok]
  by_cases ek : k = p.1
  ·simp [mpos, ek]
  ·simp only [ek, decide_false, Bool.false_eq_true, if_false]
   rw [asking2 r c k w (i + 1) (by simpa using hl) (fun j hj => h (j + 1) (Nat.succ_lt_succ hj))]
   simp only [mpos, if_neg ek, List.length_cons, Nat.add_lt_add_iff_right, List.getElem?_cons_succ]
   rw [show i + 1 + mpos r k = i + (mpos r k + 1) by omega]
omit hs in
theorem check2 (e : Bool) (n : Nat) (k : ByteArray × ByteArray) (w : World) : (Instr.checkKey e (n + 1 + 1) kt (kv2 k)).run P w = .ok () w := by
 have q1 : ∀ s w, (Instr.checkKey e (n + 1) f1.type (.string s)).run P w = .ok () w := fun s w => by
  rw [Instr.checkKey]; simp only [Sem.run_bind, run_underlying h1, Result.andThen_ok, Sem.run_pure]
 have q2 : ∀ s w, (Instr.checkKey e (n + 1) f2.type (.string s)).run P w = .ok () w := fun s w => by
  rw [Instr.checkKey]; simp only [Sem.run_bind, run_underlying h2, Result.andThen_ok, Sem.run_pure]
 have hu' := hu
 rw [hf] at hu'
 rw [Instr.checkKey]
 simp only [kv2, Sem.run_bind, run_underlying hu', Result.andThen_ok]
 simp [n1, n2, o1, o2, part, a1, a2, q1, q2]
theorem KeyOk.str2 : KeyOk P kt kv2 where
 check e k w := by
  rw [show (10000 : Nat) = 9998 + 1 + 1 from rfl]
  exact check2 hu hf h1 h2 a1 a2 o1 o2 n1 n2 e 9998 k w
 find l c k w hl h := by
  have hu' := hu
  rw [hf] at hu'
  cases c with
  | nil =>
   have : l = [] := List.eq_nil_of_length_eq_zero (by simpa using hl.symm)
   subst this
   simp [Instr.findKey, run_underlying hu', Instr.findNow, mpos]
  | cons e c =>
   have := asking2 hu hs hf h1 h2 a1 a2 o1 o2 n1 n2 l (e :: c) k w 0 hl h
   simp only [Nat.zero_add] at this
   simp only [Instr.findKey, Sem.run_bind, run_underlying hu', Result.andThen_ok, Instr.findNow, Instr.sameNow]
   exact this
 stay k w := by
  have : Instr.sameBits 10000 (kv2 k) (kv2 k) = true := by
   rw [show (10000 : Nat) = 9999 + 1 from rfl]
   simp [kv2, Instr.sameBits]
  simp [Instr.keyThatStays, this]
end
end Go.Proofs.YtdnlhdilpdeecaaGreatDoor
namespace Go.Proofs.YtdnlhdilpdeecaaGreatDoor
open Go.RowKit
set_option linter.unusedVariables false
set_option linter.unusedSimpArgs false
def errsF (xs : List Int) : Int := match xs.find? (fun x => decide (x ≠ 0)) with | some x => x | none => 0
theorem errsF_at {xs : List Int} {q : Nat} (hq : q < xs.length) (hn : ∀ j, j < q → xs.getD j 0 = 0) (h : xs.getD q 0 ≠ 0) : errsF xs = xs.getD q 0 := by
 induction xs generalizing q with
 | nil => simp at hq
 | cons x r ih =>
  cases q with
  | zero => simp at h; simp [errsF, h]
  | succ q =>
   have h0 := hn 0 (by omega)
   simp at h0
   have := ih (q := q) (by simpa using hq) (fun j hj => by simpa using hn (j + 1) (by omega)) (by simpa using h)
   simpa [errsF, h0] using this
theorem errsF_none {xs : List Int} (hn : ∀ j, j < xs.length → xs.getD j 0 = 0) : errsF xs = 0 := by
 induction xs with
 | nil => rfl
 | cons x r ih =>
  have h0 := hn 0 (by simp)
  simp at h0
  have := ih (fun j hj => by simpa using hn (j + 1) (by simpa using hj))
  simpa [errsF, h0] using this
theorem Le.lits {B : Bs} {s : St'} {t n : Nat} {xs : List Int} (hn : n = xs.length) (ht : look s.sl t = some (.im n 1 fun j => (intsL xs).getD j .any)) : Le B s ⟨(t, avInts xs) :: s.sl, s.hp, s.k⟩ := Le.recast ht fun w Z u h => Rep.ints hn h
end Go.Proofs.YtdnlhdilpdeecaaGreatDoor
namespace Go.Proofs.YtdnlhdilpdeecaaGreatDoor
open Go.RowKit
set_option linter.unusedVariables false
set_option linter.unusedSimpArgs false

structure LookS where
 board : ByteArray
 name : ByteArray
 at_ : Int
 verdict : Int
 bad : Bool
 machine : ByteArray
 nozzle : ByteArray
 reel : ByteArray
instance : Inhabited LookS := ⟨⟨ByteArray.empty, ByteArray.empty, 0, 0, false, ByteArray.empty, ByteArray.empty, ByteArray.empty⟩⟩
instance : Sxc LookS where
 k := 8
 pos := by decide
 cell m j := match j with
  | 0 => avS m.board
  | 1 => avS m.name
  | 2 => avI m.at_
  | 3 => avI m.verdict
  | 4 => avB m.bad
  | 5 => avS m.machine
  | 6 => avS m.nozzle
  | 7 => avS m.reel
  | _ => .any
abbrev avLk (x : LookS) : AV := .agg [avS x.board, avS x.name, avI x.at_, avI x.verdict, avB x.bad, avS x.machine, avS x.nozzle, avS x.reel]
structure SmLk (l : List LookS) : Prop where
 len : l.length ≤ 1000000
 board : ∀ i, (l.getD i default).board.size ≤ 1000000
 name : ∀ i, (l.getD i default).name.size ≤ 1000000
 machine : ∀ i, (l.getD i default).machine.size ≤ 1000000
 nozzle : ∀ i, (l.getD i default).nozzle.size ≤ 1000000
 reel : ∀ i, (l.getD i default).reel.size ≤ 1000000
def cmpI (a b : Int) : Int := if a < b then -1 else if b < a then 1 else 0
def cmpLk (a b : LookS) : Int := errsF [cmpI a.at_ b.at_, cmpB a.board b.board, cmpB a.name b.name]
def lkStrs (x : LookS) : List ByteArray := [x.board, x.name, x.machine, x.nozzle, x.reel]
def lookE (l : List LookS) (i : Nat) : Int :=
 if (lkStrs (l.getD i default)).all keyF = false then 5
 else if outR (l.getD i default).at_ 0 345686399999 = true then 1
 else if outR (l.getD i default).verdict 1 5 = true then 4
 else if (decide (0 < i) && decide (0 ≤ cmpLk (l.getD (i - 1) default) (l.getD i default))) = true then 7
 else 0
def sameT (o x : LookS) : Bool := sEq o.board x.board && sEq o.name x.name
def twE (l : List LookS) (i : Nat) : Int := if (l.take i).any (fun o => sameT o (l.getD i default)) = true then 6 else 0
def lookF (l : List LookS) : Int :=
 if 5000 < l.length then 2
 else if firstE (lookE l) l.length ≠ 0 then firstE (lookE l) l.length
 else firstE (twE l) l.length
section
variable {l : List LookS} {i : Nat}
theorem lookE_5 (h : (lkStrs (l.getD i default)).all keyF = false) : lookE l i = 5 := by rw [lookE, if_pos h]
theorem lookE_1 (h : (lkStrs (l.getD i default)).all keyF = true) (h1 : outR (l.getD i default).at_ 0 345686399999 = true) : lookE l i = 1 := by rw [lookE, if_neg (by rw [h]; simp), if_pos h1]
theorem lookE_4 (h : (lkStrs (l.getD i default)).all keyF = true) (h1 : outR (l.getD i default).at_ 0 345686399999 = false) (h2 : outR (l.getD i default).verdict 1 5 = true) : lookE l i = 4 := by rw [lookE, if_neg (by rw [h]; simp), if_neg (by rw [h1]; simp), if_pos h2]
theorem lookE_7 (h : (lkStrs (l.getD i default)).all keyF = true) (h1 : outR (l.getD i default).at_ 0 345686399999 = false) (h2 : outR (l.getD i default).verdict 1 5 = false) (hi : 0 < i) (h3 : 0 ≤ cmpLk (l.getD (i - 1) default) (l.getD i default)) : lookE l i = 7 := by
 rw [lookE, if_neg (by rw [h]; simp), if_neg (by rw [h1]; simp), if_neg (by rw [h2]; simp), if_pos (by rw [decide_eq_true hi, decide_eq_true h3]; rfl)]
theorem lookE_0 (h : (lkStrs (l.getD i default)).all keyF = true) (h1 : outR (l.getD i default).at_ 0 345686399999 = false) (h2 : outR (l.getD i default).verdict 1 5 = false) (h3 : i = 0 ∨ cmpLk (l.getD (i - 1) default) (l.getD i default) < 0) : lookE l i = 0 := by
 rw [lookE, if_neg (by rw [h]; simp), if_neg (by rw [h1]; simp), if_neg (by rw [h2]; simp), if_neg]
 rcases h3 with rfl | h3
 ·simp
 ·rw [decide_eq_false (show ¬ 0 ≤ cmpLk (l.getD (i - 1) default) (l.getD i default) by omega)]; simp
theorem lookF_2 (h : 5000 < l.length) : lookF l = 2 := by rw [lookF, if_pos h]
theorem lookF_at (h : l.length ≤ 5000) {q : Nat} (hq : q < l.length) (hn : ∀ j, j < q → lookE l j = 0) (he : lookE l q ≠ 0) : lookF l = lookE l q := by
 have := firstE_found hn he hq
 rw [lookF, if_neg (by omega), this, if_pos he]
theorem lookF_tw (h : l.length ≤ 5000) (h0 : ∀ j, j < l.length → lookE l j = 0) {q : Nat} (hq : q < l.length) (hn : ∀ j, j < q → twE l j = 0) (he : twE l q ≠ 0) : lookF l = twE l q := by
 have := firstE_found hn he hq
 rw [lookF, if_neg (by omega), firstE_none h0, if_neg (by simp), this]
theorem lookF_ok (h : l.length ≤ 5000) (h0 : ∀ j, j < l.length → lookE l j = 0) (hn : ∀ j, j < l.length → twE l j = 0) : lookF l = 0 := by
 rw [lookF, if_neg (by omega), firstE_none h0, if_neg (by simp), firstE_none hn]
end
structure LookOk (l : List LookS) : Prop where
 len : l.length ≤ 5000
 all : ∀ j, j < l.length → lookE l j = 0
 once : ∀ j, j < l.length → twE l j = 0
theorem lookOk {l : List LookS} (h : lookF l = 0) : LookOk l := by
 unfold lookF at h
 split at h
 ·cases h
 ·split at h
  ·contradiction
  ·rename_i h1 h2
   exact ⟨by omega, firstE_zero (by simpa using h2), firstE_zero h⟩
def seenL (l : List LookS) : List ((ByteArray × ByteArray) × Bool) := l.map fun x => ((x.board, x.name), true)
theorem seenL_get (l : List LookS) (x : LookS) : mgetD (seenL l) (x.board, x.name) false = l.any fun o => sameT o x := by
 induction l with
 | nil => rfl
 | cons o l ih =>
  show mgetD (((o.board, o.name), true) :: seenL l) _ _ = _
  simp only [List.any_cons]
  rw [← ih]
  by_cases e : (x.board, x.name) = (o.board, o.name)
  ·have h1 : sameT o x = true := by
    have h2 := Prod.mk.inj e
    unfold sameT
    rw [h2.1, h2.2, sEq_eq.2 rfl, sEq_eq.2 rfl]; rfl
   rw [h1, mgetD, mget, if_pos e]; rfl
  ·have h1 : sameT o x = false := by
    cases hs : sameT o x with
    | false => rfl
    | true =>
     unfold sameT at hs
     rw [Bool.and_eq_true] at hs
     exact absurd (by rw [sEq_eq.1 hs.1, sEq_eq.1 hs.2]) e
   rw [h1, Bool.false_or, mgetD, mget, if_neg e]; rfl
theorem seenL_new {l : List LookS} {x : LookS} (h : l.any (fun o => sameT o x) = false) : mput (seenL l) (x.board, x.name) true = seenL (l ++ [x]) := by
 have hn : mpos (seenL l) (x.board, x.name) = (seenL l).length := by
  have hle := mpos_le (seenL l) (x.board, x.name)
  by_cases hlt : mpos (seenL l) (x.board, x.name) < (seenL l).length
  ·exfalso
   have hk := mpos_key (seenL l) (x.board, x.name) hlt
   have hl : mpos (seenL l) (x.board, x.name) < l.length := by simpa [seenL] using hlt
   rw [List.any_eq_false] at h
   have := h _ (List.getElem_mem hl)
   apply this
   simp only [seenL, List.getElem_map] at hk
   have h2 := Prod.mk.inj hk
   unfold sameT
   simp only [seenL] at h2 ⊢
   rw [h2.1, h2.2, sEq_eq.2 rfl, sEq_eq.2 rfl]; rfl
  ·omega
 rw [mput_new _ _ _ hn]
 simp [seenL]
def badN (l : List LookS) : Nat := (l.filter fun x => x.bad).length
theorem badN_le (l : List LookS) : badN l ≤ l.length := List.length_filter_le _ _
theorem badN_take {l : List LookS} {q : Nat} (h : q < l.length) : badN (l.take (q + 1)) = badN (l.take q) + if (l.getD q default).bad = true then 1 else 0 := by
 rw [List.take_add_one, List.getElem?_eq_getElem h]
 have : l.getD q default = l[q] := by rw [List.getD_eq_getElem?_getD, List.getElem?_eq_getElem h]; rfl
 rw [this]
 unfold badN
 rw [List.filter_append, List.length_append]
 cases hb : l[q].bad <;> simp [hb]
theorem twE_6 {l : List LookS} {i : Nat} (h : (l.take i).any (fun o => sameT o (l.getD i default)) = true) : twE l i = 6 := by rw [twE, if_pos h]
theorem twE_0 {l : List LookS} {i : Nat} (h : (l.take i).any (fun o => sameT o (l.getD i default)) = false) : twE l i = 0 := by rw [twE, if_neg (by rw [h]; simp)]
theorem lk_sz {l : List LookS} (h : SmLk l) (i q : Nat) : ((lkStrs (l.getD i default)).getD q ByteArray.empty).size ≤ 1000000 := by
 match q with
 | 0 => exact h.board i
 | 1 => exact h.name i
 | 2 => exact h.machine i
 | 3 => exact h.nozzle i
 | 4 => exact h.reel i
 | q + 5 => simp [lkStrs]
def millE (l : List LookS) : Int := if lookF l ≠ 0 then lookF l else if l.length = 0 then 8 else 0
def millN (l : List LookS) : Nat × Nat := if millE l = 0 then (badN l * 1000000 / Nat.gcd (badN l * 1000000) l.length, l.length / Nat.gcd (badN l * 1000000) l.length) else (0, 0)
theorem millE_1 {l : List LookS} (h : lookF l ≠ 0) : millE l = lookF l := by rw [millE, if_pos h]
theorem millE_8 {l : List LookS} (h : lookF l = 0) (h0 : l.length = 0) : millE l = 8 := by rw [millE, if_neg (by omega), if_pos h0]
theorem millE_0 {l : List LookS} (h : lookF l = 0) (h0 : l.length ≠ 0) : millE l = 0 := by rw [millE, if_neg (by omega), if_neg h0]
end Go.Proofs.YtdnlhdilpdeecaaGreatDoor
namespace Go.Proofs.YtdnlhdilpdeecaaGreatDoor
open Go.RowKit
set_option linter.unusedVariables false
set_option linter.unusedSimpArgs false

def AV.isV : AV → Bool
 | .v _ => true
 | _ => false
theorem flat_ofB {cs : List AV} (h : cs.all AV.isV = true) : FlatA cs := fun x hx => by
 have := List.all_eq_true.1 h x hx
 cases x <;> simp [AV.isV] at this
 exact ⟨_, rfl⟩
section
variable {P : Program} {s : St'}
theorem ResN.cellF {b t g j i k : Nat} {o' : Own'} {r : List AV} (hag : ∀ w, (isAgg t).run P w = .ok true w) (hsz : ∀ w, (sizeOf t).run P w = .ok k w) (hx : look s.sl b = some (.v (.pointer (some ⟨g, j, none⟩)))) (hi : s.hp[i]? = some (.box g o')) (hc : cutL o'.cs j k = some r) (hf : FlatA r) :
  ResN P s (.cell b t) (.agg r) := fun B a w hS hr => by
 obtain ⟨v, h1, h2⟩ := ResV.cellK hag hsz hx hi hc B a w hr
 refine ⟨v, h1, ?_⟩
 cases h2 with
 | agg cs us hl hr' => exact .agg _ _ hl fun j h => (hr' j h).flat (hf _ (List.getElem_mem h))
theorem ResN.rowT {α : Type} [Inhabited α] [Sxc α] {t i n : Nat} {u : Value} {xs : List α} {ty : TypeId} (h : look s.sl t = some (.v u)) (hi : s.hp[i]? = some (.row u n (Sxc.k α) (rowL xs) ty)) (hn : n = xs.length) (hf : FlatA (rowL xs)) : ResN P s (.tmp t) (avL xs) :=
 ResN.row h hi hf fun w Z u h => Rep.rowL hn h
theorem ResN.nilE {t sz : Nat} {F : Nat → AV} (h : look s.sl t = some (.v (.slice none 0 0))) : ResN P s (.tmp t) (.im 0 sz F) := fun B a w hS hr => ⟨_, rfl, by
 show Rep w (NewZ B w) _ (a.tmps.getD t undef)
 rw [(hr.slots t _ h).eq_v]; exact .nil _ _⟩
theorem flat_rowL {α : Type} [Inhabited α] [Sxc α] (h : ∀ (x : α) j, j < Sxc.k α → ∃ v, Sxc.cell x j = .v v) (xs : List α) : FlatA (rowL xs) := fun y hy => by
 simp only [rowL, List.mem_flatMap] at hy
 obtain ⟨x, _, hy⟩ := hy
 obtain ⟨j, hj, rfl⟩ := List.getElem_of_mem hy
 rw [tab_len] at hj
 obtain ⟨v, hv⟩ := h x j hj
 refine ⟨v, ?_⟩
 rw [← hv]
 have := tab_get (Sxc.k α) (Sxc.cell x) j
 have h2 : (tab (Sxc.k α) (Sxc.cell x))[j]? = some (Sxc.cell x j) := by rw [List.getElem?_eq_getElem (by rw [tab_len]; exact hj), tab_get]
 have h3 : j < (tab (Sxc.k α) (Sxc.cell x)).length := by rw [tab_len]; exact hj
 rw [List.getElem?_eq_getElem h3] at h2
 exact Option.some.inj h2
end
section
variable {P : Program} {B : Bs} {W : Nat → Prop} {s : St'} {o : Oper} {K : St' → Prop} {a : Act} {w : World}
theorem Le.freezeAt {t i m g : Nat} {o' : Own'} {f : Nat → AV} (ht : look s.sl t = some (.v (.pointer (some ⟨g, 0, none⟩)))) (hi : s.hp[i]? = some (.box g o')) (hl : 0 + m ≤ o'.cs.length) (hf : ∀ w Z u, Rep w Z (.at_ m fun j => o'.cs.getD (0 + j) .any) u → Rep w Z (.at_ m f) u) (hnew : True) (hB : B.Ok) :
  Le B s ⟨(t, .at_ m f) :: s.sl, s.hp.eraseIdx i, s.k⟩ := fun a w hr => by
 have hr' := hr.erase i
 refine hr'.over t ?_
 have hu : a.tmps.getD t undef = _ := (hr.slots t _ ht).eq_v
 rw [hu]
 refine hf _ _ _ (hr.repPtr hi hl (fun b hb => ⟨hb.1, fun p hp => hb.2.1 p ((List.eraseIdx_sublist s.hp i).subset hp), hb.2.2⟩) fun hl => ?_)
 exact hr.erased hB hi rfl
theorem OpE.hap (h : Apart s.hp → OpE P B W s o K) : OpE P B W s o K := fun a w hr => h hr.nodup a w hr
theorem VC.hap {c : Code} {Q : Exit → St' → Prop} (h : Apart s.hp → VC P B c Q s) : VC P B c Q s := fun a w hr => h hr.nodup a w hr
theorem Wi.notD {ops : Array Oper} {i g : Nat} {js : List Nat} {X : Nat → Prop} (h : (js.all fun j => depB ops j i) = true) : ¬ Wi (fun j b => j ∈ js ∧ X b) ops i g := fun ⟨j, h1, h2, _⟩ => by
 rw [List.all_eq_true.1 h j h2] at h1; cases h1
def lstB (n : Nat) (l : List Nat) : Array Bool := l.foldl (fun a i => a.setIfInBounds i true) (Array.replicate n false)
theorem VA.bind {V : Nat → Nat → Prop} {ops : Array Oper} {Q : Exit → St' → Prop} {n : Nat} {L : Array Bool} (h : ∀ F : Nat → Array Bool → St' → Prop, F = (fun n L s => VA P B V ops Q n L s) → F n L s) : VA P B V ops Q n L s := h _ rfl
theorem VA.to {V : Nat → Nat → Prop} {ops : Array Oper} {Q : Exit → St' → Prop} {n : Nat} {L L' : Array Bool} {s' : St'} (h : VA P B V ops Q n L' s') (hL : L = L') (hle : Le B s s') : VA P B V ops Q n L s := by
 subst hL
 exact VA.le _ hle h
theorem OpV.makeFuncF1 {F : FuncId} {c : Operand} {x : AV} (ho : o.op = .makeFunc (.func F) #[] #[c]) (hc : evO s c = some x) : OpV P B W s o (.fn F [x]) := fun a w hr => by
 refine ⟨.func (.func F) #[] #[a.eval c], fun w' _ => by simp [execOp, ho, Instr.makeFunc], .fn _ _ _ rfl fun j hj => ?_⟩
 simp at hj; subst hj
 exact hr.ev hc
end
end Go.Proofs.YtdnlhdilpdeecaaGreatDoor
namespace Go.Proofs.YtdnlhdilpdeecaaGreatDoor
open Go.RowKit
set_option linter.unusedVariables false
set_option linter.unusedSimpArgs false

def below (x n : Int) : Int := if n < 1 then 0 else x % n
theorem below_lo (x n : Int) : 0 ≤ below x n := by unfold below; split; omega; exact Int.emod_nonneg _ (by omega)
theorem below_lt (x n : Int) (h : 1 ≤ n) : below x n < n := by unfold below; rw [if_neg (by omega)]; exact Int.emod_lt_of_pos _ (by omega)
theorem tmod_facts (x n : Int) (h : 1 ≤ n) : x.tmod n < n ∧ -n < x.tmod n ∧ (x.tmod n < 0 → x.tmod n + n = x % n) ∧ (0 ≤ x.tmod n → x.tmod n = x % n) := by
 have hn := Int.emod_nonneg x (show n ≠ 0 by omega)
 have hl := Int.emod_lt_of_pos x (show 0 < n by omega)
 by_cases h0 : 0 ≤ x
 ·rw [Int.tmod_eq_emod_of_nonneg h0]
  exact ⟨hl, by omega, fun _ => by omega, fun _ => rfl⟩
 ·have e : x.tmod n = -((-x) % n) := by
   rw [← Int.tmod_eq_emod_of_nonneg (by omega : 0 ≤ -x), Int.neg_tmod, Int.neg_neg]
  have hn' := Int.emod_nonneg (-x) (show n ≠ 0 by omega)
  have hl' := Int.emod_lt_of_pos (-x) (show 0 < n by omega)
  have e2 := Int.neg_emod (a := x) (b := n)
  rw [e]
  split at e2
  ·have : x % n = 0 := Int.emod_eq_zero_of_dvd ‹_›
   exact ⟨by omega, by omega, fun _ => by omega, fun _ => by omega⟩
  ·have e3 : (n.natAbs : Int) = n := by omega
   rw [e3] at e2
   exact ⟨by omega, by omega, fun _ => by omega, fun _ => by omega⟩

set_option maxHeartbeats 400000 in
theorem below_any (x n : Int) (w : World) (hn : n ≤ 9223372036854775807) :
  Calls Tryz.prog 178 #[.int .i64 x, .int .i64 n] w fun e w' => e = .returned (.int .i64 (below x n)) ∧ w = w' := by
 by_cases h1 : n < 1
 ·go_enter Tryz.func178, Tryz.ntmps178
  go_wp2
  go_ret
  exact ⟨by simp [below, h1], rfl⟩
 ·obtain ⟨b1, b2, b3, b4⟩ := tmod_facts x n (by omega)
  have B3 := hid b3; clear b3
  have B4 := hid b4; clear b4
  go_enter Tryz.func178, Tryz.ntmps178
  go_wp2
  ·go_ret
   exact ⟨ret_int (by rw [below, if_neg (by omega)]; exact B3.out (by omega)), rfl⟩
  ·go_ret
   exact ⟨ret_int (by rw [below, if_neg (by omega)]; exact B4.out (by omega)), rfl⟩

def nxt (L : List Int) (k : Nat) (n : Int) : Int :=
 if L.length = 0 then below (((k : Int) + 1) * 7919) n
 else below (below (L.getD (k % L.length) 0) 1073741824 + ((k / L.length : Nat) : Int) * (7919 + ((k % L.length : Nat) : Int))) n
theorem nxt_lo (L : List Int) (k : Nat) (n : Int) : 0 ≤ nxt L k n := by unfold nxt; split <;> exact below_lo _ _
theorem nxt_lt (L : List Int) (k : Nat) (n : Int) (h : 1 ≤ n) : nxt L k n < n := by unfold nxt; split <;> exact below_lt _ _ h

def Strm (w : World) (p : Nat) (L : List Int) (k : Nat) : Prop :=
 ∃ a cap, w.heap[p]? = some (.cells #[.slice a L.length cap, .int .i64 k] 25 (0, 0)) ∧ L.length ≤ 9223372036854775807 ∧
  ∀ i, i < L.length → ∃ b o, a = some ⟨b, o, none⟩ ∧ b < p ∧ w.cell? ⟨b, o + i, none⟩ = some (.int .i64 (L.getD i 0))

theorem Strm.keep {S : Nat → Prop} {w w' : World} {p : Nat} {L : List Int} {k : Nat} (h : Strm w p L k) (c : Chg S w w') (hs : ∀ j, j ≤ p → ¬ S j) : Strm w' p L k := by
 obtain ⟨a, cap, hp, hl, hc⟩ := h
 have hlt := (Array.getElem?_eq_some_iff.1 hp).1
 refine ⟨a, cap, (c.block p hlt (hs p (Nat.le_refl _))).trans hp, hl, fun i hi => ?_⟩
 obtain ⟨b, o, ha, hb, hcell⟩ := hc i hi
 exact ⟨b, o, ha, hb, c.cell hcell (hs _ (Nat.le_of_lt hb))⟩
theorem Strm.lt {w : World} {p : Nat} {L : List Int} {k : Nat} (h : Strm w p L k) : p < w.heap.size := by
 obtain ⟨a, cap, hp, hl, hc⟩ := h
 exact (Array.getElem?_eq_some_iff.1 hp).1

theorem Strm.step {w : World} {p : Nat} {L : List Int} {k : Nat} {a : Option Addr} {cap : Nat}
  (hp : w.heap[p]? = some (.cells #[.slice a L.length cap, .int .i64 k] 25 (0, 0))) (hl : L.length ≤ 9223372036854775807)
  (hc : ∀ i, i < L.length → ∃ b o, a = some ⟨b, o, none⟩ ∧ b < p ∧ w.cell? ⟨b, o + i, none⟩ = some (.int .i64 (L.getD i 0))) :
  Strm (w.setCell ⟨p, 1, none⟩ (.int .i64 ((k : Int) + 1))) p L (k + 1) := by
 refine ⟨a, cap, ?_, hl, fun i hi => ?_⟩
 ·simp [World.setCell, Array.getElem?_modify, hp]
 ·obtain ⟨b, o, ha, hb, hcell⟩ := hc i hi
  refine ⟨b, o, ha, hb, ?_⟩
  rw [← hcell]
  exact World.cell?_of_block (Below.heap_setCell _ _ _ _ (Nat.ne_of_lt hb))

set_option maxHeartbeats 400000 in
theorem next_any (p : Nat) (L : List Int) (k : Nat) (n : Int) (w : World) (h : Strm w p L k) (hk : k ≤ 1000000) (hn : n ≤ 1000000000) :
  Calls Tryz.prog 80 #[.pointer (some ⟨p, 0, none⟩), .int .i64 n] w fun e w' => e = .returned (.int .i64 (nxt L k n)) ∧ Strm w' p L (k + 1) ∧ Chg (AtB p) w w' := by
 obtain ⟨a, cap, hp, hl, hc⟩ := h
 have c0 : w.cell? ⟨p, 0, none⟩ = some (.slice a L.length cap) := by simp [World.cell?, hp]
 have c1 : w.cell? ⟨p, 1, none⟩ = some (.int .i64 k) := by simp [World.cell?, hp]
 have f1 : w.frozen? ⟨p, 1, none⟩ = false := by simp [World.frozen?, hp]
 have HP := hid hp; clear hp
 by_cases h0 : L.length = 0
 ·have h0' : ((L.length : Int) == 0) = true := by simp [h0]
  have H0 := hid h0; clear h0
  go_enter Tryz.func80, Tryz.ntmps80
  go_wp2_with (go_at_call 178; refine (below_any _ _ _ (by omega)).mono ?_; rintro e w' ⟨rfl, rfl⟩)
  go_ret
  exact ⟨ret_int (by rw [nxt, if_pos H0.out]), Strm.step HP.out hl hc, (Chg.refl (AtB p) w).setCell (a := ⟨p, 1, none⟩) (fun _ => rfl) _⟩
 ·have h0' : ((L.length : Int) == 0) = false := beq_eq_false_iff_ne.2 (by omega)
  obtain ⟨b, o, rfl, hbp', _⟩ := hc 0 (by omega)
  have hbp : b ≠ p := by omega
  have hci := (hc (k % L.length) (Nat.mod_lt _ (by omega)))
  obtain ⟨_, _, he, _, hci⟩ := hci
  cases he
  have HC := hid hc; clear hc
  have hm := Nat.mod_lt k (show 0 < L.length by omega)
  have hmk := Nat.mod_le k L.length
  have hdk := Nat.div_le_self k L.length
  have hb := below_lo (L[k % L.length]) 1073741824
  have hb2 := below_lt (L[k % L.length]) 1073741824 (by omega)
  have em : (k : Int) % (L.length : Int) = ((k % L.length : Nat) : Int) := by simp
  have ed : (k : Int) / (L.length : Int) = ((k / L.length : Nat) : Int) := by simp
  have m1 : 0 ≤ (k : Int) % (L.length : Int) := by rw [em]; omega
  have m2 : (k : Int) % (L.length : Int) < (L.length : Int) := by rw [em]; omega
  have m3 : (k : Int) % (L.length : Int) ≤ 1000000 := by rw [em]; omega
  have d1 : 0 ≤ (k : Int) / (L.length : Int) := Int.ediv_nonneg (by omega) (by omega)
  have d2 : (k : Int) / (L.length : Int) ≤ 1000000 := by rw [ed]; omega
  clear em ed
  have q1 : 0 ≤ (k : Int) / (L.length : Int) * (7919 + (k : Int) % (L.length : Int)) := Int.mul_nonneg d1 (by omega)
  have q2 : (k : Int) / (L.length : Int) * (7919 + (k : Int) % (L.length : Int)) ≤ 1000000 * 1007919 := Int.mul_le_mul d2 (by omega) (by omega) (by omega)
  go_enter Tryz.func80, Tryz.ntmps80
  go_wp2_with fail
  go_quiet (fail)
  go_wp2_with fail
  go_quiet (fail)
  go_wp2_with (go_at_call 178; refine (below_any _ _ _ (by omega)).mono ?_; rintro e w' ⟨rfl, rfl⟩)
  go_ret
  refine ⟨ret_int ?_, (Strm.step HP.out hl HC.out).keep ((Chg.refl NoB _).drewN _) (fun _ _ x => x), ((Chg.refl (AtB p) w).setCell (a := ⟨p, 1, none⟩) (fun _ => rfl) _).drewN _⟩
  rw [nxt, if_neg h0]
  simp [hm]

def rng (L : List Int) (k : Nat) (lo hi : Int) : Int := lo + nxt L k (hi - lo + 1)
theorem rng_lo (L : List Int) (k : Nat) (lo hi : Int) : lo ≤ rng L k lo hi := by unfold rng; have := nxt_lo L k (hi - lo + 1); omega
theorem rng_hi (L : List Int) (k : Nat) (lo hi : Int) (h : lo ≤ hi) : rng L k lo hi ≤ hi := by unfold rng; have := nxt_lt L k (hi - lo + 1) (by omega); omega

set_option maxHeartbeats 400000 in
theorem range_any (p : Nat) (L : List Int) (k : Nat) (lo hi : Int) (w : World) (h : Strm w p L k) (hk : k ≤ 1000000) (h0 : 0 ≤ lo) (hl : lo ≤ hi) (hn : hi ≤ 999999999) :
  Calls Tryz.prog 10 #[.pointer (some ⟨p, 0, none⟩), .int .i64 lo, .int .i64 hi] w fun e w' => e = .returned (.int .i64 (rng L k lo hi)) ∧ Strm w' p L (k + 1) ∧ Chg (AtB p) w w' := by
 have b1 := nxt_lo L k (hi - lo + 1)
 have b2 := nxt_lt L k (hi - lo + 1) (by omega)
 have hlt := h.lt
 go_enter Tryz.func10, Tryz.ntmps10
 go_wp2_with (go_at_call 80; refine (next_any _ _ _ _ _ h (by omega) (by omega)).mono ?_; rintro e w' ⟨rfl, hs, hc⟩)
 go_ret
 exact ⟨rfl, hs, hc⟩

set_option maxHeartbeats 400000 in
theorem flip_any (p : Nat) (L : List Int) (k : Nat) (n : Int) (w : World) (h : Strm w p L k) (hk : k ≤ 1000000) (hn : n ≤ 1000000000) :
  Calls Tryz.prog 15 #[.pointer (some ⟨p, 0, none⟩), .int .i64 n] w fun e w' => e = .returned (.bool (nxt L k n == 0)) ∧ Strm w' p L (k + 1) ∧ Chg (AtB p) w w' := by
 go_enter Tryz.func15, Tryz.ntmps15
 go_wp2_with (go_at_call 80; refine (next_any _ _ _ _ _ h (by omega) (by omega)).mono ?_; rintro e w' ⟨rfl, hs, hc⟩)
 go_ret
 exact ⟨rfl, hs, hc⟩

def pick (L : List Int) (k : Nat) (xs : List Int) : Int := xs.getD (nxt L k xs.length).toNat 0

end Go.Proofs.YtdnlhdilpdeecaaGreatDoor
namespace Go.Proofs.YtdnlhdilpdeecaaGreatDoor
open Go.RowKit
set_option linter.unusedVariables false
set_option linter.unusedSimpArgs false

def TT (p : Nat) (L : List Int) (w : World) (k : Nat) : Prop := ∃ k', k' ≤ k ∧ Strm w p L k'
abbrev sp (p : Nat) : AV := .v (.pointer (some ⟨p, 0, none⟩))
theorem TT.ok {p : Nat} {L : List Int} {w : World} {A : Nat → Prop} {nt k : Nat} (h : TT p L w k) : (B1 w A nt (fun b => b = p) (fun b => b ≤ p) (TT p L)).Ok := by
 obtain ⟨k', hk, hs⟩ := h
 exact {
  keep := fun {S w w' k} ⟨k', hk, hs⟩ hc hS => ⟨k', hk, hs.keep hc hS⟩
  low := fun j hj => Nat.lt_of_le_of_lt hj hs.lt
  str := fun j hj => by cases hj; exact ⟨Nat.le_refl _, rfl⟩
  up := fun {w k k2} ⟨k', h1, h2⟩ h3 => ⟨k', Nat.le_trans h1 h3, h2⟩ }
theorem chgIs {p : Nat} {w w' : World} (h : Chg (AtB p) w w') : Chg (fun b => b = p) w w' := by
 have : (fun b => b = p) = AtB p := rfl
 rw [this]; exact h

theorem SpecT.of_Calls {P : Program} {F : FuncId} {xs : List AV} {us0 : Array Value} {p : Nat} {L : List Int} {G : AV → Prop}
  (hus : ∀ w A us, Args w A xs us → us = us0)
  (h : ∀ w k, k ≤ 1000000 → Strm w p L k → Calls P F us0 w fun e w' => ∃ v, e = .returned v ∧ G (.v v) ∧ Strm w' p L (k + 1) ∧ Chg (AtB p) w w') :
  SpecT P (TT p L) (fun b => b = p) F xs 1 G := by
 intro w A us k hA ⟨k', hk', hs⟩ hstr hk
 have hu := hus w A us hA
 subst hu
 refine (h w k' (by omega) hs).mono ?_
 rintro e w' ⟨v, rfl, hG, hs', hc⟩
 exact ⟨.v v, v, hG, rfl, .v v, chgIs hc, ⟨k' + 1, by omega, hs'⟩⟩
theorem args2 {p : Nat} {u : Value} {w : World} {A : Nat → Prop} {us : Array Value} (h : Args w A [sp p, .v u] us) : us = #[.pointer (some ⟨p, 0, none⟩), u] := by
 obtain ⟨h1, h2⟩ := h
 have e0 := (h2 0 (by simp)).eq_v
 have e1 := (h2 1 (by simp)).eq_v
 apply Array.ext (by simpa using h1)
 intro i hi hi'
 simp at hi'
 rw [h1] at hi
 match i, hi' with
 | 0, _ => simpa [Array.getD_eq_getD_getElem?, h1] using e0
 | 1, _ => simpa [Array.getD_eq_getD_getElem?, h1] using e1
theorem args3 {p : Nat} {u v : Value} {w : World} {A : Nat → Prop} {us : Array Value} (h : Args w A [sp p, .v u, .v v] us) : us = #[.pointer (some ⟨p, 0, none⟩), u, v] := by
 obtain ⟨h1, h2⟩ := h
 have e0 := (h2 0 (by simp)).eq_v
 have e1 := (h2 1 (by simp)).eq_v
 have e2 := (h2 2 (by simp)).eq_v
 apply Array.ext (by simpa using h1)
 intro i hi hi'
 simp at hi'
 rw [h1] at hi
 match i, hi' with
 | 0, _ => simpa [Array.getD_eq_getD_getElem?, h1] using e0
 | 1, _ => simpa [Array.getD_eq_getD_getElem?, h1] using e1
 | 2, _ => simpa [Array.getD_eq_getD_getElem?, h1] using e2

section
variable {p : Nat} {L : List Int}
theorem next_T {n : Int} (hn : n ≤ 1000000000) : SpecT Tryz.prog (TT p L) (fun b => b = p) 80 [sp p, avI n] 1 (fun y => ∃ r : Int, (0 ≤ r ∧ (1 ≤ n → r < n)) ∧ y = avI r) :=
 SpecT.of_Calls (fun w A us h => args2 h) fun w k hk hs => (next_any p L k n w hs hk hn).mono fun e w' ⟨h1, h2, h3⟩ => ⟨_, h1, ⟨_, ⟨nxt_lo L k n, nxt_lt L k n⟩, rfl⟩, h2, h3⟩
theorem range_T {lo hi : Int} (h0 : 0 ≤ lo) (hl : lo ≤ hi) (hn : hi ≤ 999999999) : SpecT Tryz.prog (TT p L) (fun b => b = p) 10 [sp p, avI lo, avI hi] 1 (fun y => ∃ r : Int, (lo ≤ r ∧ r ≤ hi) ∧ y = avI r) :=
 SpecT.of_Calls (fun w A us h => args3 h) fun w k hk hs => (range_any p L k lo hi w hs hk h0 hl hn).mono fun e w' ⟨h1, h2, h3⟩ => ⟨_, h1, ⟨_, ⟨rng_lo L k lo hi, rng_hi L k lo hi hl⟩, rfl⟩, h2, h3⟩
theorem flip_T {n : Int} (hn : n ≤ 1000000000) : SpecT Tryz.prog (TT p L) (fun b => b = p) 15 [sp p, avI n] 1 (fun y => ∃ r : Bool, y = avB r) :=
 SpecT.of_Calls (fun w A us h => args2 h) fun w k hk hs => (flip_any p L k n w hs hk hn).mono fun e w' ⟨h1, h2, h3⟩ => ⟨_, h1, ⟨_, rfl⟩, h2, h3⟩
end

def AllI (lo hi : Int) : List AV → Prop
 | [] => True
 | x :: r => (∃ i : Int, (lo ≤ i ∧ i ≤ hi) ∧ x = avI i) ∧ AllI lo hi r
theorem AllI.nil {lo hi : Int} : AllI lo hi [] := trivial
theorem AllI.cons {lo hi i : Int} {r : List AV} (h : lo ≤ i ∧ i ≤ hi) (hr : AllI lo hi r) : AllI lo hi (avI i :: r) := ⟨⟨i, h, rfl⟩, hr⟩
theorem AllI.get {lo hi : Int} : ∀ {l : List AV} {q : Nat}, AllI lo hi l → q < l.length → ∃ i : Int, (lo ≤ i ∧ i ≤ hi) ∧ l.getD q .any = avI i
 | [], q, _, h => by simp at h
 | x :: r, 0, h, _ => by simpa using h.1
 | x :: r, q + 1, h, hq => by simpa using AllI.get h.2 (by simpa using hq)
def AllX : List AV → Prop
 | [] => True
 | x :: r => (∃ i : Int, x = avI i) ∧ AllX r
theorem AllX.nil : AllX [] := trivial
theorem AllX.cons {i : Int} {r : List AV} (hr : AllX r) : AllX (avI i :: r) := ⟨⟨i, rfl⟩, hr⟩
theorem AllX.get : ∀ {l : List AV} {q : Nat}, AllX l → q < l.length → ∃ i : Int, l.getD q .any = avI i
 | [], q, _, h => by simp at h
 | x :: r, 0, h, _ => by simpa using h.1
 | x :: r, q + 1, h, hq => by simpa using AllX.get h.2 (by simpa using hq)
def AllS (m : Nat) : List AV → Prop
 | [] => True
 | x :: r => (∃ i : ByteArray, i.size ≤ m ∧ x = avS i) ∧ AllS m r
theorem AllS.nil {m : Nat} : AllS m [] := trivial
theorem AllS.cons {m : Nat} {i : ByteArray} {r : List AV} (h : i.size ≤ m) (hr : AllS m r) : AllS m (avS i :: r) := ⟨⟨i, h, rfl⟩, hr⟩
theorem AllS.get {m : Nat} : ∀ {l : List AV} {q : Nat}, AllS m l → q < l.length → ∃ i : ByteArray, i.size ≤ m ∧ l.getD q .any = avS i
 | [], q, _, h => by simp at h
 | x :: r, 0, h, _ => by simpa using h.1
 | x :: r, q + 1, h, hq => by simpa using AllS.get h.2 (by simpa using hq)



set_option maxRecDepth 100000 in
theorem pick_T {p : Nat} {L : List Int} {n : Nat} {l : List AV} (lo hi : Int) (hn : l.length = n) (h0 : 0 < n) (h1 : n ≤ 1000) (hall : AllI lo hi l) :
  SpecT Tryz.prog (TT p L) (fun b => b = p) 14 [sp p, .im n 1 fun j => l.getD j .any] 1 (fun y => ∃ r : Int, (lo ≤ r ∧ r ≤ hi) ∧ y = avI r) := by
 refine SpecT.of_VC Tryz.func14 rfl Tryz.ntmps14 (Nle rfl) (low := (fun b => b ≤ p)) (fun w A k h => h.ok) fun w A k hk hB => ?_
 have hnew : True := trivial
 refine VC.sr ?_
 refine VO.ma rfl rfl rfl rfl ?_
 refine VO.nil ?_
 refine VC.sr ?_
 refine VO.mv rfl rfl rfl rfl ?_
 refine VO.mv rfl rfl rfl rfl ?_
 refine VO.mv rfl rfl rfl rfl ?_
 refine VO.val rfl rfl (OpV.len_im rfl Tryz.underlying22 rfl) ?_
 refine VO.op rfl (OpE.callT' (k) rfl rfl hB rfl Tryz.call80 rfl ((next_T (by omega))) (by omega) ?_)
 rintro _ ⟨r9, hr9, rfl⟩
 refine VO.val rfl rfl (OpV.indexAddr_1 rfl Tryz.underlying22 Tryz.sizeOf3 rfl rfl (Int.toNat_of_nonneg (by omega)).symm (by omega)) ?_
 refine VO.val rfl rfl (OpV.load_at rfl hB OutW.no Tryz.isAgg3 rfl rfl) ?_
 refine VO.ma rfl rfl rfl rfl ?_
 refine VO.nil ?_
 refine VC.ret ?_
 exact Exists.intro _ (And.intro (RetV.one Tryz.results14 (ResV.tmp rfl)) (And.intro (hall.get (by omega)) ((show k + 1 ≤ k + 1 by omega))))
set_option maxRecDepth 100000 in
theorem pick_X {p : Nat} {L : List Int} {n : Nat} {l : List AV} (hn : l.length = n) (h0 : 0 < n) (h1 : n ≤ 1000) (hall : AllX l) :
  SpecT Tryz.prog (TT p L) (fun b => b = p) 14 [sp p, .im n 1 fun j => l.getD j .any] 1 (fun y => ∃ r : Int, y = avI r) := by
 refine SpecT.of_VC Tryz.func14 rfl Tryz.ntmps14 (Nle rfl) (low := (fun b => b ≤ p)) (fun w A k h => h.ok) fun w A k hk hB => ?_
 have hnew : True := trivial
 refine VC.sr ?_
 refine VO.ma rfl rfl rfl rfl ?_
 refine VO.nil ?_
 refine VC.sr ?_
 refine VO.mv rfl rfl rfl rfl ?_
 refine VO.mv rfl rfl rfl rfl ?_
 refine VO.mv rfl rfl rfl rfl ?_
 refine VO.val rfl rfl (OpV.len_im rfl Tryz.underlying22 rfl) ?_
 refine VO.op rfl (OpE.callT' (k) rfl rfl hB rfl Tryz.call80 rfl ((next_T (by omega))) (by omega) ?_)
 rintro _ ⟨r9, hr9, rfl⟩
 refine VO.val rfl rfl (OpV.indexAddr_1 rfl Tryz.underlying22 Tryz.sizeOf3 rfl rfl (Int.toNat_of_nonneg (by omega)).symm (by omega)) ?_
 refine VO.val rfl rfl (OpV.load_at rfl hB OutW.no Tryz.isAgg3 rfl rfl) ?_
 refine VO.ma rfl rfl rfl rfl ?_
 refine VO.nil ?_
 refine VC.ret ?_
 exact Exists.intro _ (And.intro (RetV.one Tryz.results14 (ResV.tmp rfl)) (And.intro (hall.get (by omega)) ((show k + 1 ≤ k + 1 by omega))))
set_option maxRecDepth 100000 in
theorem some_T {p : Nat} {L : List Int} {n : Nat} {l : List AV} (m : Nat) (hn : l.length = n) (h0 : 0 < n) (h1 : n ≤ 1000) (hall : AllS m l) :
  SpecT Tryz.prog (TT p L) (fun b => b = p) 82 [sp p, .im n 1 fun j => l.getD j .any] 1 (fun y => ∃ r : ByteArray, r.size ≤ m ∧ y = avS r) := by
 refine SpecT.of_VC Tryz.func82 rfl Tryz.ntmps82 (Nle rfl) (low := (fun b => b ≤ p)) (fun w A k h => h.ok) fun w A k hk hB => ?_
 have hnew : True := trivial
 refine VC.sr ?_
 refine VO.ma rfl rfl rfl rfl ?_
 refine VO.nil ?_
 refine VC.sr ?_
 refine VO.mv rfl rfl rfl rfl ?_
 refine VO.mv rfl rfl rfl rfl ?_
 refine VO.mv rfl rfl rfl rfl ?_
 refine VO.val rfl rfl (OpV.len_im rfl Tryz.underlying29 rfl) ?_
 refine VO.op rfl (OpE.callT' (k) rfl rfl hB rfl Tryz.call80 rfl ((next_T (by omega))) (by omega) ?_)
 rintro _ ⟨r9, hr9, rfl⟩
 refine VO.val rfl rfl (OpV.indexAddr_1 rfl Tryz.underlying29 Tryz.sizeOf9 rfl rfl (Int.toNat_of_nonneg (by omega)).symm (by omega)) ?_
 refine VO.val rfl rfl (OpV.load_at rfl hB OutW.no Tryz.isAgg9 rfl rfl) ?_
 refine VO.ma rfl rfl rfl rfl ?_
 refine VO.nil ?_
 refine VC.ret ?_
 exact Exists.intro _ (And.intro (RetV.one Tryz.results82 (ResV.tmp rfl)) (And.intro (hall.get (by omega)) ((show k + 1 ≤ k + 1 by omega))))


end Go.Proofs.YtdnlhdilpdeecaaGreatDoor
namespace Go.Proofs.YtdnlhdilpdeecaaGreatDoor
open Go.RowKit
set_option linter.unusedVariables false
set_option linter.unusedSimpArgs false
theorem tdiv_bd {a b M : Int} (ha : -M ≤ a ∧ a ≤ M) : -M ≤ a.tdiv b ∧ a.tdiv b ≤ M := by
 have h := Int.natAbs_tdiv_le_natAbs a b
 omega
theorem tmod_bd {a b M : Int} (ha : -M ≤ a ∧ a ≤ M) : -M ≤ a.tmod b ∧ a.tmod b ≤ M := by
 have h : (a.tmod b).natAbs ≤ a.natAbs := by rw [Int.natAbs_tmod]; exact Nat.mod_le _ _
 omega


set_option maxRecDepth 100000 in
theorem kit_Lowest {a b : Nat} (ha : a ≤ 4000000000000000000) (hb : b ≤ 4000000000000000000) (h0 : 0 < b) :
  SpecN Tryz.prog 215 [avI (a : Int), avI (b : Int)] (fun y => y = .agg [avI ((a / Nat.gcd a b : Nat) : Int), avI ((b / Nat.gcd a b : Nat) : Int)]) := by
 refine SpecN.of_VCN Tryz.func215 rfl Tryz.ntmps215 (Nle rfl) fun w A hB => ?_
 have hnew : True := trivial
 refine VC.sr ?_
 refine VO.op rfl (OpE.alloc rfl hB rfl Tryz.zeroValue180 rfl ?_)
 intro g4
 refine VO.nil ?_
 refine VC.sr ?_
 refine VO.mv rfl rfl rfl rfl ?_
 refine VO.mv rfl rfl rfl rfl ?_
 refine VO.ma rfl rfl rfl rfl ?_
 refine VO.ma rfl rfl rfl rfl ?_
 refine VO.nil ?_
 refine VC.seq ?_
 refine VC.block ?_
 refine VC.loopK [(0, _), (1, _), (4, _)] ⟨rfl, rfl, rfl, trivial⟩ ({z : Nat × Nat // Nat.gcd z.1 z.2 = Nat.gcd a b ∧ z.1 ≤ 4000000000000000000 ∧ z.2 ≤ 4000000000000000000}) (fun (iZ : {z : Nat × Nat // Nat.gcd z.1 z.2 = Nat.gcd a b ∧ z.1 ≤ 4000000000000000000 ∧ z.2 ≤ 4000000000000000000}) => match iZ with | ⟨⟨x, y⟩, hg, hx, hy⟩ => [(5, avI (x : Int)), (6, avI (y : Int))]) (fun (iZ : {z : Nat × Nat // Nat.gcd z.1 z.2 = Nat.gcd a b ∧ z.1 ≤ 4000000000000000000 ∧ z.2 ≤ 4000000000000000000}) => match iZ with | ⟨⟨x, y⟩, hg, hx, hy⟩ => [.box g4 ⟨[avI 0, avI 0], 180, 2⟩]) (fun (iZ : {z : Nat × Nat // Nat.gcd z.1 z.2 = Nat.gcd a b ∧ z.1 ≤ 4000000000000000000 ∧ z.2 ≤ 4000000000000000000}) => match iZ with | ⟨⟨x, y⟩, hg, hx, hy⟩ => 0) (fun (iZ : {z : Nat × Nat // Nat.gcd z.1 z.2 = Nat.gcd a b ∧ z.1 ≤ 4000000000000000000 ∧ z.2 ≤ 4000000000000000000}) => match iZ with | ⟨⟨x, y⟩, hg, hx, hy⟩ => y) ⟨(a, b), rfl, ha, hb⟩ (Le.mk hB [0] ⟨rfl, rfl, rfl, rfl, rfl, trivial⟩ rfl rfl (Nat.le_refl _)) ?_
 rintro ⟨⟨x, y⟩, hg, hx, hy⟩
 show VC _ _ _ _ ⟨[(5, avI (x : Int)), (6, avI (y : Int))] ++ [(0, _), (1, _), (4, _)], [.box g4 ⟨[avI 0, avI 0], 180, 2⟩], 0⟩
 simp only at hg hx hy
 refine VC.seq ?_
 refine VC.sr ?_
 refine VO.mv rfl rfl rfl rfl ?_
 refine VO.val rfl rfl (OpV.neq rfl rfl rfl) ?_
 refine VO.nil ?_
 refine VC.cond rfl (fun h1b => ?_) (fun h1b => ?_)
 ·have h1 := h1b
  try simp only [qqT, qqF, qqN, qqM, qqL, qqE] at h1
  refine VC.skip ?_
  refine VC.block ?_
  refine VC.draw (fun _ => NoB) hB (by kernel_rfl) ?_
  refine VA.take (i := 0) rfl (by kernel_rfl) (by kernel_rfl) (by kernel_rfl) rfl rfl (OpV.move (.inl rfl) rfl) ?_
  refine VA.take (i := 1) rfl (by kernel_rfl) (by kernel_rfl) (by kernel_rfl) rfl rfl (OpV.move (.inl rfl) rfl) ?_
  refine VA.take (i := 2) rfl (by kernel_rfl) (by kernel_rfl) (by kernel_rfl) rfl rfl (OpV.move (.inl rfl) rfl) ?_
  refine VA.take (i := 3) rfl (by kernel_rfl) (by kernel_rfl) (by kernel_rfl) rfl rfl (OpV.rem rfl rfl rfl (by omega) (by have h2 := tmod_bd (a := (x : Int)) (b := (y : Int)) (M := 4000000000000000000) (by omega); unfold fits; omega)) ?_
  refine VA.take (i := 4) rfl (by kernel_rfl) (by kernel_rfl) (by kernel_rfl) rfl rfl (OpV.move (.inr rfl) rfl) ?_
  refine VA.take (i := 5) rfl (by kernel_rfl) (by kernel_rfl) (by kernel_rfl) rfl rfl (OpV.move (.inr rfl) rfl) ?_
  refine VA.done (by kernel_rfl) ?_
  have hmd := Nat.mod_lt x (by omega : y > 0)
  exact Exists.intro (⟨(y, x % y), by show Nat.gcd y (x % y) = _; rw [← hg, Nat.gcd_comm y, ← Nat.gcd_rec, Nat.gcd_comm], hy, by have := Nat.mod_lt x (by omega : y > 0); show x % y ≤ _; omega⟩) (And.intro (Le.mk hB [0] ⟨rfl, rfl, rfl, rfl, rfl, trivial⟩ rfl rfl (Nat.le_refl _)) (by first | omega | (show _ < _; omega) | (simp only []; omega)))
 ·have h1 := h1b
  try simp only [qqT, qqF, qqN, qqM, qqL, qqE] at h1
  obtain rfl : y = 0 := by omega
  rw [Nat.gcd_zero_right] at hg
  have hx0 := Nat.gcd_pos_of_pos_right a h0
  subst hg
  refine VC.exit ?_
  refine VC.seq ?_
  refine VC.draw (fun j b => j = 7 ∧ b = g4) hB (by kernel_rfl) ?_
  refine VA.take (i := 0) rfl (by kernel_rfl) (by kernel_rfl) (by kernel_rfl) rfl rfl (OpV.move (.inl rfl) rfl) ?_
  refine VA.take (i := 1) rfl (by kernel_rfl) (by kernel_rfl) (by kernel_rfl) rfl rfl (OpV.move (.inl rfl) rfl) ?_
  refine VA.take (i := 2) rfl (by kernel_rfl) (by kernel_rfl) (by kernel_rfl) rfl rfl (OpV.quo rfl rfl rfl (by omega) (by have h1 := tdiv_bd (a := (a : Int)) (b := (Nat.gcd a b : Int)) (M := 4000000000000000000) (by omega); have h2 := tdiv_bd (a := (b : Int)) (b := (Nat.gcd a b : Int)) (M := 4000000000000000000) (by omega); unfold fits; omega)) ?_
  refine VA.take (i := 3) rfl (by kernel_rfl) (by kernel_rfl) (by kernel_rfl) rfl rfl (OpV.move (.inl rfl) rfl) ?_
  refine VA.take (i := 4) rfl (by kernel_rfl) (by kernel_rfl) (by kernel_rfl) rfl rfl (OpV.move (.inl rfl) rfl) ?_
  refine VA.take (i := 5) rfl (by kernel_rfl) (by kernel_rfl) (by kernel_rfl) rfl rfl (OpV.quo rfl rfl rfl (by omega) (by have h1 := tdiv_bd (a := (a : Int)) (b := (Nat.gcd a b : Int)) (M := 4000000000000000000) (by omega); have h2 := tdiv_bd (a := (b : Int)) (b := (Nat.gcd a b : Int)) (M := 4000000000000000000) (by omega); unfold fits; omega)) ?_
  refine VA.take (i := 6) rfl (by kernel_rfl) (by kernel_rfl) (by kernel_rfl) rfl rfl (OpV.build (pls := #[(0, 1), (1, 1)]) rfl Tryz.zeroValue180 Tryz.underlying180 (fun w => by kernel_rfl) rfl rfl) ?_
  refine VA.all (rs := [7]) (by kernel_rfl) (by decide) ?_
  refine ⟨⟨_, rfl, .inl rfl, ?_⟩, trivial⟩
  refine OpE.store (i := 0) rfl hB rfl Tryz.sizeOf180 rfl rfl rfl rfl rfl rfl (Nle rfl) (by first | exact ⟨rfl, rfl⟩ | exact .inl ⟨rfl, rfl⟩ | exact .inr ⟨rfl, rfl⟩ | exact ⟨rfl, trivial⟩ | exact .inl ⟨rfl, trivial⟩ | exact .inr ⟨rfl, trivial⟩ | exact ⟨by decide, rfl⟩) ?_
  refine VA.done (by kernel_rfl) ?_
  refine VC.ret ?_
  exact Exists.intro _ (And.intro (RetN.one Tryz.results215 ((by first | exact ResN.cellF (i := 0) Tryz.isAgg180 Tryz.sizeOf180 rfl rfl rfl (flat_ofB rfl)))) (rfl))


end Go.Proofs.YtdnlhdilpdeecaaGreatDoor
namespace Go.Proofs.YtdnlhdilpdeecaaGreatDoor
open Go.RowKit
set_option linter.unusedVariables false
set_option linter.unusedSimpArgs false
abbrev eBl : Bool → AV := fun b => avB b
abbrev boxLk (g : Nat) (x : LookS) (ty : TypeId) : Ent := .box g ⟨[avS x.board, avS x.name, avI x.at_, avI x.verdict, avB x.bad, avS x.machine, avS x.nozzle, avS x.reel], ty, 8⟩
theorem Le.litsS {B : Bs} {s : St'} {t n : Nat} {xs : List ByteArray} (hn : n = xs.length) (ht : look s.sl t = some (.im n 1 fun j => (strsL xs).getD j .any)) : Le B s ⟨(t, avStrs xs) :: s.sl, s.hp, s.k⟩ := Le.recast ht fun w Z u h => Rep.strs hn h
set_option maxRecDepth 100000 in
theorem cmp_isNaN_int {a : Int}  :
  SpecN Tryz.prog 205 [avI a] (fun y => y = avB false) := by
 refine SpecN.of_VCN Tryz.func205 rfl Tryz.ntmps205 (Nle rfl) fun w A hB => ?_
 have hnew : True := trivial
 refine VC.sr ?_
 refine VO.ma rfl rfl rfl rfl ?_
 refine VO.nil ?_
 refine VC.sr ?_
 refine VO.mv rfl rfl rfl rfl ?_
 refine VO.mv rfl rfl rfl rfl ?_
 refine VO.val rfl rfl (OpV.neq rfl rfl rfl) ?_
 refine VO.ma rfl rfl rfl rfl ?_
 refine VO.nil ?_
 refine VC.ret ?_
 exact Exists.intro _ (And.intro (RetN.one Tryz.results205 (ResN.v rfl)) (by simp))
set_option maxRecDepth 100000 in
theorem cmp_Compare_int {a b : Int}  :
  SpecN Tryz.prog 129 [avI a, avI b] (fun y => y = avI (cmpI a b)) := by
 refine SpecN.of_VCN Tryz.func129 rfl Tryz.ntmps129 (Nle rfl) fun w A hB => ?_
 have hnew : True := trivial
 refine VC.sr ?_
 refine VO.ma rfl rfl rfl rfl ?_
 refine VO.nil ?_
 refine VC.sr ?_
 refine VO.mv rfl rfl rfl rfl ?_
 refine VO.op rfl (OpE.call rfl hB rfl Tryz.call205 rfl (SpecN.spec (cmp_isNaN_int)) ?_)
 rintro _ rfl
 refine VO.ma rfl rfl rfl rfl ?_
 refine VO.nil ?_
 refine VC.sr ?_
 refine VO.mv rfl rfl rfl rfl ?_
 refine VO.op rfl (OpE.call rfl hB rfl Tryz.call205 rfl (SpecN.spec (cmp_isNaN_int)) ?_)
 rintro _ rfl
 refine VO.ma rfl rfl rfl rfl ?_
 refine VO.nil ?_
 refine VC.seq ?_
 refine VC.sr ?_
 refine VO.mv rfl rfl rfl rfl ?_
 refine VO.nil ?_
 refine VC.condF rfl rfl ?_
 refine VC.skip ?_
 refine VC.seq ?_
 refine VC.sr ?_
 refine VO.mv rfl rfl rfl rfl ?_
 refine VO.nil ?_
 refine VC.condF rfl rfl ?_
 refine VC.skip ?_
 refine VC.seq ?_
 refine VC.sr ?_
 refine VO.mv rfl rfl rfl rfl ?_
 refine VO.mv rfl rfl rfl rfl ?_
 refine VO.val rfl rfl (OpV.lss rfl rfl rfl) ?_
 refine VO.nil ?_
 refine VC.cond rfl (fun aH1b => ?_) (fun aH1b => ?_)
 ·have aH1 := aH1b
  try simp only [qqT, qqF, qqN, qqM, qqL, qqE] at aH1
  refine VC.sr ?_
  refine VO.ma rfl rfl rfl rfl ?_
  refine VO.nil ?_
  refine VC.ret ?_
  exact Exists.intro _ (And.intro (RetN.one Tryz.results129 (ResN.v rfl)) (by rw [cmpI, if_pos (by assumption)]))
 ·have aH1 := aH1b
  try simp only [qqT, qqF, qqN, qqM, qqL, qqE] at aH1
  refine VC.skip ?_
  refine VC.seq ?_
  refine VC.sr ?_
  refine VO.mv rfl rfl rfl rfl ?_
  refine VO.mv rfl rfl rfl rfl ?_
  refine VO.val rfl rfl (OpV.gtr rfl rfl rfl) ?_
  refine VO.nil ?_
  refine VC.cond rfl (fun aH2b => ?_) (fun aH2b => ?_)
  ·have aH2 := aH2b
   try simp only [qqT, qqF, qqN, qqM, qqL, qqE] at aH2
   refine VC.sr ?_
   refine VO.ma rfl rfl rfl rfl ?_
   refine VO.nil ?_
   refine VC.ret ?_
   exact Exists.intro _ (And.intro (RetN.one Tryz.results129 (ResN.v rfl)) (by rw [cmpI, if_neg (by omega), if_pos (by assumption)]))
  ·have aH2 := aH2b
   try simp only [qqT, qqF, qqN, qqM, qqL, qqE] at aH2
   refine VC.skip ?_
   refine VC.sr ?_
   refine VO.ma rfl rfl rfl rfl ?_
   refine VO.nil ?_
   refine VC.ret ?_
   exact Exists.intro _ (And.intro (RetN.one Tryz.results129 (ResN.v rfl)) (by rw [cmpI, if_neg (by omega), if_neg (by omega)]))
set_option maxRecDepth 100000 in
theorem cmp_Or_int {xs : List Int} (hl : xs.length ≤ 1000000000) :
  SpecN Tryz.prog 116 [avInts xs] (fun y => y = avI (errsF xs)) := by
 refine SpecN.of_VCN Tryz.func116 rfl Tryz.ntmps116 (Nle rfl) fun w A hB => ?_
 have hnew : True := trivial
 refine VC.sr ?_
 refine VO.ma rfl rfl rfl rfl ?_
 refine VO.nil ?_
 refine VC.sr ?_
 refine VO.ma rfl rfl rfl rfl ?_
 refine VO.nil ?_
 refine VC.seq ?_
 refine VC.sr ?_
 refine VO.mv rfl rfl rfl rfl ?_
 refine VO.val rfl rfl (OpV.len_im rfl Tryz.underlying22 rfl) ?_
 refine VO.mv rfl rfl rfl rfl ?_
 refine VO.nil ?_
 refine VC.block ?_
 refine VC.loopK [(3, _), (6, _), (7, _)] ⟨rfl, rfl, rfl, trivial⟩ ({q : Nat // q ≤ xs.length ∧ ∀ j, j < q → xs.getD j 0 = 0}) (fun (iZ : {q : Nat // q ≤ xs.length ∧ ∀ j, j < q → xs.getD j 0 = 0}) => match iZ with | ⟨q, hq, hn⟩ => [(8, avI (q : Int))]) (fun (iZ : {q : Nat // q ≤ xs.length ∧ ∀ j, j < q → xs.getD j 0 = 0}) => match iZ with | ⟨q, hq, hn⟩ => []) (fun (iZ : {q : Nat // q ≤ xs.length ∧ ∀ j, j < q → xs.getD j 0 = 0}) => match iZ with | ⟨q, hq, hn⟩ => 0) (fun (iZ : {q : Nat // q ≤ xs.length ∧ ∀ j, j < q → xs.getD j 0 = 0}) => match iZ with | ⟨q, hq, hn⟩ => xs.length - q) ⟨0, Nat.zero_le _, fun j hj => absurd hj (Nat.not_lt_zero j)⟩ (Le.mk hB [] ⟨rfl, rfl, rfl, rfl, trivial⟩ rfl rfl (Nat.le_refl _)) ?_
 rintro ⟨q, hq, hn⟩
 show VC _ _ _ _ ⟨[(8, avI (q : Int))] ++ [(3, _), (6, _), (7, _)], [], 0⟩
 refine VC.sr ?_
 refine VO.val rfl rfl (OpV.lss rfl rfl rfl) ?_
 refine VO.nil ?_
 refine VC.seq ?_
 refine VC.cond rfl (fun aH1b => ?_) (fun aH1b => ?_)
 ·have aH1 := aH1b
  try simp only [qqT, qqF, qqN, qqM, qqL, qqE] at aH1
  refine VC.skip ?_
  refine VC.seq ?_
  refine VC.block ?_
  refine VC.sr ?_
  refine VO.val rfl rfl (OpV.indexAddr_1 rfl Tryz.underlying22 Tryz.sizeOf3 rfl rfl rfl (by omega)) ?_
  refine VO.val rfl rfl (OpV.load_at rfl hB OutW.no Tryz.isAgg3 rfl rfl) ?_
  refine VO.ma rfl rfl rfl rfl ?_
  refine VO.nil ?_
  refine VC.sr ?_
  refine VO.mv rfl rfl rfl rfl ?_
  refine VO.mv rfl rfl rfl rfl ?_
  refine VO.val rfl rfl (OpV.neq rfl rfl rfl) ?_
  refine VO.nil ?_
  refine VC.cond rfl (fun h1b => ?_) (fun h1b => ?_)
  ·have h1 := h1b
   try simp only [qqT, qqF, qqN, qqM, qqL, qqE] at h1
   refine VC.sr ?_
   refine VO.mv rfl rfl rfl rfl ?_
   refine VO.ma rfl rfl rfl rfl ?_
   refine VO.nil ?_
   refine VC.ret ?_
   exact Exists.intro _ (And.intro (RetN.one Tryz.results116 (ResN.v rfl)) (by rw [errsF_at (q := q) (by omega) hn h1]))
  ·have h1 := h1b
   try simp only [qqT, qqF, qqN, qqM, qqL, qqE] at h1
   refine VC.skip ?_
   refine VC.region ?_
   refine VO.val rfl rfl (OpV.add rfl rfl rfl (by unfold fits; omega)) ?_
   refine VO.mv rfl rfl rfl rfl ?_
   refine VO.nil ?_
   exact Exists.intro (⟨q + 1, by omega, lt_succ_cases hn ((by omega))⟩) (And.intro (Le.mk hB [] ⟨rfl, rfl, rfl, rfl, trivial⟩ rfl rfl (Nat.le_refl _)) (by first | omega | (show _ < _; omega) | (simp only []; omega)))
 ·have aH1 := aH1b
  try simp only [qqT, qqF, qqN, qqM, qqL, qqE] at aH1
  refine VC.exit ?_
  refine VC.sr ?_
  refine VO.mv rfl rfl rfl rfl ?_
  refine VO.ma rfl rfl rfl rfl ?_
  refine VO.nil ?_
  refine VC.ret ?_
  exact Exists.intro _ (And.intro (RetN.one Tryz.results116 (ResN.v rfl)) (by rw [errsF_none (fun j hj => hn j (by omega))]))
set_option maxRecDepth 100000 in
theorem inspect_compare {a b : LookS}  :
  SpecN Tryz.prog 262 [avLk a, avLk b] (fun y => y = avI (cmpLk a b)) := by
 refine SpecN.of_VCN Tryz.func262 rfl Tryz.ntmps262 (Nle rfl) fun w A hB => ?_
 have hnew : True := trivial
 refine VC.sr ?_
 refine VO.op rfl (OpE.box rfl hB rfl rfl rfl ?_)
 intro g2
 refine VO.op rfl (OpE.box rfl hB rfl rfl rfl ?_)
 intro g3
 refine VO.ma rfl rfl rfl rfl ?_
 refine VO.nil ?_
 refine VC.seq ?_
 refine VC.draw (fun _ => NoB) hB (by kernel_rfl) ?_
 refine VA.take (i := 0) rfl (by kernel_rfl) (by kernel_rfl) (by kernel_rfl) rfl rfl (OpV.fieldAddrO 2 rfl Tryz.underlying80 rfl rfl Tryz.sizeOf3 rfl) ?_
 refine VA.take (i := 1) rfl (by kernel_rfl) (by kernel_rfl) (by kernel_rfl) rfl rfl (OpV.load_own (i := 0) rfl hB Tryz.isAgg3 rfl rfl rfl Wi.not0) ?_
 refine VA.take (i := 2) rfl (by kernel_rfl) (by kernel_rfl) (by kernel_rfl) rfl rfl (OpV.fieldAddrO 2 rfl Tryz.underlying80 rfl rfl Tryz.sizeOf3 rfl) ?_
 refine VA.take (i := 3) rfl (by kernel_rfl) (by kernel_rfl) (by kernel_rfl) rfl rfl (OpV.load_own (i := 1) rfl hB Tryz.isAgg3 rfl rfl rfl Wi.not0) ?_
 refine VA.take (i := 5) rfl (by kernel_rfl) (by kernel_rfl) (by kernel_rfl) rfl rfl (OpV.fieldAddrO 0 rfl Tryz.underlying80 rfl rfl Tryz.sizeOf9 rfl) ?_
 refine VA.take (i := 6) rfl (by kernel_rfl) (by kernel_rfl) (by kernel_rfl) rfl rfl (OpV.load_own (i := 0) rfl hB Tryz.isAgg9 rfl rfl rfl Wi.not0) ?_
 refine VA.take (i := 7) rfl (by kernel_rfl) (by kernel_rfl) (by kernel_rfl) rfl rfl (OpV.fieldAddrO 0 rfl Tryz.underlying80 rfl rfl Tryz.sizeOf9 rfl) ?_
 refine VA.take (i := 8) rfl (by kernel_rfl) (by kernel_rfl) (by kernel_rfl) rfl rfl (OpV.load_own (i := 1) rfl hB Tryz.isAgg9 rfl rfl rfl Wi.not0) ?_
 refine VA.take (i := 10) rfl (by kernel_rfl) (by kernel_rfl) (by kernel_rfl) rfl rfl (OpV.fieldAddrO 1 rfl Tryz.underlying80 rfl rfl Tryz.sizeOf9 rfl) ?_
 refine VA.take (i := 11) rfl (by kernel_rfl) (by kernel_rfl) (by kernel_rfl) rfl rfl (OpV.load_own (i := 0) rfl hB Tryz.isAgg9 rfl rfl rfl Wi.not0) ?_
 refine VA.take (i := 12) rfl (by kernel_rfl) (by kernel_rfl) (by kernel_rfl) rfl rfl (OpV.fieldAddrO 1 rfl Tryz.underlying80 rfl rfl Tryz.sizeOf9 rfl) ?_
 refine VA.take (i := 13) rfl (by kernel_rfl) (by kernel_rfl) (by kernel_rfl) rfl rfl (OpV.load_own (i := 1) rfl hB Tryz.isAgg9 rfl rfl rfl Wi.not0) ?_
 refine VA.all (rs := [4]) (by kernel_rfl) (by decide) ?_
 refine ⟨⟨_, rfl, .inl rfl, ?_⟩, trivial⟩
 refine OpE.call rfl hB rfl Tryz.call129 rfl (SpecN.spec (cmp_Compare_int)) ?_
 rintro _ rfl
 refine VA.all (rs := [9]) (by kernel_rfl) (by decide) ?_
 refine ⟨⟨_, rfl, .inl rfl, ?_⟩, trivial⟩
 refine OpE.call rfl hB rfl Tryz.call117 rfl (SpecN.spec (strings_Compare_S)) ?_
 rintro _ rfl
 refine VA.all (rs := [14]) (by kernel_rfl) (by decide) ?_
 refine ⟨⟨_, rfl, .inl rfl, ?_⟩, trivial⟩
 refine OpE.call rfl hB rfl Tryz.call117 rfl (SpecN.spec (strings_Compare_S)) ?_
 rintro _ rfl
 refine VA.all (rs := [15]) (by kernel_rfl) (by decide) ?_
 refine ⟨⟨_, rfl, .inl rfl, ?_⟩, trivial⟩
 refine OpE.buildSlice (zc := #[.int .i64 0, .int .i64 0, .int .i64 0]) rfl hB rfl Tryz.underlying22 Tryz.sizeOf3 Tryz.zeroValue3 (by decide) (by decide) (by kernel_rfl) rfl rfl ?_
 refine VA.le _ (Le.lits (t := 20) (xs := [cmpI a.at_ b.at_, cmpB a.board b.board, cmpB a.name b.name]) rfl rfl) ?_
 refine VA.all (rs := [16]) (by kernel_rfl) (by decide) ?_
 refine ⟨⟨_, rfl, .inl rfl, ?_⟩, trivial⟩
 refine OpE.call rfl hB rfl Tryz.call116 rfl (SpecN.spec (cmp_Or_int (by simp))) ?_
 rintro _ rfl
 refine VA.take (i := 17) rfl (by kernel_rfl) (by kernel_rfl) (by kernel_rfl) rfl rfl (OpV.move (.inr rfl) rfl) ?_
 refine VA.done (by kernel_rfl) ?_
 refine VC.ret ?_
 exact Exists.intro _ (And.intro (RetN.one Tryz.results262 (ResN.v rfl)) (rfl))
set_option maxRecDepth 100000 in
theorem kit_IsMoment {n : Int}  :
  SpecN Tryz.prog 261 [avI n] (fun y => y = avB (!outR n 0 345686399999)) := by
 refine SpecN.of_VCN Tryz.func261 rfl Tryz.ntmps261 (Nle rfl) fun w A hB => ?_
 have hnew : True := trivial
 refine VC.sr ?_
 refine VO.ma rfl rfl rfl rfl ?_
 refine VO.nil ?_
 refine VC.sr ?_
 refine VO.mv rfl rfl rfl rfl ?_
 refine VO.op rfl (OpE.call rfl hB rfl Tryz.call181 rfl (SpecN.spec (kit_Outside)) ?_)
 rintro _ rfl
 refine VO.val rfl rfl (OpV.not rfl rfl) ?_
 refine VO.ma rfl rfl rfl rfl ?_
 refine VO.nil ?_
 refine VC.ret ?_
 exact Exists.intro _ (And.intro (RetN.one Tryz.results261 (ResN.v rfl)) (rfl))
set_option maxRecDepth 100000 in
set_option maxHeartbeats 4000000 in
theorem inspect_lookFault {l : List LookS} {i : Nat} (hs : SmLk l) (hi : i < l.length) :
  SpecN Tryz.prog 198 [avL l, avI (i : Int)] (fun y => y = avI (lookE l i)) := by
 refine SpecN.of_VCN Tryz.func198 rfl Tryz.ntmps198 (Nle rfl) fun w A hB => ?_
 have hnew : True := trivial
 refine VC.seq ?_
 have hl := hs.len
 have h5 : (lkStrs (l.getD i default)).length = 5 := rfl
 refine VC.region ?_
 refine VO.ma rfl rfl rfl rfl ?_
 refine VO.nil ?_
 refine VC.sr ?_
 refine VO.mv rfl rfl rfl rfl ?_
 refine VO.mv rfl rfl rfl rfl ?_
 refine VO.val rfl rfl (OpV.indexAddr_E rfl Tryz.underlying54 Tryz.sizeOf80 rfl rfl rfl (by omega)) ?_
 refine VO.val rfl rfl (OpV.loadK_at rfl hB OutW.no Tryz.isAgg80 Tryz.sizeOf80 rfl rfl) ?_
 refine VO.op rfl (OpE.alloc rfl hB rfl Tryz.zeroValue80 rfl ?_)
 intro g5
 refine VO.op rfl (OpE.store (i := 0) rfl hB rfl Tryz.sizeOf80 rfl rfl rfl rfl rfl rfl (Nle rfl) trivial ?_)
 refine VO.nil ?_
 refine VC.seq ?_
 refine VC.sr ?_
 refine VO.val rfl rfl (OpV.fieldAddrO 0 rfl Tryz.underlying80 rfl rfl Tryz.sizeOf9 rfl) ?_
 refine VO.val rfl rfl (OpV.load_own (i := 0) rfl hB Tryz.isAgg9 rfl rfl rfl (fun h => h)) ?_
 refine VO.val rfl rfl (OpV.fieldAddrO 1 rfl Tryz.underlying80 rfl rfl Tryz.sizeOf9 rfl) ?_
 refine VO.val rfl rfl (OpV.load_own (i := 0) rfl hB Tryz.isAgg9 rfl rfl rfl (fun h => h)) ?_
 refine VO.val rfl rfl (OpV.fieldAddrO 5 rfl Tryz.underlying80 rfl rfl Tryz.sizeOf9 rfl) ?_
 refine VO.val rfl rfl (OpV.load_own (i := 0) rfl hB Tryz.isAgg9 rfl rfl rfl (fun h => h)) ?_
 refine VO.val rfl rfl (OpV.fieldAddrO 6 rfl Tryz.underlying80 rfl rfl Tryz.sizeOf9 rfl) ?_
 refine VO.val rfl rfl (OpV.load_own (i := 0) rfl hB Tryz.isAgg9 rfl rfl rfl (fun h => h)) ?_
 refine VO.val rfl rfl (OpV.fieldAddrO 7 rfl Tryz.underlying80 rfl rfl Tryz.sizeOf9 rfl) ?_
 refine VO.val rfl rfl (OpV.load_own (i := 0) rfl hB Tryz.isAgg9 rfl rfl rfl (fun h => h)) ?_
 refine VO.op rfl (OpE.buildSlice (zc := #[.string ⟨#[]⟩, .string ⟨#[]⟩, .string ⟨#[]⟩, .string ⟨#[]⟩, .string ⟨#[]⟩]) rfl hB rfl Tryz.underlying29 Tryz.sizeOf9 Tryz.zeroValue9 (by decide) (by decide) (by kernel_rfl) rfl rfl ?_)
 refine VO.le _ (Le.litsS (t := 22) (xs := lkStrs (l.getD i default)) rfl rfl) ?_
 refine VO.val rfl rfl (OpV.len_im rfl Tryz.underlying29 rfl) ?_
 refine VO.mv rfl rfl rfl rfl ?_
 refine VO.nil ?_
 refine VC.block ?_
 refine VC.loopK [(0, _), (1, _), (5, _), (22, _), (23, _)] ⟨rfl, rfl, rfl, rfl, rfl, trivial⟩ ({q : Nat // q ≤ 5 ∧ ∀ j, j < q → keyF ((lkStrs (l.getD i default)).getD j ByteArray.empty) = true}) (fun (iZ : {q : Nat // q ≤ 5 ∧ ∀ j, j < q → keyF ((lkStrs (l.getD i default)).getD j ByteArray.empty) = true}) => match iZ with | ⟨q, hq, hn⟩ => [(24, avI (q : Int))]) (fun (iZ : {q : Nat // q ≤ 5 ∧ ∀ j, j < q → keyF ((lkStrs (l.getD i default)).getD j ByteArray.empty) = true}) => match iZ with | ⟨q, hq, hn⟩ => [boxLk g5 (l.getD i default) 80]) (fun (iZ : {q : Nat // q ≤ 5 ∧ ∀ j, j < q → keyF ((lkStrs (l.getD i default)).getD j ByteArray.empty) = true}) => match iZ with | ⟨q, hq, hn⟩ => 0) (fun (iZ : {q : Nat // q ≤ 5 ∧ ∀ j, j < q → keyF ((lkStrs (l.getD i default)).getD j ByteArray.empty) = true}) => match iZ with | ⟨q, hq, hn⟩ => 5 - q) ⟨0, Nat.zero_le _, fun j hj => absurd hj (Nat.not_lt_zero j)⟩ (Le.mk hB [0] ⟨rfl, rfl, rfl, rfl, rfl, rfl, trivial⟩ rfl rfl (Nat.le_refl _)) ?_
 rintro ⟨q, hq, hn⟩
 show VC _ _ _ _ ⟨[(24, avI (q : Int))] ++ [(0, _), (1, _), (5, _), (22, _), (23, _)], [boxLk g5 (l.getD i default) 80], 0⟩
 refine VC.sr ?_
 refine VO.val rfl rfl (OpV.lss rfl rfl rfl) ?_
 refine VO.nil ?_
 refine VC.seq ?_
 refine VC.cond rfl (fun aH1b => ?_) (fun aH1b => ?_)
 ·have aH1 := aH1b
  try simp only [qqT, qqF, qqN, qqM, qqL, qqE] at aH1
  refine VC.skip ?_
  refine VC.seq ?_
  refine VC.block ?_
  refine VC.sr ?_
  refine VO.val rfl rfl (OpV.indexAddr_1 rfl Tryz.underlying29 Tryz.sizeOf9 rfl rfl rfl (by omega)) ?_
  refine VO.val rfl rfl (OpV.load_at rfl hB OutW.no Tryz.isAgg9 rfl rfl) ?_
  refine VO.ma rfl rfl rfl rfl ?_
  refine VO.nil ?_
  refine VC.sr ?_
  refine VO.mv rfl rfl rfl rfl ?_
  refine VO.op rfl (OpE.call rfl hB rfl Tryz.call182 rfl (SpecN.spec (kit_IsKey (by have := lk_sz hs i q; omega))) ?_)
  rintro _ rfl
  refine VO.val rfl rfl (OpV.not rfl rfl) ?_
  refine VO.nil ?_
  refine VC.cond rfl (fun h1b => ?_) (fun h1b => ?_)
  ·have h1 := h1b
   try simp only [qqT, qqF, qqN, qqM, qqL, qqE] at h1
   refine VC.sr ?_
   refine VO.ma rfl rfl rfl rfl ?_
   refine VO.nil ?_
   refine VC.ret ?_
   exact Exists.intro _ (And.intro (RetN.one Tryz.results198 (ResN.v rfl)) (by rw [lookE_5 (all_no (d := ByteArray.empty) (q := q) (by show q < 5; omega) (by assumption))]))
  ·have h1 := h1b
   try simp only [qqT, qqF, qqN, qqM, qqL, qqE] at h1
   refine VC.skip ?_
   refine VC.region ?_
   refine VO.val rfl rfl (OpV.add rfl rfl rfl (by unfold fits; omega)) ?_
   refine VO.mv rfl rfl rfl rfl ?_
   refine VO.nil ?_
   exact Exists.intro (⟨q + 1, by omega, lt_succ_cases hn ((by assumption))⟩) (And.intro (Le.mk hB [0] ⟨rfl, rfl, rfl, rfl, rfl, rfl, trivial⟩ rfl rfl (Nat.le_refl _)) (by first | omega | (show _ < _; omega) | (simp only []; omega)))
 ·have aH1 := aH1b
  try simp only [qqT, qqF, qqN, qqM, qqL, qqE] at aH1
  have hk : (lkStrs (l.getD i default)).all keyF = true := all_yes (d := ByteArray.empty) (fun j hj => hn j (by simp [lkStrs] at hj; omega))
  refine VC.exit ?_
  refine VC.seq ?_
  refine VC.block ?_
  refine VC.sr ?_
  refine VO.val rfl rfl (OpV.fieldAddrO 2 rfl Tryz.underlying80 rfl rfl Tryz.sizeOf3 rfl) ?_
  refine VO.val rfl rfl (OpV.load_own (i := 0) rfl hB Tryz.isAgg3 rfl rfl rfl (fun h => h)) ?_
  refine VO.op rfl (OpE.call rfl hB rfl Tryz.call261 rfl (SpecN.spec (kit_IsMoment)) ?_)
  rintro _ rfl
  refine VO.val rfl rfl (OpV.not rfl rfl) ?_
  refine VO.ma rfl rfl rfl rfl ?_
  refine VO.nil ?_
  refine VC.cond rfl (fun h2b => ?_) (fun h2b => ?_)
  ·have h2 := h2b
   try simp only [qqT, qqF, qqN, qqM, qqL, qqE] at h2
   refine VC.sr ?_
   refine VO.ma rfl rfl rfl rfl ?_
   refine VO.nil ?_
   refine VC.ret ?_
   exact Exists.intro _ (And.intro (RetN.one Tryz.results198 (ResN.v rfl)) (by rw [lookE_1 hk h2]))
  ·have h2 := h2b
   try simp only [qqT, qqF, qqN, qqM, qqL, qqE] at h2
   refine VC.sr ?_
   refine VO.val rfl rfl (OpV.fieldAddrO 3 rfl Tryz.underlying80 rfl rfl Tryz.sizeOf3 rfl) ?_
   refine VO.val rfl rfl (OpV.load_own (i := 0) rfl hB Tryz.isAgg3 rfl rfl rfl (fun h => h)) ?_
   refine VO.op rfl (OpE.call rfl hB rfl Tryz.call181 rfl (SpecN.spec (kit_Outside)) ?_)
   rintro _ rfl
   refine VO.ma rfl rfl rfl rfl ?_
   refine VO.nil ?_
   refine VC.cond rfl (fun h3b => ?_) (fun h3b => ?_)
   ·have h3 := h3b
    try simp only [qqT, qqF, qqN, qqM, qqL, qqE] at h3
    refine VC.sr ?_
    refine VO.ma rfl rfl rfl rfl ?_
    refine VO.nil ?_
    refine VC.ret ?_
    exact Exists.intro _ (And.intro (RetN.one Tryz.results198 (ResN.v rfl)) (by rw [lookE_4 hk h2 h3]))
   ·have h3 := h3b
    try simp only [qqT, qqF, qqN, qqM, qqL, qqE] at h3
    refine VC.seq ?_
    refine VC.draw (fun _ => NoB) hB (by kernel_rfl) ?_
    refine VA.take (i := 0) rfl (by kernel_rfl) (by kernel_rfl) (by kernel_rfl) rfl rfl (OpV.move (.inl rfl) rfl) ?_
    refine VA.take (i := 1) rfl (by kernel_rfl) (by kernel_rfl) (by kernel_rfl) rfl rfl (OpV.gtr rfl rfl rfl) ?_
    refine VA.take (i := 2) rfl (by kernel_rfl) (by kernel_rfl) (by kernel_rfl) rfl rfl (OpV.move (.inl rfl) rfl) ?_
    refine VA.split (t := 44) rfl (fun aK2b => ?_) (fun aK2b => ?_)
    ·have aK2 := aK2b
     try simp only [qqT, qqF, qqN, qqM, qqL, qqE] at aK2
     refine VA.takeY (i := 3) rfl (by kernel_rfl) (by kernel_rfl) (by kernel_rfl) rfl rfl rfl rfl aK2b (OpV.move (.inl rfl) rfl) ?_
     refine VA.takeY (i := 4) rfl (by kernel_rfl) (by kernel_rfl) (by kernel_rfl) rfl rfl rfl rfl aK2b (OpV.move (.inl rfl) rfl) ?_
     refine VA.takeY (i := 5) rfl (by kernel_rfl) (by kernel_rfl) (by kernel_rfl) rfl rfl rfl rfl aK2b (OpV.sub rfl rfl rfl (by unfold fits; omega)) ?_
     refine VA.takeY (i := 6) rfl (by kernel_rfl) (by kernel_rfl) (by kernel_rfl) rfl rfl rfl rfl aK2b (OpV.indexAddr_E rfl Tryz.underlying54 Tryz.sizeOf80 rfl rfl (show ((i : Int) - 1) = ((i - 1 : Nat) : Int) by omega) (by omega)) ?_
     refine VA.takeY (i := 7) rfl (by kernel_rfl) (by kernel_rfl) (by kernel_rfl) rfl rfl rfl rfl aK2b (OpV.loadK_at rfl hB OutW.wi0 Tryz.isAgg80 Tryz.sizeOf80 rfl rfl) ?_
     refine VA.takeY (i := 8) rfl (by kernel_rfl) (by kernel_rfl) (by kernel_rfl) rfl rfl rfl rfl aK2b (OpV.loadK_own (i := 0) rfl hB Tryz.isAgg80 Tryz.sizeOf80 rfl rfl rfl Wi.not0) ?_
     refine VA.all (rs := [9]) (by kernel_rfl) (by decide) ?_
     refine ⟨⟨_, rfl, .inr ⟨_, _, _, rfl, rfl, (look_k rfl aK2b)⟩, ?_⟩, trivial⟩
     refine OpE.call rfl hB rfl Tryz.call262 rfl (SpecN.spec (inspect_compare (a := l.getD (i - 1) default) (b := l.getD i default))) ?_
     rintro _ rfl
     refine VA.takeY (i := 10) rfl (by kernel_rfl) (by kernel_rfl) (by kernel_rfl) rfl rfl rfl rfl aK2b (OpV.geq rfl rfl rfl) ?_
     refine VA.take (i := 11) rfl (by kernel_rfl) (by kernel_rfl) (by kernel_rfl) rfl rfl (OpV.pickT rfl rfl rfl rfl aK2b) ?_
     refine VA.take (i := 12) rfl (by kernel_rfl) (by kernel_rfl) (by kernel_rfl) rfl rfl (OpV.move (.inr rfl) rfl) ?_
     refine VA.done (by kernel_rfl) ?_
     refine VC.cond rfl (fun h4b => ?_) (fun h4b => ?_)
     ·have h4 := h4b
      try simp only [qqT, qqF, qqN, qqM, qqL, qqE] at h4
      refine VC.sr ?_
      refine VO.ma rfl rfl rfl rfl ?_
      refine VO.nil ?_
      refine VC.ret ?_
      exact Exists.intro _ (And.intro (RetN.one Tryz.results198 (ResN.v rfl)) (by rw [lookE_7 hk h2 h3 (by omega) h4]))
     ·have h4 := h4b
      try simp only [qqT, qqF, qqN, qqM, qqL, qqE] at h4
      refine VC.skip ?_
      refine VC.sr ?_
      refine VO.ma rfl rfl rfl rfl ?_
      refine VO.nil ?_
      refine VC.ret ?_
      exact Exists.intro _ (And.intro (RetN.one Tryz.results198 (ResN.v rfl)) (by first | rw [lookE_0 hk h2 h3 (.inr (by omega))] | rw [lookE_0 hk h2 h3 (.inl (by omega))]))
    ·have aK2 := aK2b
     try simp only [qqT, qqF, qqN, qqM, qqL, qqE] at aK2
     refine VA.takeX (i := 3) rfl (by kernel_rfl) (by kernel_rfl) (by kernel_rfl) rfl rfl rfl rfl aK2b ?_
     refine VA.takeX (i := 4) rfl (by kernel_rfl) (by kernel_rfl) (by kernel_rfl) rfl rfl rfl rfl aK2b ?_
     refine VA.takeX (i := 5) rfl (by kernel_rfl) (by kernel_rfl) (by kernel_rfl) rfl rfl rfl rfl aK2b ?_
     refine VA.takeX (i := 6) rfl (by kernel_rfl) (by kernel_rfl) (by kernel_rfl) rfl rfl rfl rfl aK2b ?_
     refine VA.takeX (i := 7) rfl (by kernel_rfl) (by kernel_rfl) (by kernel_rfl) rfl rfl rfl rfl aK2b ?_
     refine VA.takeX (i := 8) rfl (by kernel_rfl) (by kernel_rfl) (by kernel_rfl) rfl rfl rfl rfl aK2b ?_
     refine VA.takeX (i := 9) rfl (by kernel_rfl) (by kernel_rfl) (by kernel_rfl) rfl rfl rfl rfl aK2b ?_
     refine VA.takeX (i := 10) rfl (by kernel_rfl) (by kernel_rfl) (by kernel_rfl) rfl rfl rfl rfl aK2b ?_
     refine VA.take (i := 11) rfl (by kernel_rfl) (by kernel_rfl) (by kernel_rfl) rfl rfl (OpV.pickF rfl rfl rfl rfl aK2b) ?_
     refine VA.take (i := 12) rfl (by kernel_rfl) (by kernel_rfl) (by kernel_rfl) rfl rfl (OpV.move (.inr rfl) rfl) ?_
     refine VA.done (by kernel_rfl) ?_
     refine VC.condF rfl rfl ?_
     refine VC.skip ?_
     refine VC.sr ?_
     refine VO.ma rfl rfl rfl rfl ?_
     refine VO.nil ?_
     refine VC.ret ?_
     exact Exists.intro _ (And.intro (RetN.one Tryz.results198 (ResN.v rfl)) (by first | rw [lookE_0 hk h2 h3 (.inr (by omega))] | rw [lookE_0 hk h2 h3 (.inl (by omega))]))
theorem seen_get (l : List LookS) (q : Nat) : mgetD (seenL (l.take q)) ((l.getD q default).board, (l.getD q default).name) false = (l.take q).any fun o => sameT o (l.getD q default) := seenL_get _ _
theorem seen_take {l : List LookS} {q : Nat} (h : q < l.length) (hx : (l.take q).any (fun o => sameT o (l.getD q default)) = false) : mput (seenL (l.take q)) ((l.getD q default).board, (l.getD q default).name) true = seenL (l.take (q + 1)) := by
 rw [seenL_new hx]
 rw [List.take_add_one, List.getD_eq_getElem?_getD, List.getElem?_eq_getElem h]; rfl
set_option maxRecDepth 100000 in
theorem plK : KeyOk Tryz.prog 244 kv2 := KeyOk.str2 Tryz.underlying244 (by kernel_rfl) (rfl : Tryz.prog.fieldsOf 244 = #[_, _]) Tryz.underlying9 Tryz.underlying9 Tryz.isAgg9 Tryz.isAgg9 rfl rfl (by decide) (by decide)
set_option maxRecDepth 100000 in
set_option maxHeartbeats 4000000 in
theorem inspect_CheckLooks {l : List LookS} (hs : SmLk l) :
  SpecN Tryz.prog 112 [avL l] (fun y => y = avI (lookF l)) := by
 refine SpecN.of_VCN Tryz.func112 rfl Tryz.ntmps112 (Nle rfl) fun w A hB => ?_
 have hnew : True := trivial
 refine VC.seq ?_
 have hl := hs.len
 refine VC.region ?_
 refine VO.ma rfl rfl rfl rfl ?_
 refine VO.nil ?_
 refine VC.seq ?_
 refine VC.sr ?_
 refine VO.mv rfl rfl rfl rfl ?_
 refine VO.val rfl rfl (OpV.len_im rfl Tryz.underlying54 rfl) ?_
 refine VO.val rfl rfl (OpV.gtr rfl rfl rfl) ?_
 refine VO.nil ?_
 refine VC.cond rfl (fun h0b => ?_) (fun h0b => ?_)
 ·have h0 := h0b
  try simp only [qqT, qqF, qqN, qqM, qqL, qqE] at h0
  refine VC.sr ?_
  refine VO.ma rfl rfl rfl rfl ?_
  refine VO.nil ?_
  refine VC.ret ?_
  exact Exists.intro _ (And.intro (RetN.one Tryz.results112 (ResN.v rfl)) (by rw [lookF_2 (by omega)]))
 ·have h0 := h0b
  try simp only [qqT, qqF, qqN, qqM, qqL, qqE] at h0
  refine VC.skip ?_
  refine VC.seq ?_
  refine VC.sr ?_
  refine VO.mv rfl rfl rfl rfl ?_
  refine VO.val rfl rfl (OpV.len_im rfl Tryz.underlying54 rfl) ?_
  refine VO.mv rfl rfl rfl rfl ?_
  refine VO.nil ?_
  refine VC.block ?_
  refine VC.loopK [(0, _), (13, _)] ⟨rfl, rfl, trivial⟩ ({q : Nat // q ≤ l.length ∧ ∀ j, j < q → lookE l j = 0}) (fun (iZ : {q : Nat // q ≤ l.length ∧ ∀ j, j < q → lookE l j = 0}) => match iZ with | ⟨q, hq, hn⟩ => [(14, avI (q : Int))]) (fun (iZ : {q : Nat // q ≤ l.length ∧ ∀ j, j < q → lookE l j = 0}) => match iZ with | ⟨q, hq, hn⟩ => []) (fun (iZ : {q : Nat // q ≤ l.length ∧ ∀ j, j < q → lookE l j = 0}) => match iZ with | ⟨q, hq, hn⟩ => 0) (fun (iZ : {q : Nat // q ≤ l.length ∧ ∀ j, j < q → lookE l j = 0}) => match iZ with | ⟨q, hq, hn⟩ => l.length - q) ⟨0, Nat.zero_le _, fun j hj => absurd hj (Nat.not_lt_zero j)⟩ (Le.mk hB [] ⟨rfl, rfl, rfl, trivial⟩ rfl rfl (Nat.le_refl _)) ?_
  rintro ⟨q, hq, hn⟩
  show VC _ _ _ _ ⟨[(14, avI (q : Int))] ++ [(0, _), (13, _)], [], 0⟩
  refine VC.sr ?_
  refine VO.val rfl rfl (OpV.lss rfl rfl rfl) ?_
  refine VO.nil ?_
  refine VC.seq ?_
  refine VC.cond rfl (fun aH1b => ?_) (fun aH1b => ?_)
  ·have aH1 := aH1b
   try simp only [qqT, qqF, qqN, qqM, qqL, qqE] at aH1
   refine VC.skip ?_
   refine VC.seq ?_
   refine VC.block ?_
   refine VC.sr ?_
   refine VO.mv rfl rfl rfl rfl ?_
   refine VO.ma rfl rfl rfl rfl ?_
   refine VO.nil ?_
   refine VC.sr ?_
   refine VO.mv rfl rfl rfl rfl ?_
   refine VO.mv rfl rfl rfl rfl ?_
   refine VO.op rfl (OpE.call rfl hB rfl Tryz.call198 rfl (SpecN.spec (inspect_lookFault hs (by omega))) ?_)
   rintro _ rfl
   refine VO.ma rfl rfl rfl rfl ?_
   refine VO.nil ?_
   refine VC.sr ?_
   refine VO.mv rfl rfl rfl rfl ?_
   refine VO.val rfl rfl (OpV.neq rfl rfl rfl) ?_
   refine VO.nil ?_
   refine VC.cond rfl (fun h2b => ?_) (fun h2b => ?_)
   ·have h2 := h2b
    try simp only [qqT, qqF, qqN, qqM, qqL, qqE] at h2
    refine VC.sr ?_
    refine VO.mv rfl rfl rfl rfl ?_
    refine VO.ma rfl rfl rfl rfl ?_
    refine VO.nil ?_
    refine VC.ret ?_
    exact Exists.intro _ (And.intro (RetN.one Tryz.results112 (ResN.v rfl)) (by rw [lookF_at (by omega) (by omega) hn h2]))
   ·have h2 := h2b
    try simp only [qqT, qqF, qqN, qqM, qqL, qqE] at h2
    refine VC.skip ?_
    refine VC.region ?_
    refine VO.val rfl rfl (OpV.add rfl rfl rfl (by unfold fits; omega)) ?_
    refine VO.mv rfl rfl rfl rfl ?_
    refine VO.nil ?_
    exact Exists.intro (⟨q + 1, by omega, lt_succ_cases hn ((by omega))⟩) (And.intro (Le.mk hB [] ⟨rfl, rfl, rfl, trivial⟩ rfl rfl (Nat.le_refl _)) (by first | omega | (show _ < _; omega) | (simp only []; omega)))
  ·have aH1 := aH1b
   try simp only [qqT, qqF, qqN, qqM, qqL, qqE] at aH1
   refine VC.exit ?_
   refine VC.seq ?_
   have hl0 : ∀ j, j < l.length → lookE l j = 0 := fun j hj => hn j (by omega)
   refine VC.region ?_
   refine VO.op rfl (OpE.makeMap (kv2) (eBl) rfl hB rfl ?_)
   intro g24
   refine VO.ma rfl rfl rfl rfl ?_
   refine VO.nil ?_
   refine VC.seq ?_
   refine VC.sr ?_
   refine VO.mv rfl rfl rfl rfl ?_
   refine VO.val rfl rfl (OpV.len_im rfl Tryz.underlying54 rfl) ?_
   refine VO.mv rfl rfl rfl rfl ?_
   refine VO.nil ?_
   refine VC.block ?_
   refine VC.loopK [(5, _), (25, _), (26, _)] ⟨rfl, rfl, rfl, trivial⟩ ({r : Nat // r ≤ l.length ∧ ∀ j, j < r → twE l j = 0}) (fun (iZ : {r : Nat // r ≤ l.length ∧ ∀ j, j < r → twE l j = 0}) => match iZ with | ⟨r, hq1, hn1⟩ => [(27, avI (r : Int))]) (fun (iZ : {r : Nat // r ≤ l.length ∧ ∀ j, j < r → twE l j = 0}) => match iZ with | ⟨r, hq1, hn1⟩ => [mapE kv2 g24 eBl (seenL (l.take r))]) (fun (iZ : {r : Nat // r ≤ l.length ∧ ∀ j, j < r → twE l j = 0}) => match iZ with | ⟨r, hq1, hn1⟩ => 0) (fun (iZ : {r : Nat // r ≤ l.length ∧ ∀ j, j < r → twE l j = 0}) => match iZ with | ⟨r, hq1, hn1⟩ => l.length - r) ⟨0, Nat.zero_le _, fun j hj => absurd hj (Nat.not_lt_zero j)⟩ (Le.mk hB [0] ⟨rfl, rfl, rfl, rfl, trivial⟩ rfl rfl (Nat.le_refl _)) ?_
   rintro ⟨r, hq1, hn1⟩
   show VC _ _ _ _ ⟨[(27, avI (r : Int))] ++ [(5, _), (25, _), (26, _)], [mapE kv2 g24 eBl (seenL (l.take r))], 0⟩
   refine VC.sr ?_
   refine VO.val rfl rfl (OpV.lss rfl rfl rfl) ?_
   refine VO.nil ?_
   refine VC.seq ?_
   refine VC.cond rfl (fun aH2b => ?_) (fun aH2b => ?_)
   ·have aH2 := aH2b
    try simp only [qqT, qqF, qqN, qqM, qqL, qqE] at aH2
    refine VC.skip ?_
    refine VC.seq ?_
    refine VC.block ?_
    refine VC.sr ?_
    refine VO.val rfl rfl (OpV.indexAddr_E rfl Tryz.underlying54 Tryz.sizeOf80 rfl rfl rfl (by omega)) ?_
    refine VO.val rfl rfl (OpV.loadK_at rfl hB OutW.no Tryz.isAgg80 Tryz.sizeOf80 rfl rfl) ?_
    refine VO.op rfl (OpE.alloc rfl hB rfl Tryz.zeroValue80 rfl ?_)
    intro g7
    refine VO.op rfl (OpE.store (i := 1) rfl hB rfl Tryz.sizeOf80 rfl rfl rfl rfl rfl rfl (Nle rfl) trivial ?_)
    refine VO.nil ?_
    refine VC.sr ?_
    refine VO.val rfl rfl (OpV.fieldAddrO 0 rfl Tryz.underlying80 rfl rfl Tryz.sizeOf9 rfl) ?_
    refine VO.val rfl rfl (OpV.load_own (i := 1) rfl hB Tryz.isAgg9 rfl rfl rfl (fun h => h)) ?_
    refine VO.val rfl rfl (OpV.fieldAddrO 1 rfl Tryz.underlying80 rfl rfl Tryz.sizeOf9 rfl) ?_
    refine VO.val rfl rfl (OpV.load_own (i := 1) rfl hB Tryz.isAgg9 rfl rfl rfl (fun h => h)) ?_
    refine VO.val rfl rfl (OpV.build (pls := #[(0, 1), (1, 1)]) rfl Tryz.zeroValue244 Tryz.underlying244 (fun w => by kernel_rfl) rfl rfl) ?_
    refine VO.op rfl (OpE.alloc rfl hB rfl Tryz.zeroValue244 rfl ?_)
    intro g8
    refine VO.op rfl (OpE.store (i := 2) rfl hB rfl Tryz.sizeOf244 rfl rfl rfl rfl rfl rfl (Nle rfl) trivial ?_)
    refine VO.nil ?_
    refine VC.seq ?_
    refine VC.sr ?_
    refine VO.mv rfl rfl rfl rfl ?_
    refine VO.val rfl rfl (OpV.loadK_own (i := 2) rfl hB Tryz.isAgg244 Tryz.sizeOf244 rfl rfl rfl (fun h => h)) ?_
    refine VO.val rfl rfl (OpV.lookup_own (i := 0) (k := ((l.getD r default).board, (l.getD r default).name)) rfl hB Tryz.underlying242 plK Tryz.zeroValue4 rfl (KeyE.agg2 rfl) rfl (fun h => h)) ?_
    refine VO.le _ (Le.recast (t := 38) (y := avB ((l.take r).any fun o => sameT o (l.getD r default))) rfl (fun w Z u h => by rw [← seen_get]; unfold mgetD; revert h; cases mget (seenL (l.take r)) ((l.getD r default).board, (l.getD r default).name) <;> exact id)) ?_
    refine VO.nil ?_
    refine VC.cond rfl (fun htb => ?_) (fun htb => ?_)
    ·have ht := htb
     try simp only [qqT, qqF, qqN, qqM, qqL, qqE] at ht
     refine VC.sr ?_
     refine VO.ma rfl rfl rfl rfl ?_
     refine VO.nil ?_
     refine VC.ret ?_
     exact Exists.intro _ (And.intro (RetN.one Tryz.results112 (ResN.v rfl)) (by rw [lookF_tw (by omega) hl0 (by omega) hn1 (by rw [twE_6 ht]; decide), twE_6 ht]))
    ·have ht := htb
     try simp only [qqT, qqF, qqN, qqM, qqL, qqE] at ht
     refine VC.skip ?_
     refine VC.region ?_
     refine VO.mv rfl rfl rfl rfl ?_
     refine VO.val rfl rfl (OpV.loadK_own (i := 2) rfl hB Tryz.isAgg244 Tryz.sizeOf244 rfl rfl rfl (fun h => h)) ?_
     refine VO.op rfl (OpE.mapUpdate (i := 0) (k := ((l.getD r default).board, (l.getD r default).name)) (xx := true) rfl hB rfl Tryz.underlying242 plK rfl (KeyE.agg2 rfl) rfl rfl trivial ?_)
     refine VO.nil ?_
     refine VC.region ?_
     refine VO.val rfl rfl (OpV.add rfl rfl rfl (by unfold fits; omega)) ?_
     refine VO.mv rfl rfl rfl rfl ?_
     refine VO.nil ?_
     exact Exists.intro (⟨r + 1, by omega, lt_succ_cases hn1 ((twE_0 ht))⟩) (And.intro (Le.mk hB [0] ⟨rfl, rfl, rfl, rfl, trivial⟩ rfl (by dsimp only; rw [seen_take (by omega) ht]; rfl) (Nat.le_refl _)) (by first | omega | (show _ < _; omega) | (simp only []; omega)))
   ·have aH2 := aH2b
    try simp only [qqT, qqF, qqN, qqM, qqL, qqE] at aH2
    refine VC.exit ?_
    refine VC.sr ?_
    refine VO.ma rfl rfl rfl rfl ?_
    refine VO.nil ?_
    refine VC.ret ?_
    exact Exists.intro _ (And.intro (RetN.one Tryz.results112 (ResN.v rfl)) (by rw [lookF_ok (by omega) hl0 (fun j hj => hn1 j (by omega))]))
set_option maxRecDepth 100000 in
theorem share_add {g a b : Nat} {x : LookS} (ha : a ≤ 1000000000) (hb : b ≤ 1000000000) :
  SpecH Tryz.prog 201 [.v (.pointer (some ⟨g, 0, none⟩)), avLk x] [.box g ⟨[avI (b : Int), avI (a : Int)], 156, 2⟩] (fun y hp' => y = .tup [] ∧ hp' = [.box g ⟨[avI ((b + if x.bad = true then 1 else 0 : Nat) : Int), avI ((a + 1 : Nat) : Int)], 156, 2⟩]) := by
 refine SpecH.of_VC Tryz.func201 rfl Tryz.ntmps201 (Nle rfl) fun w A hB => ?_
 have hnew : True := trivial
 refine VC.sr ?_
 refine VO.op rfl (OpE.box rfl hB rfl rfl rfl ?_)
 intro g3
 refine VO.nil ?_
 refine VC.sr ?_
 refine VO.mv rfl rfl rfl rfl ?_
 refine VO.val rfl rfl (OpV.nilCheck rfl rfl) ?_
 refine VO.val rfl rfl (OpV.fieldAddrO 1 rfl Tryz.underlying156 rfl rfl Tryz.sizeOf3 rfl) ?_
 refine VO.val rfl rfl (OpV.load_own (i := 0) rfl hB Tryz.isAgg3 rfl rfl rfl (fun h => h)) ?_
 refine VO.val rfl rfl (OpV.add rfl rfl rfl (by unfold fits; omega)) ?_
 refine VO.val rfl rfl (OpV.nilCheck rfl rfl) ?_
 refine VO.val rfl rfl (OpV.fieldAddrO 1 rfl Tryz.underlying156 rfl rfl Tryz.sizeOf3 rfl) ?_
 refine VO.op rfl (OpE.store (i := 0) rfl hB rfl Tryz.sizeOf3 rfl rfl rfl rfl rfl rfl (Nle rfl) trivial ?_)
 refine VO.nil ?_
 refine VC.sr ?_
 refine VO.val rfl rfl (OpV.fieldAddrO 4 rfl Tryz.underlying80 rfl rfl Tryz.sizeOf4 rfl) ?_
 refine VO.val rfl rfl (OpV.load_own (i := 1) rfl hB Tryz.isAgg4 rfl rfl rfl (fun h => h)) ?_
 refine VO.nil ?_
 refine VC.cond rfl (fun h0b => ?_) (fun h0b => ?_)
 ·have h0 := h0b
  try simp only [qqT, qqF, qqN, qqM, qqL, qqE] at h0
  refine VC.le _ (Le.pickH [0] rfl rfl) ?_
  refine VC.region ?_
  refine VO.mv rfl rfl rfl rfl ?_
  refine VO.val rfl rfl (OpV.nilCheck rfl rfl) ?_
  refine VO.val rfl rfl (OpV.fieldAddrO 0 rfl Tryz.underlying156 rfl rfl Tryz.sizeOf3 rfl) ?_
  refine VO.val rfl rfl (OpV.load_own (i := 0) rfl hB Tryz.isAgg3 rfl rfl rfl (fun h => h)) ?_
  refine VO.val rfl rfl (OpV.add rfl rfl rfl (by unfold fits; omega)) ?_
  refine VO.val rfl rfl (OpV.nilCheck rfl rfl) ?_
  refine VO.val rfl rfl (OpV.fieldAddrO 0 rfl Tryz.underlying156 rfl rfl Tryz.sizeOf3 rfl) ?_
  refine VO.op rfl (OpE.store (i := 0) rfl hB rfl Tryz.sizeOf3 rfl rfl rfl rfl rfl rfl (Nle rfl) trivial ?_)
  refine VO.nil ?_
  exact Exists.intro _ (And.intro (RetV.none Tryz.results201) (by first | exact ⟨rfl, by rw [if_pos h0]; rfl⟩ | exact ⟨rfl, by rw [if_neg (by rw [h0]; simp)]; rfl⟩))
 ·have h0 := h0b
  try simp only [qqT, qqF, qqN, qqM, qqL, qqE] at h0
  refine VC.le _ (Le.pickH [0] rfl rfl) ?_
  refine VC.skip ?_
  exact Exists.intro _ (And.intro (RetV.none Tryz.results201) (by first | exact ⟨rfl, by rw [if_pos h0]; rfl⟩ | exact ⟨rfl, by rw [if_neg (by rw [h0]; simp)]; rfl⟩))
set_option maxRecDepth 100000 in
theorem inspect_shareOf {l : List LookS} (hl : l.length ≤ 1000000) :
  SpecN Tryz.prog 214 [avL l] (fun y => y = .agg [avI (badN l : Int), avI (l.length : Int)]) := by
 refine SpecN.of_VCN Tryz.func214 rfl Tryz.ntmps214 (Nle rfl) fun w A hB => ?_
 have hnew : True := trivial
 refine VC.sr ?_
 refine VO.op rfl (OpE.alloc rfl hB rfl Tryz.zeroValue156 rfl ?_)
 intro g2
 refine VO.nil ?_
 refine VC.sr ?_
 refine VO.op rfl (OpE.alloc rfl hB rfl Tryz.zeroValue156 rfl ?_)
 intro g3
 refine VO.nil ?_
 refine VC.seq ?_
 refine VC.sr ?_
 refine VO.mv rfl rfl rfl rfl ?_
 refine VO.val rfl rfl (OpV.len_im rfl Tryz.underlying54 rfl) ?_
 refine VO.mv rfl rfl rfl rfl ?_
 refine VO.nil ?_
 refine VC.block ?_
 refine VC.loopK [(2, _), (3, _), (6, _), (7, _)] ⟨rfl, rfl, rfl, rfl, trivial⟩ ({q : Nat // q ≤ l.length}) (fun (iZ : {q : Nat // q ≤ l.length}) => match iZ with | ⟨q, hq⟩ => [(8, avI (q : Int))]) (fun (iZ : {q : Nat // q ≤ l.length}) => match iZ with | ⟨q, hq⟩ => [.box g2 ⟨[avI 0, avI 0], 156, 2⟩, .box g3 ⟨[avI (badN (l.take q) : Int), avI (q : Int)], 156, 2⟩]) (fun (iZ : {q : Nat // q ≤ l.length}) => match iZ with | ⟨q, hq⟩ => 0) (fun (iZ : {q : Nat // q ≤ l.length}) => match iZ with | ⟨q, hq⟩ => l.length - q) ⟨0, Nat.zero_le _⟩ (Le.mk hB [0, 1] ⟨rfl, rfl, rfl, rfl, rfl, trivial⟩ rfl rfl (Nat.le_refl _)) ?_
 rintro ⟨q, hq⟩
 show VC _ _ _ _ ⟨[(8, avI (q : Int))] ++ [(2, _), (3, _), (6, _), (7, _)], [.box g2 ⟨[avI 0, avI 0], 156, 2⟩, .box g3 ⟨[avI (badN (l.take q) : Int), avI (q : Int)], 156, 2⟩], 0⟩
 refine VC.sr ?_
 refine VO.val rfl rfl (OpV.lss rfl rfl rfl) ?_
 refine VO.nil ?_
 refine VC.seq ?_
 refine VC.cond rfl (fun aH1b => ?_) (fun aH1b => ?_)
 ·have aH1 := aH1b
  try simp only [qqT, qqF, qqN, qqM, qqL, qqE] at aH1
  refine VC.skip ?_
  refine VC.seq ?_
  refine VC.block ?_
  refine VC.sr ?_
  refine VO.val rfl rfl (OpV.indexAddr_E rfl Tryz.underlying54 Tryz.sizeOf80 rfl rfl rfl (by omega)) ?_
  refine VO.val rfl rfl (OpV.loadK_at rfl hB OutW.no Tryz.isAgg80 Tryz.sizeOf80 rfl rfl) ?_
  refine VO.op rfl (OpE.alloc rfl hB rfl Tryz.zeroValue80 rfl ?_)
  intro g5
  refine VO.op rfl (OpE.store (i := 2) rfl hB rfl Tryz.sizeOf80 rfl rfl rfl rfl rfl rfl (Nle rfl) trivial ?_)
  refine VO.nil ?_
  refine VC.region ?_
  refine VO.val rfl rfl (OpV.loadK_own (i := 2) rfl hB Tryz.isAgg80 Tryz.sizeOf80 rfl rfl rfl (fun h => h)) ?_
  have hbn := badN_le (l.take q)
  have hbl := List.length_take_le q l
  refine VO.op rfl (OpE.callH (rest := [_, _]) rfl hB rfl Tryz.call201 rfl rfl (share_add (x := l.getD q default) (a := q) (b := badN (l.take q)) (by omega) (by omega)) (List.Perm.swap _ _ _) (fun _ _ => trivial) ?_)
  rintro _ _ ⟨rfl, rfl⟩
  refine VO.nil ?_
  refine VC.region ?_
  refine VO.val rfl rfl (OpV.add rfl rfl rfl (by unfold fits; omega)) ?_
  refine VO.mv rfl rfl rfl rfl ?_
  refine VO.nil ?_
  exact Exists.intro (⟨q + 1, by omega⟩) (And.intro (Le.pick hB [1, 0] ⟨rfl, rfl, rfl, rfl, rfl, trivial⟩ rfl (by dsimp only; rw [badN_take (by omega)]; rfl) (Nat.le_refl _)) (by first | omega | (show _ < _; omega) | (simp only []; omega)))
 ·have aH1 := aH1b
  try simp only [qqT, qqF, qqN, qqM, qqL, qqE] at aH1
  refine VC.exit ?_
  refine VC.seq ?_
  have hqe : l.take q = l := List.take_of_length_le (by omega)
  have hql : q = l.length := by omega
  rw [hqe, hql]
  refine VC.region ?_
  refine VO.val rfl rfl (OpV.loadK_own (i := 1) rfl hB Tryz.isAgg156 Tryz.sizeOf156 rfl rfl rfl (fun h => h)) ?_
  refine VO.op rfl (OpE.store (i := 0) rfl hB rfl Tryz.sizeOf156 rfl rfl rfl rfl rfl rfl (Nle rfl) trivial ?_)
  refine VO.nil ?_
  refine VC.ret ?_
  exact Exists.intro _ (And.intro (RetN.one Tryz.results214 ((by first | exact ResN.cellF (i := 0) Tryz.isAgg156 Tryz.sizeOf156 rfl rfl rfl (flat_ofB rfl) | exact ResN.cellF (i := 1) Tryz.isAgg156 Tryz.sizeOf156 rfl rfl rfl (flat_ofB rfl)))) (rfl))
set_option maxRecDepth 100000 in
theorem inspect_Million {l : List LookS} (hs : SmLk l) :
  SpecN Tryz.prog 149 [avL l] (fun y => y = .tup [.agg [avI ((millN l).1 : Int), avI ((millN l).2 : Int)], avI (millE l)]) := by
 refine SpecN.of_VCN Tryz.func149 rfl Tryz.ntmps149 (Nle rfl) fun w A hB => ?_
 have hnew : True := trivial
 refine VC.sr ?_
 refine VO.op rfl (OpE.alloc rfl hB rfl Tryz.zeroValue180 rfl ?_)
 intro g2
 refine VO.ma rfl rfl rfl rfl ?_
 refine VO.nil ?_
 refine VC.seq ?_
 refine VC.sr ?_
 refine VO.mv rfl rfl rfl rfl ?_
 refine VO.op rfl (OpE.call rfl hB rfl Tryz.call112 rfl (SpecN.spec (inspect_CheckLooks hs)) ?_)
 rintro _ rfl
 refine VO.ma rfl rfl rfl rfl ?_
 refine VO.nil ?_
 refine VC.sr ?_
 refine VO.mv rfl rfl rfl rfl ?_
 refine VO.val rfl rfl (OpV.neq rfl rfl rfl) ?_
 refine VO.nil ?_
 refine VC.cond rfl (fun h0b => ?_) (fun h0b => ?_)
 ·have h0 := h0b
  try simp only [qqT, qqF, qqN, qqM, qqL, qqE] at h0
  refine VC.sr ?_
  refine VO.val rfl rfl (OpV.build (pls := #[(0, 1), (1, 1)]) rfl Tryz.zeroValue180 Tryz.underlying180 (fun w => by kernel_rfl) rfl rfl) ?_
  refine VO.mv rfl rfl rfl rfl ?_
  refine VO.op rfl (OpE.store (i := 0) rfl hB rfl Tryz.sizeOf180 rfl rfl rfl rfl rfl rfl (Nle rfl) trivial ?_)
  refine VO.ma rfl rfl rfl rfl ?_
  refine VO.nil ?_
  refine VC.ret ?_
  exact Exists.intro _ (And.intro (RetN.two Tryz.results149 ((by first | exact ResN.cellF (i := 0) Tryz.isAgg180 Tryz.sizeOf180 rfl rfl rfl (flat_ofB rfl))) (ResN.v rfl)) (by rw [millN, if_neg (by rw [millE_1 h0]; exact h0), millE_1 h0]; rfl))
 ·have h0 := h0b
  try simp only [qqT, qqF, qqN, qqM, qqL, qqE] at h0
  refine VC.skip ?_
  refine VC.seq ?_
  refine VC.sr ?_
  refine VO.mv rfl rfl rfl rfl ?_
  refine VO.val rfl rfl (OpV.len_im rfl Tryz.underlying54 rfl) ?_
  refine VO.val rfl rfl (OpV.eql rfl rfl rfl) ?_
  refine VO.nil ?_
  refine VC.cond rfl (fun h1b => ?_) (fun h1b => ?_)
  ·have h1 := h1b
   try simp only [qqT, qqF, qqN, qqM, qqL, qqE] at h1
   refine VC.sr ?_
   refine VO.val rfl rfl (OpV.build (pls := #[(0, 1), (1, 1)]) rfl Tryz.zeroValue180 Tryz.underlying180 (fun w => by kernel_rfl) rfl rfl) ?_
   refine VO.op rfl (OpE.store (i := 0) rfl hB rfl Tryz.sizeOf180 rfl rfl rfl rfl rfl rfl (Nle rfl) trivial ?_)
   refine VO.ma rfl rfl rfl rfl ?_
   refine VO.nil ?_
   refine VC.ret ?_
   exact Exists.intro _ (And.intro (RetN.two Tryz.results149 ((by first | exact ResN.cellF (i := 0) Tryz.isAgg180 Tryz.sizeOf180 rfl rfl rfl (flat_ofB rfl))) (ResN.v rfl)) (by rw [millN, if_neg (by rw [millE_8 (by omega) (by omega)]; decide), millE_8 (by omega) (by omega)]; rfl))
  ·have h1 := h1b
   try simp only [qqT, qqF, qqN, qqM, qqL, qqE] at h1
   refine VC.skip ?_
   refine VC.sr ?_
   refine VO.mv rfl rfl rfl rfl ?_
   refine VO.op rfl (OpE.call rfl hB rfl Tryz.call214 rfl (SpecN.spec (inspect_shareOf hs.len)) ?_)
   rintro _ rfl
   refine VO.op rfl (OpE.alloc rfl hB rfl Tryz.zeroValue156 rfl ?_)
   intro g5
   refine VO.op rfl (OpE.store (i := 1) rfl hB rfl Tryz.sizeOf156 rfl rfl rfl rfl rfl rfl (Nle rfl) trivial ?_)
   refine VO.nil ?_
   refine VC.sr ?_
   refine VO.val rfl rfl (OpV.fieldAddrO 0 rfl Tryz.underlying156 rfl rfl Tryz.sizeOf3 rfl) ?_
   refine VO.val rfl rfl (OpV.load_own (i := 1) rfl hB Tryz.isAgg3 rfl rfl rfl (fun h => h)) ?_
   have hbn := badN_le l
   have hll := hs.len
   refine VO.val rfl rfl (OpV.mul rfl rfl rfl (by unfold fits; omega)) ?_
   refine VO.le _ (Le.recast (t := 20) (y := avI ((badN l * 1000000 : Nat) : Int)) rfl (fun w Z u h => by rw [Int.natCast_mul]; exact h)) ?_
   refine VO.val rfl rfl (OpV.fieldAddrO 1 rfl Tryz.underlying156 rfl rfl Tryz.sizeOf3 rfl) ?_
   refine VO.val rfl rfl (OpV.load_own (i := 1) rfl hB Tryz.isAgg3 rfl rfl rfl (fun h => h)) ?_
   refine VO.op rfl (OpE.call rfl hB rfl Tryz.call215 rfl (SpecN.spec (kit_Lowest (a := badN l * 1000000) (b := l.length) (by omega) (by omega) (by omega))) ?_)
   rintro _ rfl
   refine VO.op rfl (OpE.store (i := 0) rfl hB rfl Tryz.sizeOf180 rfl rfl rfl rfl rfl rfl (Nle rfl) trivial ?_)
   refine VO.ma rfl rfl rfl rfl ?_
   refine VO.nil ?_
   refine VC.ret ?_
   exact Exists.intro _ (And.intro (RetN.two Tryz.results149 ((by first | exact ResN.cellF (i := 0) Tryz.isAgg180 Tryz.sizeOf180 rfl rfl rfl (flat_ofB rfl) | exact ResN.cellF (i := 1) Tryz.isAgg180 Tryz.sizeOf180 rfl rfl rfl (flat_ofB rfl))) (ResN.v rfl)) (by rw [millN, if_pos (millE_0 (by omega) (by omega)), millE_0 (by omega) (by omega)]; rfl))
end Go.Proofs.YtdnlhdilpdeecaaGreatDoor
namespace Go.Proofs.YtdnlhdilpdeecaaGreatDoor
set_option linter.unusedVariables false
set_option linter.unusedSimpArgs false
section
variable {α : Type} (lt : α → α → Bool) (d : α)
def OrdL (l : List α) : Prop := l.Pairwise fun a b => lt b a = false
def InvO (l0 : List α) (i : Nat) (l : List α) : Prop := ∃ P R, l = P ++ R ∧ P.length = min i l.length ∧ l.Perm l0 ∧ OrdL lt P
def InvI (l0 : List α) (i j : Nat) (l : List α) : Prop := ∃ P x S R, l = P ++ x :: (S ++ R) ∧ P.length = j ∧ P.length + S.length = i ∧ l.Perm l0 ∧ OrdL lt (P ++ S) ∧ ∀ s ∈ S, lt x s = true
variable {lt d} {l0 l : List α} {i j : Nat}
theorem InvO.len (h : InvO lt l0 i l) : l.length = l0.length := h.choose_spec.choose_spec.2.2.1.length_eq
theorem InvI.len (h : InvI lt l0 i j l) : l.length = l0.length ∧ i < l.length ∧ j ≤ i := by
 obtain ⟨P, x, S, R, h1, h2, h3, h4, _⟩ := h
 refine ⟨h4.length_eq, ?_, by omega⟩
 rw [h1]; simp; omega
theorem InvO.one (l0 : List α) : InvO lt l0 1 l0 := by
 cases l0 with
 | nil => exact ⟨[], [], rfl, by simp, .refl _, .nil⟩
 | cons x r => exact ⟨[x], r, rfl, by simp, .refl _, List.pairwise_singleton _ _⟩
theorem InvO.start (h : InvO lt l0 i l) (hi : i < l.length) : InvI lt l0 i i l := by
 obtain ⟨P, R, h1, h2, h3, h4⟩ := h
 rw [Nat.min_eq_left (by omega)] at h2
 cases R with
 | nil => rw [h1] at hi; simp at hi; omega
 | cons x R => exact ⟨P, x, [], R, h1, h2, by simpa using h2, h3, by simpa using h4, by simp⟩
theorem snocOf {P : List α} (h : 0 < P.length) : ∃ Q y, P = Q ++ [y] := ⟨P.dropLast, P.getLast (by intro e; rw [e] at h; simp at h), (List.dropLast_concat_getLast _).symm⟩
theorem swap_eq {Q T : List α} {x y : α} : ((Q ++ y :: x :: T).set (Q.length + 1) y).set Q.length x = Q ++ x :: y :: T := by
 rw [List.set_append_right _ _ (by omega), show Q.length + 1 - Q.length = 1 by omega, List.set_append_right _ _ (by omega), Nat.sub_self]
 rfl
theorem at0 {Q T : List α} {y : α} : (Q ++ y :: T).getD Q.length d = y := by simp [List.getD_eq_getElem?_getD]
theorem at1 {Q T : List α} {x y : α} : (Q ++ y :: x :: T).getD (Q.length + 1) d = x := by
 simp [List.getD_eq_getElem?_getD, List.getElem?_append_right]
theorem InvI.next (ht : ∀ {a b c : α}, lt a b = true → lt b c = true → lt a c = true) (h : InvI lt l0 i j l) (hj : 0 < j) (hlt : lt (l.getD j d) (l.getD (j - 1) d) = true) :
  InvI lt l0 i (j - 1) ((l.set j (l.getD (j - 1) d)).set (j - 1) (l.getD j d)) := by
 obtain ⟨P, x, S, R, h1, h2, h3, h4, h5, h6⟩ := h
 obtain ⟨Q, y, rfl⟩ := snocOf (P := P) (by omega)
 have hl : l = Q ++ y :: x :: (S ++ R) := by rw [h1]; simp
 have hj' : j = Q.length + 1 := by rw [← h2]; simp
 subst hj'
 rw [hl] at hlt ⊢
 rw [at1, show Q.length + 1 - 1 = Q.length by omega, at0] at hlt
 rw [at1, show Q.length + 1 - 1 = Q.length by omega, at0, swap_eq]
 refine ⟨Q, x, y :: S, R, by simp, rfl, by simp at h3 ⊢; omega, ?_, by simpa using h5, ?_⟩
 ·rw [hl] at h4
  exact ((List.Perm.swap y x (S ++ R)).append_left Q).trans h4
 ·intro s hs
  rcases List.mem_cons.1 hs with rfl | hs
  ·exact hlt
  ·exact h6 s hs
theorem InvI.done (ha : ∀ {a b : α}, lt a b = true → lt b a = false) (hn : ∀ {a b c : α}, lt b a = false → lt c b = false → lt c a = false) (h : InvI lt l0 i j l) (hx : j = 0 ∨ lt (l.getD j d) (l.getD (j - 1) d) = false) : InvO lt l0 (i + 1) l := by
 obtain ⟨P, x, S, R, h1, h2, h3, h4, h5, h6⟩ := h
 refine ⟨P ++ x :: S, R, by rw [h1]; simp, by rw [h1]; simp; omega, h4, ?_⟩
 unfold OrdL at h5 ⊢
 obtain ⟨k1, k2, k3⟩ := List.pairwise_append.1 h5
 refine List.pairwise_append.2 ⟨k1, List.pairwise_cons.2 ⟨fun s hs => ha (h6 s hs), k2⟩, fun a hA b hb => ?_⟩
 rcases List.mem_cons.1 hb with rfl | hb
 ·rcases hx with hx | hx
  ·subst hx; rw [List.eq_nil_of_length_eq_zero h2] at hA; cases hA
  ·obtain ⟨Q, y, rfl⟩ := snocOf (P := P) (List.length_pos_of_mem hA)
   have hl : l = Q ++ y :: b :: (S ++ R) := by rw [h1]; simp
   have hj' : j = Q.length + 1 := by rw [← h2]; simp
   subst hj'
   rw [hl, at1, show Q.length + 1 - 1 = Q.length by omega, at0] at hx
   rcases List.mem_append.1 hA with hA | hA
   ·have := (List.pairwise_append.1 k1).2.2 a hA y (by simp)
    exact hn this hx
   ·simp at hA; subst hA; exact hx
 ·exact k3 a hA b hb
theorem InvO.all (h : InvO lt l0 i l) (hi : l.length ≤ i) : l.Perm l0 ∧ OrdL lt l := by
 obtain ⟨P, R, h1, h2, h3, h4⟩ := h
 rw [Nat.min_eq_right hi] at h2
 have : R = [] := by rw [h1] at h2; simpa using h2
 subst this
 rw [List.append_nil] at h1
 subst h1
 exact ⟨h3, h4⟩
theorem ord_unique : ∀ {l r : List α}, l.Perm r → l.Nodup → (∀ a ∈ l, ∀ b ∈ l, a ≠ b → lt a b = false → lt b a = true) → OrdL lt l → OrdL lt r → l = r
 | [], r, h, _, _, _, _ => (List.nil_perm.1 h).symm
 | x :: l, [], h, _, _, _, _ => by simp at h
 | x :: l, y :: r, h, hd, ht, h1, h2 => by
  obtain ⟨h1a, h1b⟩ := List.pairwise_cons.1 h1
  obtain ⟨h2a, h2b⟩ := List.pairwise_cons.1 h2
  have hxy : x = y := by
   by_cases e : x = y
   ·exact e
   ·exfalso
    have hy : y ∈ l := by
     have := h.symm.subset (List.mem_cons_self (a := y) (l := r))
     rcases List.mem_cons.1 this with e' | h'
     ·exact absurd e'.symm e
     ·exact h'
    have hx : x ∈ r := by
     have := h.subset (List.mem_cons_self (a := x) (l := l))
     rcases List.mem_cons.1 this with e' | h'
     ·exact absurd e' e
     ·exact h'
    have q1 := h1a y hy
    have q2 := h2a x hx
    have := ht x (by simp) y (by simp [hy]) e q2
    rw [this] at q1; cases q1
  subst hxy
  rw [ord_unique ((List.perm_cons x).1 h) (List.nodup_cons.1 hd).2 (fun a ha b hb => ht a (by simp [ha]) b (by simp [hb])) h1b h2b]
end
end Go.Proofs.YtdnlhdilpdeecaaGreatDoor
namespace Go.Proofs.YtdnlhdilpdeecaaGreatDoor
open Go.RowKit
set_option linter.unusedVariables false
set_option linter.unusedSimpArgs false
section
variable {α : Type} [Inhabited α] [Sxc α]
theorem rowL_cut {xs : List α} {q k : Nat} (hk : k = Sxc.k α) (h : q < xs.length) : cutL (rowL xs) (0 + q * k) k = some (tab (Sxc.k α) (Sxc.cell (xs.getD q default))) := by
 subst hk
 have hle : 0 + q * Sxc.k α + Sxc.k α ≤ (rowL xs).length := by
  rw [rowL_len, Nat.zero_add]
  have : (q + 1) * Sxc.k α ≤ xs.length * Sxc.k α := Nat.mul_le_mul_right _ h
  rw [Nat.add_mul] at this; omega
 unfold cutL
 rw [show Nat.ble (0 + q * Sxc.k α + Sxc.k α) (rowL xs).length = true from Nat.ble_eq_true_of_le hle]
 simp only
 congr 1
 apply List.ext_getElem?
 intro i
 by_cases hi : i < Sxc.k α
 ·rw [List.getElem?_take_of_lt hi, List.getElem?_drop, rowL_at rfl h hi, List.getElem?_eq_getElem (by rw [tab_len]; exact hi), tab_get]
 ·rw [List.getElem?_eq_none (by rw [List.length_take]; omega), List.getElem?_eq_none (by rw [tab_len]; omega)]
theorem rowL_inE {xs : List α} {q k : Nat} (hk : k = Sxc.k α) (h : q < xs.length) : 0 + q * k + k ≤ (rowL xs).length := by
 subst hk
 rw [rowL_len, Nat.zero_add]
 have : (q + 1) * Sxc.k α ≤ xs.length * Sxc.k α := Nat.mul_le_mul_right _ h
 rw [Nat.add_mul] at this; omega
theorem setAll_gt : ∀ (r cs : List AV) (off i : Nat), off + r.length ≤ cs.length → (setAll cs off r)[i]? = if off ≤ i ∧ i < off + r.length then r[i - off]? else cs[i]?
 | [], cs, off, i, h => by simp [setAll]; intro h1 h2; omega
 | x :: r, cs, off, i, h => by
  simp only [List.length_cons] at h
  rw [setAll, setAll_gt r _ (off + 1) i (by simp; omega)]
  by_cases h1 : i = off
  ·subst h1
   rw [if_neg (by omega), if_pos (by simp only [List.length_cons]; omega), Nat.sub_self, List.getElem?_set_self (by omega)]
   rfl
  ·rw [List.getElem?_set_ne (by omega)]
   by_cases h2 : off ≤ i ∧ i < off + (r.length + 1)
   ·rw [if_pos (by omega), if_pos (by simpa using h2), show i - off = (i - (off + 1)) + 1 by omega, List.getElem?_cons_succ]
   ·rw [if_neg (by omega), if_neg (by simpa using h2)]
theorem rowL_get' (xs : List α) {i : Nat} (hi : i < xs.length * Sxc.k α) : (rowL xs)[i]? = some (Sxc.cell (xs.getD (i / Sxc.k α) default) (i % Sxc.k α)) := by
 have hp := Sxc.pos (α := α)
 have h1 : i / Sxc.k α < xs.length := Nat.div_lt_of_lt_mul (by rw [Nat.mul_comm]; exact hi)
 have h2 := rowL_get xs (i / Sxc.k α) (i % Sxc.k α) h1 (Nat.mod_lt _ hp)
 rw [Nat.mul_comm, Nat.div_add_mod] at h2
 exact h2
theorem rowL_setAll {xs : List α} {q k : Nat} {x : α} (hk : k = Sxc.k α) (h : q < xs.length) : setAll (rowL xs) (0 + q * k) (tab (Sxc.k α) (Sxc.cell x)) = rowL (xs.set q x) := by
 subst hk
 have hp := Sxc.pos (α := α)
 have hle : 0 + q * Sxc.k α + Sxc.k α ≤ xs.length * Sxc.k α := by
  have : (q + 1) * Sxc.k α ≤ xs.length * Sxc.k α := Nat.mul_le_mul_right _ h
  rw [Nat.add_mul] at this; omega
 apply List.ext_getElem?
 intro i
 rw [setAll_gt _ _ _ _ (by rw [tab_len, rowL_len]; exact hle), tab_len]
 by_cases hi : i < xs.length * Sxc.k α
 ·rw [rowL_get' (xs.set q x) (by rw [List.length_set]; exact hi)]
  by_cases hr : 0 + q * Sxc.k α ≤ i ∧ i < 0 + q * Sxc.k α + Sxc.k α
  ·rw [if_pos hr]
   have e1 : i / Sxc.k α = q := Nat.div_eq_of_lt_le (by omega) (by rw [Nat.add_mul]; omega)
   have e2 : i % Sxc.k α = i - (0 + q * Sxc.k α) := by
    have := Nat.div_add_mod i (Sxc.k α); rw [e1, Nat.mul_comm] at this; omega
   rw [e1, e2, List.getElem?_eq_getElem (by rw [tab_len]; omega), tab_get]
   simp [List.getD_eq_getElem?_getD, h]
  ·rw [if_neg hr, rowL_get' xs hi]
   have e1 : i / Sxc.k α ≠ q := fun e => by
    have h1 := Nat.div_add_mod i (Sxc.k α)
    have h2 := Nat.mod_lt i hp
    rw [e, Nat.mul_comm] at h1
    exact hr ⟨by omega, by omega⟩
   simp [List.getD_eq_getElem?_getD, List.getElem?_set_ne (Ne.symm e1)]
 ·rw [if_neg (by omega), List.getElem?_eq_none (by rw [rowL_len]; omega), List.getElem?_eq_none (by rw [rowL_len, List.length_set]; omega)]
end
section
variable {P : Program} {B : Bs} {W : Nat → Prop} {s : St'} {o : Oper} {K : St' → Prop}
theorem OpE.storeE {x y : Operand} {t g j i k : Nat} {o' : Own'} {v : AV} {cs' : List AV} (ho : o.op = .store t x y) (hB : B.Ok) (hd : okd B.nt o.dst = true) (hsz : ∀ w, (sizeOf t).run P w = .ok k w) (hx : evO s x = some (.v (.pointer (some ⟨g, j, none⟩)))) (hy : evO s y = some v)
  (hk : v.known = true) (hl : (cellsOf v).length = k) (hone : (cellsOf v).all AV.one = true) (hi : s.hp[i]? = some (.box g o')) (hj : j + k ≤ o'.cs.length) (hcs : setAll o'.cs j (cellsOf v) = cs') (hW : W g)
  (hK : K ((St'.mk s.sl (s.hp.set i (.box g ⟨cs', o'.ty, o'.tot⟩)) s.k).put o.dst (.v undef))) : OpE P B W s o K := by
 subst hcs
 exact OpE.store ho hB hd hsz hx hy hk hl hone hi hj hW hK
end
end Go.Proofs.YtdnlhdilpdeecaaGreatDoor
namespace Go.Proofs
open Go.Shelf
def Tryz.keys123_ren : Go.Shelf.Ren := ⟨fun | 7 => 123 | 10 => 203 | n => n, fun | 23 => 151 | 26 => 9 | 3 => 156 | 28 => 160 | 0 => 0 | 27 => 159 | 33 => 74 | 4 => 4 | n => n, fun | n => n⟩
theorem Tryz.keys123 : Go.Proofs.SlLaysZ.n7 Tryz.prog Tryz.keys123_ren := {
 mixed := by kernel_rfl
 f7 := ⟨Tryz.f123.name, by decide, Tryz.func123.trans (congrArg some (by kernel_rfl))⟩
 f10 := ⟨Tryz.f203.name, by decide, Tryz.func203.trans (congrArg some (by kernel_rfl))⟩
 t0 := Tryz.underlying0
 a0 := Tryz.isAgg0
 z0 := Tryz.sizeOf0
 v0 := Tryz.zeroValue0
 t4 := Tryz.underlying4
 a4 := Tryz.isAgg4
 z4 := Tryz.sizeOf4
 v4 := Tryz.zeroValue4
 t23 := Tryz.underlying151
 a23 := Tryz.isAgg151
 z23 := Tryz.sizeOf151
 v23 := Tryz.zeroValue151
 t26 := Tryz.underlying9
 a26 := Tryz.isAgg9
 z26 := Tryz.sizeOf9
 v26 := Tryz.zeroValue9
 t27 := Tryz.underlying159
 a27 := Tryz.isAgg159
 z27 := Tryz.sizeOf159
 v27 := Tryz.zeroValue159
 t28 := Tryz.underlying160
 a28 := Tryz.isAgg160
 z28 := Tryz.sizeOf160
 v28 := Tryz.zeroValue160
 t33 := Tryz.underlying74
 a33 := Tryz.isAgg74
 z33 := Tryz.sizeOf74
 v33 := Tryz.zeroValue74 }
def Tryz.sorted122_ren : Go.Shelf.Ren := ⟨fun | 6 => 122 | 8 => 202 | 9 => 101 | 11 => 272 | 13 => 191 | 12 => 190 | 23 => 254 | 24 => 255 | 14 => 245 | 15 => 246 | 16 => 247 | 17 => 248 | 18 => 249 | 19 => 250 | 20 => 251 | 21 => 252 | 22 => 253 | 25 => 307 | 26 => 308 | 27 => 309 | 28 => 310 | 29 => 311 | 30 => 312 | 31 => 347 | n => n, fun | 26 => 9 | 28 => 160 | 24 => 29 | 0 => 0 | 3 => 3 | 37 => 121 | 48 => 222 | 50 => 225 | 4 => 4 | 40 => 286 | 39 => 285 | 45 => 142 | 5 => 5 | 9 => 9 | 51 => 332 | 55 => 336 | 57 => 362 | 58 => 363 | 33 => 74 | n => n, fun | n => n⟩
theorem Tryz.sorted122 : Go.Proofs.SlLaysZ.n6 Tryz.prog Tryz.sorted122_ren := {
 mixed := by kernel_rfl
 f6 := ⟨Tryz.f122.name, by decide, Tryz.func122.trans (congrArg some (by kernel_rfl))⟩
 f8 := ⟨Tryz.f202.name, by decide, Tryz.func202.trans (congrArg some (by kernel_rfl))⟩
 f11 := ⟨Tryz.f272.name, by decide, Tryz.func272.trans (congrArg some (by kernel_rfl))⟩
 t0 := Tryz.underlying0
 a0 := Tryz.isAgg0
 z0 := Tryz.sizeOf0
 v0 := Tryz.zeroValue0
 t24 := Tryz.underlying29
 a24 := Tryz.isAgg29
 z24 := Tryz.sizeOf29
 v24 := Tryz.zeroValue29
 t26 := Tryz.underlying9
 a26 := Tryz.isAgg9
 z26 := Tryz.sizeOf9
 v26 := Tryz.zeroValue9
 t28 := Tryz.underlying160
 a28 := Tryz.isAgg160
 z28 := Tryz.sizeOf160
 v28 := Tryz.zeroValue160
 i26 := by kernel_rfl }
def Tryz.sort101_ren : Go.Shelf.Ren := ⟨fun | 6 => 101 | 8 => 191 | 9 => 190 | 19 => 254 | 20 => 255 | 21 => 245 | 22 => 246 | 23 => 247 | 24 => 248 | 25 => 249 | 26 => 250 | 27 => 251 | 28 => 252 | 29 => 253 | 36 => 307 | 31 => 308 | 32 => 309 | 37 => 310 | 38 => 311 | 39 => 312 | 41 => 347 | n => n, fun | 27 => 29 | 29 => 9 | 3 => 3 | 32 => 121 | 26 => 29 | 0 => 0 | 44 => 222 | 46 => 225 | 4 => 4 | 36 => 286 | 35 => 285 | 41 => 142 | 5 => 5 | 9 => 9 | 53 => 332 | 57 => 336 | 63 => 362 | 64 => 363 | n => n, fun | n => n⟩
theorem Tryz.sort101 : Go.Proofs.SlLaysM.n6 Tryz.prog Tryz.sort101_ren := {
 mixed := by kernel_rfl
 f6 := ⟨Tryz.f101.name, by decide, Tryz.func101.trans (congrArg some (by kernel_rfl))⟩
 f8 := Tryz.func191.trans (congrArg some (by kernel_rfl))
 f9 := ⟨Tryz.f190.name, by decide, Tryz.func190.trans (congrArg some (by kernel_rfl))⟩
 f19 := Tryz.func254.trans (congrArg some (by kernel_rfl))
 f20 := Tryz.func255.trans (congrArg some (by kernel_rfl))
 f21 := ⟨Tryz.f245.name, by decide, Tryz.func245.trans (congrArg some (by kernel_rfl))⟩
 f22 := ⟨Tryz.f246.name, by decide, Tryz.func246.trans (congrArg some (by kernel_rfl))⟩
 f23 := ⟨Tryz.f247.name, by decide, Tryz.func247.trans (congrArg some (by kernel_rfl))⟩
 f24 := ⟨Tryz.f248.name, by decide, Tryz.func248.trans (congrArg some (by kernel_rfl))⟩
 f25 := ⟨Tryz.f249.name, by decide, Tryz.func249.trans (congrArg some (by kernel_rfl))⟩
 f26 := ⟨Tryz.f250.name, by decide, Tryz.func250.trans (congrArg some (by kernel_rfl))⟩
 f27 := ⟨Tryz.f251.name, by decide, Tryz.func251.trans (congrArg some (by kernel_rfl))⟩
 f28 := ⟨Tryz.f252.name, by decide, Tryz.func252.trans (congrArg some (by kernel_rfl))⟩
 f29 := ⟨Tryz.f253.name, by decide, Tryz.func253.trans (congrArg some (by kernel_rfl))⟩
 f31 := Tryz.func308.trans (congrArg some (by kernel_rfl))
 f32 := Tryz.func309.trans (congrArg some (by kernel_rfl))
 f36 := ⟨Tryz.f307.name, by decide, Tryz.func307.trans (congrArg some (by kernel_rfl))⟩
 f37 := ⟨Tryz.f310.name, by decide, Tryz.func310.trans (congrArg some (by kernel_rfl))⟩
 f38 := ⟨Tryz.f311.name, by decide, Tryz.func311.trans (congrArg some (by kernel_rfl))⟩
 f39 := ⟨Tryz.f312.name, by decide, Tryz.func312.trans (congrArg some (by kernel_rfl))⟩
 f41 := ⟨Tryz.f347.name, by decide, Tryz.func347.trans (congrArg some (by kernel_rfl))⟩
 t0 := Tryz.underlying0
 a0 := Tryz.isAgg0
 z0 := Tryz.sizeOf0
 v0 := Tryz.zeroValue0
 t3 := Tryz.underlying3
 a3 := Tryz.isAgg3
 z3 := Tryz.sizeOf3
 v3 := Tryz.zeroValue3
 t4 := Tryz.underlying4
 a4 := Tryz.isAgg4
 z4 := Tryz.sizeOf4
 v4 := Tryz.zeroValue4
 t5 := Tryz.underlying5
 a5 := Tryz.isAgg5
 z5 := Tryz.sizeOf5
 v5 := Tryz.zeroValue5
 t9 := Tryz.underlying9
 a9 := Tryz.isAgg9
 z9 := Tryz.sizeOf9
 v9 := Tryz.zeroValue9
 t26 := Tryz.underlying29
 a26 := Tryz.isAgg29
 z26 := Tryz.sizeOf29
 v26 := Tryz.zeroValue29
 t27 := Tryz.underlying29
 a27 := Tryz.isAgg29
 z27 := Tryz.sizeOf29
 v27 := Tryz.zeroValue29
 t29 := Tryz.underlying9
 a29 := Tryz.isAgg9
 z29 := Tryz.sizeOf9
 v29 := Tryz.zeroValue9
 t32 := Tryz.underlying121
 a32 := Tryz.isAgg121
 z32 := Tryz.sizeOf121
 v32 := Tryz.zeroValue121
 t35 := Tryz.underlying285
 a35 := Tryz.isAgg285
 z35 := Tryz.sizeOf285
 v35 := Tryz.zeroValue285
 t36 := Tryz.underlying286
 a36 := Tryz.isAgg286
 z36 := Tryz.sizeOf286
 v36 := Tryz.zeroValue286
 t41 := Tryz.underlying142
 a41 := Tryz.isAgg142
 z41 := Tryz.sizeOf142
 v41 := Tryz.zeroValue142
 t44 := Tryz.underlying222
 a44 := Tryz.isAgg222
 z44 := Tryz.sizeOf222
 v44 := Tryz.zeroValue222
 t46 := Tryz.underlying225
 a46 := Tryz.isAgg225
 z46 := Tryz.sizeOf225
 v46 := Tryz.zeroValue225
 t53 := Tryz.underlying332
 a53 := Tryz.isAgg332
 z53 := Tryz.sizeOf332
 v53 := Tryz.zeroValue332
 t57 := Tryz.underlying336
 a57 := Tryz.isAgg336
 z57 := Tryz.sizeOf336
 v57 := Tryz.zeroValue336
 t63 := Tryz.underlying362
 a63 := Tryz.isAgg362
 z63 := Tryz.sizeOf362
 v63 := Tryz.zeroValue362
 t64 := Tryz.underlying363
 a64 := Tryz.isAgg363
 z64 := Tryz.sizeOf363
 v64 := Tryz.zeroValue363 }
end Go.Proofs
namespace Go.Proofs.YtdnlhdilpdeecaaGreatDoor
open Go.RowKit Go.Maps Go.Sort Go.Shelf
set_option linter.unusedVariables false
set_option linter.unusedSimpArgs false

def bytesOf (l : List UInt8) : ByteArray := ⟨l.toArray⟩
def sKeys {α : Type} (l : List (ByteArray × α)) : List ByteArray := ((l.map fun p => p.1.data.toList).mergeSort (fun x y => decide (x ≤ y))).map bytesOf
theorem sKeys_len {α : Type} (l : List (ByteArray × α)) : (sKeys l).length = l.length := by simp [sKeys]
theorem sKeys_mem {α : Type} {l : List (ByteArray × α)} {x : ByteArray} : x ∈ sKeys l ↔ x ∈ l.map (·.1) := by
 simp only [sKeys, List.mem_map, List.mem_mergeSort, bytesOf]
 constructor
 ·rintro ⟨_, ⟨p, hp, rfl⟩, rfl⟩; exact ⟨p, hp, by simp⟩
 ·rintro ⟨p, hp, rfl⟩; exact ⟨_, ⟨p, hp, rfl⟩, by simp⟩
theorem mput_keys {α : Type} (l : List (ByteArray × α)) (k : ByteArray) (x : α) : (mput l k x).map (·.1) = if mpos l k < l.length then l.map (·.1) else l.map (·.1) ++ [k] := by
 split
 ·rename_i h
  rw [mput_old l k x h, List.map_set]
  have := mpos_key l k h
  refine List.ext_getElem (by simp) fun i h1 h2 => ?_
  simp only [List.length_set, List.length_map] at h1
  rw [List.getElem_set]
  split
  ·rename_i e; subst e; simp [this]
  ·simp
 ·rename_i h
  rw [mput_new l k x (by have := mpos_le l k; omega)]; simp
theorem mpos_mem {α : Type} {l : List (ByteArray × α)} {k : ByteArray} : mpos l k < l.length ↔ k ∈ l.map (·.1) := by
 constructor
 ·intro h; exact List.mem_map.2 ⟨_, List.getElem_mem h, mpos_key l k h⟩
 ·intro h
  obtain ⟨p, hp, e⟩ := List.mem_map.1 h
  obtain ⟨j, hj, ej⟩ := List.getElem_of_mem hp
  by_cases h1 : mpos l k < l.length
  ·exact h1
  ·have hle := mpos_le l k
   obtain ⟨_, h2⟩ := mpos_ne l k j (by omega)
   exact absurd (by rw [ej]; exact e) h2
theorem mput_nodup {α : Type} {l : List (ByteArray × α)} (h : (l.map (·.1)).Nodup) (k : ByteArray) (x : α) : ((mput l k x).map (·.1)).Nodup := by
 rw [mput_keys]
 split
 ·exact h
 ·rename_i h1
  rw [mpos_mem] at h1
  exact List.nodup_append.2 ⟨h, by simp, fun a ha b hb => by simp at hb; subst hb; exact fun e => h1 (e ▸ ha)⟩
theorem mput_mem {α : Type} {l : List (ByteArray × α)} {k : ByteArray} {x : α} {q : ByteArray} : q ∈ (mput l k x).map (·.1) ↔ q ∈ l.map (·.1) ∨ q = k := by
 rw [mput_keys]
 split
 ·rename_i h1
  rw [mpos_mem] at h1
  exact ⟨.inl, fun h => h.elim id fun e => e ▸ h1⟩
 ·simp

section
variable {P : Program} {w : World} {kt : TypeId}
end

section
theorem sortsK (m : Nat) : AnyZ.SortsIn Tryz.prog Tryz.sorted122_ren Fence.wide m :=
  ⟨fun blk off cap ss W hH hblk hsz => callsIn_wide.2 (AnyM.slices_Sort_string Tryz.sort101 blk off cap ss W hH hblk hsz),
   fun p cap W => callsIn_wide.2 (AnyM.slices_Sort_string_none Tryz.sort101 p cap W)⟩
end
end Go.Proofs.YtdnlhdilpdeecaaGreatDoor
namespace Go.Proofs.YtdnlhdilpdeecaaGreatDoor
open Go.RowKit
set_option linter.unusedVariables false
set_option linter.unusedSimpArgs false

structure PlaceS where
 name : ByteArray
 part : ByteArray
 x : Int
 y : Int
 quarter : Int
instance : Inhabited PlaceS := ⟨⟨ByteArray.empty, ByteArray.empty, 0, 0, 0⟩⟩
instance : Sxc PlaceS where
 k := 5
 pos := by decide
 cell m j := match j with
  | 0 => avS m.name
  | 1 => avS m.part
  | 2 => avI m.x
  | 3 => avI m.y
  | 4 => avI m.quarter
  | _ => .any
structure ProdS where
 key : ByteArray
 wide : Int
 high : Int
 places : List PlaceS
instance : Inhabited ProdS := ⟨⟨ByteArray.empty, 0, 0, []⟩⟩
section
variable {p : ProdS} {i : Nat}
end
theorem mget_mput {α : Type} : ∀ (l : List (ByteArray × α)) (k k' : ByteArray) (x : α), mget (mput l k x) k' = if k' = k then some x else mget l k'
 | [], k, k', x => by simp [mput, mget]
 | p :: r, k, k', x => by
  by_cases e : k = p.1
  ·subst e
   simp only [mput, if_true, mget]
   by_cases e2 : k' = p.1
   ·simp [e2]
   ·simp [e2]
  ·simp only [mput, if_neg e, mget]
   by_cases e2 : k' = p.1
   ·rw [if_pos e2, if_neg (fun h => e (h.symm.trans e2))]; simp [e2]
   ·rw [if_neg e2, mget_mput r k k' x]; simp [e2]
theorem mgetD_mput {α : Type} (l : List (ByteArray × α)) (k k' : ByteArray) (x z : α) : mgetD (mput l k x) k' z = if k' = k then x else mgetD l k' z := by
 unfold mgetD; rw [mget_mput]; split <;> rfl
end Go.Proofs.YtdnlhdilpdeecaaGreatDoor
namespace Go.Proofs.YtdnlhdilpdeecaaGreatDoor
open Go.RowKit
set_option linter.unusedVariables false
set_option linter.unusedSimpArgs false
section
variable {P : Program}
theorem run_next_it (w : World) (ty : TypeId) (m g clk : Nat) (sb : Array Nat) (c : Array MapEntry) (hg : w.heap[g]? = some (.mapIter (some m) clk sb clk)) (hm : w.heap[m]? = some (.map c clk)) (hold : ∀ x ∈ c.toList, x.born < clk) :
    ((leftOf c sb).size = 0 ∧ (Instr.next (.pointer (some ⟨g, 0, none⟩)) false ty).run P w = .ok (.tuple #[.bool false]) w) ∨
    ∃ e ∈ (leftOf c sb).toList, ∃ w1 : World, (w1 = w ∨ w1 = w.drew) ∧ (Instr.next (.pointer (some ⟨g, 0, none⟩)) false ty).run P w = .ok (.tuple #[.bool true, e.key, e.val]) { w1 with heap := w1.heap.setIfInBounds g (.mapIter (some m) clk (sb.push e.born) clk) } := by
  simp only [Instr.next, getObj, Sem.run_bind, Sem.run, hg, hm, Result.andThen, next_test_false sb c clk clk hold (Nat.le_refl _), Bool.false_eq_true, if_false]
  unfold leftOf
  have hmem : ∀ x ∈ (Array.filter (fun e => !sb.contains e.born) c).toList, x.born < clk := fun x hx => hold x (by simp at hx ⊢; exact hx.1)
  generalize Array.filter (fun e => !sb.contains e.born) c = L at hmem ⊢
  have e1 : L.filter (fun x => decide (x.born < clk)) = L := Array.filter_eq_self.2 (fun x hx => by simpa using hmem x (by simpa using hx))
  have e2 : L.filter (fun x => decide (x.born ≥ clk)) = #[] := by
    rw [Array.filter_eq_empty_iff]
    intro x hx
    have := hmem x (by simpa using hx)
    simp
    omega
  simp only [e1, e2, Array.append_empty]
  by_cases h0 : L.size = 0
  · left
    have : L = #[] := Array.eq_empty_of_size_eq_zero h0
    subst this
    refine ⟨rfl, ?_⟩
    simp [choose, Sem.run, Question.forced]
  · right
    have hne : L.isEmpty = false := by simp [Array.isEmpty, h0]
    simp only [hne, Bool.false_eq_true, if_false, Array.empty_append, Array.size_map]
    have hch : ∃ (j : Nat) (w1 : World), j < L.size ∧ (w1 = w ∨ w1 = w.drew) ∧ (choose (Question.mapNext L.size)).run P w = .ok j w1 := by
      by_cases hf : L.size ≤ 1
      · exact ⟨0, w, by omega, .inl rfl, by simp [choose, Sem.run, Question.forced, hf]⟩
      · exact ⟨_, w.drew, Nat.mod_lt _ (by omega), .inr rfl, by
          simp only [choose, Sem.run, Question.forced, decide_eq_true_eq, hf, if_false, Question.cut]
          rfl⟩
    obtain ⟨j, w1, hj, hal, hrun⟩ := hch
    refine ⟨L[j], by simp, w1, hal, ?_⟩
    have hg1 : w1.heap[g]? = some (.mapIter (some m) clk sb clk) := by rcases hal with rfl | rfl <;> exact hg
    simp only [hrun, Array.getElem?_map, Array.getElem?_eq_getElem hj, Option.map_some, Sem.run_bind, setObj, Sem.run, hg1, Result.andThen]
    rfl
theorem run_entry_it (w : World) (m g clk : Nat) (sb : Array Nat) (c : Array MapEntry) (e : MapEntry) (hg : w.heap[g]? = some (.mapIter (some m) clk sb clk)) (hm : w.heap[m]? = some (.map c clk)) (he : e ∈ c.toList) (hn : (c.toList.map (·.born)).Nodup) (hb : sb.back? = some e.born) :
  (Instr.entry (.pointer (some ⟨g, 0, none⟩))).run P w = .ok (.tuple #[e.key, e.val]) w := by
 have hf : c.find? (·.born == e.born) = some e := by rw [← Array.find?_toList]; exact find_born e c.toList hn he
 simp only [Instr.entry, getObj, Sem.run_bind, Sem.run, hg, hm, Result.andThen, hb, bne_self_eq_false, Bool.false_eq_true, if_false, hf]
 rfl
end
section
variable {κ α : Type} [Inhabited κ] [Inhabited α] {P : Program} {B : Bs} {W : Nat → Prop} {s : St'} {o : Oper} {K : St' → Prop} {kv : κ → Value} {E : α → AV}
abbrev avMap (kv : κ → Value) (E : α → AV) (l : List (κ × α)) : AV := .mpv l.length (fun j => kv (l.getD j default).1) (fun j => E (l.getD j default).2)
theorem getD_lt' {β : Type} [Inhabited β] (l : List β) {j : Nat} (h : j < l.length) : l.getD j default = l[j] := by rw [List.getD_eq_getElem?_getD, List.getElem?_eq_getElem h]; rfl
theorem born_nodup {c : Array MapEntry} {n : Nat} (hn : c.size = n) (h : ∀ j, j < n → (c[j]!).born = j) : (c.toList.map (·.born)).Nodup := by
 have : c.toList.map (·.born) = List.range n := by
  apply List.ext_getElem (by simp [hn])
  intro i h1 h2
  simp at h1 h2
  have := h i h2
  rw [getElem!_pos c i h1] at this
  simpa using this
 rw [this]; exact List.nodup_range
theorem Le.freezeM {t i g : Nat} {l : List (κ × α)} (hB : B.Ok) (hnew : True) (ht : look s.sl t = some (.v (.map (some g)))) (hi : s.hp[i]? = some (mapE kv g E l)) : Le B s ⟨(t, avMap kv E l) :: s.sl, s.hp.eraseIdx i, s.k⟩ := fun a w hr => by
 have hm := List.mem_of_getElem? hi
 have hr' := hr.erase i
 refine hr'.over t ?_
 have hu : a.tmps.getD t undef = _ := (hr.slots t _ ht).eq_v
 rw [hu]
 obtain ⟨c, h1, h2, h3⟩ := EntR.toMap (hr.blocks _ hm)
 refine .mpv _ _ _ g c l.length (hr.erased hB hi rfl) h1 h2 (fun j hj => ?_) (born_nodup h2 fun j hj => (h3 j hj).2.1) fun j hj => ?_
 ·obtain ⟨k1, k2, _⟩ := h3 j hj
  rw [k1, k2, getD_lt' l hj]; exact ⟨rfl, hj⟩
 ·obtain ⟨_, _, k3⟩ := h3 j hj
  rw [getD_lt' l hj]
  exact k3.keep fun b hb _ => ⟨rfl, hb.1, fun p hp => hb.2.1 p ((List.eraseIdx_sublist s.hp i).subset hp), hb.2.2⟩
end
section
variable {P : Program} {B : Bs} {W : Nat → Prop} {s : St'} {o : Oper} {K : St' → Prop} {n : Nat} {ks : Nat → Value} {f : Nat → AV}
theorem OpE.rangeM {t kt e : TypeId} {x : Operand} (ho : o.op = .range t x) (hB : B.Ok) (hd : okd B.nt o.dst = true) (hu : P.underlying t = some (.map kt e)) (hx : evO s x = some (.mpv n ks f))
  (hK : ∀ g, K ((St'.mk s.sl (s.hp ++ [.it g n ks f []]) s.k).put o.dst (.v (.pointer (some ⟨g, 0, none⟩))))) : OpE P B W s o K := by
 intro a w hr next Qx hn
 have hv := hr.ev hx
 generalize hxe : a.eval x = v at hv
 cases hv with
 | mpv n ks f b es clk hZ hb hes hk hdd hrr =>
  have hlt : b < w.heap.size := hZ.1
  have h1 := hr.new hB (.mapIter (some b) clk #[] clk) (.it w.heap.size n ks f []) rfl ⟨b, es, clk, clk, #[], by
    refine ⟨by simp; omega, fun p hp => ?_, hZ.2.2⟩
    rcases List.mem_append.1 hp with hp | hp
    ·exact hZ.2.1 p hp
    ·simp at hp; subst hp; intro h; simp [Ent.blk] at h; omega, by rw [@Go.heap_alloc_old w _ _ hlt]; exact hb, hes, hdd, fun j hj => ⟨(hk j hj).1, (hk j hj).2, (hrr j hj).keep fun b' hb' hl' => ⟨Below.heap_alloc _ _ _ hl', by simp; omega, fun p hp => by
     rcases List.mem_append.1 hp with hp | hp
     ·exact hb'.2.1 p hp
     ·simp at hp; subst hp; intro h; simp [Ent.blk] at h; omega, hb'.2.2⟩⟩, Go.heap_alloc_new w _, ⟨rfl, fun j h => by simp at h⟩, fun j hj => by simp⟩
  have hrun : (execOp a.eval o).run P w = .ok (.value (.pointer (some ⟨w.heap.size, 0, none⟩))) (w.alloc (.mapIter (some b) clk #[] clk)) := by
   simp [execOp, ho, hxe, run_range_map w t kt e b es clk hu hb]
  unfold Oper.wp
  rw [hrun]
  exact hn _ _ _ (hK _) (h1.put _ hd _ _ (.v _)) (.ofN ((Chg.refl _ _).alloc _))
theorem OpE.nextM {x : Operand} {g i : Nat} {seen : List Nat} (ho : o.op = .next x false) (hB : B.Ok) (hd : okd B.nt o.dst = true) (hx : evO s x = some (.v (.pointer (some ⟨g, 0, none⟩)))) (hi : s.hp[i]? = some (.it g n ks f seen)) (hW : W g)
  (h0 : (∀ j, j < n → j ∈ seen) → K (s.put o.dst (.tup [avB false])))
  (h1 : ∀ j, j < n → j ∉ seen → K ((St'.mk s.sl (s.hp.set i (.it g n ks f (j :: seen))) s.k).put o.dst (.tup [avB true, .v (ks j), f j]))) : OpE P B W s o K := by
 intro a w hr next Qx hn
 have hm := List.mem_of_getElem? hi
 obtain ⟨m, c, clk, last, sb, hZ, hmm, hc, hdd, hk, hg, ⟨rfl, hl2⟩, hs⟩ := hr.blocks _ hm
 have hxe : a.eval x = _ := (hr.ev hx).eq_v
 have hold : ∀ x ∈ c.toList, x.born < last := fun x hx => by
  obtain ⟨j, hj, rfl⟩ := List.getElem_of_mem hx
  have := (hk j (by simpa [hc] using hj)).2.1
  rw [getElem!_pos c j (by simpa using hj)] at this
  simpa using this
 unfold Oper.wp
 rcases run_next_it (P := P) w o.type m g last sb c hg hmm hold with ⟨hz, hrun⟩ | ⟨e, he, w1, hw1, hrun⟩
 ·have hex : (execOp a.eval o).run P w = .ok (.value (.tuple #[.bool false])) w := by simp [execOp, ho, hxe, hrun]
  rw [hex]
  refine hn _ _ _ (h0 fun j hj => ?_) (hr.put _ hd _ _ (.tup _ _ rfl fun q hq => ?_)) (.ofN (Chg.refl _ _))
  ·by_cases hb : sb.contains (c[j]!).born = true
   ·exact (hs j hj).1 hb
   ·exfalso
    have hjc : j < c.size := by omega
    have : c[j]! ∈ leftOf c sb := by
     unfold leftOf
     rw [Array.mem_filter]
     refine ⟨by rw [getElem!_pos c j hjc]; exact Array.getElem_mem hjc, by rw [Bool.not_eq_true] at hb; rw [hb]; rfl⟩
    have := Array.size_pos_of_mem this
    omega
  ·simp at hq; subst hq; exact .v _
 ·obtain ⟨he1, he2⟩ := mem_left he
  obtain ⟨j, hj, rfl⟩ := List.getElem_of_mem he1
  have hjc : j < c.size := by simpa using hj
  have hjn : j < n := by omega
  have hej : c.toList[j] = c[j]! := by rw [getElem!_pos c j hjc]; simp
  rw [hej] at hrun he2 he
  have hnot : j ∉ seen := fun h => by have := (hs j hjn).2 h; rw [this] at he2; cases he2
  have hgl : g < w.heap.size := hr.lt _ hm g rfl
  generalize hw2 : ({ w1 with heap := w1.heap.setIfInBounds g (.mapIter (some m) last (sb.push (c[j]!).born) last) } : World) = w2 at hrun
  have hch : Chg (fun b => b = g) w w2 := by
   subst hw2
   rcases hw1 with rfl | rfl
   ·exact ⟨rfl, rfl, rfl, by simp, fun b hb hne => by simp [Array.getElem?_setIfInBounds]; intro e; exact absurd e.symm hne⟩
   ·exact ⟨rfl, rfl, rfl, by show w.heap.size ≤ (w.heap.setIfInBounds g _).size; simp, fun b hb hne => by show (w.heap.setIfInBounds g _)[b]? = w.heap[b]?; rw [Array.getElem?_setIfInBounds_ne (Ne.symm hne)]⟩
  have hg2 : w2.heap[g]? = some (.mapIter (some m) last (sb.push (c[j]!).born) last) := by
   subst hw2
   rcases hw1 with rfl | rfl
   ·simp [hgl]
   ·show (w.heap.setIfInBounds g _)[g]? = _
    simp [hgl]
  have hz : ∀ b, Zn B s.hp w b → w2.heap[b]? = w.heap[b]? ∧ Zn B (s.hp.set i (.it g n ks f (j :: seen))) w2 b := fun b hb => by
   have hbg : b ≠ g := fun e => by subst e; exact hb.2.1 _ hm rfl
   refine ⟨hch.block b hb.1 hbg, Nat.lt_of_lt_of_le hb.1 hch.size, fun p hp hpb => ?_, hb.2.2⟩
   rcases List.mem_or_eq_of_mem_set hp with h | h
   ·exact hb.2.1 p h hpb
   ·subst h; exact hb.2.1 _ hm hpb
  have hex : (execOp a.eval o).run P w = .ok (.value (.tuple #[.bool true, (c[j]!).key, (c[j]!).val])) w2 := by simp [execOp, ho, hxe, hrun]
  rw [hex]
  have h2 := hr.set hB (e' := .it g n ks f (j :: seen)) hi (hch.mono fun b _ hb => by subst hb; rfl) (.inl rfl) ⟨m, c, last, last, sb.push (c[j]!).born, (hz m hZ).2, (hz m hZ).1.trans hmm, hc, hdd, fun q hq => ⟨(hk q hq).1, (hk q hq).2.1, (hk q hq).2.2.keep fun b hb _ => hz b hb⟩, hg2, ⟨rfl, fun q hq => by
    simp at hq; subst hq; exact ⟨hjn, by simp⟩⟩, fun q hq => by
    rw [contains_push, Bool.or_eq_true, hs q hq, List.mem_cons, beq_iff_eq, or_comm]
    refine or_congr ⟨fun e => ?_, fun e => by rw [e]⟩ Iff.rfl
    have hqc : q < c.size := by omega
    have n1 := List.pairwise_iff_getElem.1 hdd
    have eb : ∀ r (hr : r < c.size), (c.toList.map (·.born))[r]'(by simpa using hr) = (c[r]!).born := fun r hr => by rw [getElem!_pos c r hr]; simp
    rcases Nat.lt_trichotomy q j with h | h | h
    ·exact absurd (by rw [eb q hqc, eb j hjc]; exact e) (n1 q j (by simpa using hqc) (by simpa using hjc) h)
    ·exact h
    ·exact absurd (by rw [eb q hqc, eb j hjc]; exact e.symm) (n1 j q (by simpa using hjc) (by simpa using hqc) h)⟩
  refine hn _ _ _ (h1 j hjn hnot) (h2.put _ hd _ _ (.tup _ _ rfl fun q hq => ?_)) (hch.mono fun b _ hb => by subst hb; exact .inr hW)
  match q, hq with
  | 0, _ => exact .v _
  | 1, _ => show Rep _ _ (.v (ks j)) (c[j]!).key; rw [(hk j hjn).1]; exact .v _
  | 2, _ => exact (hk j hjn).2.2.keep fun b hb _ => hz b hb
theorem OpV.entryM {x : Operand} {g i j : Nat} {seen : List Nat} (ho : o.op = .entry x) (hB : B.Ok) (hx : evO s x = some (.v (.pointer (some ⟨g, 0, none⟩)))) (hi : s.hp[i]? = some (.it g n ks f (j :: seen))) : OpV P B NoB s o (.tup [.v (ks j), f j]) := by
 intro a w hr
 have hm := List.mem_of_getElem? hi
 obtain ⟨m, c, clk, last, sb, hZ, hmm, hc, hdd, hk, hg, ⟨rfl, hl2⟩, hs⟩ := hr.blocks _ hm
 have hxe : a.eval x = _ := (hr.ev hx).eq_v
 obtain ⟨hjn, hb⟩ := hl2 j rfl
 have hjc : j < c.size := by omega
 refine ⟨.tuple #[(c[j]!).key, (c[j]!).val], fun w' hcw => ?_, .tup _ _ rfl fun q hq => ?_⟩
 ·have hg' : w'.heap[g]? = _ := (hcw.block g (hr.lt _ hm g rfl) fun h => h.elim (hr.notStr hB hm rfl) (fun h => h)).trans hg
  have hm' : w'.heap[m]? = _ := (hcw.block m hZ.1 fun h => h.elim (fun h => by
   obtain ⟨h1, h2⟩ := hB.str m h
   exact absurd h ((hZ.2.2 (hB.low m h1)).2)) (fun h => h)).trans hmm
  have := run_entry_it (P := P) w' m g last sb c (c[j]!) hg' hm' (by rw [getElem!_pos c j hjc]; simp) hdd hb
  simp [execOp, ho, hxe, this]
 ·match q, hq with
  | 0, _ => show Rep _ _ (.v (ks j)) (c[j]!).key; rw [(hk j hjn).1]; exact .v _
  | 1, _ => exact (hk j hjn).2.2
end
end Go.Proofs.YtdnlhdilpdeecaaGreatDoor
namespace Go.Proofs.YtdnlhdilpdeecaaGreatDoor
open Go.RowKit
set_option linter.unusedVariables false
set_option linter.unusedSimpArgs false
def ndOf (p : ByteArray × Int) : NeedS := ⟨p.1, p.2⟩
def pickN (l : List (ByteArray × Int)) (seen : List Nat) : List NeedS := seen.reverse.map fun j => ndOf (l.getD j default)
theorem pickN_cons (l : List (ByteArray × Int)) (j : Nat) (seen : List Nat) : pickN l (j :: seen) = pickN l seen ++ [ndOf (l.getD j default)] := by simp [pickN]
theorem pickN_len (l : List (ByteArray × Int)) (seen : List Nat) : (pickN l seen).length = seen.length := by simp [pickN]
theorem seen_len {n : Nat} {seen : List Nat} (hd : seen.Nodup) (hs : ∀ j ∈ seen, j < n) : seen.length ≤ n := by
 have := hd.length_le_of_subset (l₂ := List.range n) (fun j hj => List.mem_range.2 (hs j hj))
 simpa using this
theorem seen_perm {n : Nat} {seen : List Nat} (hd : seen.Nodup) (hs : ∀ j ∈ seen, j < n) (ha : ∀ j, j < n → j ∈ seen) : seen.Perm (List.range n) :=
 (List.perm_ext_iff_of_nodup hd List.nodup_range).2 fun j => ⟨fun h => List.mem_range.2 (hs j h), fun h => ha j (List.mem_range.1 h)⟩
theorem range_getD {α β : Type} [Inhabited α] (l : List α) (f : α → β) : (List.range l.length).map (fun j => f (l.getD j default)) = l.map f := by
 apply List.ext_getElem (by simp)
 intro i h1 h2
 simp at h1 h2
 simp [List.getD_eq_getElem?_getD, h1]
theorem pickN_perm {l : List (ByteArray × Int)} {seen : List Nat} (hd : seen.Nodup) (hs : ∀ j ∈ seen, j < l.length) (ha : ∀ j, j < l.length → j ∈ seen) : (pickN l seen).Perm (l.map ndOf) := by
 have h1 := (seen_perm hd hs ha).map fun j => ndOf (l.getD j default)
 rw [range_getD l ndOf] at h1
 refine List.Perm.trans ?_ h1
 exact (List.reverse_perm seen).map _
theorem mget_mem : ∀ {l : List (ByteArray × Int)} {p : ByteArray × Int}, (l.map (·.1)).Nodup → p ∈ l → mgetD l p.1 0 = p.2 := fun {l p} hd hp => by
 have h1 : mpos l p.1 < l.length := mpos_mem.2 (List.mem_map.2 ⟨p, hp, rfl⟩)
 have h2 := mpos_key l p.1 h1
 have hx : l[mpos l p.1] = p := by
  obtain ⟨j, hj, rfl⟩ := List.getElem_of_mem hp
  have := (List.getElem_inj (h₀ := by simpa using h1) (h₁ := by simpa using hj) hd).1 (by simpa using h2)
  simp [this]
 unfold mgetD
 rw [mget_pos, List.getElem?_eq_getElem h1, hx]; rfl
theorem bytesOf_toList (k : ByteArray) : bytesOf k.data.toList = k := by simp [bytesOf]
theorem sKeys_perm {α : Type} (l : List (ByteArray × α)) : (sKeys l).Perm (l.map (·.1)) := by
 have h := (List.mergeSort_perm (l.map fun p => p.1.data.toList) (fun x y => decide (x ≤ y))).map bytesOf
 rw [List.map_map] at h
 have e : (l.map fun p => p.1.data.toList).map bytesOf = l.map (·.1) := by
  rw [List.map_map]; exact List.map_congr_left fun p _ => bytesOf_toList p.1
 rw [List.map_map] at e
 rw [e] at h
 exact h
theorem sKeys_nodup {α : Type} {l : List (ByteArray × α)} (h : (l.map (·.1)).Nodup) : (sKeys l).Nodup := (sKeys_perm l).nodup_iff.2 h
theorem sKeys_ord {α : Type} (l : List (ByteArray × α)) : (sKeys l).Pairwise fun a b => sLt b a = false := by
 have h : ((l.map fun p => p.1.data.toList).mergeSort (fun x y => decide (x ≤ y))).Pairwise fun x y => decide (x ≤ y) = true := by
  refine List.pairwise_mergeSort ?_ ?_ _
  ·intro a b c h1 h2
   simp only [decide_eq_true_eq] at *
   exact List.le_trans h1 h2
  ·intro a b
   simp only [Bool.or_eq_true, decide_eq_true_eq]
   exact List.le_total a b
 unfold sKeys
 rw [List.pairwise_map]
 refine h.imp fun {a b} hab => ?_
 rw [← cmpB_lt, show cmpB (bytesOf b) (bytesOf a) = Lib.compareBytes b a by simp [cmpB, bytesOf], cmp_lt, bytesLess_eq]
 simp only [decide_eq_true_eq] at hab
 exact decide_eq_false (List.not_lt.2 hab)
end Go.Proofs.YtdnlhdilpdeecaaGreatDoor
namespace Go.Proofs.YtdnlhdilpdeecaaGreatDoor
open Go.RowKit
set_option linter.unusedVariables false
set_option linter.unusedSimpArgs false
theorem not_true_false {b : Bool} (h : (!b) = true) : b = false := by cases b <;> simp_all
theorem not_false_true {b : Bool} (h : (!b) = false) : b = true := by cases b <;> simp_all
def eqLs {α : Type} (e : α → α → Bool) : List α → List α → Bool
 | [], [] => true
 | x :: l, y :: r => e x y && eqLs e l r
 | _, _ => false
theorem eqLs_self {α : Type} {e : α → α → Bool} (h : ∀ x, e x x = true) : ∀ l : List α, eqLs e l l = true
 | [] => rfl
 | x :: l => by rw [eqLs, h, eqLs_self h l]; rfl
theorem eqLs_len {α : Type} {e : α → α → Bool} : ∀ {l r : List α}, l.length ≠ r.length → eqLs e l r = false
 | [], [], h => absurd rfl h
 | [], _ :: _, _ => rfl
 | _ :: _, [], _ => rfl
 | x :: l, y :: r, h => by rw [eqLs, eqLs_len (by simpa using h), Bool.and_false]
theorem eqLs_at {α : Type} {e : α → α → Bool} {d : α} : ∀ {l r : List α} {q : Nat}, q < l.length → e (l.getD q d) (r.getD q d) = false → eqLs e l r = false
 | [], _, q, h, _ => by simp at h
 | x :: l, [], q, h, _ => rfl
 | x :: l, y :: r, 0, _, h2 => by simp at h2; rw [eqLs, h2]; rfl
 | x :: l, y :: r, q + 1, h1, h2 => by rw [eqLs, eqLs_at (d := d) (q := q) (by simpa using h1) (by simpa using h2), Bool.and_false]
theorem eqLs_all {α : Type} {e : α → α → Bool} {d : α} : ∀ {l r : List α}, l.length = r.length → (∀ j, j < l.length → e (l.getD j d) (r.getD j d) = true) → eqLs e l r = true
 | [], [], _, _ => rfl
 | [], _ :: _, h, _ => by simp at h
 | _ :: _, [], h, _ => by simp at h
 | x :: l, y :: r, h, h2 => by
  have h0 := h2 0 (by simp)
  simp at h0
  rw [eqLs, h0, eqLs_all (d := d) (by simpa using h) (fun j hj => by simpa using h2 (j + 1) (by simpa using hj))]
  rfl
set_option maxRecDepth 100000 in
theorem slices_Equal_str {xs ys : List ByteArray} (hl : xs.length ≤ 1000000000) (hl' : ys.length ≤ 1000000000) :
  SpecN Tryz.prog 29 [avStrs xs, avStrs ys] (fun y => y = avB (eqLs sEq xs ys)) := by
 refine SpecN.of_VCN Tryz.func29 rfl Tryz.ntmps29 (Nle rfl) fun w A hB => ?_
 have hnew : True := trivial
 refine VC.sr ?_
 refine VO.ma rfl rfl rfl rfl ?_
 refine VO.nil ?_
 refine VC.seq ?_
 refine VC.sr ?_
 refine VO.mv rfl rfl rfl rfl ?_
 refine VO.val rfl rfl (OpV.len_im rfl Tryz.underlying29 rfl) ?_
 refine VO.mv rfl rfl rfl rfl ?_
 refine VO.val rfl rfl (OpV.len_im rfl Tryz.underlying29 rfl) ?_
 refine VO.val rfl rfl (OpV.neq rfl rfl rfl) ?_
 refine VO.nil ?_
 refine VC.cond rfl (fun aH1b => ?_) (fun aH1b => ?_)
 ·have aH1 := aH1b
  try simp only [qqT, qqF, qqN, qqM, qqL, qqE] at aH1
  refine VC.sr ?_
  refine VO.ma rfl rfl rfl rfl ?_
  refine VO.nil ?_
  refine VC.ret ?_
  exact Exists.intro _ (And.intro (RetN.one Tryz.results29 (ResN.v rfl)) (by first | rw [eqLs_len (by omega)] | rw [eqLs_at (d := ByteArray.empty) (q := q) (by omega) (not_true_false h2b)] | rw [eqLs_all (d := ByteArray.empty) (by omega) (fun j hj => hn j (by omega))]))
 ·have aH1 := aH1b
  try simp only [qqT, qqF, qqN, qqM, qqL, qqE] at aH1
  refine VC.skip ?_
  refine VC.seq ?_
  refine VC.sr ?_
  refine VO.mv rfl rfl rfl rfl ?_
  refine VO.val rfl rfl (OpV.len_im rfl Tryz.underlying29 rfl) ?_
  refine VO.mv rfl rfl rfl rfl ?_
  refine VO.nil ?_
  refine VC.block ?_
  refine VC.loopK [(0, _), (1, _), (12, _)] ⟨rfl, rfl, rfl, trivial⟩ ({q : Nat // q ≤ xs.length ∧ ∀ j, j < q → sEq (xs.getD j ByteArray.empty) (ys.getD j ByteArray.empty) = true}) (fun (iZ : {q : Nat // q ≤ xs.length ∧ ∀ j, j < q → sEq (xs.getD j ByteArray.empty) (ys.getD j ByteArray.empty) = true}) => match iZ with | ⟨q, hq, hn⟩ => [(13, avI (q : Int))]) (fun (iZ : {q : Nat // q ≤ xs.length ∧ ∀ j, j < q → sEq (xs.getD j ByteArray.empty) (ys.getD j ByteArray.empty) = true}) => match iZ with | ⟨q, hq, hn⟩ => []) (fun (iZ : {q : Nat // q ≤ xs.length ∧ ∀ j, j < q → sEq (xs.getD j ByteArray.empty) (ys.getD j ByteArray.empty) = true}) => match iZ with | ⟨q, hq, hn⟩ => 0) (fun (iZ : {q : Nat // q ≤ xs.length ∧ ∀ j, j < q → sEq (xs.getD j ByteArray.empty) (ys.getD j ByteArray.empty) = true}) => match iZ with | ⟨q, hq, hn⟩ => xs.length - q) ⟨0, Nat.zero_le _, fun j hj => absurd hj (Nat.not_lt_zero j)⟩ (Le.mk hB [] ⟨rfl, rfl, rfl, rfl, trivial⟩ rfl rfl (Nat.le_refl _)) ?_
  rintro ⟨q, hq, hn⟩
  show VC _ _ _ _ ⟨[(13, avI (q : Int))] ++ [(0, _), (1, _), (12, _)], [], 0⟩
  refine VC.sr ?_
  refine VO.val rfl rfl (OpV.lss rfl rfl rfl) ?_
  refine VO.nil ?_
  refine VC.seq ?_
  refine VC.cond rfl (fun aH2b => ?_) (fun aH2b => ?_)
  ·have aH2 := aH2b
   try simp only [qqT, qqF, qqN, qqM, qqL, qqE] at aH2
   refine VC.skip ?_
   refine VC.seq ?_
   refine VC.block ?_
   refine VC.sr ?_
   refine VO.mv rfl rfl rfl rfl ?_
   refine VO.ma rfl rfl rfl rfl ?_
   refine VO.nil ?_
   refine VC.seq ?_
   refine VC.draw (fun _ => NoB) hB (by kernel_rfl) ?_
   refine VA.take (i := 0) rfl (by kernel_rfl) (by kernel_rfl) (by kernel_rfl) rfl rfl (OpV.move (.inl rfl) rfl) ?_
   refine VA.take (i := 1) rfl (by kernel_rfl) (by kernel_rfl) (by kernel_rfl) rfl rfl (OpV.move (.inl rfl) rfl) ?_
   refine VA.take (i := 2) rfl (by kernel_rfl) (by kernel_rfl) (by kernel_rfl) rfl rfl (OpV.indexAddr_1 rfl Tryz.underlying29 Tryz.sizeOf9 rfl rfl rfl (by omega)) ?_
   refine VA.take (i := 3) rfl (by kernel_rfl) (by kernel_rfl) (by kernel_rfl) rfl rfl (OpV.load_at rfl hB OutW.wi0 Tryz.isAgg9 rfl rfl) ?_
   refine VA.take (i := 4) rfl (by kernel_rfl) (by kernel_rfl) (by kernel_rfl) rfl rfl (OpV.move (.inl rfl) rfl) ?_
   refine VA.take (i := 5) rfl (by kernel_rfl) (by kernel_rfl) (by kernel_rfl) rfl rfl (OpV.move (.inl rfl) rfl) ?_
   refine VA.take (i := 6) rfl (by kernel_rfl) (by kernel_rfl) (by kernel_rfl) rfl rfl (OpV.indexAddr_1 rfl Tryz.underlying29 Tryz.sizeOf9 rfl rfl rfl (by omega)) ?_
   refine VA.take (i := 7) rfl (by kernel_rfl) (by kernel_rfl) (by kernel_rfl) rfl rfl (OpV.load_at rfl hB OutW.wi0 Tryz.isAgg9 rfl rfl) ?_
   refine VA.take (i := 8) rfl (by kernel_rfl) (by kernel_rfl) (by kernel_rfl) rfl rfl (OpV.sneq rfl rfl rfl) ?_
   refine VA.done (by kernel_rfl) ?_
   refine VC.cond rfl (fun h2b => ?_) (fun h2b => ?_)
   ·have h2 := h2b
    try simp only [qqT, qqF, qqN, qqM, qqL, qqE] at h2
    refine VC.sr ?_
    refine VO.ma rfl rfl rfl rfl ?_
    refine VO.nil ?_
    refine VC.ret ?_
    exact Exists.intro _ (And.intro (RetN.one Tryz.results29 (ResN.v rfl)) (by first | rw [eqLs_len (by omega)] | rw [eqLs_at (d := ByteArray.empty) (q := q) (by omega) (not_true_false h2b)] | rw [eqLs_all (d := ByteArray.empty) (by omega) (fun j hj => hn j (by omega))]))
   ·have h2 := h2b
    try simp only [qqT, qqF, qqN, qqM, qqL, qqE] at h2
    refine VC.skip ?_
    refine VC.region ?_
    refine VO.val rfl rfl (OpV.add rfl rfl rfl (by unfold fits; omega)) ?_
    refine VO.mv rfl rfl rfl rfl ?_
    refine VO.nil ?_
    exact Exists.intro (⟨q + 1, by omega, lt_succ_cases hn (not_false_true h2b)⟩) (And.intro (Le.mk hB [] ⟨rfl, rfl, rfl, rfl, trivial⟩ rfl rfl (Nat.le_refl _)) (by first | omega | (show _ < _; omega) | (simp only []; omega)))
  ·have aH2 := aH2b
   try simp only [qqT, qqF, qqN, qqM, qqL, qqE] at aH2
   refine VC.exit ?_
   refine VC.sr ?_
   refine VO.ma rfl rfl rfl rfl ?_
   refine VO.nil ?_
   refine VC.ret ?_
   exact Exists.intro _ (And.intro (RetN.one Tryz.results29 (ResN.v rfl)) (by first | rw [eqLs_len (by omega)] | rw [eqLs_at (d := ByteArray.empty) (q := q) (by omega) (not_true_false h2b)] | rw [eqLs_all (d := ByteArray.empty) (by omega) (fun j hj => hn j (by omega))]))
end Go.Proofs.YtdnlhdilpdeecaaGreatDoor
namespace Go.Proofs.YtdnlhdilpdeecaaGreatDoor
open Go.RowKit
set_option linter.unusedVariables false
set_option linter.unusedSimpArgs false
structure Srt (l : List ByteArray) : Prop where
 nd : l.Nodup
 ord : l.Pairwise fun a b => sLt b a = false
theorem Srt.uniq {l r : List ByteArray} (hl : Srt l) (hr : Srt r) (h : ∀ x, x ∈ l ↔ x ∈ r) : l = r :=
 ord_unique (lt := sLt) ((List.perm_ext_iff_of_nodup hl.nd hr.nd).2 h) hl.nd (fun a _ b _ hne h => sLt_total h (fun e => hne e)) hl.ord hr.ord
theorem sKeys_srt {α : Type} {l : List (ByteArray × α)} (h : (l.map (·.1)).Nodup) : Srt (sKeys l) := ⟨sKeys_nodup h, sKeys_ord l⟩
abbrev putU (m : List (ByteArray × Unit)) (k : ByteArray) : List (ByteArray × Unit) := mput m k ()
def uK (l : List ByteArray) : List ByteArray := sKeys (l.foldl putU [])
theorem putU_nodup : ∀ (l : List ByteArray) (m : List (ByteArray × Unit)), (m.map (·.1)).Nodup → ((l.foldl putU m).map (·.1)).Nodup
 | [], m, h => h
 | x :: l, m, h => putU_nodup l _ (mput_nodup h x ())
theorem putU_mem : ∀ (l : List ByteArray) (m : List (ByteArray × Unit)) (k : ByteArray), k ∈ (l.foldl putU m).map (·.1) ↔ k ∈ m.map (·.1) ∨ k ∈ l
 | [], m, k => by simp
 | x :: l, m, k => by
  rw [List.foldl_cons, putU_mem l, mput_mem, List.mem_cons, or_assoc]
theorem uK_srt (l : List ByteArray) : Srt (uK l) := sKeys_srt (putU_nodup l [] List.nodup_nil)
theorem uK_mem {l : List ByteArray} {k : ByteArray} : k ∈ uK l ↔ k ∈ l := by
 unfold uK; rw [sKeys_mem, putU_mem]; simp
theorem uK_uniq {l ks : List ByteArray} (h : Srt ks) (hm : ∀ x, x ∈ ks ↔ x ∈ l) : ks = uK l := h.uniq (uK_srt l) fun x => by rw [hm, uK_mem]
theorem uK_len (l : List ByteArray) : (uK l).length ≤ l.length :=
 (uK_srt l).nd.length_le_of_subset fun x hx => uK_mem.1 hx
abbrev ShS := Nat × Nat
def shAdd (s : ShS) (b : Bool) : ShS := (s.1 + (if b = true then 1 else 0), s.2 + 1)
abbrev shStep (m : List (ByteArray × ShS)) (p : ByteArray × Bool) : List (ByteArray × ShS) := mput m p.1 (shAdd (mgetD m p.1 (0, 0)) p.2)
def shM (l : List (ByteArray × Bool)) : List (ByteArray × ShS) := l.foldl shStep []
theorem shM_snoc (l : List (ByteArray × Bool)) (p : ByteArray × Bool) : shM (l ++ [p]) = mput (shM l) p.1 (shAdd (mgetD (shM l) p.1 (0, 0)) p.2) := by simp [shM, List.foldl_append, shStep]
theorem shM_nodup' : ∀ (l : List (ByteArray × Bool)) (m : List (ByteArray × ShS)), (m.map (·.1)).Nodup → ((l.foldl shStep m).map (·.1)).Nodup
 | [], m, h => h
 | x :: l, m, h => shM_nodup' l _ (mput_nodup h x.1 _)
theorem shM_nodup (l : List (ByteArray × Bool)) : ((shM l).map (·.1)).Nodup := shM_nodup' l [] List.nodup_nil
theorem shM_mem' : ∀ (l : List (ByteArray × Bool)) (m : List (ByteArray × ShS)) (k : ByteArray), k ∈ (l.foldl shStep m).map (·.1) ↔ k ∈ m.map (·.1) ∨ k ∈ l.map (·.1)
 | [], m, k => by simp
 | x :: l, m, k => by
  rw [List.foldl_cons, shM_mem' l, mput_mem, List.map_cons, List.mem_cons, or_assoc]
theorem shM_mem {l : List (ByteArray × Bool)} {k : ByteArray} : k ∈ (shM l).map (·.1) ↔ k ∈ l.map (·.1) := by
 unfold shM; rw [shM_mem']; simp
def shCnt (l : List (ByteArray × Bool)) (k : ByteArray) : ShS := ((l.filter fun p => decide (p.1 = k) && p.2).length, (l.filter fun p => decide (p.1 = k)).length)
theorem shM_get' : ∀ (l : List (ByteArray × Bool)) (m : List (ByteArray × ShS)) (k : ByteArray), mgetD (l.foldl shStep m) k (0, 0) = ((mgetD m k (0, 0)).1 + (shCnt l k).1, (mgetD m k (0, 0)).2 + (shCnt l k).2)
 | [], m, k => by simp [shCnt]
 | x :: l, m, k => by
  rw [List.foldl_cons, shM_get' l, mgetD_mput]
  by_cases h : k = x.1
  ·subst h
   rw [if_pos rfl]
   cases hb : x.2 <;> simp [shCnt, shAdd, hb] <;> omega
  ·rw [if_neg h]
   have h' : ¬ x.1 = k := fun e => h e.symm
   simp [shCnt, h']
theorem shM_get (l : List (ByteArray × Bool)) (k : ByteArray) : mgetD (shM l) k (0, 0) = shCnt l k := by
 unfold shM; rw [shM_get']
 have : mgetD ([] : List (ByteArray × ShS)) k (0, 0) = (0, 0) := rfl
 rw [this]; simp
theorem shCnt_le (l : List (ByteArray × Bool)) (k : ByteArray) : (shCnt l k).1 ≤ (shCnt l k).2 ∧ (shCnt l k).2 ≤ l.length := by
 unfold shCnt
 refine ⟨?_, List.length_filter_le _ _⟩
 have : (l.filter fun p => decide (p.1 = k) && p.2) = (l.filter fun p => decide (p.1 = k)).filter fun p => p.2 := by
  rw [List.filter_filter]; congr 1; funext p; cases p.2 <;> simp
 rw [this]
 exact List.length_filter_le _ _
theorem sKeys_shM (l : List (ByteArray × Bool)) : sKeys (shM l) = uK (l.map (·.1)) := uK_uniq (sKeys_srt (shM_nodup l)) fun x => by rw [sKeys_mem, shM_mem]
theorem shM_len (l : List (ByteArray × Bool)) : (shM l).length ≤ l.length := by
 have := uK_len (l.map (·.1))
 rw [← sKeys_shM, sKeys_len] at this
 simpa using this
def kvs (f : LookS → List ByteArray) (l : List LookS) : List (ByteArray × Bool) := l.flatMap fun x => (f x).map fun k => (k, x.bad)
theorem kvs_take {f : LookS → List ByteArray} {l : List LookS} {q : Nat} (h : q < l.length) : kvs f (l.take (q + 1)) = kvs f (l.take q) ++ (f (l.getD q default)).map fun k => (k, (l.getD q default).bad) := by
 have : l.take (q + 1) = l.take q ++ [l.getD q default] := by
  rw [List.take_succ_eq_append_getElem h]; simp [List.getD_eq_getElem?_getD, h]
 rw [this]; simp [kvs]
def cntL (p : LookS → Bool) (l : List LookS) : Nat := (l.filter p).length
theorem badN_filter (p : LookS → Bool) (l : List LookS) : badN (l.filter p) = cntL (fun x => p x && x.bad) l := by
 unfold badN cntL
 rw [List.filter_filter]
 congr 1; congr 1; funext x; rw [Bool.and_comm]
theorem kvs_one (f : LookS → ByteArray) (l : List LookS) (k : ByteArray) : shCnt (kvs (fun x => [f x]) l) k = (badN (l.filter fun x => decide (f x = k)), (l.filter fun x => decide (f x = k)).length) := by
 have e : kvs (fun x => [f x]) l = l.map fun x => (f x, x.bad) := by simp [kvs, List.flatMap_def]; induction l with
  | nil => rfl
  | cons x l ih => simp [ih]
 rw [e, badN_filter]
 unfold shCnt cntL
 rw [List.filter_map, List.filter_map, List.length_map, List.length_map]; rfl
theorem kvs_one_keys (f : LookS → ByteArray) (l : List LookS) : (kvs (fun x => [f x]) l).map (·.1) = l.map f := by
 induction l with
 | nil => rfl
 | cons x l ih => simp [kvs] at ih ⊢; exact ih
end Go.Proofs.YtdnlhdilpdeecaaGreatDoor
namespace Go.Proofs
open Go.Shelf
def Tryz.lays171_ren : Go.Shelf.Ren := ⟨fun | 171 => 130 | 243 => 206 | 246 => 281 | 283 => 326 | 284 => 327 | 285 => 328 | 286 => 329 | 129 => 255 | 317 => 354 | 318 => 355 | 319 => 356 | 320 => 357 | 337 => 368 | 338 => 369 | n => n, fun | 3 => 3 | 9 => 9 | 2 => 2 | 4 => 4 | 171 => 343 | 0 => 0 | 53 => 225 | 37 => 131 | 5 => 5 | 173 => 345 | 212 => 371 | 51 => 222 | 20 => 20 | 213 => 372 | 46 => 121 | 232 => 385 | 233 => 386 | n => n, fun | 17 => 3 | 18 => 6 | 19 => 7 | n => n⟩
theorem Tryz.lays171 : Go.Proofs.Lays.n171 Tryz.prog Tryz.lays171_ren := {
 mixed := by kernel_rfl
 f129 := Tryz.func255.trans (congrArg some (by kernel_rfl))
 f171 := Tryz.func130.trans (congrArg some (by kernel_rfl))
 f243 := Tryz.func206.trans (congrArg some (by kernel_rfl))
 f246 := Tryz.func281.trans (congrArg some (by kernel_rfl))
 f283 := Tryz.func326.trans (congrArg some (by kernel_rfl))
 f284 := Tryz.func327.trans (congrArg some (by kernel_rfl))
 f285 := Tryz.func328.trans (congrArg some (by kernel_rfl))
 f286 := Tryz.func329.trans (congrArg some (by kernel_rfl))
 f317 := Tryz.func354.trans (congrArg some (by kernel_rfl))
 f318 := Tryz.func355.trans (congrArg some (by kernel_rfl))
 f319 := Tryz.func356.trans (congrArg some (by kernel_rfl))
 f320 := Tryz.func357.trans (congrArg some (by kernel_rfl))
 f337 := Tryz.func368.trans (congrArg some (by kernel_rfl))
 f338 := Tryz.func369.trans (congrArg some (by kernel_rfl))
 t0 := Tryz.underlying0
 a0 := Tryz.isAgg0
 z0 := Tryz.sizeOf0
 v0 := Tryz.zeroValue0
 t2 := Tryz.underlying2
 a2 := Tryz.isAgg2
 z2 := Tryz.sizeOf2
 v2 := Tryz.zeroValue2
 t3 := Tryz.underlying3
 a3 := Tryz.isAgg3
 z3 := Tryz.sizeOf3
 v3 := Tryz.zeroValue3
 t4 := Tryz.underlying4
 a4 := Tryz.isAgg4
 z4 := Tryz.sizeOf4
 v4 := Tryz.zeroValue4
 t5 := Tryz.underlying5
 a5 := Tryz.isAgg5
 z5 := Tryz.sizeOf5
 v5 := Tryz.zeroValue5
 t9 := Tryz.underlying9
 a9 := Tryz.isAgg9
 z9 := Tryz.sizeOf9
 v9 := Tryz.zeroValue9
 t20 := Tryz.underlying20
 a20 := Tryz.isAgg20
 z20 := Tryz.sizeOf20
 v20 := Tryz.zeroValue20
 t37 := Tryz.underlying131
 a37 := Tryz.isAgg131
 z37 := Tryz.sizeOf131
 v37 := Tryz.zeroValue131
 t46 := Tryz.underlying121
 a46 := Tryz.isAgg121
 z46 := Tryz.sizeOf121
 v46 := Tryz.zeroValue121
 t51 := Tryz.underlying222
 a51 := Tryz.isAgg222
 z51 := Tryz.sizeOf222
 v51 := Tryz.zeroValue222
 t53 := Tryz.underlying225
 a53 := Tryz.isAgg225
 z53 := Tryz.sizeOf225
 v53 := Tryz.zeroValue225
 t171 := Tryz.underlying343
 a171 := Tryz.isAgg343
 z171 := Tryz.sizeOf343
 v171 := Tryz.zeroValue343
 t173 := Tryz.underlying345
 a173 := Tryz.isAgg345
 z173 := Tryz.sizeOf345
 v173 := Tryz.zeroValue345
 t212 := Tryz.underlying371
 a212 := Tryz.isAgg371
 z212 := Tryz.sizeOf371
 v212 := Tryz.zeroValue371
 t213 := Tryz.underlying372
 a213 := Tryz.isAgg372
 z213 := Tryz.sizeOf372
 t232 := Tryz.underlying385
 a232 := Tryz.isAgg385
 z232 := Tryz.sizeOf385
 v232 := Tryz.zeroValue385
 t233 := Tryz.underlying386
 a233 := Tryz.isAgg386
 z233 := Tryz.sizeOf386
 v233 := Tryz.zeroValue386
 g17 := by kernel_rfl
 g18 := by kernel_rfl
 g19 := by kernel_rfl }
open Go.RowKit Go.Sort Go.Lib in
theorem Tryz.strconv_Itoa_small (i : Nat) (hi : i < 100) (w : World) :
  Calls Tryz.prog 130 #[.int .i64 i] w fun e w' => e = .returned (.string ⟨(Lib.decDigits i).toArray⟩) ∧ w' = w := Any.strconv_Itoa_small Tryz.lays171 i hi w
def Tryz.laysSlN44_f102_ren : Go.Shelf.Ren := ⟨fun | 44 => 102 | n => n, fun | 25 => 29 | 26 => 9 | 3 => 3 | 4 => 4 | 0 => 0 | n => n, fun | n => n⟩
theorem Tryz.laysSlN44_f102 : Go.Proofs.SlLaysN.n44 Tryz.prog Tryz.laysSlN44_f102_ren := {
 mixed := by kernel_rfl
 f44 := ⟨Tryz.f102.name, by decide, Tryz.func102.trans (congrArg some (by kernel_rfl))⟩
 t0 := Tryz.underlying0
 a0 := Tryz.isAgg0
 z0 := Tryz.sizeOf0
 v0 := Tryz.zeroValue0
 t3 := Tryz.underlying3
 a3 := Tryz.isAgg3
 z3 := Tryz.sizeOf3
 v3 := Tryz.zeroValue3
 t4 := Tryz.underlying4
 a4 := Tryz.isAgg4
 z4 := Tryz.sizeOf4
 v4 := Tryz.zeroValue4
 t25 := Tryz.underlying29
 a25 := Tryz.isAgg29
 z25 := Tryz.sizeOf29
 v25 := Tryz.zeroValue29
 t26 := Tryz.underlying9
 a26 := Tryz.isAgg9
 z26 := Tryz.sizeOf9
 v26 := Tryz.zeroValue9
 i26 := by kernel_rfl }
open Go.RowKit Go.Lib Go.Sort in
theorem Tryz.slices_Compact_string (blk off cap : Nat) (zs : List (List UInt8)) (w : World) (hH : Holds encStr w blk off zs.toArray) (hsz : zs.length ≤ 9223372036854775807) (hcap : zs.length ≤ cap) :
  Calls Tryz.prog 102 #[.slice (some ⟨blk, off, none⟩) zs.length cap] w fun e w' => e = .returned (.slice (some ⟨blk, off, none⟩) (Lib.compact zs).length cap) ∧ ∃ q, w' = putRow encStr (Sort.ahead w q) blk off (Lib.compact zs ++ List.replicate (zs.length - (Lib.compact zs).length) []).toArray := AnyG.slices_Compact_string Tryz.laysSlN44_f102 blk off cap zs w hH hsz hcap
open Go.RowKit Go.Lib Go.Sort in
theorem Tryz.slices_Compact_string_empty (a : Option Addr) (cap : Nat) (w : World) :
  Calls Tryz.prog 102 #[.slice a 0 cap] w fun e w' => e = .returned (.slice a 0 cap) ∧ w' = w := AnyG.slices_Compact_string_empty Tryz.laysSlN44_f102 a cap w
end Go.Proofs
namespace Go.Proofs.YtdnlhdilpdeecaaGreatDoor
open Go.RowKit Go.Sort Go.Lib
set_option linter.unusedVariables false
set_option linter.unusedSimpArgs false
abbrev bysL (xs : List ByteArray) : List (List UInt8) := xs.map fun x => x.data.toList
theorem putRow_at {w : World} {n g : Nat} {d : Array (List UInt8)} {os : Array Obj} {c : Array Value} {ty : TypeId} (hg : w.heap[g]? = some (.cells c ty (0, 0))) : (grow (putRow encStr (Sort.ahead w n) g 0 d) os).heap[g]? = some (.cells (putCells encStr 0 d c) ty (0, 0)) := by
 have hl := (Array.getElem?_eq_some_iff.1 hg).1
 simp only [grow, putRow, mapBlock, Sort.ahead]
 rw [Array.getElem?_append_left (by simpa using hl), Array.getElem?_modify, if_pos rfl, hg]
 rfl
theorem putRow_chg {w : World} {n g : Nat} {d : Array (List UInt8)} {os : Array Obj} : Chg (fun b => b = g) w (grow (putRow encStr (Sort.ahead w n) g 0 d) os) :=
 ⟨rfl, rfl, rfl, by simp [grow, putRow, mapBlock, Sort.ahead], fun b hb hne => by
  simp only [grow, putRow, mapBlock, Sort.ahead]
  rw [Array.getElem?_append_left (by simpa using hb), Array.getElem?_modify, if_neg (fun e => hne e.symm)]⟩
theorem holds_row {w : World} {g : Nat} {c : Array Value} {ty : TypeId} {xs : List ByteArray} (hg : w.heap[g]? = some (.cells c ty (0, 0))) (hc : ∀ j (h : j < xs.length), c[j]? = some (.string xs[j])) : Holds encStr w g 0 (bysL xs).toArray := by
 intro j hj
 have hj' : j < xs.length := by simpa using hj
 have h1 := hc j hj'
 constructor
 ·simp only [World.cell?, hg, Nat.zero_add]
  rw [h1]
  congr 1
  simp [encStr, hj']
 ·simp [World.frozen?, hg]
theorem putCells_get {d : Array (List UInt8)} {c : Array Value} {j : Nat} (h1 : j < d.size) (h2 : d.size ≤ c.size) : (putCells encStr 0 d c)[j]? = some (encStr d[j]!) := by
 simp only [putCells, Array.getElem?_mapIdx]
 rw [Array.getElem?_eq_getElem (by omega)]
 simp [h1]
theorem SpecH.ofPut {P : Program} {F : FuncId} {ty : TypeId} {u : Value} {xs ys zs : List ByteArray} {V : Value → AV} {U : Value → Value} (hyz : ys.length ≤ zs.length ∧ zs.length = xs.length) (hpre : ys = zs.take ys.length)
  (hV : V = (fun _ => .tup []) ∧ U = (fun v => v) ∧ ys.length = xs.length ∨ V = (fun v => .v v) ∧ U = (fun v => match v with | .slice a _ c => .slice a ys.length c | v => v))
  (h0 : xs.length = 0 → ∀ w, Calls P F #[.slice none 0 0] w fun e w' => ∃ v, e = .returned v ∧ (V = (fun _ => .tup []) ∧ v = .tuple #[] ∨ V = (fun v => .v v) ∧ v = .slice none 0 0) ∧ Chg NoB w w')
  (h1 : ∀ g cap w, xs.length ≤ cap → cap ≤ maxLen → g < w.heap.size → Holds encStr w g 0 (bysL xs).toArray → Calls P F #[.slice (some ⟨g, 0, none⟩) xs.length cap] w fun e w' => ∃ v, e = .returned v ∧ (V = (fun _ => .tup []) ∧ v = .tuple #[] ∨ V = (fun v => .v v) ∧ v = .slice (some ⟨g, 0, none⟩) ys.length cap) ∧ ∃ n os, w' = grow (putRow encStr (Sort.ahead w n) g 0 (bysL zs).toArray) os) :
  SpecH P F [.v u] [.row u xs.length 1 (strsL xs) ty] (fun y hp' => y = V (U u) ∧ hp' = [.row (U u) ys.length 1 (strsL ys) ty]) := fun w A us ha hap hA hE => by
 rw [args1 ha]
 obtain ⟨r1, r2⟩ := hE _ (List.mem_cons_self ..)
 rcases r2 with ⟨rfl, hz⟩ | ⟨g, cap, c, rfl, hn, hm, hg, hs, hc⟩
 ·have hys : ys.length = 0 := by omega
  have hU : U (.slice none 0 0) = .slice none 0 0 := by
   rcases hV with ⟨_, rfl, _⟩ | ⟨_, rfl⟩
   ·rfl
   ·show Value.slice none ys.length 0 = _; rw [hys]
  refine (h0 hz w).mono ?_
  rintro e w' ⟨v, rfl, hv, hch⟩
  refine ⟨_, v, _, ⟨rfl, rfl⟩, rfl, List.pairwise_singleton _ _, ?_, fun e he => ?_, fun b ⟨e, he, hb⟩ _ => ?_, hch.any⟩
  ·rw [hU]
   rcases hv with ⟨hv1, rfl⟩ | ⟨hv1, rfl⟩
   ·rw [hv1]; exact .tup _ _ rfl fun j hj => by simp at hj
   ·rw [hv1]; exact .v _
  ·simp at he; subst he
   exact ⟨by simp [strsL], .inl ⟨hU, hys⟩⟩
  ·simp at he; subst he
   rw [hU] at hb; simp [Ent.blk, Value.ownBlock] at hb
 ·have hgl := (Array.getElem?_eq_some_iff.1 hg).1
  have hcx : ∀ j (h : j < xs.length), c[j]? = some (.string xs[j]) := fun j hj => by
   obtain ⟨v, k1, k2⟩ := hc j (by simpa [strsL] using hj)
   have k3 : Rep w (fun b => b < w.heap.size ∧ A b) (avS xs[j]) v := by simpa [strsL] using k2
   rw [k1, k3.eq_v]
  refine (h1 g cap w hn hm hgl (holds_row hg hcx)).mono ?_
  rintro e w' ⟨v, rfl, hv, n, os, rfl⟩
  have hU : U (.slice (some ⟨g, 0, none⟩) xs.length cap) = .slice (some ⟨g, 0, none⟩) ys.length cap := by
   rcases hV with ⟨_, rfl, e⟩ | ⟨_, rfl⟩
   ·show Value.slice _ xs.length _ = _; rw [e]
   ·rfl
  have hsz : (bysL zs).toArray.size ≤ c.size := by simp; omega
  refine ⟨_, v, _, ⟨rfl, rfl⟩, rfl, List.pairwise_singleton _ _, ?_, fun e he => ?_, fun b ⟨e, he, hb⟩ _ => ?_, putRow_chg.mono fun b _ h => ⟨_, List.mem_cons_self .., by subst h; rfl⟩⟩
  ·rw [hU]
   rcases hv with ⟨hv1, rfl⟩ | ⟨hv1, rfl⟩
   ·rw [hv1]; exact .tup _ _ rfl fun j hj => by simp at hj
   ·rw [hv1]; exact .v _
  ·simp at he; subst he
   refine ⟨by simp [strsL], .inr ⟨g, cap, _, hU, by omega, hm, putRow_at hg, by simp [putCells, hs], fun j hj => ?_⟩⟩
   have hj' : j < ys.length := by simpa [strsL] using hj
   have hjz : j < zs.length := by omega
   refine ⟨.string ys[j], ?_, by simp only [strsL, List.getElem_map]; exact .v _⟩
   rw [putCells_get (by simp; omega) hsz]
   have e1 : ys[j] = zs[j] := by
    have : ys[j] = (zs.take ys.length)[j]'(by rw [List.length_take]; omega) := by congr 1
    rw [this, List.getElem_take]
   rw [e1]
   simp [encStr, hjz]
  ·simp at he; subst he
   rw [hU] at hb
   exact ⟨_, List.mem_cons_self .., hb⟩
def srtB (xs : List ByteArray) : List ByteArray := ((bysL xs).mergeSort (fun x y => decide (x ≤ y))).map bytesOf
theorem srtB_len (xs : List ByteArray) : (srtB xs).length = xs.length := by simp [srtB]
theorem srtB_bys (xs : List ByteArray) : bysL (srtB xs) = (bysL xs).mergeSort (fun x y => decide (x ≤ y)) := by
 unfold srtB bysL
 rw [List.map_map]
 conv => rhs; rw [← List.map_id ((xs.map fun x => x.data.toList).mergeSort (fun x y => decide (x ≤ y)))]
 exact List.map_congr_left fun l _ => by simp [bytesOf]
theorem srtB_mem {xs : List ByteArray} {x : ByteArray} : x ∈ srtB xs ↔ x ∈ xs := by
 unfold srtB bysL
 simp only [List.mem_map, List.mem_mergeSort, bytesOf]
 constructor
 ·rintro ⟨_, ⟨p, hp, rfl⟩, rfl⟩; simpa using hp
 ·intro h; exact ⟨_, ⟨x, h, rfl⟩, by simp⟩
theorem le_srt (xs : List ByteArray) : (bysL (srtB xs)).Pairwise fun x y => x ≤ y := by
 rw [srtB_bys]
 have h : ((bysL xs).mergeSort (fun x y => decide (x ≤ y))).Pairwise fun x y => decide (x ≤ y) = true := by
  refine List.pairwise_mergeSort ?_ ?_ _
  ·intro a b c h1 h2
   simp only [decide_eq_true_eq] at *
   exact List.le_trans h1 h2
  ·intro a b
   simp only [Bool.or_eq_true, decide_eq_true_eq]
   exact List.le_total a b
 exact h.imp fun h => by simpa using h
theorem le_sLt {a b : List UInt8} (h : a ≤ b) : sLt (bytesOf b) (bytesOf a) = false := by
 rw [← cmpB_lt, show cmpB (bytesOf b) (bytesOf a) = Lib.compareBytes b a by simp [cmpB, bytesOf], cmp_lt, bytesLess_eq]
 exact decide_eq_false (List.not_lt.2 h)
theorem compact_srt {d : Array (List UInt8)} (hd : ∀ i j, i ≤ j → j < d.size → d[i]! ≤ d[j]!) : ∀ m, m ≤ d.size → ((compactUpTo d m).map bytesOf).Nodup ∧ ((compactUpTo d m).map bytesOf).Pairwise (fun a b => sLt b a = false) ∧ ∀ x, x ∈ compactUpTo d m ↔ ∃ j, j < m ∧ d[j]! = x
 | 0, _ => ⟨by simp [compactUpTo], by simp [compactUpTo], fun x => by simp [compactUpTo]⟩
 | m + 1, hm => by
  obtain ⟨h1, h2, h3⟩ := compact_srt hd m (by omega)
  rw [compactUpTo_succ]
  have hinj : ∀ a b, bytesOf a = bytesOf b → a = b := fun a b h => by
   have := congrArg (fun z : ByteArray => z.data.toList) h
   simpa [bytesOf] using this
  cases hk : keeps d m with
  | false =>
   rw [if_neg (by simp), List.append_nil]
   refine ⟨h1, h2, fun x => ?_⟩
   rw [h3]
   have hm0 : 0 < m := by
    rcases Nat.eq_zero_or_pos m with rfl | h
    ·simp [keeps] at hk
    ·exact h
   have he : d[m]! = d[m - 1]! := by
    by_cases e : d[m]! = d[m - 1]!
    ·exact e
    ·rw [keeps_pos e] at hk; cases hk
   constructor
   ·rintro ⟨j, hj, rfl⟩; exact ⟨j, by omega, rfl⟩
   ·rintro ⟨j, hj, rfl⟩
    by_cases hjm : j = m
    ·subst hjm; exact ⟨j - 1, by omega, he.symm⟩
    ·exact ⟨j, by omega, rfl⟩
  | true =>
   rw [if_pos rfl, List.map_append, List.map_cons, List.map_nil]
   have hall : ∀ a ∈ (compactUpTo d m).map bytesOf, a ≠ bytesOf d[m]! ∧ sLt (bytesOf d[m]!) a = false := fun a ha => by
    obtain ⟨l, hl, rfl⟩ := List.mem_map.1 ha
    obtain ⟨j, hj, rfl⟩ := (h3 l).1 hl
    refine ⟨fun e => ?_, le_sLt (hd j m (by omega) (by omega))⟩
    have e' := hinj _ _ e
    have hne : d[m]! ≠ d[m - 1]! := by
     intro e2
     rw [keeps_neg (by omega) e2] at hk; cases hk
    refine hne (List.le_antisymm ?_ (hd (m - 1) m (by omega) (by omega)))
    rw [← e']; exact hd j (m - 1) (by omega) (by omega)
   refine ⟨List.nodup_append.2 ⟨h1, by simp, fun a ha b hb => ?_⟩, List.pairwise_append.2 ⟨h2, by simp, fun a ha b hb => ?_⟩, fun x => ?_⟩
   ·simp at hb; subst hb; exact (hall a ha).1
   ·simp at hb; subst hb; exact (hall a ha).2
   ·rw [List.mem_append, h3]
    constructor
    ·rintro (⟨j, hj, rfl⟩ | hx)
     ·exact ⟨j, by omega, rfl⟩
     ·simp at hx; exact ⟨m, by omega, hx.symm⟩
    ·rintro ⟨j, hj, rfl⟩
     by_cases hjm : j = m
     ·subst hjm; exact .inr (by simp)
     ·exact .inl ⟨j, by omega, rfl⟩
theorem compact_uK (xs : List ByteArray) : (compactUpTo (bysL (srtB xs)).toArray (bysL (srtB xs)).toArray.size).map bytesOf = uK xs := by
 have hd : ∀ i j, i ≤ j → j < (bysL (srtB xs)).toArray.size → (bysL (srtB xs)).toArray[i]! ≤ (bysL (srtB xs)).toArray[j]! := fun i j hij hj => by
  have hj' : j < (bysL (srtB xs)).length := by simpa using hj
  have e1 : (bysL (srtB xs)).toArray[i]! = (bysL (srtB xs))[i]'(by omega) := by rw [getElem!_pos (bysL (srtB xs)).toArray i (by simp at hj' ⊢; omega)]; simp
  have e2 : (bysL (srtB xs)).toArray[j]! = (bysL (srtB xs))[j] := by rw [getElem!_pos (bysL (srtB xs)).toArray j hj]; simp
  rw [e1, e2]
  by_cases h : i = j
  ·subst h; exact List.le_refl _
  ·exact List.pairwise_iff_getElem.1 (le_srt xs) i j (by omega) hj' (by omega)
 obtain ⟨h1, h2, h3⟩ := compact_srt hd _ (Nat.le_refl _)
 refine uK_uniq ⟨h1, h2⟩ fun x => ?_
 rw [← srtB_mem (xs := xs), List.mem_map]
 constructor
 ·rintro ⟨l, hl, rfl⟩
  obtain ⟨j, hj, rfl⟩ := (h3 l).1 hl
  have hj' : j < (srtB xs).length := by simpa using hj
  rw [getElem!_pos (bysL (srtB xs)).toArray j hj]
  simp only [List.getElem_toArray, List.getElem_map, bytesOf_toList]
  exact List.getElem_mem hj'
 ·intro h
  obtain ⟨j, hj, rfl⟩ := List.getElem_of_mem h
  refine ⟨(srtB xs)[j].data.toList, (h3 _).2 ⟨j, by simpa using hj, ?_⟩, bytesOf_toList _⟩
  rw [getElem!_pos (bysL (srtB xs)).toArray j (by simpa using hj)]; simp
theorem slices_Sort_O {u : Value} {xs : List ByteArray} {ty : TypeId} (hl : xs.length ≤ 1000000000) :
  SpecH Tryz.prog 101 [.v u] [.row u xs.length 1 (strsL xs) ty] (fun y hp' => y = .tup [] ∧ hp' = [.row u (srtB xs).length 1 (strsL (srtB xs)) ty]) :=
 (SpecH.ofPut (V := fun _ => .tup []) (U := fun v => v) (ys := srtB xs) (zs := srtB xs) ⟨Nat.le_refl _, srtB_len xs⟩ (by rw [List.take_length]) (.inl ⟨rfl, rfl, srtB_len xs⟩)
  (fun h0 w => (AnyM.slices_Sort_string_none Tryz.sort101 none 0 w).mono fun e w' h => by
   obtain ⟨rfl, h⟩ := h
   (subst h; exact ⟨_, rfl, .inl ⟨rfl, rfl⟩, Chg.refl _ _⟩))
  (fun g cap w h1 h2 hg hH => by
   have h := AnyM.slices_Sort_string Tryz.sort101 g 0 cap (bysL xs) w hH hg (by simp; omega)
   rw [List.length_map] at h
   refine h.mono fun e w' h => ?_
   obtain ⟨rfl, n, os, rfl⟩ := h
   exact ⟨_, rfl, .inl ⟨rfl, rfl⟩, n, os, by rw [srtB_bys]⟩)).mono fun y hp' ⟨h1, h2⟩ => ⟨h1, h2⟩
theorem uK_le (xs : List ByteArray) : (uK xs).length ≤ (srtB xs).length := by rw [srtB_len]; exact uK_len xs
theorem comp_eq (xs : List ByteArray) : (compact (bysL (srtB xs))).map bytesOf = uK xs := by
 rw [← compact_uK]; unfold compact; congr 2
theorem comp_bys (xs : List ByteArray) : compact (bysL (srtB xs)) = bysL (uK xs) := by
 rw [← comp_eq]
 unfold bysL
 rw [List.map_map]
 conv => lhs; rw [← List.map_id (compact _)]
 exact List.map_congr_left fun l _ => by simp [bytesOf]
theorem slices_Compact_O {u : Value} {xs : List ByteArray} {ty : TypeId} (hl : xs.length ≤ 1000000000) :
  SpecH Tryz.prog 102 [.v u] [.row u (srtB xs).length 1 (strsL (srtB xs)) ty] (fun y hp' => ∃ u', y = .v u' ∧ hp' = [.row u' (uK xs).length 1 (strsL (uK xs)) ty]) :=
 (SpecH.ofPut (V := fun v => .v v) (U := fun v => match v with | .slice a _ c => .slice a (uK xs).length c | v => v) (xs := srtB xs) (ys := uK xs) (zs := uK xs ++ List.replicate ((srtB xs).length - (uK xs).length) ⟨#[]⟩) ⟨by simp, by have := uK_le xs; simp; omega⟩ (by rw [List.take_left]) (.inr ⟨rfl, rfl⟩)
  (fun h0 w => (Tryz.slices_Compact_string_empty none 0 w).mono fun e w' h => by
   obtain ⟨rfl, rfl⟩ := h
   exact ⟨_, rfl, .inr ⟨rfl, rfl⟩, Chg.refl _ _⟩)
  (fun g cap w h1 h2 hg hH => by
   have hsl := srtB_len xs
   have h := Tryz.slices_Compact_string g 0 cap (bysL (srtB xs)) w hH (by simp; omega) (by simpa using h1)
   rw [List.length_map] at h
   refine h.mono fun e w' h => ?_
   obtain ⟨rfl, q, rfl⟩ := h
   rw [comp_bys]
   refine ⟨_, rfl, .inr ⟨rfl, by simp⟩, q, #[], ?_⟩
   rw [grow_empty]
   congr 1
   simp [bysL])).mono fun y hp' ⟨h1, h2⟩ => ⟨_, h1, h2⟩
end Go.Proofs.YtdnlhdilpdeecaaGreatDoor
namespace Go.Proofs.YtdnlhdilpdeecaaGreatDoor
open Go.RowKit
set_option linter.unusedVariables false
set_option linter.unusedSimpArgs false

theorem tab_L {α : Type} [Inhabited α] [Sxc α] (xs : List α) : tab (xs.length * Sxc.k α) (fun q => Sxc.cell (xs.getD (q / Sxc.k α) default) (q % Sxc.k α)) = rowL xs := by
 have hp := Sxc.pos (α := α)
 apply List.ext_getElem?
 intro i
 by_cases hi : i < xs.length * Sxc.k α
 ·have hd : i / Sxc.k α < xs.length := (Nat.div_lt_iff_lt_mul hp).2 hi
  have := rowL_get xs (i / Sxc.k α) (i % Sxc.k α) hd (Nat.mod_lt _ hp)
  rw [Nat.div_add_mod' i (Sxc.k α)] at this
  rw [this, List.getElem?_eq_getElem (by rw [tab_len]; exact hi), tab_get]
 ·rw [List.getElem?_eq_none (by rw [tab_len]; omega), List.getElem?_eq_none (by rw [rowL_len]; omega)]
end Go.Proofs.YtdnlhdilpdeecaaGreatDoor
namespace Go.Proofs.YtdnlhdilpdeecaaGreatDoor
open Go.RowKit
set_option linter.unusedVariables false
set_option linter.unusedSimpArgs false

abbrev pt (g : Nat) : AV := .v (.pointer (some ⟨g, 0, none⟩))
abbrev ptv (g : Nat) : Value := .pointer (some ⟨g, 0, none⟩)
set_option maxRecDepth 100000 in
theorem slices_IndexFuncO_str {xs : List ByteArray} {u : Value} {ty : TypeId} {F : FuncId} {caps : Array Value} {hpC : List Ent} {p : ByteArray → Bool} (hl : xs.length ≤ 1000000000) (hcall : ∀ us w, (callFunc F us).run Tryz.prog w = .ok (.enter F us) w) (hF : ∀ x, SpecH Tryz.prog F ([avS x] ++ caps.toList.map .v) hpC (fun y hp' => y = avB (p x) ∧ hp' = hpC)) :
  SpecH Tryz.prog 150 [.v u, .v (.func (.func F) #[] caps)] (.row u xs.length 1 (strsL xs) ty :: hpC) (fun y hp' => y = avI (fidx p xs) ∧ hp' = .row u xs.length 1 (strsL xs) ty :: hpC) := by
 refine SpecH.of_VC Tryz.func150 rfl Tryz.ntmps150 (Nle rfl) fun w A hB => ?_
 have hnew : True := trivial
 refine VC.sr ?_
 refine VO.ma rfl rfl rfl rfl ?_
 refine VO.nil ?_
 refine VC.seq ?_
 refine VC.sr ?_
 refine VO.mv rfl rfl rfl rfl ?_
 refine VO.val rfl rfl (OpV.len_row (i := 0) rfl Tryz.underlying29 rfl rfl) ?_
 refine VO.mv rfl rfl rfl rfl ?_
 refine VO.nil ?_
 refine VC.block ?_
 refine VC.loopK [(0, _), (1, _), (7, _)] ⟨rfl, rfl, rfl, trivial⟩ ({q : Nat // q ≤ xs.length ∧ ∀ j, j < q → p (xs.getD j ByteArray.empty) = false}) (fun (iZ : {q : Nat // q ≤ xs.length ∧ ∀ j, j < q → p (xs.getD j ByteArray.empty) = false}) => match iZ with | ⟨q, hq, hn⟩ => [(8, avI (q : Int))]) (fun (iZ : {q : Nat // q ≤ xs.length ∧ ∀ j, j < q → p (xs.getD j ByteArray.empty) = false}) => match iZ with | ⟨q, hq, hn⟩ => (.row u xs.length 1 (strsL xs) ty :: hpC)) (fun (iZ : {q : Nat // q ≤ xs.length ∧ ∀ j, j < q → p (xs.getD j ByteArray.empty) = false}) => match iZ with | ⟨q, hq, hn⟩ => 0) (fun (iZ : {q : Nat // q ≤ xs.length ∧ ∀ j, j < q → p (xs.getD j ByteArray.empty) = false}) => match iZ with | ⟨q, hq, hn⟩ => xs.length - q) ⟨0, Nat.zero_le _, fun j hj => absurd hj (Nat.not_lt_zero j)⟩ (Le.mkP hB ⟨rfl, rfl, rfl, rfl, trivial⟩ (List.Sublist.refl _) (List.Perm.refl _) (Nat.le_refl _)) ?_
 rintro ⟨q, hq, hn⟩
 show VC _ _ _ _ ⟨[(8, avI (q : Int))] ++ [(0, _), (1, _), (7, _)], (.row u xs.length 1 (strsL xs) ty :: hpC), 0⟩
 refine VC.sr ?_
 refine VO.val rfl rfl (OpV.lss rfl rfl rfl) ?_
 refine VO.nil ?_
 refine VC.seq ?_
 refine VC.cond rfl (fun aH1b => ?_) (fun aH1b => ?_)
 ·have aH1 := aH1b
  try simp only [qqT, qqF, qqN, qqM, qqL, qqE] at aH1
  refine VC.skip ?_
  refine VC.seq ?_
  refine VC.block ?_
  refine VC.seq ?_
  refine VC.asBox (i := 0) rfl (by omega) (fun g cap hu hcap hmx => ?_)
  subst hu
  refine VC.region ?_
  refine VO.mv rfl rfl rfl rfl ?_
  refine VO.ma rfl rfl rfl rfl ?_
  refine VO.nil ?_
  refine VC.sr ?_
  refine VO.mv rfl rfl rfl rfl ?_
  refine VO.mv rfl rfl rfl rfl ?_
  refine VO.mv rfl rfl rfl rfl ?_
  refine VO.val rfl rfl (OpV.indexAddr_o rfl Tryz.underlying29 Tryz.sizeOf9 rfl rfl rfl (by omega)) ?_
  refine VO.val rfl rfl (OpV.load_own (i := 0) rfl hB Tryz.isAgg9 rfl rfl (strsL_get (by omega)) (fun h => h)) ?_
  refine VO.op rfl (OpE.callH (rest := [_]) rfl hB rfl hcall rfl rfl (hF _) (List.perm_append_comm (l₁ := [_])) (fun _ _ => trivial) ?_)
  rintro _ _ ⟨rfl, rfl⟩
  refine VO.le _ (Le.front rfl) ?_
  refine VO.nil ?_
  refine VC.cond rfl (fun h1b => ?_) (fun h1b => ?_)
  ·have h1 := h1b
   try simp only [qqT, qqF, qqN, qqM, qqL, qqE] at h1
   refine VC.le _ (Le.boxRow (i := 0) (n := xs.length) rfl (by rw [strsL_len]; omega) hcap hmx) ?_
   refine VC.sr ?_
   refine VO.mv rfl rfl rfl rfl ?_
   refine VO.ma rfl rfl rfl rfl ?_
   refine VO.nil ?_
   refine VC.ret ?_
   exact Exists.intro _ (And.intro (RetV.one Tryz.results150 (ResV.tmp rfl)) (⟨by first | (rw [fidx_found (d := ByteArray.empty) (q := q) (by omega) hn (by assumption)]) | (rw [fidx_none (d := ByteArray.empty) (fun j hj => hn j (by omega))]), rfl⟩))
  ·have h1 := h1b
   try simp only [qqT, qqF, qqN, qqM, qqL, qqE] at h1
   refine VC.le _ (Le.boxRow (i := 0) (n := xs.length) rfl (by rw [strsL_len]; omega) hcap hmx) ?_
   refine VC.skip ?_
   refine VC.region ?_
   refine VO.val rfl rfl (OpV.add rfl rfl rfl (by unfold fits; omega)) ?_
   refine VO.mv rfl rfl rfl rfl ?_
   refine VO.nil ?_
   exact Exists.intro (⟨q + 1, by omega, lt_succ_cases hn (by assumption)⟩) (And.intro (Le.mkP hB ⟨rfl, rfl, rfl, rfl, trivial⟩ (List.Sublist.refl _) (List.Perm.refl _) (Nat.le_refl _)) (by first | omega | (show _ < _; omega) | (simp only []; omega)))
 ·have aH1 := aH1b
  try simp only [qqT, qqF, qqN, qqM, qqL, qqE] at aH1
  refine VC.exit ?_
  refine VC.sr ?_
  refine VO.ma rfl rfl rfl rfl ?_
  refine VO.nil ?_
  refine VC.ret ?_
  exact Exists.intro _ (And.intro (RetV.one Tryz.results150 (ResV.tmp rfl)) (⟨by first | (rw [fidx_found (d := ByteArray.empty) (q := q) (by omega) hn (by assumption)]) | (rw [fidx_none (d := ByteArray.empty) (fun j hj => hn j (by omega))]), rfl⟩))
theorem filt_all {α : Type} {p : α → Bool} {d : α} {xs : List α} (h : fidx p xs = -1) : xs.filter (fun x => !p x) = xs := by
 apply List.filter_eq_self.2
 intro x hx
 have := fidx_any p xs
 rw [h] at this
 have h2 : xs.any p = false := this.symm.trans (by decide)
 rw [List.any_eq_false] at h2
 simpa using h2 x hx
theorem take_succ_getD {α : Type} {xs : List α} {q : Nat} {d : α} (h : q < xs.length) : xs.take (q + 1) = xs.take q ++ [xs.getD q d] := by
 rw [List.take_succ_eq_append_getElem h]
 simp [h]
theorem filt_start {α : Type} {p : α → Bool} {d : α} {xs : List α} (h : 0 ≤ fidx p xs) : (xs.take ((fidx p xs).toNat + 1)).filter (fun x => !p x) = xs.take (fidx p xs).toNat := by
 obtain ⟨h1, h2, h3⟩ := fidx_at (d := d) h
 rw [take_succ_getD (d := d) h1, List.filter_append, List.filter_cons, h2]
 simp only [Bool.not_true, Bool.false_eq_true, if_false, List.filter_nil, List.append_nil]
 apply List.filter_eq_self.2
 intro x hx
 obtain ⟨j, hj, rfl⟩ := List.mem_iff_getElem.1 hx
 have hj' : j < (fidx p xs).toNat ∧ j < xs.length := by simp at hj; omega
 have := h3 j hj'.1
 rw [List.getD_eq_getElem?_getD, List.getElem?_eq_getElem hj'.2] at this
 simpa using this
theorem filt_yes {α : Type} {p : α → Bool} {d : α} {xs : List α} {q : Nat} (hq : q < xs.length) (h : p (xs.getD q d) = false) : (xs.take (q + 1)).filter (fun x => !p x) = (xs.take q).filter (fun x => !p x) ++ [xs.getD q d] := by
 rw [take_succ_getD (d := d) hq, List.filter_append, List.filter_cons, h]
 rfl
theorem filt_no {α : Type} {p : α → Bool} {d : α} {xs : List α} {q : Nat} (hq : q < xs.length) (h : p (xs.getD q d) = true) : (xs.take (q + 1)).filter (fun x => !p x) = (xs.take q).filter (fun x => !p x) := by
 rw [take_succ_getD (d := d) hq, List.filter_append, List.filter_cons, h]
 simp
theorem take_set_snoc {α : Type} {b : List α} {i : Nat} {x : α} (h : i < b.length) : (b.set i x).take (i + 1) = b.take i ++ [x] := by
 rw [List.take_succ_eq_append_getElem (by rw [List.length_set]; exact h), List.take_set_of_le (Nat.le_refl _)]
 simp
theorem getD_set_ne {α : Type} {b : List α} {i k : Nat} {x d : α} (h : i ≠ k) : (b.set i x).getD k d = b.getD k d := by
 simp only [List.getD_eq_getElem?_getD, List.getElem?_set, if_neg h]
set_option maxRecDepth 100000 in
theorem slices_DeleteFunc_str {xs : List ByteArray} {u : Value} {ty : TypeId} {F : FuncId} {caps : Array Value} {hpC : List Ent} {p : ByteArray → Bool} (hl : xs.length ≤ 1000000000) (hcall : ∀ us w, (callFunc F us).run Tryz.prog w = .ok (.enter F us) w) (hF : ∀ x, SpecH Tryz.prog F ([avS x] ++ caps.toList.map .v) hpC (fun y hp' => y = avB (p x) ∧ hp' = hpC)) :
  SpecH Tryz.prog 88 [.v u, .v (.func (.func F) #[] caps)] (.row u xs.length 1 (strsL xs) ty :: hpC) (fun y hp' => ∃ u', y = .v u' ∧ hp' = .row u' (xs.filter fun x => !p x).length 1 (strsL (xs.filter fun x => !p x)) ty :: hpC) := by
 refine SpecH.of_VC Tryz.func88 rfl Tryz.ntmps88 (Nle rfl) fun w A hB => ?_
 have hnew : True := trivial
 refine VC.sr ?_
 refine VO.ma rfl rfl rfl rfl ?_
 refine VO.nil ?_
 refine VC.sr ?_
 refine VO.mv rfl rfl rfl rfl ?_
 refine VO.mv rfl rfl rfl rfl ?_
 refine VO.op rfl (OpE.callH0 rfl hB rfl Tryz.call150 rfl rfl (slices_IndexFuncO_str hl hcall hF) (List.Perm.refl _) (fun _ _ => trivial) ?_)
 rintro _ _ ⟨rfl, rfl⟩
 refine VO.ma rfl rfl rfl rfl ?_
 refine VO.nil ?_
 refine VC.seq ?_
 refine VC.sr ?_
 refine VO.mv rfl rfl rfl rfl ?_
 refine VO.val rfl rfl (OpV.eql rfl rfl rfl) ?_
 refine VO.nil ?_
 refine VC.cond rfl (fun h0b => ?_) (fun h0b => ?_)
 ·have h0 := h0b
  try simp only [qqT, qqF, qqN, qqM, qqL, qqE] at h0
  refine VC.sr ?_
  refine VO.mv rfl rfl rfl rfl ?_
  refine VO.ma rfl rfl rfl rfl ?_
  refine VO.nil ?_
  refine VC.ret ?_
  exact Exists.intro _ (And.intro (RetV.one Tryz.results88 (ResV.tmp rfl)) (⟨_, rfl, by rw [filt_all (d := ByteArray.empty) h0]; rfl⟩))
 ·have h0 := h0b
  try simp only [qqT, qqF, qqN, qqM, qqL, qqE] at h0
  have hge := fidx_ge p xs
  obtain ⟨k1, k2, k3⟩ := fidx_at (d := ByteArray.empty) (p := p) (xs := xs) (by omega)
  obtain ⟨i0, hi0⟩ : ∃ i0 : Nat, fidx p xs = i0 := ⟨(fidx p xs).toNat, by omega⟩
  have hst := filt_start (d := ByteArray.empty) (p := p) (xs := xs) (by omega)
  rw [hi0] at k1 k2 k3 hst ⊢
  simp only [Int.toNat_natCast] at k1 k2 k3 hst
  refine VC.asBox (i := 0) rfl (by omega) (fun g cap hu hcap hmx => ?_)
  subst hu
  refine VC.skip ?_
  refine VC.seq ?_
  refine VC.sr ?_
  refine VO.mv rfl rfl rfl rfl ?_
  refine VO.val rfl rfl (OpV.add rfl rfl rfl (by unfold fits; omega)) ?_
  refine VO.ma rfl rfl rfl rfl ?_
  refine VO.nil ?_
  refine VC.block ?_
  refine VC.loopK [(0, _), (1, _)] ⟨rfl, rfl, trivial⟩ ({t : Nat × Nat × List ByteArray // t.2.1 ≤ xs.length ∧ t.1 < t.2.1 ∧ t.2.2.length = xs.length ∧ t.2.2.take t.1 = (xs.take t.2.1).filter (fun x => !p x) ∧ ∀ k, t.2.1 ≤ k → t.2.2.getD k ByteArray.empty = xs.getD k ByteArray.empty}) (fun (iZ : {t : Nat × Nat × List ByteArray // t.2.1 ≤ xs.length ∧ t.1 < t.2.1 ∧ t.2.2.length = xs.length ∧ t.2.2.take t.1 = (xs.take t.2.1).filter (fun x => !p x) ∧ ∀ k, t.2.1 ≤ k → t.2.2.getD k ByteArray.empty = xs.getD k ByteArray.empty}) => match iZ with | ⟨⟨i, j, b⟩, hj, hij, hbl, hbt, hbr⟩ => [(5, avI (i : Int)), (6, avI (j : Int))]) (fun (iZ : {t : Nat × Nat × List ByteArray // t.2.1 ≤ xs.length ∧ t.1 < t.2.1 ∧ t.2.2.length = xs.length ∧ t.2.2.take t.1 = (xs.take t.2.1).filter (fun x => !p x) ∧ ∀ k, t.2.1 ≤ k → t.2.2.getD k ByteArray.empty = xs.getD k ByteArray.empty}) => match iZ with | ⟨⟨i, j, b⟩, hj, hij, hbl, hbt, hbr⟩ => (.box g ⟨strsL b, ty, cap * 1⟩ :: hpC)) (fun (iZ : {t : Nat × Nat × List ByteArray // t.2.1 ≤ xs.length ∧ t.1 < t.2.1 ∧ t.2.2.length = xs.length ∧ t.2.2.take t.1 = (xs.take t.2.1).filter (fun x => !p x) ∧ ∀ k, t.2.1 ≤ k → t.2.2.getD k ByteArray.empty = xs.getD k ByteArray.empty}) => match iZ with | ⟨⟨i, j, b⟩, hj, hij, hbl, hbt, hbr⟩ => 0) (fun (iZ : {t : Nat × Nat × List ByteArray // t.2.1 ≤ xs.length ∧ t.1 < t.2.1 ∧ t.2.2.length = xs.length ∧ t.2.2.take t.1 = (xs.take t.2.1).filter (fun x => !p x) ∧ ∀ k, t.2.1 ≤ k → t.2.2.getD k ByteArray.empty = xs.getD k ByteArray.empty}) => match iZ with | ⟨⟨i, j, b⟩, hj, hij, hbl, hbt, hbr⟩ => xs.length - j) ⟨(i0, i0 + 1, xs), k1, by show i0 < i0 + 1; omega, rfl, hst.symm, fun k _ => rfl⟩ (Le.mkP hB ⟨rfl, rfl, rfl, rfl, trivial⟩ (List.Sublist.refl _) (List.Perm.refl _) (Nat.le_refl _)) ?_
  rintro ⟨⟨i, j, b⟩, hj, hij, hbl, hbt, hbr⟩
  show VC _ _ _ _ ⟨[(5, avI (i : Int)), (6, avI (j : Int))] ++ [(0, _), (1, _)], (.box g ⟨strsL b, ty, cap * 1⟩ :: hpC), 0⟩
  simp only at hj hij hbl hbt hbr
  refine VC.seq ?_
  refine VC.sr ?_
  refine VO.mv rfl rfl rfl rfl ?_
  refine VO.mv rfl rfl rfl rfl ?_
  refine VO.val rfl rfl (OpV.len_v rfl Tryz.underlying29 rfl) ?_
  refine VO.val rfl rfl (OpV.lss rfl rfl rfl) ?_
  refine VO.nil ?_
  refine VC.cond rfl (fun aH1b => ?_) (fun aH1b => ?_)
  ·have aH1 := aH1b
   try simp only [qqT, qqF, qqN, qqM, qqL, qqE] at aH1
   refine VC.skip ?_
   refine VC.seq ?_
   refine VC.block ?_
   refine VC.sr ?_
   refine VO.mv rfl rfl rfl rfl ?_
   refine VO.mv rfl rfl rfl rfl ?_
   refine VO.val rfl rfl (OpV.indexAddr_o rfl Tryz.underlying29 Tryz.sizeOf9 rfl rfl rfl (by omega)) ?_
   refine VO.val rfl rfl (OpV.load_own (i := 0) rfl hB Tryz.isAgg9 rfl rfl (strsL_get (by omega)) (fun h => h)) ?_
   refine VO.ma rfl rfl rfl rfl ?_
   refine VO.nil ?_
   refine VC.sr ?_
   refine VO.mv rfl rfl rfl rfl ?_
   refine VO.mv rfl rfl rfl rfl ?_
   refine VO.op rfl (OpE.callH (rest := [_]) rfl hB rfl hcall rfl rfl (hF _) (List.perm_append_comm (l₁ := [_])) (fun _ _ => trivial) ?_)
   rintro _ _ ⟨rfl, rfl⟩
   refine VO.le _ (Le.front rfl) ?_
   refine VO.val rfl rfl (OpV.not rfl rfl) ?_
   refine VO.nil ?_
   refine VC.cond rfl (fun h2b => ?_) (fun h2b => ?_)
   ·have h2 := h2b
    try simp only [qqT, qqF, qqN, qqM, qqL, qqE] at h2
    refine VC.sr ?_
    refine VO.mv rfl rfl rfl rfl ?_
    refine VO.mv rfl rfl rfl rfl ?_
    refine VO.mv rfl rfl rfl rfl ?_
    refine VO.val rfl rfl (OpV.indexAddr_o rfl Tryz.underlying29 Tryz.sizeOf9 rfl rfl rfl (by omega)) ?_
    refine VO.op rfl (OpE.store1 (i := 0) rfl hB rfl Tryz.sizeOf9 rfl rfl rfl rfl rfl rfl (by rw [strsL_len]; omega) (strsL_set _ _ _) trivial ?_)
    refine VO.nil ?_
    refine VC.region ?_
    refine VO.mv rfl rfl rfl rfl ?_
    refine VO.val rfl rfl (OpV.add rfl rfl rfl (by unfold fits; omega)) ?_
    refine VO.ma rfl rfl rfl rfl ?_
    refine VO.nil ?_
    refine VC.region ?_
    refine VO.mv rfl rfl rfl rfl ?_
    refine VO.val rfl rfl (OpV.add rfl rfl rfl (by unfold fits; omega)) ?_
    refine VO.ma rfl rfl rfl rfl ?_
    refine VO.nil ?_
    exact Exists.intro (⟨(i + 1, j + 1, b.set i (b.getD j ByteArray.empty)), by show j + 1 ≤ _; omega, by show i + 1 < j + 1; omega, by show (b.set _ _).length = _; rw [List.length_set]; exact hbl, by show (b.set i _).take (i + 1) = _; rw [take_set_snoc (by omega), hbt, hbr j (Nat.le_refl _)]; exact (filt_yes (by omega) (by rw [← hbr j (Nat.le_refl _)]; first | assumption | simpa using h2)).symm, fun k hk => by show (b.set i _).getD k _ = _; rw [getD_set_ne (by have : j + 1 ≤ k := hk; omega)]; exact hbr k (by have : j + 1 ≤ k := hk; omega)⟩) (And.intro (Le.mkP hB ⟨rfl, rfl, rfl, rfl, trivial⟩ (List.Sublist.refl _) (List.Perm.refl _) (Nat.le_refl _)) (by first | omega | (show _ < _; omega) | (simp only []; omega)))
   ·have h2 := h2b
    try simp only [qqT, qqF, qqN, qqM, qqL, qqE] at h2
    refine VC.skip ?_
    refine VC.region ?_
    refine VO.mv rfl rfl rfl rfl ?_
    refine VO.val rfl rfl (OpV.add rfl rfl rfl (by unfold fits; omega)) ?_
    refine VO.ma rfl rfl rfl rfl ?_
    refine VO.nil ?_
    exact Exists.intro (⟨(i, j + 1, b), by show j + 1 ≤ _; omega, by show i < j + 1; omega, hbl, by show b.take i = _; rw [hbt]; exact (filt_no (by omega) (by rw [← hbr j (Nat.le_refl _)]; first | assumption | simpa using h2)).symm, fun k hk => hbr k (by have : j + 1 ≤ k := hk; omega)⟩) (And.intro (Le.mkP hB ⟨rfl, rfl, rfl, rfl, trivial⟩ (List.Sublist.refl _) (List.Perm.refl _) (Nat.le_refl _)) (by first | omega | (show _ < _; omega) | (simp only []; omega)))
  ·have aH1 := aH1b
   try simp only [qqT, qqF, qqN, qqM, qqL, qqE] at aH1
   refine VC.exit ?_
   refine VC.sr ?_
   refine VO.mv rfl rfl rfl rfl ?_
   refine VO.mv rfl rfl rfl rfl ?_
   refine VO.val rfl rfl (OpV.slice_own rfl Tryz.underlying29 Tryz.sizeOf9 rfl ⟨_, _, rfl, rfl⟩ rfl (by omega) (by omega) (by omega)) ?_
   refine VO.op rfl (OpE.clear (i := 0) rfl hB rfl Tryz.underlying29 Tryz.zeroValue9 rfl (by decide) rfl rfl (by show 0 + i * 1 + (xs.length - i) * 1 ≤ (strsL b).length; rw [strsL_len]; omega) trivial ?_)
   refine VO.nil ?_
   refine VC.sr ?_
   refine VO.mv rfl rfl rfl rfl ?_
   refine VO.mv rfl rfl rfl rfl ?_
   refine VO.val rfl rfl (OpV.slice_own rfl Tryz.underlying29 Tryz.sizeOf9 rfl rfl ⟨_, _, rfl, rfl⟩ (by omega) (by omega) (by omega)) ?_
   refine VO.ma rfl rfl rfl rfl ?_
   refine VO.nil ?_
   have e1 : (strsL b).take (0 + i * 1) = strsL ((xs.filter fun x => !p x)) := by
    rw [show 0 + i * 1 = i by omega, strsL, ← List.map_take, hbt, List.take_of_length_le (by omega)]; rfl
   have e2 : i = (xs.filter fun x => !p x).length := by
    have := congrArg List.length hbt
    rw [List.take_of_length_le (l := xs) (by omega), List.length_take] at this
    omega
   refine VC.le _ (Le.boxRow (i := 0) (n := i) (sz := 1) (cap := cap) rfl (by simp [strsL_len]; omega) (by omega) hmx) ?_
   refine VC.ret ?_
   exact Exists.intro _ (And.intro (RetV.one Tryz.results88 (ResV.tmp rfl)) (⟨_, rfl, by show [_] ++ _ = [_] ++ _; congr 2; first | (rw [e1, ← e2]; rfl) | skip⟩))
end Go.Proofs.YtdnlhdilpdeecaaGreatDoor
namespace Go.Proofs.YtdnlhdilpdeecaaGreatDoor
open Go.RowKit
set_option linter.unusedVariables false
set_option linter.unusedSimpArgs false

theorem Le.erase {B : Bs} {s : St'} (i : Nat) : Le B s ⟨s.sl, s.hp.eraseIdx i, s.k⟩ := fun a w hr => hr.erase i


end Go.Proofs.YtdnlhdilpdeecaaGreatDoor
namespace Go.Proofs.YtdnlhdilpdeecaaGreatDoor
open Go.RowKit
set_option linter.unusedVariables false
set_option linter.unusedSimpArgs false
theorem rowL_takeK {α : Type} [Inhabited α] [Sxc α] : ∀ (b : List α) (i : Nat), (rowL b).take (i * Sxc.k α) = rowL (b.take i)
 | b, 0 => by simp [rowL]
 | [], i + 1 => by simp [rowL]
 | x :: r, i + 1 => by
  have e : ∀ l : List α, rowL (x :: l) = tab (Sxc.k α) (Sxc.cell x) ++ rowL l := fun l => by simp [rowL]
  have hl : (tab (Sxc.k α) (Sxc.cell x)).length = Sxc.k α := tab_len _ _
  rw [List.take_succ_cons, e, e, List.take_append, hl, Nat.add_mul, Nat.one_mul, Nat.add_sub_cancel, List.take_of_length_le (by rw [hl]; omega), rowL_takeK r i]
set_option maxRecDepth 100000 in
theorem slices_IndexFuncO_lk {xs : List LookS} {u : Value} {ty : TypeId} {F : FuncId} {caps : Array Value} {hpC : List Ent} {p : LookS → Bool} (hl : xs.length ≤ 1000000000) (hcall : ∀ us w, (callFunc F us).run Tryz.prog w = .ok (.enter F us) w) (hF : ∀ x, SpecH Tryz.prog F ([avT x] ++ caps.toList.map .v) hpC (fun y hp' => y = avB (p x) ∧ hp' = hpC)) :
  SpecH Tryz.prog 208 [.v u, .v (.func (.func F) #[] caps)] (.row u xs.length 8 (rowL xs) ty :: hpC) (fun y hp' => y = avI (fidx p xs) ∧ hp' = .row u xs.length 8 (rowL xs) ty :: hpC) := by
 refine SpecH.of_VC Tryz.func208 rfl Tryz.ntmps208 (Nle rfl) fun w A hB => ?_
 have hnew : True := trivial
 refine VC.sr ?_
 refine VO.ma rfl rfl rfl rfl ?_
 refine VO.nil ?_
 refine VC.seq ?_
 refine VC.sr ?_
 refine VO.mv rfl rfl rfl rfl ?_
 refine VO.val rfl rfl (OpV.len_row (i := 0) rfl Tryz.underlying54 rfl rfl) ?_
 refine VO.mv rfl rfl rfl rfl ?_
 refine VO.nil ?_
 refine VC.block ?_
 refine VC.loopK [(0, _), (1, _), (7, _)] ⟨rfl, rfl, rfl, trivial⟩ ({q : Nat // q ≤ xs.length ∧ ∀ j, j < q → p (xs.getD j (default : LookS)) = false}) (fun (iZ : {q : Nat // q ≤ xs.length ∧ ∀ j, j < q → p (xs.getD j (default : LookS)) = false}) => match iZ with | ⟨q, hq, hn⟩ => [(8, avI (q : Int))]) (fun (iZ : {q : Nat // q ≤ xs.length ∧ ∀ j, j < q → p (xs.getD j (default : LookS)) = false}) => match iZ with | ⟨q, hq, hn⟩ => (.row u xs.length 8 (rowL xs) ty :: hpC)) (fun (iZ : {q : Nat // q ≤ xs.length ∧ ∀ j, j < q → p (xs.getD j (default : LookS)) = false}) => match iZ with | ⟨q, hq, hn⟩ => 0) (fun (iZ : {q : Nat // q ≤ xs.length ∧ ∀ j, j < q → p (xs.getD j (default : LookS)) = false}) => match iZ with | ⟨q, hq, hn⟩ => xs.length - q) ⟨0, Nat.zero_le _, fun j hj => absurd hj (Nat.not_lt_zero j)⟩ (Le.mkP hB ⟨rfl, rfl, rfl, rfl, trivial⟩ (List.Sublist.refl _) (List.Perm.refl _) (Nat.le_refl _)) ?_
 rintro ⟨q, hq, hn⟩
 show VC _ _ _ _ ⟨[(8, avI (q : Int))] ++ [(0, _), (1, _), (7, _)], (.row u xs.length 8 (rowL xs) ty :: hpC), 0⟩
 refine VC.sr ?_
 refine VO.val rfl rfl (OpV.lss rfl rfl rfl) ?_
 refine VO.nil ?_
 refine VC.seq ?_
 refine VC.cond rfl (fun aH1b => ?_) (fun aH1b => ?_)
 ·have aH1 := aH1b
  try simp only [qqT, qqF, qqN, qqM, qqL, qqE] at aH1
  refine VC.skip ?_
  refine VC.seq ?_
  refine VC.block ?_
  refine VC.seq ?_
  refine VC.asBox (i := 0) rfl (by omega) (fun g cap hu hcap hmx => ?_)
  subst hu
  refine VC.region ?_
  refine VO.mv rfl rfl rfl rfl ?_
  refine VO.ma rfl rfl rfl rfl ?_
  refine VO.nil ?_
  refine VC.sr ?_
  refine VO.mv rfl rfl rfl rfl ?_
  refine VO.mv rfl rfl rfl rfl ?_
  refine VO.mv rfl rfl rfl rfl ?_
  refine VO.val rfl rfl (OpV.indexAddr_q rfl Tryz.underlying54 Tryz.sizeOf80 rfl rfl rfl (by omega)) ?_
  refine VO.val rfl rfl (OpV.loadK_own (i := 0) rfl hB Tryz.isAgg80 Tryz.sizeOf80 rfl rfl (rowL_cut rfl (by omega)) (fun h => h)) ?_
  refine VO.op rfl (OpE.callH (rest := [_]) rfl hB rfl hcall rfl rfl (hF _) (List.perm_append_comm (l₁ := [_])) (fun _ _ => trivial) ?_)
  rintro _ _ ⟨rfl, rfl⟩
  refine VO.le _ (Le.front rfl) ?_
  refine VO.nil ?_
  refine VC.cond rfl (fun h1b => ?_) (fun h1b => ?_)
  ·have h1 := h1b
   try simp only [qqT, qqF, qqN, qqM, qqL, qqE] at h1
   refine VC.le _ (Le.boxRow (i := 0) (n := xs.length) (sz := 8) rfl (by rw [rowL_len]; rfl) hcap hmx) ?_
   refine VC.sr ?_
   refine VO.mv rfl rfl rfl rfl ?_
   refine VO.ma rfl rfl rfl rfl ?_
   refine VO.nil ?_
   refine VC.ret ?_
   exact Exists.intro _ (And.intro (RetV.one Tryz.results208 (ResV.tmp rfl)) (⟨by first | (rw [fidx_found (d := (default : LookS)) (q := q) (by omega) hn (by assumption)]) | (rw [fidx_none (d := (default : LookS)) (fun j hj => hn j (by omega))]), rfl⟩))
  ·have h1 := h1b
   try simp only [qqT, qqF, qqN, qqM, qqL, qqE] at h1
   refine VC.le _ (Le.boxRow (i := 0) (n := xs.length) (sz := 8) rfl (by rw [rowL_len]; rfl) hcap hmx) ?_
   refine VC.skip ?_
   refine VC.region ?_
   refine VO.val rfl rfl (OpV.add rfl rfl rfl (by unfold fits; omega)) ?_
   refine VO.mv rfl rfl rfl rfl ?_
   refine VO.nil ?_
   exact Exists.intro (⟨q + 1, by omega, lt_succ_cases hn (by assumption)⟩) (And.intro (Le.mkP hB ⟨rfl, rfl, rfl, rfl, trivial⟩ (List.Sublist.refl _) (List.Perm.refl _) (Nat.le_refl _)) (by first | omega | (show _ < _; omega) | (simp only []; omega)))
 ·have aH1 := aH1b
  try simp only [qqT, qqF, qqN, qqM, qqL, qqE] at aH1
  refine VC.exit ?_
  refine VC.sr ?_
  refine VO.ma rfl rfl rfl rfl ?_
  refine VO.nil ?_
  refine VC.ret ?_
  exact Exists.intro _ (And.intro (RetV.one Tryz.results208 (ResV.tmp rfl)) (⟨by first | (rw [fidx_found (d := (default : LookS)) (q := q) (by omega) hn (by assumption)]) | (rw [fidx_none (d := (default : LookS)) (fun j hj => hn j (by omega))]), rfl⟩))
set_option maxRecDepth 100000 in
theorem slices_DeleteFunc_lk {xs : List LookS} {u : Value} {ty : TypeId} {F : FuncId} {caps : Array Value} {hpC : List Ent} {p : LookS → Bool} (hl : xs.length ≤ 1000000000) (hcall : ∀ us w, (callFunc F us).run Tryz.prog w = .ok (.enter F us) w) (hF : ∀ x, SpecH Tryz.prog F ([avT x] ++ caps.toList.map .v) hpC (fun y hp' => y = avB (p x) ∧ hp' = hpC)) :
  SpecH Tryz.prog 209 [.v u, .v (.func (.func F) #[] caps)] (.row u xs.length 8 (rowL xs) ty :: hpC) (fun y hp' => ∃ u', y = .v u' ∧ hp' = .row u' (xs.filter fun x => !p x).length 8 (rowL (xs.filter fun x => !p x)) ty :: hpC) := by
 refine SpecH.of_VC Tryz.func209 rfl Tryz.ntmps209 (Nle rfl) fun w A hB => ?_
 have hnew : True := trivial
 refine VC.sr ?_
 refine VO.ma rfl rfl rfl rfl ?_
 refine VO.nil ?_
 refine VC.sr ?_
 refine VO.mv rfl rfl rfl rfl ?_
 refine VO.mv rfl rfl rfl rfl ?_
 refine VO.op rfl (OpE.callH0 rfl hB rfl Tryz.call208 rfl rfl (slices_IndexFuncO_lk hl hcall hF) (List.Perm.refl _) (fun _ _ => trivial) ?_)
 rintro _ _ ⟨rfl, rfl⟩
 refine VO.ma rfl rfl rfl rfl ?_
 refine VO.nil ?_
 refine VC.seq ?_
 refine VC.sr ?_
 refine VO.mv rfl rfl rfl rfl ?_
 refine VO.val rfl rfl (OpV.eql rfl rfl rfl) ?_
 refine VO.nil ?_
 refine VC.cond rfl (fun h0b => ?_) (fun h0b => ?_)
 ·have h0 := h0b
  try simp only [qqT, qqF, qqN, qqM, qqL, qqE] at h0
  refine VC.sr ?_
  refine VO.mv rfl rfl rfl rfl ?_
  refine VO.ma rfl rfl rfl rfl ?_
  refine VO.nil ?_
  refine VC.ret ?_
  exact Exists.intro _ (And.intro (RetV.one Tryz.results209 (ResV.tmp rfl)) (⟨_, rfl, by rw [filt_all (d := (default : LookS)) h0]; rfl⟩))
 ·have h0 := h0b
  try simp only [qqT, qqF, qqN, qqM, qqL, qqE] at h0
  have hge := fidx_ge p xs
  obtain ⟨k1, k2, k3⟩ := fidx_at (d := (default : LookS)) (p := p) (xs := xs) (by omega)
  obtain ⟨i0, hi0⟩ : ∃ i0 : Nat, fidx p xs = i0 := ⟨(fidx p xs).toNat, by omega⟩
  have hst := filt_start (d := (default : LookS)) (p := p) (xs := xs) (by omega)
  rw [hi0] at k1 k2 k3 hst ⊢
  simp only [Int.toNat_natCast] at k1 k2 k3 hst
  refine VC.asBox (i := 0) rfl (by omega) (fun g cap hu hcap hmx => ?_)
  subst hu
  refine VC.skip ?_
  refine VC.seq ?_
  refine VC.sr ?_
  refine VO.mv rfl rfl rfl rfl ?_
  refine VO.val rfl rfl (OpV.add rfl rfl rfl (by unfold fits; omega)) ?_
  refine VO.ma rfl rfl rfl rfl ?_
  refine VO.nil ?_
  refine VC.block ?_
  refine VC.loopK [(0, _), (1, _)] ⟨rfl, rfl, trivial⟩ ({t : Nat × Nat × List LookS // t.2.1 ≤ xs.length ∧ t.1 < t.2.1 ∧ t.2.2.length = xs.length ∧ t.2.2.take t.1 = (xs.take t.2.1).filter (fun x => !p x) ∧ ∀ k, t.2.1 ≤ k → t.2.2.getD k (default : LookS) = xs.getD k (default : LookS)}) (fun (iZ : {t : Nat × Nat × List LookS // t.2.1 ≤ xs.length ∧ t.1 < t.2.1 ∧ t.2.2.length = xs.length ∧ t.2.2.take t.1 = (xs.take t.2.1).filter (fun x => !p x) ∧ ∀ k, t.2.1 ≤ k → t.2.2.getD k (default : LookS) = xs.getD k (default : LookS)}) => match iZ with | ⟨⟨i, j, b⟩, hj, hij, hbl, hbt, hbr⟩ => [(5, avI (i : Int)), (6, avI (j : Int))]) (fun (iZ : {t : Nat × Nat × List LookS // t.2.1 ≤ xs.length ∧ t.1 < t.2.1 ∧ t.2.2.length = xs.length ∧ t.2.2.take t.1 = (xs.take t.2.1).filter (fun x => !p x) ∧ ∀ k, t.2.1 ≤ k → t.2.2.getD k (default : LookS) = xs.getD k (default : LookS)}) => match iZ with | ⟨⟨i, j, b⟩, hj, hij, hbl, hbt, hbr⟩ => (.box g ⟨rowL b, ty, cap * 8⟩ :: hpC)) (fun (iZ : {t : Nat × Nat × List LookS // t.2.1 ≤ xs.length ∧ t.1 < t.2.1 ∧ t.2.2.length = xs.length ∧ t.2.2.take t.1 = (xs.take t.2.1).filter (fun x => !p x) ∧ ∀ k, t.2.1 ≤ k → t.2.2.getD k (default : LookS) = xs.getD k (default : LookS)}) => match iZ with | ⟨⟨i, j, b⟩, hj, hij, hbl, hbt, hbr⟩ => 0) (fun (iZ : {t : Nat × Nat × List LookS // t.2.1 ≤ xs.length ∧ t.1 < t.2.1 ∧ t.2.2.length = xs.length ∧ t.2.2.take t.1 = (xs.take t.2.1).filter (fun x => !p x) ∧ ∀ k, t.2.1 ≤ k → t.2.2.getD k (default : LookS) = xs.getD k (default : LookS)}) => match iZ with | ⟨⟨i, j, b⟩, hj, hij, hbl, hbt, hbr⟩ => xs.length - j) ⟨(i0, i0 + 1, xs), k1, by show i0 < i0 + 1; omega, rfl, hst.symm, fun k _ => rfl⟩ (Le.mkP hB ⟨rfl, rfl, rfl, rfl, trivial⟩ (List.Sublist.refl _) (List.Perm.refl _) (Nat.le_refl _)) ?_
  rintro ⟨⟨i, j, b⟩, hj, hij, hbl, hbt, hbr⟩
  show VC _ _ _ _ ⟨[(5, avI (i : Int)), (6, avI (j : Int))] ++ [(0, _), (1, _)], (.box g ⟨rowL b, ty, cap * 8⟩ :: hpC), 0⟩
  simp only at hj hij hbl hbt hbr
  refine VC.seq ?_
  refine VC.sr ?_
  refine VO.mv rfl rfl rfl rfl ?_
  refine VO.mv rfl rfl rfl rfl ?_
  refine VO.val rfl rfl (OpV.len_v rfl Tryz.underlying54 rfl) ?_
  refine VO.val rfl rfl (OpV.lss rfl rfl rfl) ?_
  refine VO.nil ?_
  refine VC.cond rfl (fun aH1b => ?_) (fun aH1b => ?_)
  ·have aH1 := aH1b
   try simp only [qqT, qqF, qqN, qqM, qqL, qqE] at aH1
   refine VC.skip ?_
   refine VC.seq ?_
   refine VC.block ?_
   refine VC.sr ?_
   refine VO.mv rfl rfl rfl rfl ?_
   refine VO.mv rfl rfl rfl rfl ?_
   refine VO.val rfl rfl (OpV.indexAddr_q rfl Tryz.underlying54 Tryz.sizeOf80 rfl rfl rfl (by omega)) ?_
   refine VO.val rfl rfl (OpV.loadK_own (i := 0) rfl hB Tryz.isAgg80 Tryz.sizeOf80 rfl rfl (rowL_cut rfl (by omega)) (fun h => h)) ?_
   refine VO.op rfl (OpE.alloc rfl hB rfl Tryz.zeroValue80 rfl ?_)
   intro g7
   refine VO.le _ (Le.front rfl) ?_
   refine VO.op rfl (OpE.store (i := 0) rfl hB rfl Tryz.sizeOf80 rfl rfl rfl rfl rfl rfl (Nle rfl) trivial ?_)
   refine VO.nil ?_
   refine VC.sr ?_
   refine VO.mv rfl rfl rfl rfl ?_
   refine VO.val rfl rfl (OpV.loadK_own (i := 0) rfl hB Tryz.isAgg80 Tryz.sizeOf80 rfl rfl rfl (fun h => h)) ?_
   refine VO.op rfl (OpE.callH (rest := [_, _]) rfl hB rfl hcall rfl rfl (hF _) (List.perm_append_comm (l₁ := [_, _])) (fun _ _ => trivial) ?_)
   rintro _ _ ⟨rfl, rfl⟩
   refine VO.le _ (Le.perm (List.perm_append_comm (l₂ := [_, _]))) ?_
   refine VO.val rfl rfl (OpV.not rfl rfl) ?_
   refine VO.nil ?_
   refine VC.cond rfl (fun h2b => ?_) (fun h2b => ?_)
   ·have h2 := h2b
    try simp only [qqT, qqF, qqN, qqM, qqL, qqE] at h2
    refine VC.sr ?_
    refine VO.mv rfl rfl rfl rfl ?_
    refine VO.mv rfl rfl rfl rfl ?_
    refine VO.val rfl rfl (OpV.loadK_own (i := 0) rfl hB Tryz.isAgg80 Tryz.sizeOf80 rfl rfl rfl (fun h => h)) ?_
    refine VO.val rfl rfl (OpV.indexAddr_q rfl Tryz.underlying54 Tryz.sizeOf80 rfl rfl rfl (by omega)) ?_
    refine VO.op rfl (OpE.storeE (i := 1) rfl hB rfl Tryz.sizeOf80 rfl rfl rfl rfl rfl rfl (rowL_inE rfl (by omega)) (rowL_setAll (x := b.getD j default) rfl (by omega)) trivial ?_)
    refine VO.nil ?_
    refine VC.region ?_
    refine VO.mv rfl rfl rfl rfl ?_
    refine VO.val rfl rfl (OpV.add rfl rfl rfl (by unfold fits; omega)) ?_
    refine VO.ma rfl rfl rfl rfl ?_
    refine VO.nil ?_
    refine VC.region ?_
    refine VO.mv rfl rfl rfl rfl ?_
    refine VO.val rfl rfl (OpV.add rfl rfl rfl (by unfold fits; omega)) ?_
    refine VO.ma rfl rfl rfl rfl ?_
    refine VO.nil ?_
    exact Exists.intro (⟨(i + 1, j + 1, b.set i (b.getD j (default : LookS))), by show j + 1 ≤ _; omega, by show i + 1 < j + 1; omega, by show (b.set _ _).length = _; rw [List.length_set]; exact hbl, by show (b.set i _).take (i + 1) = _; rw [take_set_snoc (by omega), hbt, hbr j (Nat.le_refl _)]; exact (filt_yes (by omega) (by rw [← hbr j (Nat.le_refl _)]; first | assumption | simpa using h2)).symm, fun k hk => by show (b.set i _).getD k _ = _; rw [getD_set_ne (by have : j + 1 ≤ k := hk; omega)]; exact hbr k (by have : j + 1 ≤ k := hk; omega)⟩) (And.intro (Le.mkP hB ⟨rfl, rfl, rfl, rfl, trivial⟩ (List.Sublist.cons _ (List.Sublist.refl _)) (List.Perm.refl _) (Nat.le_refl _)) (by first | omega | (show _ < _; omega) | (simp only []; omega)))
   ·have h2 := h2b
    try simp only [qqT, qqF, qqN, qqM, qqL, qqE] at h2
    refine VC.skip ?_
    refine VC.region ?_
    refine VO.mv rfl rfl rfl rfl ?_
    refine VO.val rfl rfl (OpV.add rfl rfl rfl (by unfold fits; omega)) ?_
    refine VO.ma rfl rfl rfl rfl ?_
    refine VO.nil ?_
    exact Exists.intro (⟨(i, j + 1, b), by show j + 1 ≤ _; omega, by show i < j + 1; omega, hbl, by show b.take i = _; rw [hbt]; exact (filt_no (by omega) (by rw [← hbr j (Nat.le_refl _)]; first | assumption | simpa using h2)).symm, fun k hk => hbr k (by have : j + 1 ≤ k := hk; omega)⟩) (And.intro (Le.mkP hB ⟨rfl, rfl, rfl, rfl, trivial⟩ (List.Sublist.cons _ (List.Sublist.refl _)) (List.Perm.refl _) (Nat.le_refl _)) (by first | omega | (show _ < _; omega) | (simp only []; omega)))
  ·have aH1 := aH1b
   try simp only [qqT, qqF, qqN, qqM, qqL, qqE] at aH1
   refine VC.exit ?_
   refine VC.sr ?_
   refine VO.mv rfl rfl rfl rfl ?_
   refine VO.mv rfl rfl rfl rfl ?_
   refine VO.val rfl rfl (OpV.slice_own rfl Tryz.underlying54 Tryz.sizeOf80 rfl ⟨_, _, rfl, rfl⟩ rfl (by omega) (by omega) (by omega)) ?_
   refine VO.op rfl (OpE.clear (i := 0) rfl hB rfl Tryz.underlying54 Tryz.zeroValue80 rfl (by decide) rfl rfl (by show 0 + i * 8 + (xs.length - i) * 8 ≤ (rowL b).length; rw [rowL_len]; show _ ≤ b.length * 8; omega) trivial ?_)
   refine VO.nil ?_
   refine VC.sr ?_
   refine VO.mv rfl rfl rfl rfl ?_
   refine VO.mv rfl rfl rfl rfl ?_
   refine VO.val rfl rfl (OpV.slice_own rfl Tryz.underlying54 Tryz.sizeOf80 rfl rfl ⟨_, _, rfl, rfl⟩ (by omega) (by omega) (by omega)) ?_
   refine VO.ma rfl rfl rfl rfl ?_
   refine VO.nil ?_
   have hk8 : Sxc.k LookS = 8 := rfl
   have e1 : (rowL b).take (0 + i * 8) = rowL ((xs.filter fun x => !p x)) := by
    rw [show 0 + i * 8 = i * Sxc.k LookS by rw [hk8]; omega, rowL_takeK, hbt, List.take_of_length_le (by omega)]
   have e2 : i = (xs.filter fun x => !p x).length := by
    have := congrArg List.length hbt
    rw [List.take_of_length_le (l := xs) (by omega), List.length_take] at this
    omega
   refine VC.le _ (Le.boxRow (i := 0) (n := i) (sz := 8) (cap := cap) rfl (by simp [rowL_len, hk8]; omega) (by omega) hmx) ?_
   refine VC.ret ?_
   exact Exists.intro _ (And.intro (RetV.one Tryz.results209 (ResV.tmp rfl)) (⟨_, rfl, by show [_] ++ _ = [_] ++ _; congr 2; first | (rw [e1, ← e2]; rfl) | skip⟩))
theorem lk_one (xs : List LookS) (x : Nat) (h : x < xs.length * 8) : ((fun q => Sxc.cell (xs.getD q default)) (x / Sxc.k LookS) (x % Sxc.k LookS)).one = true := by
 have : x % Sxc.k LookS < 8 := Nat.mod_lt _ (by decide)
 match x % Sxc.k LookS, this with
 | 0, _ => rfl
 | 1, _ => rfl
 | 2, _ => rfl
 | 3, _ => rfl
 | 4, _ => rfl
 | 5, _ => rfl
 | 6, _ => rfl
 | 7, _ => rfl
set_option maxRecDepth 100000 in
theorem slices_CloneLk {xs : List LookS} (hl : xs.length ≤ 1000000000) :
  SpecH Tryz.prog 210 [avL xs] [] (fun y hp' => ∃ u, y = .v u ∧ hp' = [.row u (xs.length) (8) (rowL xs) (80)]) := by
 refine SpecH.of_VC Tryz.func210 rfl Tryz.ntmps210 (Nle rfl) fun w A hB => ?_
 have hnew : True := trivial
 refine VC.sr ?_
 refine VO.ma rfl rfl rfl rfl ?_
 refine VO.nil ?_
 refine VC.seq ?_
 refine VC.sr ?_
 refine VO.mv rfl rfl rfl rfl ?_
 refine VO.op rfl (OpE.eqNil rfl rfl Tryz.underlying54 rfl ?_)
 intro b4 hb4
 refine VO.nil ?_
 refine VC.cond rfl (fun h0b => ?_) (fun h0b => ?_)
 ·have h0 := h0b
  try simp only [qqT, qqF, qqN, qqM, qqL, qqE] at h0
  refine VC.sr ?_
  refine VO.ma rfl rfl rfl rfl ?_
  refine VO.nil ?_
  obtain rfl : xs = [] := List.eq_nil_of_length_eq_zero (hb4 h0)
  refine VC.le _ (Le.nilRow 8 80) ?_
  refine VC.le ⟨[(2, _)], [_], 0⟩ (Le.pick hB [0] ⟨rfl, trivial⟩ rfl rfl (Nat.le_refl _)) ?_
  refine VC.ret ?_
  exact Exists.intro _ (And.intro (RetV.one Tryz.results210 (ResV.tmp rfl)) (⟨_, rfl, rfl⟩))
 ·have h0 := h0b
  try simp only [qqT, qqF, qqN, qqM, qqL, qqE] at h0
  refine VC.skip ?_
  refine VC.sr ?_
  refine VO.op rfl (OpE.buildSlice0 rfl hB rfl Tryz.underlying54 Tryz.sizeOf80 ?_)
  intro g5
  refine VO.mv rfl rfl rfl rfl ?_
  refine VO.op rfl (OpE.appendP (i := 0) rfl hB rfl Tryz.underlying54 (infoOf Tryz.t80 8 (by kernel_rfl) rfl rfl) rfl (by decide) (by decide) rfl rfl (.im rfl) (lk_one xs) (by omega) (tab_L xs) (fun _ _ => trivial) ?_)
  intro u7
  refine VO.ma rfl rfl rfl rfl ?_
  refine VO.nil ?_
  rw [Nat.zero_add]
  refine VC.le ⟨[(2, _)], [_], 0⟩ (Le.pick hB [0] ⟨rfl, trivial⟩ rfl rfl (Nat.le_refl _)) ?_
  refine VC.ret ?_
  exact Exists.intro _ (And.intro (RetV.one Tryz.results210 (ResV.tmp rfl)) (⟨_, rfl, rfl⟩))
abbrev whH (g : Nat) (F : FuncId) (caps : Array Value) : Ent := .box g ⟨[.v (.func (.func F) #[] caps)], 147, 1⟩
set_option maxRecDepth 100000 in
theorem rf_which1 {x : LookS} {g : Nat} {F : FuncId} {caps : Array Value} {hpC : List Ent} {p : LookS → Bool} (hcall : ∀ us w, (callFunc F us).run Tryz.prog w = .ok (.enter F us) w) (hF : SpecH Tryz.prog F ([avT x] ++ caps.toList.map .v) hpC (fun y hp' => y = avB (p x) ∧ hp' = hpC)) :
  SpecH Tryz.prog 211 [avT x, pt g] (whH g F caps :: hpC) (fun y hp' => y = avB (!p x) ∧ hp' = whH g F caps :: hpC) := by
 refine SpecH.of_VC Tryz.func211 rfl Tryz.ntmps211 (Nle rfl) fun w A hB => ?_
 have hnew : True := trivial
 refine VC.sr ?_
 refine VO.op rfl (OpE.box rfl hB rfl rfl rfl ?_)
 intro g2
 refine VO.le _ (Le.front rfl) ?_
 refine VO.ma rfl rfl rfl rfl ?_
 refine VO.nil ?_
 refine VC.sr ?_
 refine VO.val rfl rfl (OpV.load_own (i := 1) rfl hB Tryz.isAgg147 rfl rfl rfl (fun h => h)) ?_
 refine VO.val rfl rfl (OpV.loadK_own (i := 0) rfl hB Tryz.isAgg80 Tryz.sizeOf80 rfl rfl rfl (fun h => h)) ?_
 refine VO.op rfl (OpE.callH (rest := [_, _]) rfl hB rfl hcall rfl rfl hF (List.perm_append_comm (l₁ := [_, _])) (fun _ _ => trivial) ?_)
 rintro _ _ ⟨rfl, rfl⟩
 refine VO.le _ (Le.perm (List.perm_append_comm (l₂ := [_, _]))) ?_
 refine VO.val rfl rfl (OpV.not rfl rfl) ?_
 refine VO.ma rfl rfl rfl rfl ?_
 refine VO.nil ?_
 refine VC.le _ (Le.drop 1) ?_
 refine VC.ret ?_
 exact Exists.intro _ (And.intro (RetV.one Tryz.results211 (ResV.tmp rfl)) (⟨rfl, rfl⟩))
theorem filt_nn {α : Type} (p : α → Bool) (l : List α) : (l.filter fun x => !!p x) = l.filter p := by simp
set_option maxRecDepth 100000 in
theorem rf_which {l : List LookS} {F : FuncId} {caps : Array Value} {hpC : List Ent} {p : LookS → Bool} (hl : l.length ≤ 1000000) (hcall : ∀ us w, (callFunc F us).run Tryz.prog w = .ok (.enter F us) w) (hF : ∀ x, SpecH Tryz.prog F ([avT x] ++ caps.toList.map .v) hpC (fun y hp' => y = avB (p x) ∧ hp' = hpC)) :
  SpecH Tryz.prog 136 [avL l, .v (.func (.func F) #[] caps)] hpC (fun y hp' => ∃ u', y = .v u' ∧ hp' = .row u' (l.filter p).length 8 (rowL (l.filter p)) 80 :: hpC) := by
 refine SpecH.of_VC Tryz.func136 rfl Tryz.ntmps136 (Nle rfl) fun w A hB => ?_
 have hnew : True := trivial
 refine VC.sr ?_
 refine VO.op rfl (OpE.box rfl hB rfl rfl rfl ?_)
 intro g3
 refine VO.le _ (Le.front rfl) ?_
 refine VO.ma rfl rfl rfl rfl ?_
 refine VO.nil ?_
 refine VC.sr ?_
 refine VO.mv rfl rfl rfl rfl ?_
 refine VO.op rfl (OpE.callH (hp := []) (rest := _) rfl hB rfl Tryz.call210 rfl rfl (slices_CloneLk (by omega)) (List.Perm.refl _) (fun _ h => by obtain ⟨e, he, _⟩ := h; cases he) ?_)
 rintro _ _ ⟨u6, rfl, rfl⟩
 refine VO.val rfl rfl (OpV.makeFunc1 rfl rfl) ?_
 refine VO.op rfl (OpE.callH0 rfl hB rfl Tryz.call209 rfl rfl (slices_DeleteFunc_lk (xs := l) (hpC := whH g3 F caps :: hpC) (p := fun x => !p x) (by omega) Tryz.call211 (fun x => rf_which1 hcall (hF x))) (List.Perm.refl _) (fun _ _ => trivial) ?_)
 rintro _ _ ⟨u2, rfl, rfl⟩
 refine VO.le _ (Le.erase 1) ?_
 refine VO.ma rfl rfl rfl rfl ?_
 refine VO.nil ?_
 refine VC.ret ?_
 exact Exists.intro _ (And.intro (RetV.one Tryz.results136 (ResV.tmp rfl)) (⟨u2, rfl, by rw [filt_nn]; rfl⟩))
set_option maxRecDepth 100000 in
theorem rf_bad1 {x : LookS}  :
  SpecH Tryz.prog 212 [avT x] [] (fun y hp' => y = avB x.bad ∧ hp' = []) := by
 refine SpecH.of_VC Tryz.func212 rfl Tryz.ntmps212 (Nle rfl) fun w A hB => ?_
 have hnew : True := trivial
 refine VC.sr ?_
 refine VO.op rfl (OpE.box rfl hB rfl rfl rfl ?_)
 intro g1
 refine VO.ma rfl rfl rfl rfl ?_
 refine VO.nil ?_
 refine VC.sr ?_
 refine VO.val rfl rfl (OpV.fieldAddrO 4 rfl Tryz.underlying80 rfl rfl Tryz.sizeOf4 rfl) ?_
 refine VO.val rfl rfl (OpV.load_own (i := 0) rfl hB Tryz.isAgg4 rfl rfl rfl (fun h => h)) ?_
 refine VO.ma rfl rfl rfl rfl ?_
 refine VO.nil ?_
 refine VC.le _ (Le.drop 1) ?_
 refine VC.ret ?_
 exact Exists.intro _ (And.intro (RetV.one Tryz.results212 (ResV.tmp rfl)) (⟨rfl, rfl⟩))
set_option maxRecDepth 100000 in
theorem rf_bad {l : List LookS} (hl : l.length ≤ 1000000) :
  SpecN Tryz.prog 142 [avL l] (fun y => y = avI (badN l : Int)) := by
 refine SpecN.of_VCN Tryz.func142 rfl Tryz.ntmps142 (Nle rfl) fun w A hB => ?_
 have hnew : True := trivial
 refine VC.sr ?_
 refine VO.ma rfl rfl rfl rfl ?_
 refine VO.nil ?_
 refine VC.sr ?_
 refine VO.mv rfl rfl rfl rfl ?_
 refine VO.op rfl (OpE.callH0 rfl hB rfl Tryz.call136 rfl rfl (rf_which (hpC := []) (p := fun x => x.bad) hl Tryz.call212 (fun x => rf_bad1)) (List.Perm.refl _) (fun _ _ => trivial) ?_)
 rintro _ _ ⟨u4, rfl, rfl⟩
 refine VO.val rfl rfl (OpV.len_row (i := 0) rfl Tryz.underlying54 rfl rfl) ?_
 refine VO.ma rfl rfl rfl rfl ?_
 refine VO.nil ?_
 refine VC.ret ?_
 exact Exists.intro _ (And.intro (RetN.one Tryz.results142 (ResN.v rfl)) (rfl))
end Go.Proofs.YtdnlhdilpdeecaaGreatDoor
namespace Go.Proofs.YtdnlhdilpdeecaaGreatDoor
open Go.RowKit
set_option linter.unusedVariables false
set_option linter.unusedSimpArgs false
structure Ord (n : Nat) (o : List Int) : Prop where
 nd : o.Nodup
 lt : ∀ x ∈ o, 0 ≤ x ∧ x < n
theorem Ord.nil (n : Nat) : Ord n [] := ⟨List.nodup_nil, fun x h => by simp at h⟩
theorem Ord.snoc {n : Nat} {o : List Int} (h : Ord n o) {q : Nat} (hq : q < n) (hn : (q : Int) ∉ o) : Ord n (o ++ [(q : Int)]) := by
 refine ⟨?_, fun x hx => ?_⟩
 ·rw [List.nodup_append]
  exact ⟨h.nd, by simp, fun a ha b hb => by simp at hb; subst hb; exact fun e => hn (e ▸ ha)⟩
 ·rcases List.mem_append.1 hx with hx | hx
  ·exact h.lt x hx
  ·simp at hx; subst hx; omega
section
variable {τ : Type} (n : Nat) (step : τ → List Int → τ)
def ext : Nat → List Int → τ → τ
 | 0, o, s => step s o
 | d + 1, o, s => (List.range n).foldl (fun (s : τ) (i : Nat) => if (i : Int) ∈ o then s else ext d (o ++ [(i : Int)]) s) s
variable {n step}
end
def idO (n : Nat) : List Int := (List.range n).map fun (i : Nat) => (i : Int)
theorem idO_len (n : Nat) : (idO n).length = n := by simp [idO]
theorem perm_of_sub : ∀ {l m : List Int}, l.Nodup → (∀ x ∈ l, x ∈ m) → m.length = l.length → l.Perm m
 | [], m, _, _, hl => by rw [List.eq_nil_of_length_eq_zero hl]
 | x :: r, m, h, hs, hl => by
  have hx := hs x (by simp)
  have hp := List.perm_cons_erase hx
  have := perm_of_sub (l := r) (m := m.erase x) (List.nodup_cons.1 h).2 (fun y hy => (List.mem_erase_of_ne (fun e => by subst e; exact (List.nodup_cons.1 h).1 hy)).2 (hs y (by simp [hy]))) (by rw [List.length_erase_of_mem hx, hl]; simp)
  exact (this.cons x).trans hp.symm
theorem Ord.perm {n : Nat} {l : List Int} (h : Ord n l) (hl : l.length = n) : l.Perm (idO n) := perm_of_sub h.nd (fun x hx => by
 have := h.lt x hx
 exact List.mem_map.2 ⟨x.toNat, List.mem_range.2 (by omega), by omega⟩) (by rw [idO_len, hl])
end Go.Proofs.YtdnlhdilpdeecaaGreatDoor
namespace Go.Proofs.YtdnlhdilpdeecaaGreatDoor
open Go.RowKit
set_option linter.unusedVariables false
set_option linter.unusedSimpArgs false
def eqLk (x y : LookS) : Bool := sEq x.board y.board && (sEq x.name y.name && (decide (x.at_ = y.at_) && (decide (x.verdict = y.verdict) && ((x.bad == y.bad) && (sEq x.machine y.machine && (sEq x.nozzle y.nozzle && (sEq x.reel y.reel && true)))))))
def plc (x : LookS) : ByteArray × ByteArray := (x.board, x.name)
theorem sameT_iff {x y : LookS} : sameT x y = true ↔ plc x = plc y := by simp [sameT, plc, sEq_eq, Prod.mk.injEq]
def mstep (out : List LookS) (x : LookS) : Option (List LookS) := match out.find? (fun o => sameT o x) with
 | none => some (out ++ [x])
 | some o => if eqLk o x = true then some out else none
def mgo (out l : List LookS) : Option (List LookS) := l.foldlM mstep out
theorem mstep_inv {P : List LookS → Prop} {out : List LookS} {x : LookS} {r : List LookS} (h : P out) (hx : out.find? (fun o => sameT o x) = none → P (out ++ [x])) (hs : mstep out x = some r) : P r := by
 unfold mstep at hs
 split at hs
 ·rename_i e; cases hs; exact hx e
 ·split at hs
  ·cases hs; exact h
  ·cases hs
theorem mgo_inv {P : List LookS → Prop} : ∀ {l out r : List LookS}, P out → (∀ o x, x ∈ l → P o → o.find? (fun o => sameT o x) = none → P (o ++ [x])) → mgo out l = some r → P r
 | [], out, r, h, _, hs => by cases hs; exact h
 | x :: l, out, r, h, hx, hs => by
  have e : mgo out (x :: l) = (mstep out x).bind fun o => mgo o l := by unfold mgo; rw [List.foldlM_cons]; rfl
  rw [e] at hs
  cases h1 : mstep out x with
  | none => rw [h1] at hs; cases hs
  | some o =>
   rw [h1] at hs
   exact mgo_inv (mstep_inv h (hx _ _ (List.mem_cons_self ..) h) h1) (fun o y hy => hx o y (List.mem_cons_of_mem _ hy)) hs
theorem mgo_nodup {l out r : List LookS} (h : (out.map plc).Nodup) (hs : mgo out l = some r) : (r.map plc).Nodup :=
 mgo_inv (P := fun o => (o.map plc).Nodup) h (fun o x _ ho hn => by
  rw [List.map_append, List.nodup_append]
  refine ⟨ho, by simp, fun a ha b hb => ?_⟩
  obtain ⟨y, hy, rfl⟩ := List.mem_map.1 ha
  simp at hb; subst hb
  rw [List.find?_eq_none] at hn
  exact fun e => hn y hy (sameT_iff.2 e)) hs
theorem mgo_len {l out r : List LookS} (hs : mgo out l = some r) : r.length ≤ out.length + l.length := by
 induction l generalizing out with
 | nil => cases hs; simp
 | cons x l ih =>
  have e : mgo out (x :: l) = (mstep out x).bind fun o => mgo o l := by unfold mgo; rw [List.foldlM_cons]; rfl
  rw [e] at hs
  cases h1 : mstep out x with
  | none => rw [h1] at hs; cases hs
  | some o =>
   rw [h1] at hs
   have h2 := ih hs
   have h3 : o.length ≤ out.length + 1 := mstep_inv (P := fun o => o.length ≤ out.length + 1) (by omega) (fun _ => by simp) h1
   simp only [List.length_cons]; omega
abbrev ltLk (x y : LookS) : Bool := decide (cmpLk x y < 0)
theorem cmpI_0 {a b : Int} : cmpI a b = 0 ↔ a = b := by unfold cmpI; split <;> (try split) <;> omega
theorem cmpI_neg {a b : Int} : cmpI a b < 0 ↔ a < b := by unfold cmpI; split <;> (try split) <;> omega
theorem cmpLk_eq (a b : LookS) : cmpLk a b = if cmpI a.at_ b.at_ ≠ 0 then cmpI a.at_ b.at_ else if cmpB a.board b.board ≠ 0 then cmpB a.board b.board else cmpB a.name b.name := by
 unfold cmpLk errsF
 by_cases h1 : cmpI a.at_ b.at_ = 0
 ·by_cases h2 : cmpB a.board b.board = 0
  ·by_cases h3 : cmpB a.name b.name = 0 <;> simp [h1, h2, h3]
  ·simp [h1, h2]
 ·simp [h1]
theorem ltLk_iff {a b : LookS} : ltLk a b = true ↔ a.at_ < b.at_ ∨ a.at_ = b.at_ ∧ (sLt a.board b.board = true ∨ a.board = b.board ∧ sLt a.name b.name = true) := by
 show decide (cmpLk a b < 0) = true ↔ _
 rw [decide_eq_true_eq, cmpLk_eq]
 have hb := cmpB_lt a.board b.board
 have hn := cmpB_lt a.name b.name
 by_cases h1 : cmpI a.at_ b.at_ = 0
 ·rw [if_neg (by omega)]
  have e := cmpI_0.1 h1
  by_cases h2 : cmpB a.board b.board = 0
  ·rw [if_neg (by omega)]
   have e2 := cmpB_eq.1 h2
   rw [← hn, decide_eq_true_eq, e2, sLt_irr]
   simp [e]
  ·rw [if_pos h2, ← hb, decide_eq_true_eq]
   have e2 : a.board ≠ b.board := fun h => h2 (cmpB_eq.2 h)
   simp [e, e2]
 ·rw [if_pos h1, cmpI_neg]
  have : a.at_ ≠ b.at_ := fun h => h1 (cmpI_0.2 h)
  simp [this]
theorem ltLk_tot {a b : LookS} (h1 : ltLk a b = false) (h2 : ltLk b a = false) : a.at_ = b.at_ ∧ plc a = plc b := by
 have h1 : ¬ (ltLk a b = true) := by rw [h1]; simp
 have h2 : ¬ (ltLk b a = true) := by rw [h2]; simp
 rw [ltLk_iff] at h1 h2
 have e : a.at_ = b.at_ := by
  by_cases h : a.at_ = b.at_
  ·exact h
  ·omega
 have e2 : a.board = b.board := by
  by_cases h : a.board = b.board
  ·exact h
  ·cases hs : sLt a.board b.board with
   | true => exact absurd (.inr ⟨e, .inl hs⟩) h1
   | false => exact absurd (.inr ⟨e.symm, .inl (sLt_total hs h)⟩) h2
 have e3 : a.name = b.name := by
  by_cases h : a.name = b.name
  ·exact h
  ·cases hs : sLt a.name b.name with
   | true => exact absurd (.inr ⟨e, .inr ⟨e2, hs⟩⟩) h1
   | false => exact absurd (.inr ⟨e.symm, .inr ⟨e2.symm, sLt_total hs h⟩⟩) h2
 exact ⟨e, by simp [plc, e2, e3]⟩
theorem mrg_uniq {l r r' : List LookS} (hd : (l.map plc).Nodup) (h1 : r.Perm l) (h2 : r'.Perm l) (o1 : OrdL ltLk r) (o2 : OrdL ltLk r') : r = r' := by
 have hnd : l.Nodup := (List.pairwise_map.1 hd).imp fun h e => h (congrArg plc e)
 refine ord_unique (lt := ltLk) (h1.trans h2.symm) (h1.nodup_iff.2 hnd) (fun a ha b hb hne h => ?_) o1 o2
 cases h' : ltLk b a with
 | true => rfl
 | false =>
  exfalso
  have hp := (ltLk_tot h h').2
  have ha' := h1.subset ha
  have hb' := h1.subset hb
  obtain ⟨i, hi, rfl⟩ := List.getElem_of_mem ha'
  obtain ⟨j, hj, rfl⟩ := List.getElem_of_mem hb'
  have := (List.getElem_inj (h₀ := by simpa using hi) (h₁ := by simpa using hj) hd).1 (by simpa using hp)
  exact hne (by simp [this])
end Go.Proofs.YtdnlhdilpdeecaaGreatDoor
namespace Go.Proofs.YtdnlhdilpdeecaaGreatDoor
open Go.RowKit
set_option linter.unusedVariables false
set_option linter.unusedSimpArgs false
structure LookR (l : List LookS) (i : Nat) : Prop where
 keys : (lkStrs (l.getD i default)).all keyF = true
 at_ : 0 ≤ (l.getD i default).at_ ∧ (l.getD i default).at_ ≤ 345686399999
 verdict : 1 ≤ (l.getD i default).verdict ∧ (l.getD i default).verdict ≤ 5
 ord : 0 < i → cmpLk (l.getD (i - 1) default) (l.getD i default) < 0
theorem outR_inL {n a b : Int} (h : ¬ outR n a b = true) : a ≤ n ∧ n ≤ b := by unfold outR at h; simp at h; omega
theorem lookE_zero {l : List LookS} {i : Nat} (h : lookE l i = 0) : LookR l i := by
 unfold lookE at h
 split at h
 ·cases h
 ·rename_i h1
  split at h
  ·cases h
  ·rename_i h2
   split at h
   ·cases h
   ·rename_i h3
    split at h
    ·cases h
    ·rename_i h4
     refine ⟨by simpa using h1, ?_, ?_, fun hi => ?_⟩
     ·exact outR_inL h2
     ·exact outR_inL h3
     ·simp at h4; exact h4 hi
section
variable {l : List LookS} {s : Int} {n q : Nat}
end
end Go.Proofs.YtdnlhdilpdeecaaGreatDoor
namespace Go.Proofs.YtdnlhdilpdeecaaGreatDoor
open Go.RowKit Go.Maps Go.Sort Go.Shelf
set_option linter.unusedVariables false
set_option linter.unusedSimpArgs false
section
theorem maps_Keys_sh (mb : Option Nat) : SpecH Tryz.prog 123 [.v (.map mb)] [] (fun y hp' => ∃ g, y = .v (.func (.func 203) #[] #[.pointer (some ⟨g, 0, none⟩)]) ∧ hp' = [.box g ⟨[.v (.map mb)], 151, 1⟩]) := fun w A us ha _ _ _ => by
 have hu : us = #[.map mb] := by
  have h0 := ha.2 0 (by simp)
  have h1 : us.size = 1 := ha.1
  have h2 := h0.eq_v
  apply Array.ext (by simp [h1])
  intro i hi1 hi2
  obtain rfl : i = 0 := by omega
  rw [Array.getD_eq_getD_getElem?, Array.getElem?_eq_getElem (by omega)] at h2
  simpa using h2
 subst hu
 refine ((callsIn_wide (n := 5)).1 (AnyZ.keys_in Tryz.keys123 Fence.wide 5 trivial rfl mb w)).mono ?_
 rintro e w' ⟨rfl, rfl⟩
 refine ⟨_, _, _, ⟨w.heap.size, rfl, rfl⟩, rfl, List.pairwise_singleton _ _, .v _, fun e he => ?_, fun b ⟨e, he, hb⟩ hl => ?_, ((Chg.refl NoB w).alloc _).any⟩
 ·simp at he; subst he
  exact ⟨_, heap_alloc_new w _, rfl, Nat.le_refl _, fun j hj => by simp at hj; subst hj; exact ⟨_, rfl, .v _⟩⟩
 ·simp at he; subst he
  simp [Ent.blk] at hb; omega
end
end Go.Proofs.YtdnlhdilpdeecaaGreatDoor
namespace Go.Proofs.YtdnlhdilpdeecaaGreatDoor
open Go.RowKit
set_option linter.unusedVariables false
set_option linter.unusedSimpArgs false
abbrev kvS : ByteArray → Value := fun k => Value.string k
abbrev eI : Int → AV := fun n => avI n
end Go.Proofs.YtdnlhdilpdeecaaGreatDoor
namespace Go.Proofs.YtdnlhdilpdeecaaGreatDoor
open Go.RowKit
set_option linter.unusedVariables false
set_option linter.unusedSimpArgs false
abbrev eSh : ShS → AV := fun s => .agg [avI (s.1 : Int), avI (s.2 : Int)]
theorem sh_zero {w : World} {Z : Nat → Prop} : Rep w Z (eSh (0, 0)) (.agg #[.int .i64 0, .int .i64 0]) := .agg _ _ rfl fun j hj => by
 match j, hj with
 | 0, _ => exact .v _
 | 1, _ => exact .v _
theorem sh_next {A : List (ByteArray × Bool)} {ks : List ByteArray} {b : Bool} {r : Nat} (h : r < ks.length) : shM (A ++ (ks.take (r + 1)).map fun k => (k, b)) = mput (shM (A ++ (ks.take r).map fun k => (k, b))) (ks.getD r ByteArray.empty) (shAdd (mgetD (shM (A ++ (ks.take r).map fun k => (k, b))) (ks.getD r ByteArray.empty) (0, 0)) b) := by
 have : ks.take (r + 1) = ks.take r ++ [ks.getD r ByteArray.empty] := by
  rw [List.take_succ_eq_append_getElem h]; simp [h]
 rw [this, List.map_append, ← List.append_assoc]
 exact shM_snoc _ _
theorem kvs_len {f : LookS → List ByteArray} {l : List LookS} (hf : ∀ i, (f (l.getD i default)).length ≤ 2) : ∀ q, q ≤ l.length → (kvs f (l.take q)).length ≤ 2 * q
 | 0, _ => by simp [kvs]
 | q + 1, hq => by
  have ih := kvs_len hf q (by omega)
  have := hf q
  rw [kvs_take (by omega), List.length_append, List.length_map]
  omega
theorem sh_bd {f : LookS → List ByteArray} {l : List LookS} {q r : Nat} {k : ByteArray} (hf : ∀ i, (f (l.getD i default)).length ≤ 2) (hq : q < l.length) (hl : l.length ≤ 1000000) : (mgetD (shM (kvs f (l.take q) ++ ((f (l.getD q default)).take r).map fun k => (k, (l.getD q default).bad))) k (0, 0)).1 ≤ 1000000000 ∧ (mgetD (shM (kvs f (l.take q) ++ ((f (l.getD q default)).take r).map fun k => (k, (l.getD q default).bad))) k (0, 0)).2 ≤ 1000000000 := by
 rw [shM_get]
 have h1 := shCnt_le (kvs f (l.take q) ++ ((f (l.getD q default)).take r).map fun k => (k, (l.getD q default).bad)) k
 have h2 := kvs_len hf q (by omega)
 have h3 := hf q
 have h4 : ((f (l.getD q default)).take r).length ≤ 2 := by rw [List.length_take]; omega
 rw [List.length_append, List.length_map] at h1
 omega
theorem kvs_all {f : LookS → List ByteArray} {l : List LookS} : kvs f (l.take l.length) = kvs f l := by rw [List.take_length]
set_option maxRecDepth 100000 in
set_option maxHeartbeats 4000000 in
theorem inspect_shares {l : List LookS} {F : FuncId} {f : LookS → List ByteArray} (hl : l.length ≤ 1000000) (hcall : ∀ us w, (callFunc F us).run Tryz.prog w = .ok (.enter F us) w) (hF : ∀ i, Spec Tryz.prog F ([avT (l.getD i default)] ++ []) (fun y => y = avStrs (f (l.getD i default)))) (hf : ∀ i, (f (l.getD i default)).length ≤ 2) :
  SpecH Tryz.prog 118 [avL l, .v (.func (.func F) #[] #[])] [] (fun y hp' => ∃ g, y = .v (.map (some g)) ∧ hp' = [mapE kvS g eSh (shM (kvs f l))]) := by
 refine SpecH.of_VC Tryz.func118 rfl Tryz.ntmps118 (Nle rfl) fun w A hB => ?_
 have hnew : True := trivial
 refine VC.sr ?_
 refine VO.ma rfl rfl rfl rfl ?_
 refine VO.nil ?_
 refine VC.sr ?_
 refine VO.op rfl (OpE.makeMap (kvS) (eSh) rfl hB rfl ?_)
 intro g11
 refine VO.ma rfl rfl rfl rfl ?_
 refine VO.nil ?_
 refine VC.seq ?_
 refine VC.sr ?_
 refine VO.mv rfl rfl rfl rfl ?_
 refine VO.val rfl rfl (OpV.len_im rfl Tryz.underlying54 rfl) ?_
 refine VO.mv rfl rfl rfl rfl ?_
 refine VO.nil ?_
 refine VC.block ?_
 refine VC.loopK [(1, _), (5, _), (12, _), (13, _)] ⟨rfl, rfl, rfl, rfl, trivial⟩ ({q : Nat // q ≤ l.length}) (fun (iZ : {q : Nat // q ≤ l.length}) => match iZ with | ⟨q, hq⟩ => [(14, avI (q : Int))]) (fun (iZ : {q : Nat // q ≤ l.length}) => match iZ with | ⟨q, hq⟩ => [mapE kvS g11 eSh (shM (kvs f (l.take q)))]) (fun (iZ : {q : Nat // q ≤ l.length}) => match iZ with | ⟨q, hq⟩ => 0) (fun (iZ : {q : Nat // q ≤ l.length}) => match iZ with | ⟨q, hq⟩ => l.length - q) ⟨0, Nat.zero_le _⟩ (Le.mk hB [0] ⟨rfl, rfl, rfl, rfl, rfl, trivial⟩ rfl rfl (Nat.le_refl _)) ?_
 rintro ⟨q, hq⟩
 show VC _ _ _ _ ⟨[(14, avI (q : Int))] ++ [(1, _), (5, _), (12, _), (13, _)], [mapE kvS g11 eSh (shM (kvs f (l.take q)))], 0⟩
 refine VC.sr ?_
 refine VO.val rfl rfl (OpV.lss rfl rfl rfl) ?_
 refine VO.nil ?_
 refine VC.seq ?_
 refine VC.cond rfl (fun aH1b => ?_) (fun aH1b => ?_)
 ·have aH1 := aH1b
  try simp only [qqT, qqF, qqN, qqM, qqL, qqE] at aH1
  refine VC.skip ?_
  refine VC.seq ?_
  refine VC.block ?_
  refine VC.sr ?_
  refine VO.val rfl rfl (OpV.indexAddr_E rfl Tryz.underlying54 Tryz.sizeOf80 rfl rfl rfl (by omega)) ?_
  refine VO.val rfl rfl (OpV.loadK_at rfl hB OutW.no Tryz.isAgg80 Tryz.sizeOf80 rfl rfl) ?_
  refine VO.op rfl (OpE.alloc rfl hB rfl Tryz.zeroValue80 rfl ?_)
  intro g7
  refine VO.op rfl (OpE.store (i := 1) rfl hB rfl Tryz.sizeOf80 rfl rfl rfl rfl rfl rfl (Nle rfl) trivial ?_)
  refine VO.nil ?_
  refine VC.sr ?_
  refine VO.mv rfl rfl rfl rfl ?_
  refine VO.le _ (Le.recast (t := 18) (y := .fn F []) rfl (fun w Z u h => by rw [h.eq_v]; exact .fn F [] #[] rfl fun j hj => by simp at hj)) ?_
  refine VO.val rfl rfl (OpV.loadK_own (i := 1) rfl hB Tryz.isAgg80 Tryz.sizeOf80 rfl rfl rfl (fun h => h)) ?_
  refine VO.op rfl (OpE.callF rfl hB rfl hcall rfl rfl (hF q) ?_)
  rintro _ rfl
  refine VO.val rfl rfl (OpV.len_im rfl Tryz.underlying29 rfl) ?_
  refine VO.mv rfl rfl rfl rfl ?_
  refine VO.nil ?_
  refine VC.block ?_
  refine VC.loopK [(1, _), (5, _), (7, _), (12, _), (13, _), (14, _), (20, _), (21, _)] ⟨rfl, rfl, rfl, rfl, rfl, rfl, rfl, rfl, trivial⟩ ({r : Nat // r ≤ (f (l.getD q default)).length}) (fun (iZ : {r : Nat // r ≤ (f (l.getD q default)).length}) => match iZ with | ⟨r, hq1⟩ => [(22, avI (r : Int))]) (fun (iZ : {r : Nat // r ≤ (f (l.getD q default)).length}) => match iZ with | ⟨r, hq1⟩ => [mapE kvS g11 eSh (shM (kvs f (l.take q) ++ ((f (l.getD q default)).take r).map fun k => (k, (l.getD q default).bad))), boxLk g7 (l.getD q default) 80]) (fun (iZ : {r : Nat // r ≤ (f (l.getD q default)).length}) => match iZ with | ⟨r, hq1⟩ => 0) (fun (iZ : {r : Nat // r ≤ (f (l.getD q default)).length}) => match iZ with | ⟨r, hq1⟩ => (f (l.getD q default)).length - r) ⟨0, Nat.zero_le _⟩ (Le.mk hB [0, 1] ⟨rfl, rfl, rfl, rfl, rfl, rfl, rfl, rfl, rfl, trivial⟩ rfl (by dsimp only; rw [List.take_zero, List.map_nil, List.append_nil]; rfl) (Nat.le_refl _)) ?_
  rintro ⟨r, hq1⟩
  show VC _ _ _ _ ⟨[(22, avI (r : Int))] ++ [(1, _), (5, _), (7, _), (12, _), (13, _), (14, _), (20, _), (21, _)], [mapE kvS g11 eSh (shM (kvs f (l.take q) ++ ((f (l.getD q default)).take r).map fun k => (k, (l.getD q default).bad))), boxLk g7 (l.getD q default) 80], 0⟩
  have hfq := hf q
  refine VC.sr ?_
  refine VO.val rfl rfl (OpV.lss rfl rfl rfl) ?_
  refine VO.nil ?_
  refine VC.seq ?_
  refine VC.cond rfl (fun aH2b => ?_) (fun aH2b => ?_)
  ·have aH2 := aH2b
   try simp only [qqT, qqF, qqN, qqM, qqL, qqE] at aH2
   refine VC.skip ?_
   refine VC.seq ?_
   refine VC.block ?_
   refine VC.sr ?_
   refine VO.val rfl rfl (OpV.indexAddr_1 rfl Tryz.underlying29 Tryz.sizeOf9 rfl rfl rfl (by omega)) ?_
   refine VO.val rfl rfl (OpV.load_at rfl hB OutW.no Tryz.isAgg9 rfl rfl) ?_
   refine VO.ma rfl rfl rfl rfl ?_
   refine VO.nil ?_
   refine VC.sr ?_
   have hbd := sh_bd (f := f) (l := l) (q := q) (r := r) (k := (f (l.getD q default)).getD r ByteArray.empty) hf (by omega) hl
   refine VO.mv rfl rfl rfl rfl ?_
   refine VO.mv rfl rfl rfl rfl ?_
   refine VO.val rfl rfl (OpV.lookup_own (i := 0) rfl hB Tryz.underlying151 (KeyOk.str Tryz.underlying9) Tryz.zeroValue156 rfl (KeyE.v rfl) rfl (fun h => h)) ?_
   refine VO.le _ (Le.recast (t := 28) (y := eSh (mgetD (shM (kvs f (l.take q) ++ ((f (l.getD q default)).take r).map fun k => (k, (l.getD q default).bad))) ((f (l.getD q default)).getD r ByteArray.empty) (0, 0))) rfl (fun w Z u h => by unfold mgetD; revert h; cases mget (shM (kvs f (l.take q) ++ ((f (l.getD q default)).take r).map fun k => (k, (l.getD q default).bad))) ((f (l.getD q default)).getD r ByteArray.empty) with | none => intro h; rw [h.eq_v]; exact sh_zero | some x => exact id)) ?_
   refine VO.op rfl (OpE.alloc rfl hB rfl Tryz.zeroValue156 rfl ?_)
   intro g10
   refine VO.op rfl (OpE.store (i := 2) rfl hB rfl Tryz.sizeOf156 rfl rfl rfl rfl rfl rfl (Nle rfl) trivial ?_)
   refine VO.nil ?_
   refine VC.sr ?_
   refine VO.val rfl rfl (OpV.loadK_own (i := 1) rfl hB Tryz.isAgg80 Tryz.sizeOf80 rfl rfl rfl (fun h => h)) ?_
   refine VO.op rfl (OpE.callH (rest := [_, _]) rfl hB rfl Tryz.call201 rfl rfl (share_add (x := l.getD q default) (b := (mgetD (shM (kvs f (l.take q) ++ ((f (l.getD q default)).take r).map fun k => (k, (l.getD q default).bad))) ((f (l.getD q default)).getD r ByteArray.empty) (0, 0)).1) (a := (mgetD (shM (kvs f (l.take q) ++ ((f (l.getD q default)).take r).map fun k => (k, (l.getD q default).bad))) ((f (l.getD q default)).getD r ByteArray.empty) (0, 0)).2) hbd.2 hbd.1) (List.perm_append_comm (l₁ := [_, _]) (l₂ := [_])) (fun _ _ => trivial) ?_)
   rintro _ _ ⟨rfl, rfl⟩
   refine VO.nil ?_
   refine VC.region ?_
   refine VO.mv rfl rfl rfl rfl ?_
   refine VO.mv rfl rfl rfl rfl ?_
   refine VO.val rfl rfl (OpV.loadK_own (i := 0) rfl hB Tryz.isAgg156 Tryz.sizeOf156 rfl rfl rfl (fun h => h)) ?_
   refine VO.op rfl (OpE.mapUpdate (i := 1) (xx := shAdd (mgetD (shM (kvs f (l.take q) ++ ((f (l.getD q default)).take r).map fun k => (k, (l.getD q default).bad))) ((f (l.getD q default)).getD r ByteArray.empty) (0, 0)) (l.getD q default).bad) rfl hB rfl Tryz.underlying151 (KeyOk.str Tryz.underlying9) rfl (KeyE.v rfl) rfl rfl trivial ?_)
   refine VO.nil ?_
   refine VC.region ?_
   refine VO.val rfl rfl (OpV.add rfl rfl rfl (by unfold fits; omega)) ?_
   refine VO.mv rfl rfl rfl rfl ?_
   refine VO.nil ?_
   exact Exists.intro (⟨r + 1, by omega⟩) (And.intro (Le.mk hB [1, 2] ⟨rfl, rfl, rfl, rfl, rfl, rfl, rfl, rfl, rfl, trivial⟩ rfl (by dsimp only; rw [sh_next (by omega)]; rfl) (Nat.le_refl _)) (by first | omega | (show _ < _; omega) | (simp only []; omega)))
  ·have aH2 := aH2b
   try simp only [qqT, qqF, qqN, qqM, qqL, qqE] at aH2
   obtain rfl : r = (f (l.getD q default)).length := by omega
   rw [List.take_length]
   refine VC.exit ?_
   refine VC.region ?_
   refine VO.val rfl rfl (OpV.add rfl rfl rfl (by unfold fits; omega)) ?_
   refine VO.mv rfl rfl rfl rfl ?_
   refine VO.nil ?_
   exact Exists.intro (⟨q + 1, by omega⟩) (And.intro (Le.mk hB [0] ⟨rfl, rfl, rfl, rfl, rfl, trivial⟩ rfl (by dsimp only; rw [kvs_take (by omega)]; rfl) (Nat.le_refl _)) (by first | omega | (show _ < _; omega) | (simp only []; omega)))
 ·have aH1 := aH1b
  try simp only [qqT, qqF, qqN, qqM, qqL, qqE] at aH1
  obtain rfl : q = l.length := by omega
  rw [kvs_all]
  refine VC.exit ?_
  refine VC.sr ?_
  refine VO.mv rfl rfl rfl rfl ?_
  refine VO.ma rfl rfl rfl rfl ?_
  refine VO.nil ?_
  refine VC.ret ?_
  exact Exists.intro _ (And.intro (RetV.one Tryz.results118 (ResV.tmp rfl)) (⟨_, rfl, rfl⟩))
def leastE (l : List LookS) (n : Int) : Int := if lookF l ≠ 0 then lookF l else if outR n 1 5000 = true then 1 else 0
theorem leastE_1 {l : List LookS} {n : Int} (h : lookF l ≠ 0) : leastE l n = lookF l := by rw [leastE, if_pos h]
theorem leastE_2 {l : List LookS} {n : Int} (h : lookF l = 0) (h2 : outR n 1 5000 = true) : leastE l n = 1 := by rw [leastE, if_neg (by omega), if_pos h2]
theorem leastE_3 {l : List LookS} {n : Int} (h : lookF l = 0) (h2 : outR n 1 5000 = false) : leastE l n = 0 := by rw [leastE, if_neg (by omega), if_neg (by rw [h2]; simp)]
theorem leastE_zero {l : List LookS} {n : Int} (h : leastE l n = 0) : lookF l = 0 ∧ 1 ≤ n ∧ n ≤ 5000 := by
 unfold leastE at h
 split at h
 ·contradiction
 ·rename_i h1
  split at h
  ·cases h
  ·rename_i h2
   refine ⟨by omega, ?_⟩
   unfold outR at h2; simp at h2; omega
set_option maxRecDepth 100000 in
theorem inspect_leastFault {l : List LookS} {n : Int} (hs : SmLk l) :
  SpecN Tryz.prog 124 [avL l, avI n] (fun y => y = avI (leastE l n)) := by
 refine SpecN.of_VCN Tryz.func124 rfl Tryz.ntmps124 (Nle rfl) fun w A hB => ?_
 have hnew : True := trivial
 refine VC.sr ?_
 refine VO.ma rfl rfl rfl rfl ?_
 refine VO.nil ?_
 refine VC.seq ?_
 refine VC.sr ?_
 refine VO.mv rfl rfl rfl rfl ?_
 refine VO.op rfl (OpE.call rfl hB rfl Tryz.call112 rfl (SpecN.spec (inspect_CheckLooks hs)) ?_)
 rintro _ rfl
 refine VO.ma rfl rfl rfl rfl ?_
 refine VO.nil ?_
 refine VC.sr ?_
 refine VO.mv rfl rfl rfl rfl ?_
 refine VO.val rfl rfl (OpV.neq rfl rfl rfl) ?_
 refine VO.nil ?_
 refine VC.cond rfl (fun h0b => ?_) (fun h0b => ?_)
 ·have h0 := h0b
  try simp only [qqT, qqF, qqN, qqM, qqL, qqE] at h0
  refine VC.sr ?_
  refine VO.mv rfl rfl rfl rfl ?_
  refine VO.ma rfl rfl rfl rfl ?_
  refine VO.nil ?_
  refine VC.ret ?_
  exact Exists.intro _ (And.intro (RetN.one Tryz.results124 (ResN.v rfl)) (by first | rw [leastE_1 h0] | rw [leastE_2 (by omega) h1] | rw [leastE_3 (by omega) h1]))
 ·have h0 := h0b
  try simp only [qqT, qqF, qqN, qqM, qqL, qqE] at h0
  refine VC.skip ?_
  refine VC.seq ?_
  refine VC.sr ?_
  refine VO.mv rfl rfl rfl rfl ?_
  refine VO.op rfl (OpE.call rfl hB rfl Tryz.call181 rfl (SpecN.spec (kit_Outside)) ?_)
  rintro _ rfl
  refine VO.nil ?_
  refine VC.cond rfl (fun h1b => ?_) (fun h1b => ?_)
  ·have h1 := h1b
   try simp only [qqT, qqF, qqN, qqM, qqL, qqE] at h1
   refine VC.sr ?_
   refine VO.ma rfl rfl rfl rfl ?_
   refine VO.nil ?_
   refine VC.ret ?_
   exact Exists.intro _ (And.intro (RetN.one Tryz.results124 (ResN.v rfl)) (by first | rw [leastE_1 h0] | rw [leastE_2 (by omega) h1] | rw [leastE_3 (by omega) h1]))
  ·have h1 := h1b
   try simp only [qqT, qqF, qqN, qqM, qqL, qqE] at h1
   refine VC.skip ?_
   refine VC.sr ?_
   refine VO.ma rfl rfl rfl rfl ?_
   refine VO.nil ?_
   refine VC.ret ?_
   exact Exists.intro _ (And.intro (RetN.one Tryz.results124 (ResN.v rfl)) (by first | rw [leastE_1 h0] | rw [leastE_2 (by omega) h1] | rw [leastE_3 (by omega) h1]))
end Go.Proofs.YtdnlhdilpdeecaaGreatDoor
