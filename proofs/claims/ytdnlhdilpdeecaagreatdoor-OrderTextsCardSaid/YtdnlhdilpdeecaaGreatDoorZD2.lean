/- Part 2 of a proof: the walks and laws that it needs. -/
import Derived.Laws.StructEq
import Derived.Test.YtdnlhdilpdeecaaGreatDoorProg
import Derived.Deep.QuietTactic
import Derived.BigQuiet
import Derived.Test.YtdnlhdilpdeecaaGreatDoorZD1
namespace Go.Proofs.YtdnlhdilpdeecaaGreatDoor
open Go.RowKit
set_option linter.unusedVariables false
set_option linter.unusedSimpArgs false

inductive EqFs (P : Program) : Nat → List Field → List AV → List AV → Bool → Prop where
 | nil (off : Nat) : EqFs P off [] [] [] true
 | int {off : Nat} {f : Field} {fs : List Field} {k k' : IntKind} {a b : Int} {xs ys : List AV} {r : Bool} (hu : P.underlying f.type = some (.int k')) (hag : ∀ w, (isAgg f.type).run P w = .ok false w) (ho : f.offset = off) (hn : f.name ≠ "_") (h : EqFs P (off + 1) fs xs ys r) :
   EqFs P off (f :: fs) (.v (.int k a) :: xs) (.v (.int k b) :: ys) (decide (a = b) && r)
 | str {off : Nat} {f : Field} {fs : List Field} {a b : ByteArray} {xs ys : List AV} {r : Bool} (hu : P.underlying f.type = some .string) (hag : ∀ w, (isAgg f.type).run P w = .ok false w) (ho : f.offset = off) (hn : f.name ≠ "_") (h : EqFs P (off + 1) fs xs ys r) :
   EqFs P off (f :: fs) (.v (.string a) :: xs) (.v (.string b) :: ys) (sEq a b && r)
 | bool {off : Nat} {f : Field} {fs : List Field} {a b : Bool} {xs ys : List AV} {r : Bool} (hu : P.underlying f.type = some .bool) (hag : ∀ w, (isAgg f.type).run P w = .ok false w) (ho : f.offset = off) (hn : f.name ≠ "_") (h : EqFs P (off + 1) fs xs ys r) :
   EqFs P off (f :: fs) (.v (.bool a) :: xs) (.v (.bool b) :: ys) ((a == b) && r)

theorem EqFs.run {P : Program} {w : World} {Z : Nat → Prop} {us vs : Array Value} {d : Nat} : ∀ {off : Nat} {fs : List Field} {xs ys : List AV} {r : Bool}, EqFs P off fs xs ys r →
  (∀ j, (h : j < xs.length) → off + j < us.size ∧ Rep w Z xs[j] (us.getD (off + j) undef)) → (∀ j, (h : j < ys.length) → off + j < vs.size ∧ Rep w Z ys[j] (vs.getD (off + j) undef)) → ∀ w', (Op.eqFields (d + 1) us vs fs).run P w' = .ok r w' := by
 intro off fs xs ys r h
 have cellP : ∀ (t : TypeId) (us : Array Value) (off : Nat) (v : Value) (w' : World), (∀ w, (isAgg t).run P w = .ok false w) → off < us.size → us.getD off undef = v → (part t us off).run P w' = .ok v w' := fun t us off v w' hag hl hv => by
  have : us[off]? = some v := by rw [← hv, Array.getD_eq_getD_getElem?, Array.getElem?_eq_getElem hl]; rfl
  simp [part, hag, this]
 have sh : ∀ n j : Nat, n + (j + 1) = n + 1 + j := fun n j => by omega
 induction h with
 | nil off => intro _ _ w'; rfl
 | int hu hag ho hn h ih =>
  intro h1 h2 w'
  obtain ⟨k1, k2⟩ := h1 0 (by simp)
  obtain ⟨k3, k4⟩ := h2 0 (by simp)
  subst ho
  have e1 := cellP _ us _ _ w' hag k1 k2.eq_v
  have e2 := cellP _ vs _ _ w' hag k3 k4.eq_v
  have ih' := ih (fun j hj => by have := h1 (j + 1) (by simpa using hj); rw [sh] at this; exact this) (fun j hj => by have := h2 (j + 1) (by simpa using hj); rw [sh] at this; exact this) w'
  simp only [Nat.add_zero] at e1 e2
  rename_i a b _ _ _
  have e3 := fun k => run_equalIn_int (P := P) w' d _ k _ a b hu
  simp only [Op.eqFields, hn, ne_eq, not_false_eq_true, if_true, Sem.run_bind, e1, e2, e3, Result.andThen_ok]
  by_cases hab : a = b
  ·subst hab; simpa using ih'
  ·simp [hab]
 | str hu hag ho hn h ih =>
  intro h1 h2 w'
  obtain ⟨k1, k2⟩ := h1 0 (by simp)
  obtain ⟨k3, k4⟩ := h2 0 (by simp)
  subst ho
  have e1 := cellP _ us _ _ w' hag k1 k2.eq_v
  have e2 := cellP _ vs _ _ w' hag k3 k4.eq_v
  have ih' := ih (fun j hj => by have := h1 (j + 1) (by simpa using hj); rw [sh] at this; exact this) (fun j hj => by have := h2 (j + 1) (by simpa using hj); rw [sh] at this; exact this) w'
  simp only [Nat.add_zero] at e1 e2
  rename_i a b _ _ _
  have e3 := run_equalIn_string (P := P) w' d _ a b hu
  simp only [Op.eqFields, hn, ne_eq, not_false_eq_true, if_true, Sem.run_bind, e1, e2, e3, Result.andThen_ok]
  cases hab : sEq a b with
  | true => unfold sEq at hab; rw [hab]; simpa using ih'
  | false => unfold sEq at hab; rw [hab]; simp
 | bool hu hag ho hn h ih =>
  intro h1 h2 w'
  obtain ⟨k1, k2⟩ := h1 0 (by simp)
  obtain ⟨k3, k4⟩ := h2 0 (by simp)
  subst ho
  have e1 := cellP _ us _ _ w' hag k1 k2.eq_v
  have e2 := cellP _ vs _ _ w' hag k3 k4.eq_v
  have ih' := ih (fun j hj => by have := h1 (j + 1) (by simpa using hj); rw [sh] at this; exact this) (fun j hj => by have := h2 (j + 1) (by simpa using hj); rw [sh] at this; exact this) w'
  simp only [Nat.add_zero] at e1 e2
  rename_i a b _ _ _
  have e3 := run_equalIn_bool' (P := P) w' d _ a b hu
  simp only [Op.eqFields, hn, ne_eq, not_false_eq_true, if_true, Sem.run_bind, e1, e2, e3, Result.andThen_ok]
  cases hab : (a == b) with
  | true => simpa using ih'
  | false => simp

section
variable {P : Program} {B : Bs} {W : Nat → Prop} {s : St'} {o : Oper}
theorem agg_eq {w : World} {Z : Nat → Prop} {t : TypeId} {xs ys : List AV} {u v : Value} {r : Bool} (hu : P.underlying t = some (.struct (P.fieldsOf t))) (hs : P.stoodInHeld t = false) (h : EqFs P 0 (P.fieldsOf t).toList xs ys r) (hx : Rep w Z (.agg xs) u) (hy : Rep w Z (.agg ys) v) :
  ∃ us vs, u = .agg us ∧ v = .agg vs ∧ ∀ w', (Op.equalIn 10000 t u v).run P w' = .ok r w' := by
 cases hx with
 | agg _ us l1 r1 =>
  cases hy with
  | agg _ vs l2 r2 =>
   refine ⟨us, vs, rfl, rfl, fun w' => ?_⟩
   rw [run_equalIn_struct w' 9999 t us vs hu hs]
   exact h.run (w := w) (Z := Z) (fun j hj => ⟨by omega, by rw [Nat.zero_add]; exact r1 j hj⟩) (fun j hj => ⟨by omega, by rw [Nat.zero_add]; exact r2 j hj⟩) w'
theorem OpV.aneq {x y : Operand} {t u : TypeId} {xs ys : List AV} {r : Bool} (ho : o.op = .binOp .neq t x y u) (hu : P.underlying t = some (.struct (P.fieldsOf t))) (hs : P.stoodInHeld t = false) (hg : P.eqGuardType P.depth t = false)
  (hx : evO s x = some (.agg xs)) (hy : evO s y = some (.agg ys)) (h : EqFs P 0 (P.fieldsOf t).toList xs ys r) : OpV P B W s o (avB (!r)) := fun a w hr => by
 obtain ⟨us, vs, e1, e2, e3⟩ := agg_eq hu hs h (hr.ev hx) (hr.ev hy)
 rw [e1, e2] at e3
 refine ⟨_, fun w' _ => ?_, .v _⟩
 simp only [execOp, ho, e1, e2, Sem.run_bind, run_eqGuard_agg w' _ t x y us vs hg, run_neq_struct, e3, Result.andThen_ok, Sem.run_pure]
end
end Go.Proofs.YtdnlhdilpdeecaaGreatDoor
namespace Go.Proofs.YtdnlhdilpdeecaaGreatDoor
open Go.RowKit
set_option linter.unusedVariables false
set_option linter.unusedSimpArgs false
theorem sEq_dec (a b : ByteArray) : sEq a b = decide (a = b) := by
 by_cases h : a = b
 ·rw [decide_eq_true h]; exact sEq_eq.2 h
 ·rw [decide_eq_false h]
  cases e : sEq a b with
  | false => rfl
  | true => exact absurd (sEq_eq.1 e) h
section
variable {P : Program} {kt : TypeId} {f1 f2 : Field} (hu : P.underlying kt = some (.struct (P.fieldsOf kt))) (hs : P.stoodInHeld kt = false) (hf : P.fieldsOf kt = #[f1, f2]) (h1 : P.underlying f1.type = some .string) (h2 : P.underlying f2.type = some .string)
 (a1 : ∀ w, (isAgg f1.type).run P w = .ok false w) (a2 : ∀ w, (isAgg f2.type).run P w = .ok false w) (o1 : f1.offset = 0) (o2 : f2.offset = 1) (n1 : f1.name ≠ "_") (n2 : f2.name ≠ "_")
include hu hs hf h1 h2 a1 a2 o1 o2 n1 n2
end
end Go.Proofs.YtdnlhdilpdeecaaGreatDoor
namespace Go.Proofs.YtdnlhdilpdeecaaGreatDoor
open Go.RowKit
set_option linter.unusedVariables false
set_option linter.unusedSimpArgs false

structure PaceS where
 product : ByteArray
 cycle : Int
 needs : List NeedS
instance : Inhabited PaceS := ⟨⟨ByteArray.empty, 0, []⟩⟩
instance : Sxc PaceS where
 k := 3
 pos := by decide
 cell m j := match j with
  | 0 => avS m.product
  | 1 => avI m.cycle
  | 2 => avL m.needs
  | _ => .any
structure OrdrS where
 key : ByteArray
 product : ByteArray
 count : Int
 ready : Int
 due : Int
instance : Inhabited OrdrS := ⟨⟨ByteArray.empty, ByteArray.empty, 0, 0, 0⟩⟩
instance : Sxc OrdrS where
 k := 5
 pos := by decide
 cell m j := match j with
  | 0 => avS m.key
  | 1 => avS m.product
  | 2 => avI m.count
  | 3 => avI m.ready
  | 4 => avI m.due
  | _ => .any
structure WinS where
 fr : Int
 to : Int
instance : Inhabited WinS := ⟨⟨0, 0⟩⟩
instance : Sxc WinS where
 k := 2
 pos := by decide
 cell m j := match j with
  | 0 => avI m.fr
  | 1 => avI m.to
  | _ => .any
abbrev avPc (x : PaceS) : AV := .agg [avS x.product, avI x.cycle, avL x.needs]
abbrev avOr (x : OrdrS) : AV := .agg [avS x.key, avS x.product, avI x.count, avI x.ready, avI x.due]
structure SmPc (p : List PaceS) : Prop where
 len : p.length ≤ 1000000
 prod : ∀ i, (p.getD i default).product.size ≤ 1000000
 nlen : ∀ i, (p.getD i default).needs.length ≤ 1000000
 nkey : ∀ i j, ((p.getD i default).needs.getD j default).key.size ≤ 1000000
structure SmOr (o : List OrdrS) : Prop where
 len : o.length ≤ 1000000
 key : ∀ i, (o.getD i default).key.size ≤ 1000000
 prod : ∀ i, (o.getD i default).product.size ≤ 1000000
def paceE (p : List PaceS) (i : Nat) : Int :=
 if keyF (p.getD i default).product = false then 5
 else if (decide (0 < i) && sLe (p.getD i default).product (p.getD (i - 1) default).product) = true then 7
 else if outR (p.getD i default).cycle 1 10000000 = true then 1
 else needsF (p.getD i default).needs 1 1000
def paceF (p : List PaceS) : Int := if 200 < p.length then 2 else firstE (paceE p) p.length
def ordrE (o : List OrdrS) (i : Nat) : Int :=
 if (keyF (o.getD i default).key && keyF (o.getD i default).product) = false then 5
 else if (outR (o.getD i default).count 1 100000 || (outR (o.getD i default).ready 0 345686399999 || outR (o.getD i default).due 0 345686399999)) = true then 1
 else if (decide (0 < i) && sLe (o.getD i default).key (o.getD (i - 1) default).key) = true then 7
 else 0
def ordrF (o : List OrdrS) : Int := if 200 < o.length then 2 else firstE (ordrE o) o.length
section
variable {p : List PaceS} {i : Nat}
theorem paceE_5 (h : keyF (p.getD i default).product = false) : paceE p i = 5 := by rw [paceE, if_pos h]
theorem paceE_7 (h : keyF (p.getD i default).product = true) (hi : 0 < i) (hs : sLe (p.getD i default).product (p.getD (i - 1) default).product = true) : paceE p i = 7 := by
 rw [paceE, if_neg (by rw [h]; simp), if_pos (by rw [hs, decide_eq_true hi]; rfl)]
theorem paceE_x (h : keyF (p.getD i default).product = true) (hs : i = 0 ∨ sLe (p.getD i default).product (p.getD (i - 1) default).product = false) :
  paceE p i = if outR (p.getD i default).cycle 1 10000000 = true then 1 else needsF (p.getD i default).needs 1 1000 := by
 rw [paceE, if_neg (by rw [h]; simp), if_neg]
 rcases hs with rfl | hs
 ·simp
 ·rw [hs]; simp
theorem paceE_1 (h : keyF (p.getD i default).product = true) (hs : i = 0 ∨ sLe (p.getD i default).product (p.getD (i - 1) default).product = false) (ho : outR (p.getD i default).cycle 1 10000000 = true) : paceE p i = 1 := by rw [paceE_x h hs, if_pos ho]
theorem paceE_n (h : keyF (p.getD i default).product = true) (hs : i = 0 ∨ sLe (p.getD i default).product (p.getD (i - 1) default).product = false) (ho : outR (p.getD i default).cycle 1 10000000 = false) : paceE p i = needsF (p.getD i default).needs 1 1000 := by rw [paceE_x h hs, if_neg (by rw [ho]; simp)]
theorem paceF_2 (h : 200 < p.length) : paceF p = 2 := by rw [paceF, if_pos h]
theorem paceF_at (h : p.length ≤ 200) {q : Nat} (hq : q < p.length) (hn : ∀ j, j < q → paceE p j = 0) {e : Int} (he : paceE p q = e) (h0 : e ≠ 0) : paceF p = e := by
 rw [paceF, if_neg (by omega), firstE_found hn (by rw [he]; exact h0) hq, he]
theorem paceF_ok (h : p.length ≤ 200) (hn : ∀ j, j < p.length → paceE p j = 0) : paceF p = 0 := by rw [paceF, if_neg (by omega), firstE_none hn]
end
section
variable {o : List OrdrS} {i : Nat}
theorem ordrE_5a (h : keyF (o.getD i default).key = false) : ordrE o i = 5 := by rw [ordrE, if_pos (by rw [h]; rfl)]
theorem ordrE_5b (h : keyF (o.getD i default).product = false) : ordrE o i = 5 := by rw [ordrE, if_pos (by rw [h, Bool.and_false])]
theorem ordrE_1 (h1 : keyF (o.getD i default).key = true) (h2 : keyF (o.getD i default).product = true) (ho : (outR (o.getD i default).count 1 100000 || (outR (o.getD i default).ready 0 345686399999 || outR (o.getD i default).due 0 345686399999)) = true) : ordrE o i = 1 := by
 rw [ordrE, if_neg (by rw [h1, h2]; simp), if_pos ho]
theorem ordrE_7 (h1 : keyF (o.getD i default).key = true) (h2 : keyF (o.getD i default).product = true) (ho : (outR (o.getD i default).count 1 100000 || (outR (o.getD i default).ready 0 345686399999 || outR (o.getD i default).due 0 345686399999)) = false) (hi : 0 < i) (hs : sLe (o.getD i default).key (o.getD (i - 1) default).key = true) : ordrE o i = 7 := by
 rw [ordrE, if_neg (by rw [h1, h2]; simp), if_neg (by rw [ho]; simp), if_pos (by rw [hs, decide_eq_true hi]; rfl)]
theorem ordrE_0 (h1 : keyF (o.getD i default).key = true) (h2 : keyF (o.getD i default).product = true) (ho : (outR (o.getD i default).count 1 100000 || (outR (o.getD i default).ready 0 345686399999 || outR (o.getD i default).due 0 345686399999)) = false) (hs : i = 0 ∨ sLe (o.getD i default).key (o.getD (i - 1) default).key = false) : ordrE o i = 0 := by
 rw [ordrE, if_neg (by rw [h1, h2]; simp), if_neg (by rw [ho]; simp), if_neg]
 rcases hs with rfl | hs
 ·simp
 ·rw [hs]; simp
theorem ordrF_2 (h : 200 < o.length) : ordrF o = 2 := by rw [ordrF, if_pos h]
theorem ordrF_at (h : o.length ≤ 200) {q : Nat} (hq : q < o.length) (hn : ∀ j, j < q → ordrE o j = 0) {e : Int} (he : ordrE o q = e) (h0 : e ≠ 0) : ordrF o = e := by
 rw [ordrF, if_neg (by omega), firstE_found hn (by rw [he]; exact h0) hq, he]
theorem ordrF_ok (h : o.length ≤ 200) (hn : ∀ j, j < o.length → ordrE o j = 0) : ordrF o = 0 := by rw [ordrF, if_neg (by omega), firstE_none hn]
end
def hasP (p : List PaceS) (k : ByteArray) : Bool := p.any fun x => sEq x.product k
def paceO (p : List PaceS) (k : ByteArray) : PaceS := (p.find? fun x => sEq x.product k).getD default
def bothF (p : List PaceS) (o : List OrdrS) : Int :=
 if paceF p ≠ 0 then paceF p else if ordrF o ≠ 0 then ordrF o else if o.all (fun x => hasP p x.product) = true then 0 else 8
theorem bothF_1 {p : List PaceS} {o : List OrdrS} (h : paceF p ≠ 0) : bothF p o = paceF p := by rw [bothF, if_pos h]
theorem bothF_2 {p : List PaceS} {o : List OrdrS} (h : paceF p = 0) (h2 : ordrF o ≠ 0) : bothF p o = ordrF o := by rw [bothF, if_neg (by omega), if_pos h2]
theorem bothF_3 {p : List PaceS} {o : List OrdrS} (h : paceF p = 0) (h2 : ordrF o = 0) : bothF p o = if o.all (fun x => hasP p x.product) = true then 0 else 8 := by rw [bothF, if_neg (by omega), if_neg (by omega)]
theorem bothF_0 {p : List PaceS} {o : List OrdrS} (h : bothF p o = 0) : paceF p = 0 ∧ ordrF o = 0 ∧ o.all (fun x => hasP p x.product) = true := by
 unfold bothF at h
 split at h
 ·contradiction
 ·split at h
  ·contradiction
  ·split at h
   ·rename_i h1 h2 h3; exact ⟨by simpa using h1, by simpa using h2, h3⟩
   ·cases h
structure PacesOk (p : List PaceS) : Prop where
 len : p.length ≤ 200
 all : ∀ j, j < p.length → paceE p j = 0
theorem pacesOk {p : List PaceS} (h : paceF p = 0) : PacesOk p := by
 unfold paceF at h
 split at h
 ·cases h
 ·exact ⟨by omega, firstE_zero h⟩
structure OrdrsOk (o : List OrdrS) : Prop where
 len : o.length ≤ 200
 all : ∀ j, j < o.length → ordrE o j = 0
theorem ordrsOk {o : List OrdrS} (h : ordrF o = 0) : OrdrsOk o := by
 unfold ordrF at h
 split at h
 ·cases h
 ·exact ⟨by omega, firstE_zero h⟩
theorem paceE_zero {p : List PaceS} {i : Nat} (h : paceE p i = 0) : keyF (p.getD i default).product = true ∧ (0 < i → sLe (p.getD i default).product (p.getD (i - 1) default).product = false) ∧ (1 ≤ (p.getD i default).cycle ∧ (p.getD i default).cycle ≤ 10000000) ∧ needsF (p.getD i default).needs 1 1000 = 0 := by
 unfold paceE at h
 split at h
 ·cases h
 ·rename_i h1
  split at h
  ·cases h
  ·rename_i h2
   split at h
   ·cases h
   ·rename_i h3
    refine ⟨by simpa using h1, fun hi => ?_, ?_, h⟩
    ·rw [decide_eq_true hi, Bool.true_and] at h2
     simpa using h2
    ·simp only [outR, Bool.or_eq_true, decide_eq_true_eq, not_or] at h3
     omega
theorem ordrE_zero {o : List OrdrS} {i : Nat} (h : ordrE o i = 0) : (keyF (o.getD i default).key = true ∧ keyF (o.getD i default).product = true) ∧ (0 < i → sLe (o.getD i default).key (o.getD (i - 1) default).key = false) ∧ (1 ≤ (o.getD i default).count ∧ (o.getD i default).count ≤ 100000) ∧ (0 ≤ (o.getD i default).ready ∧ (o.getD i default).ready ≤ 345686399999) ∧ (0 ≤ (o.getD i default).due ∧ (o.getD i default).due ≤ 345686399999) := by
 unfold ordrE at h
 split at h
 ·cases h
 ·rename_i h1
  split at h
  ·cases h
  ·rename_i h2
   split at h
   ·cases h
   ·rename_i h3
    have h1' : (keyF (o.getD i default).key && keyF (o.getD i default).product) = true := by simpa using h1
    rw [Bool.and_eq_true] at h1'
    simp only [outR, Bool.or_eq_true, decide_eq_true_eq, not_or] at h2
    refine ⟨h1', fun hi => ?_, by omega, by omega, by omega⟩
    rw [decide_eq_true hi, Bool.true_and] at h3
    simpa using h3
def chgN (a b : List NeedS) (q : Nat) : Nat := ((b.take q).filter fun x => !(a.any fun y => sEq y.key x.key)).length
theorem chgN_le (a b : List NeedS) (q : Nat) : chgN a b q ≤ b.length := by
 unfold chgN
 have := List.length_filter_le (fun x => !(a.any fun y => sEq y.key x.key)) (b.take q)
 rw [List.length_take] at this
 omega
theorem chgN_t {a b : List NeedS} {q : Nat} (h : q < b.length) (hx : a.any (fun y => sEq y.key (b.getD q default).key) = false) : chgN a b (q + 1) = chgN a b q + 1 := by
 unfold chgN
 rw [List.take_add_one, List.getElem?_eq_getElem h, List.filter_append, List.length_append]
 have : b.getD q default = b[q] := by rw [List.getD_eq_getElem?_getD, List.getElem?_eq_getElem h]; rfl
 rw [this] at hx
 simp [hx]
theorem chgN_f {a b : List NeedS} {q : Nat} (h : q < b.length) (hx : a.any (fun y => sEq y.key (b.getD q default).key) = true) : chgN a b (q + 1) = chgN a b q := by
 unfold chgN
 rw [List.take_add_one, List.getElem?_eq_getElem h, List.filter_append, List.length_append]
 have : b.getD q default = b[q] := by rw [List.getD_eq_getElem?_getD, List.getElem?_eq_getElem h]; rfl
 rw [this] at hx
 simp [hx]
def chgI (a b : PaceS) (each : Int) : Int := each * (chgN a.needs b.needs b.needs.length : Int)
def schF (n : Nat) (l : List Int) : Int := if l.length = n ∧ l.Nodup ∧ (∀ x ∈ l, 0 ≤ x ∧ x < n) then 0 else 3
def startF (start each : Int) : Int := if (outR start 0 345686399999 || outR each 0 10000000) = true then 1 else 0
def scheF (p : List PaceS) (o : List OrdrS) (l : List Int) (start each : Int) : Int :=
 if bothF p o ≠ 0 then bothF p o else if schF o.length l ≠ 0 then schF o.length l else startF start each
def longO (p : List PaceS) (x : OrdrS) : Int := (paceO p x.product).cycle * x.count
def turnO (p : List PaceS) (each : Int) (x y : OrdrS) : Int := chgI (paceO p x.product) (paceO p y.product) each
structure ResS where
 late : Int
 many : Int
 en : Int
section
variable (p : List PaceS) (o : List OrdrS) (l : List Int) (start each : Int)
abbrev orA (i : Int) : OrdrS := o.getD i.toNat default
def endP : Nat → Int
 | 0 => max start (orA o (l.getD 0 0)).ready + longO p (orA o (l.getD 0 0))
 | q + 1 => max (endP q + turnO p each (orA o (l.getD q 0)) (orA o (l.getD (q + 1) 0))) (orA o (l.getD (q + 1) 0)).ready + longO p (orA o (l.getD (q + 1) 0))
def fromP : Nat → Int
 | 0 => max start (orA o (l.getD 0 0)).ready
 | q + 1 => max (endP p o l start each q + turnO p each (orA o (l.getD q 0)) (orA o (l.getD (q + 1) 0))) (orA o (l.getD (q + 1) 0)).ready
def winP (q : Nat) : WinS := ⟨fromP p o l start each q, endP p o l start each q⟩
theorem endP_from (q : Nat) : endP p o l start each q = fromP p o l start each q + longO p (orA o (l.getD q 0)) := by cases q <;> rfl
def resP : Nat → ResS
 | 0 => ⟨0, 0, start⟩
 | q + 1 => if (orA o (l.getD q 0)).due < endP p o l start each q
   then ⟨(resP q).late + (endP p o l start each q - (orA o (l.getD q 0)).due), (resP q).many + 1, endP p o l start each q⟩
   else ⟨(resP q).late, (resP q).many, endP p o l start each q⟩
theorem resP_en (q : Nat) : (resP p o l start each (q + 1)).en = endP p o l start each q := by rw [resP]; split <;> rfl
def timesQ : Nat → List WinS
 | 0 => List.replicate o.length default
 | q + 1 => (timesQ q).set (l.getD q 0).toNat (winP p o l start each q)
theorem timesQ_len (q : Nat) : (timesQ p o l start each q).length = o.length := by
 induction q with
 | zero => simp [timesQ]
 | succ q ih => simp [timesQ, ih]
end
end Go.Proofs.YtdnlhdilpdeecaaGreatDoor
namespace Go.Proofs.YtdnlhdilpdeecaaGreatDoor
open Go.RowKit
set_option linter.unusedVariables false
set_option linter.unusedSimpArgs false

theorem bl_irr : ∀ x : List UInt8, Op.bytesLess x x = false
 | [] => rfl
 | a :: x => by
  rw [Op.bytesLess, bl_irr x]
  have : ¬ a < a := by rw [UInt8.lt_iff_toNat_lt]; omega
  simp [this]
theorem bl_trans : ∀ {x y z : List UInt8}, Op.bytesLess x y = true → Op.bytesLess y z = true → Op.bytesLess x z = true
 | _, [], _, h, _ => by simp [Op.bytesLess] at h
 | _, _ :: _, [], _, h => by simp [Op.bytesLess] at h
 | [], _ :: _, _ :: _, _, _ => rfl
 | a :: x, b :: y, c :: z, h1, h2 => by
  simp only [Op.bytesLess, Bool.or_eq_true, decide_eq_true_eq, Bool.and_eq_true, beq_iff_eq, UInt8.lt_iff_toNat_lt] at h1 h2 ⊢
  rcases h1 with h1 | ⟨rfl, h1⟩
  ·rcases h2 with h2 | ⟨rfl, h2⟩
   ·exact .inl (by omega)
   ·exact .inl h1
  ·rcases h2 with h2 | ⟨rfl, h2⟩
   ·exact .inl h2
   ·exact .inr ⟨rfl, bl_trans h1 h2⟩
theorem bl_total : ∀ {x y : List UInt8}, Op.bytesLess x y = false → x ≠ y → Op.bytesLess y x = true
 | [], [], _, h => absurd rfl h
 | _ :: _, [], _, _ => rfl
 | [], _ :: _, h, _ => by simp [Op.bytesLess] at h
 | a :: x, b :: y, h, hne => by
  simp only [Op.bytesLess, Bool.or_eq_false_iff, decide_eq_false_iff_not, Bool.and_eq_false_iff, beq_eq_false_iff_ne, UInt8.lt_iff_toNat_lt, Bool.or_eq_true, decide_eq_true_eq, Bool.and_eq_true, beq_iff_eq] at h ⊢
  by_cases hab : a = b
  ·subst hab
   have h2 : Op.bytesLess x y = false := by rcases h.2 with h2 | h2; exact absurd rfl h2; exact h2
   exact .inr ⟨rfl, bl_total h2 fun e => hne (by rw [e])⟩
  ·left
   have : a.toNat ≠ b.toNat := fun e => hab (UInt8.toNat_inj.1 e)
   omega
theorem sLt_irr (p : ByteArray) : sLt p p = false := bl_irr _
theorem sLt_trans {p q r : ByteArray} (h1 : sLt p q = true) (h2 : sLt q r = true) : sLt p r = true := bl_trans h1 h2
theorem sLt_of_not {p q : ByteArray} (h : sLe p q = false) : sLt q p = true := by
 unfold sLe at h
 rw [Bool.or_eq_false_iff] at h
 refine bl_total h.1 fun e => ?_
 have : sEq p q = true := by unfold sEq; rw [e]; simp
 rw [this] at h; cases h.2
theorem sEq_refl (p : ByteArray) : sEq p p = true := sEq_eq.2 rfl
def SortS (l : List ByteArray) : Prop := ∀ a b, a < b → b < l.length → sLt (l.getD a ByteArray.empty) (l.getD b ByteArray.empty) = true
section
variable {xs : List ByteArray} {v : ByteArray} {i : Nat}
end

end Go.Proofs.YtdnlhdilpdeecaaGreatDoor
namespace Go.Proofs.YtdnlhdilpdeecaaGreatDoor
open Go.RowKit
set_option linter.unusedVariables false
set_option linter.unusedSimpArgs false
def cmpB (a b : ByteArray) : Int := Lib.compareBytes a.data.toList b.data.toList
theorem strings_Compare_S {a b : ByteArray} : SpecN Tryz.prog 117 [avS a, avS b] (fun y => y = avI (cmpB a b)) := by
 intro w us ha
 rw [argsV2 ha]
 refine (Tryz.strings_Compare a b w).mono ?_
 rintro e w' ⟨rfl, rfl⟩
 exact ⟨_, _, rfl, rfl, .v _, Chg.refl _ _, trivial⟩
theorem cmp_lt : ∀ x y : List UInt8, decide (Lib.compareBytes x y < 0) = Op.bytesLess x y
 | [], [] => rfl
 | [], _ :: _ => rfl
 | _ :: _, [] => rfl
 | a :: x, b :: y => by
  unfold Lib.compareBytes Op.bytesLess
  have ih := cmp_lt x y
  by_cases h1 : a < b
  ·simp [h1]
  ·by_cases h2 : b < a
   ·simp [h1, h2]
    intro e; subst e; exact absurd h2 (UInt8.lt_irrefl _)
   ·have e : a = b := UInt8.le_antisymm (UInt8.not_lt.1 h2) (UInt8.not_lt.1 h1)
    subst e
    simp [UInt8.lt_irrefl]
    simpa using ih
theorem cmpB_lt (a b : ByteArray) : decide (cmpB a b < 0) = sLt a b := by
 unfold sLt
 rw [Lib.toList_data, Lib.toList_data]
 exact cmp_lt _ _
theorem cmp_eq : ∀ {x y : List UInt8}, Lib.compareBytes x y = 0 ↔ x = y
 | [], [] => by simp [Lib.compareBytes]
 | [], _ :: _ => by simp [Lib.compareBytes]
 | _ :: _, [] => by simp [Lib.compareBytes]
 | a :: x, b :: y => by
  unfold Lib.compareBytes
  by_cases h1 : a < b
  ·simp [h1]
   intro e; subst e; exact absurd h1 (UInt8.lt_irrefl _)
  ·by_cases h2 : b < a
   ·simp [h1, h2]
    intro e; subst e; exact absurd h2 (UInt8.lt_irrefl _)
   ·have e : a = b := UInt8.le_antisymm (UInt8.not_lt.1 h2) (UInt8.not_lt.1 h1)
    subst e
    simp [UInt8.lt_irrefl, cmp_eq]
theorem cmpB_eq {a b : ByteArray} : cmpB a b = 0 ↔ a = b := by
 unfold cmpB
 rw [cmp_eq]
 constructor
 ·intro h
  cases a; cases b
  simpa using h
 ·intro h; rw [h]
theorem sLt_total {a b : ByteArray} (h : sLt a b = false) (hne : a ≠ b) : sLt b a = true := by
 unfold sLt at h ⊢
 rw [Lib.toList_data, Lib.toList_data] at h ⊢
 exact bl_total h fun e => hne (by cases a; cases b; simpa using e)
section
variable {α : Type} {k : α → ByteArray}
end
end Go.Proofs.YtdnlhdilpdeecaaGreatDoor
namespace Go.Proofs.YtdnlhdilpdeecaaGreatDoor
set_option linter.unusedVariables false
set_option linter.unusedSimpArgs false
def lowK {α : Type} (key : α → ByteArray) (l : List α) (k : ByteArray) : Nat := (l.takeWhile fun x => sLt (key x) k).length
theorem lowK_le {α : Type} {key : α → ByteArray} {l : List α} {k : ByteArray} : lowK key l k ≤ l.length := by
 unfold lowK
 exact (List.takeWhile_sublist _).length_le
section
variable {α : Type} [Inhabited α] (key : α → ByteArray) (l : List α) (k : ByteArray)
def RiseK : Prop := ∀ j, 0 < j → j < l.length → sLe (key (l.getD j default)) (key (l.getD (j - 1) default)) = false
variable {key l k}
theorem takeWhile_at {p : α → Bool} : ∀ (l : List α) (j : Nat), j < (l.takeWhile p).length → p (l.getD j default) = true
 | [], j, h => by simp at h
 | x :: l, j, h => by
  rw [List.takeWhile_cons] at h
  split at h
  ·rename_i hx
   cases j with
   | zero => simpa using hx
   | succ j => simpa using takeWhile_at l j (by simpa using h)
  ·simp at h
theorem takeWhile_end {p : α → Bool} : ∀ (l : List α), (l.takeWhile p).length < l.length → p (l.getD (l.takeWhile p).length default) = false
 | [], h => by simp at h
 | x :: l, h => by
  rw [List.takeWhile_cons] at h ⊢
  split
  ·rename_i hx
   rw [if_pos hx] at h
   simpa using takeWhile_end l (by simpa using h)
  ·rename_i hx
   simpa using hx
theorem lowK_lt {j : Nat} (h : j < lowK key l k) : sLt (key (l.getD j default)) k = true := takeWhile_at (p := fun x => sLt (key x) k) l j h
theorem rise_step {a b : ByteArray} (h : sLe b a = false) : sLt a b = true := by
 unfold sLe at h
 rw [Bool.or_eq_false_iff] at h
 exact sLt_total h.1 fun e => by rw [e, sEq_eq.2 rfl] at h; cases h.2
theorem rise_lt (hr : RiseK key l) : ∀ (i j : Nat), i < j → j < l.length → sLt (key (l.getD i default)) (key (l.getD j default)) = true
 | i, 0, h, _ => by omega
 | i, j + 1, h, hl => by
  have h1 := rise_step (hr (j + 1) (by omega) hl)
  rw [Nat.add_sub_cancel] at h1
  by_cases e : i = j
  ·subst e; exact h1
  ·exact sLt_trans (rise_lt hr i j (by omega) (by omega)) h1
theorem lowK_ge (hr : RiseK key l) {j : Nat} (h : lowK key l k ≤ j) (hj : j < l.length) : sLt (key (l.getD j default)) k = false := by
 have h0 : sLt (key (l.getD (lowK key l k) default)) k = false := takeWhile_end (p := fun x => sLt (key x) k) l (Nat.lt_of_le_of_lt h hj)
 by_cases e : j = lowK key l k
 ·rw [e]; exact h0
 ·have h1 := rise_lt hr (lowK key l k) j (by omega) hj
  cases h2 : sLt (key (l.getD j default)) k with
  | false => rfl
  | true => rw [sLt_trans h1 h2] at h0; cases h0
theorem lowK_any (hr : RiseK key l) : (decide (lowK key l k < l.length) && sEq (key (l.getD (lowK key l k) default)) k) = l.any fun x => sEq (key x) k := by
 cases hb : l.any (fun x => sEq (key x) k) with
 | true =>
  obtain ⟨x, hx, he⟩ := List.any_eq_true.1 hb
  obtain ⟨j, hj, rfl⟩ := List.getElem_of_mem hx
  have hd : l.getD j default = l[j] := by rw [List.getD_eq_getElem?_getD, List.getElem?_eq_getElem hj]; rfl
  have he' : key (l.getD j default) = k := by rw [hd]; exact sEq_eq.1 he
  have h1 : lowK key l k ≤ j := by
   rcases Nat.lt_or_ge j (lowK key l k) with h | h
   ·have := lowK_lt h; rw [he', sLt_irr] at this; cases this
   ·exact h
  have h2 : lowK key l k = j := by
   by_cases e : lowK key l k = j
   ·exact e
   ·have := rise_lt hr (lowK key l k) j (by omega) hj
    rw [he'] at this
    have := lowK_ge hr (k := k) (Nat.le_refl _) (by omega)
    simp_all
  rw [h2, he', decide_eq_true hj, sEq_eq.2 rfl]; rfl
 | false =>
  cases hc : (decide (lowK key l k < l.length) && sEq (key (l.getD (lowK key l k) default)) k) with
  | false => rfl
  | true =>
   rw [Bool.and_eq_true, decide_eq_true_eq] at hc
   rw [List.any_eq_false] at hb
   have := hb _ (List.getElem_mem hc.1)
   have hc1 := hc.1
   have hd : l.getD (lowK key l k) default = l[lowK key l k]'hc1 := by rw [List.getD_eq_getElem?_getD, List.getElem?_eq_getElem hc1]; rfl
   have hc2 := hc.2
   rw [hd] at hc2
   exact absurd hc2 this
theorem find_first {p : α → Bool} : ∀ (l : List α) (j : Nat), j < l.length → p (l.getD j default) = true → (∀ i, i < j → p (l.getD i default) = false) → (l.find? p).getD default = l.getD j default
 | [], j, h, _, _ => by simp at h
 | x :: l, 0, _, h, _ => by simp at h; simp [h]
 | x :: l, j + 1, hj, h, hn => by
  have h0 := hn 0 (by omega)
  simp at h0
  simp only [List.find?_cons, h0]
  rw [find_first l j (by simpa using hj) (by simpa using h) (fun i hi => by simpa using hn (i + 1) (by omega))]
  simp
theorem lowK_find (hr : RiseK key l) (h1 : lowK key l k < l.length) (h2 : sEq (key (l.getD (lowK key l k) default)) k = true) : (l.find? fun x => sEq (key x) k).getD default = l.getD (lowK key l k) default :=
 find_first l _ h1 h2 fun i hi => by
  have := lowK_lt hi
  cases e : sEq (key (l.getD i default)) k with
  | false => rfl
  | true => rw [sEq_eq.1 e, sLt_irr] at this; cases this
theorem find_none' {p : α → Bool} {l : List α} (h : l.any p = false) : (l.find? p).getD default = default := by
 rw [List.find?_eq_none.2 fun x hx => by rw [List.any_eq_false] at h; exact h x hx]; rfl
theorem lowK_cmp (hr : RiseK key l) : (∀ j, j < lowK key l k → cmpB (key (l.getD j default)) k < 0) ∧ (∀ j, lowK key l k ≤ j → j < l.length → 0 ≤ cmpB (key (l.getD j default)) k) := by
 refine ⟨fun j hj => ?_, fun j hj hl => ?_⟩
 ·have := lowK_lt hj
  rw [← cmpB_lt, decide_eq_true_eq] at this; exact this
 ·have := lowK_ge hr hj hl
  rw [← cmpB_lt, decide_eq_false_iff_not] at this; omega
theorem cmp_zero (a b : ByteArray) : decide (cmpB a b = 0) = sEq a b := by
 rw [sEq_dec]
 by_cases h : a = b
 ·rw [decide_eq_true h, decide_eq_true (cmpB_eq.2 h)]
 ·rw [decide_eq_false h, decide_eq_false fun e => h (cmpB_eq.1 e)]
end
theorem bsf_lo {f : Nat → Int} {s0 n h : Nat} (hhi : ∀ j, s0 ≤ j → j < n → 0 ≤ f j) (hn : h < n) (hc : f h < 0) : h + 1 ≤ s0 := by
 rcases Nat.lt_or_ge h s0 with h1 | h1
 ·exact h1
 ·have := hhi h h1 hn; omega
theorem bsf_hi {f : Nat → Int} {s0 h : Nat} (hlo : ∀ j, j < s0 → f j < 0) (hc : 0 ≤ f h) : s0 ≤ h := by
 rcases Nat.lt_or_ge h s0 with h1 | h1
 ·have := hlo h h1; omega
 ·exact h1
end Go.Proofs.YtdnlhdilpdeecaaGreatDoor
namespace Go.Proofs.YtdnlhdilpdeecaaGreatDoor
open Go.RowKit
set_option linter.unusedVariables false
set_option linter.unusedSimpArgs false
structure Ord (n : Nat) (o : List Int) : Prop where
 nd : o.Nodup
 lt : ∀ x ∈ o, 0 ≤ x ∧ x < n
theorem Ord.nil (n : Nat) : Ord n [] := ⟨List.nodup_nil, fun x h => by simp at h⟩
theorem Ord.snoc {n : Nat} {o : List Int} (h : Ord n o) {q : Nat} (hq : q < n) (hn : (q : Int) ∉ o) : Ord n (o ++ [(q : Int)]) := by
 refine ⟨?_, fun x hx => ?_⟩
 ·rw [List.nodup_append]
  exact ⟨h.nd, by simp, fun a ha b hb => by simp at hb; subst hb; exact fun e => hn (e ▸ ha)⟩
 ·rcases List.mem_append.1 hx with hx | hx
  ·exact h.lt x hx
  ·simp at hx; subst hx; omega
section
variable {τ : Type} (n : Nat) (step : τ → List Int → τ)
def ext : Nat → List Int → τ → τ
 | 0, o, s => step s o
 | d + 1, o, s => (List.range n).foldl (fun (s : τ) (i : Nat) => if (i : Int) ∈ o then s else ext d (o ++ [(i : Int)]) s) s
variable {n step}
end
def usedL (n : Nat) (o : List Int) : List AV := (List.range n).map fun (i : Nat) => avB (decide ((i : Int) ∈ o))
theorem usedL_len (n : Nat) (o : List Int) : (usedL n o).length = n := by simp [usedL]
theorem usedL_get {n : Nat} {o : List Int} {q : Nat} (h : q < n) : (usedL n o)[q]? = some (avB (decide ((q : Int) ∈ o))) := by simp [usedL, h]
theorem usedL_nil (n : Nat) : usedL n [] = List.replicate n (avB false) := by
 apply List.ext_getElem (by simp [usedL])
 intro i h1 h2
 simp [usedL]
theorem usedL_set {n : Nat} {o : List Int} {q : Nat} (h : q < n) : (usedL n o).set q (avB true) = usedL n (o ++ [(q : Int)]) := by
 apply List.ext_getElem (by simp [usedL])
 intro i h1 h2
 rw [List.getElem_set]
 by_cases e : q = i
 ·subst e; simp [usedL]
 ·rw [if_neg e]
  have : ¬ ((i : Int) = (q : Int)) := by omega
  simp [usedL, this]
theorem usedL_make {n m : Nat} (hm : m = n) : (madeCells (Value.bool false).cells (m * 1)).toList.map AV.v = usedL n [] := by
 subst hm
 rw [usedL_nil, Nat.mul_one, show (Value.bool false).cells = #[.bool false] from rfl, toList_madeCells_one]
 simp
def idO (n : Nat) : List Int := (List.range n).map fun (i : Nat) => (i : Int)
theorem idO_len (n : Nat) : (idO n).length = n := by simp [idO]
theorem perm_of_sub : ∀ {l m : List Int}, l.Nodup → (∀ x ∈ l, x ∈ m) → m.length = l.length → l.Perm m
 | [], m, _, _, hl => by rw [List.eq_nil_of_length_eq_zero hl]
 | x :: r, m, h, hs, hl => by
  have hx := hs x (by simp)
  have hp := List.perm_cons_erase hx
  have := perm_of_sub (l := r) (m := m.erase x) (List.nodup_cons.1 h).2 (fun y hy => (List.mem_erase_of_ne (fun e => by subst e; exact (List.nodup_cons.1 h).1 hy)).2 (hs y (by simp [hy]))) (by rw [List.length_erase_of_mem hx, hl]; simp)
  exact (this.cons x).trans hp.symm
theorem Ord.perm {n : Nat} {l : List Int} (h : Ord n l) (hl : l.length = n) : l.Perm (idO n) := perm_of_sub h.nd (fun x hx => by
 have := h.lt x hx
 exact List.mem_map.2 ⟨x.toNat, List.mem_range.2 (by omega), by omega⟩) (by rw [idO_len, hl])
end Go.Proofs.YtdnlhdilpdeecaaGreatDoor
namespace Go.Proofs.YtdnlhdilpdeecaaGreatDoor
open Go.RowKit
set_option linter.unusedVariables false
set_option linter.unusedSimpArgs false
theorem pace_rise {p : List PaceS} (h : PacesOk p) : RiseK PaceS.product p := fun j h0 hj => (paceE_zero (h.all j hj)).2.1 h0
theorem needsF_lenP {l : List NeedS} {lo hi : Int} (h : needsF l lo hi = 0) : l.length ≤ 1000 := by
 unfold needsF at h
 split at h
 ·cases h
 ·omega
theorem paceO_in {p : List PaceS} {k : ByteArray} (h : hasP p k = true) : ∃ j, j < p.length ∧ paceO p k = p.getD j default := by
 unfold hasP at h
 cases hf : p.find? (fun x => sEq x.product k) with
 | none => rw [List.find?_eq_none] at hf; obtain ⟨x, hx, he⟩ := List.any_eq_true.1 h; exact absurd he (hf x hx)
 | some x =>
  obtain ⟨j, hj, e⟩ := List.getElem_of_mem (List.mem_of_find?_eq_some hf)
  refine ⟨j, hj, ?_⟩
  rw [paceO, hf, List.getD_eq_getElem?_getD, List.getElem?_eq_getElem hj, e]
theorem paceO_ok {p : List PaceS} (hp : PacesOk p) {k : ByteArray} (h : hasP p k = true) : (1 ≤ (paceO p k).cycle ∧ (paceO p k).cycle ≤ 10000000) ∧ (paceO p k).needs.length ≤ 1000 := by
 obtain ⟨j, hj, e⟩ := paceO_in h
 rw [e]
 have := paceE_zero (hp.all j hj)
 exact ⟨this.2.2.1, needsF_lenP this.2.2.2⟩
theorem paceO_sm {p : List PaceS} (hp : SmPc p) (k : ByteArray) : (paceO p k).needs.length ≤ 1000000 ∧ ∀ j, ((paceO p k).needs.getD j default).key.size ≤ 1000000 := by
 by_cases h : hasP p k = true
 ·obtain ⟨j, _, e⟩ := paceO_in h
  rw [e]; exact ⟨hp.nlen j, hp.nkey j⟩
 ·have : paceO p k = default := by
   unfold paceO
   exact find_none' (by simpa [hasP] using h)
  rw [this]
  exact ⟨by simp [default], fun j => by simp [default]⟩
theorem mul_bd {a b A B : Int} (h0 : 0 ≤ a) (h1 : a ≤ A) (h2 : 0 ≤ b) (h3 : b ≤ B) : 0 ≤ a * b ∧ a * b ≤ A * B :=
 ⟨Int.mul_nonneg h0 h2, Int.le_trans (Int.mul_le_mul_of_nonneg_right h1 h2) (Int.mul_le_mul_of_nonneg_left h3 (Int.le_trans h0 h1))⟩
structure OrdrsB (o : List OrdrS) : Prop where
 len : o.length ≤ 201
 all : ∀ j, j < o.length → (1 ≤ (o.getD j default).count ∧ (o.getD j default).count ≤ 100000) ∧ (0 ≤ (o.getD j default).ready ∧ (o.getD j default).ready ≤ 345686399999) ∧ (0 ≤ (o.getD j default).due ∧ (o.getD j default).due ≤ 345686399999)
theorem OrdrsOk.bd {o : List OrdrS} (h : OrdrsOk o) : OrdrsB o := ⟨by have := h.len; omega, fun j hj => (ordrE_zero (h.all j hj)).2.2⟩
structure SchOk (p : List PaceS) (o : List OrdrS) (l : List Int) (start each : Int) : Prop where
 pok : PacesOk p
 ook : OrdrsB o
 has : ∀ j, j < o.length → hasP p (o.getD j default).product = true
 len : l.length = o.length
 ord : Ord o.length l
 st : 0 ≤ start ∧ start ≤ 345686399999
 ea : 0 ≤ each ∧ each ≤ 10000000
theorem bothF_has {p : List PaceS} {o : List OrdrS} (h : bothF p o = 0) : ∀ j, j < o.length → hasP p (o.getD j default).product = true := fun j hj => by
 have := List.all_eq_true.1 (bothF_0 h).2.2 (o[j]) (List.getElem_mem hj)
 rwa [List.getD_eq_getElem?_getD, List.getElem?_eq_getElem hj]
theorem schF_0 {n : Nat} {l : List Int} (h : schF n l = 0) : l.length = n ∧ Ord n l := by
 unfold schF at h
 split at h
 ·rename_i h1; exact ⟨h1.1, h1.2.1, h1.2.2⟩
 ·cases h
theorem startF_0 {s e : Int} (h : startF s e = 0) : (0 ≤ s ∧ s ≤ 345686399999) ∧ (0 ≤ e ∧ e ≤ 10000000) := by
 unfold startF at h
 split at h
 ·cases h
 ·rename_i h1
  simp only [outR, Bool.or_eq_true, decide_eq_true_eq, not_or] at h1
  omega
theorem schOk {p : List PaceS} {o : List OrdrS} {l : List Int} {s e : Int} (h : scheF p o l s e = 0) : SchOk p o l s e := by
 unfold scheF at h
 split at h
 ·contradiction
 ·split at h
  ·contradiction
  ·rename_i h1 h2
   have h1' : bothF p o = 0 := by simpa using h1
   have h2' : schF o.length l = 0 := by simpa using h2
   have h3 := bothF_0 h1'
   have h4 := startF_0 h
   exact ⟨pacesOk h3.1, (ordrsOk h3.2.1).bd, bothF_has h1', (schF_0 h2').1, (schF_0 h2').2, h4.1, h4.2⟩
section
variable {p : List PaceS} {o : List OrdrS} {l : List Int} {start each : Int} (h : SchOk p o l start each)
include h
theorem SchOk.at_ {q : Nat} (hq : q < l.length) : 0 ≤ l.getD q 0 ∧ (l.getD q 0).toNat < o.length := by
 have := h.ord.lt (l[q]) (List.getElem_mem hq)
 rw [List.getD_eq_getElem?_getD, List.getElem?_eq_getElem hq]
 simp only [Option.getD_some]
 omega
theorem SchOk.long {i : Nat} (hi : i < o.length) : 0 ≤ longO p (o.getD i default) ∧ longO p (o.getD i default) ≤ 1000000000000 := by
 have h1 := (paceO_ok h.pok (h.has i hi)).1
 have h2 := (h.ook.all i hi).1
 have := mul_bd (by omega : 0 ≤ (paceO p (o.getD i default).product).cycle) h1.2 (by omega : 0 ≤ (o.getD i default).count) h2.2
 unfold longO
 omega
theorem SchOk.turn {i j : Nat} (hj : j < o.length) : 0 ≤ turnO p each (o.getD i default) (o.getD j default) ∧ turnO p each (o.getD i default) (o.getD j default) ≤ 10000000000 := by
 have h1 := (paceO_ok h.pok (h.has j hj)).2
 have h2 := chgN_le (paceO p (o.getD i default).product).needs (paceO p (o.getD j default).product).needs (paceO p (o.getD j default).product).needs.length
 have := mul_bd h.ea.1 h.ea.2 (by omega : (0 : Int) ≤ (chgN (paceO p (o.getD i default).product).needs (paceO p (o.getD j default).product).needs (paceO p (o.getD j default).product).needs.length : Int)) (by omega : _ ≤ (1000 : Int))
 unfold turnO chgI
 omega
theorem SchOk.bd : ∀ q, q < l.length → (0 ≤ fromP p o l start each q ∧ fromP p o l start each q ≤ endP p o l start each q) ∧ endP p o l start each q ≤ 345686400000 + (q + 1) * 1010000000000
 | 0, hq => by
  have h1 := h.at_ hq
  have h2 := h.long h1.2
  have h3 := (h.ook.all _ h1.2).2.1
  have h4 := h.st
  simp only [fromP, endP, orA]
  omega
 | q + 1, hq => by
  have h1 := h.at_ hq
  have h2 := h.long h1.2
  have h3 := (h.ook.all _ h1.2).2.1
  have h5 := SchOk.bd q (by omega)
  have h6 := h.turn (i := (l.getD q 0).toNat) h1.2
  simp only [fromP, endP, orA]
  omega
theorem SchOk.res : ∀ q, q ≤ l.length → (0 ≤ (resP p o l start each q).late ∧ (resP p o l start each q).late ≤ q * 300000000000000) ∧ (0 ≤ (resP p o l start each q).many ∧ (resP p o l start each q).many ≤ q) ∧ (0 ≤ (resP p o l start each q).en ∧ (resP p o l start each q).en ≤ 300000000000000)
 | 0, hq => by
  have h4 := h.st
  simp only [resP]
  omega
 | q + 1, hq => by
  have h1 := h.at_ (q := q) (by omega)
  have h3 := (h.ook.all _ h1.2).2.2
  have h5 := h.bd q (by omega)
  have h6 := SchOk.res q (by omega)
  have h7 := h.ook.len
  have h8 := h.len
  simp only [resP, orA]
  split
  ·rename_i hd
   simp only
   omega
  ·simp only
   omega
end
def schC (p : List PaceS) (o : List OrdrS) (each : Int) : Nat → AV
 | 0 => avL o
 | 1 => avInts (o.map (longO p))
 | _ => avM (o.map fun x => o.map (turnO p each x))
def schAV (p : List PaceS) (o : List OrdrS) (l : List Int) (start each : Int) : AV := if scheF p o l start each = 0 then .at_ 3 (schC p o each) else .v (.pointer none)
def timesR (p : List PaceS) (o : List OrdrS) (l : List Int) (start each : Int) : List WinS := if scheF p o l start each = 0 then timesQ p o l start each l.length else []
theorem scheF_1 {p : List PaceS} {o : List OrdrS} {l : List Int} {s e : Int} (h : bothF p o ≠ 0) : scheF p o l s e = bothF p o := by rw [scheF, if_pos h]
theorem scheF_2 {p : List PaceS} {o : List OrdrS} {l : List Int} {s e : Int} (h : bothF p o = 0) (h2 : schF o.length l ≠ 0) : scheF p o l s e = schF o.length l := by rw [scheF, if_neg (by omega), if_pos h2]
theorem scheF_3 {p : List PaceS} {o : List OrdrS} {l : List Int} {s e : Int} (h : bothF p o = 0) (h2 : schF o.length l = 0) : scheF p o l s e = startF s e := by rw [scheF, if_neg (by omega), if_neg (by omega)]
theorem schAV_no {p : List PaceS} {o : List OrdrS} {l : List Int} {s e : Int} (h : scheF p o l s e ≠ 0) : schAV p o l s e = .v (.pointer none) := by rw [schAV, if_neg h]
theorem schAV_ok {p : List PaceS} {o : List OrdrS} {l : List Int} {s e : Int} (h : scheF p o l s e = 0) : schAV p o l s e = .at_ 3 (schC p o e) := by rw [schAV, if_pos h]
theorem resP_t {p : List PaceS} {o : List OrdrS} {l : List Int} {s e : Int} {q : Nat} (h : (orA o (l.getD q 0)).due < endP p o l s e q) : resP p o l s e (q + 1) = ⟨(resP p o l s e q).late + (endP p o l s e q - (orA o (l.getD q 0)).due), (resP p o l s e q).many + 1, endP p o l s e q⟩ := by rw [resP, if_pos h]
theorem resP_f {p : List PaceS} {o : List OrdrS} {l : List Int} {s e : Int} {q : Nat} (h : ¬ (orA o (l.getD q 0)).due < endP p o l s e q) : resP p o l s e (q + 1) = ⟨(resP p o l s e q).late, (resP p o l s e q).many, endP p o l s e q⟩ := by rw [resP, if_neg h]
theorem map_getD {α β : Type} (f : α → β) {l : List α} {i : Nat} (h : i < l.length) (d : α) (e : β) : (l.map f).getD i e = f (l.getD i d) := by
 simp [List.getD_eq_getElem?_getD, h]
def runA {τ : Type} (step : τ → Int → WinS → τ) (p : List PaceS) (o : List OrdrS) (l : List Int) (start each : Int) (a : τ) : Nat → τ
 | 0 => a
 | q + 1 => step (runA step p o l start each a q) (l.getD q 0) (winP p o l start each q)
theorem runA_times (p : List PaceS) (o : List OrdrS) (l : List Int) (start each : Int) : ∀ q, runA (fun (a : List WinS) i w => a.set i.toNat w) p o l start each (List.replicate o.length default) q = timesQ p o l start each q
 | 0 => rfl
 | q + 1 => by rw [runA, runA_times p o l start each q]; rfl
def DoesW (n : Nat) {τ : Type} (K : τ → List Ent → Prop) (step : τ → Int → WinS → τ) (P : Program) (F : FuncId) (caps : Array Value) : Prop :=
 ∀ (i : Int) (w : WinS) (a : τ) (h : List Ent), 0 ≤ i → i.toNat < n → K a h →
  SpecH P F ([avI i, .agg [avI w.fr, avI w.to]] ++ caps.toList.map .v) h (fun y hp' => K (step a i w) hp')
theorem map_snoc {α β : Type} {l : List α} {q : Nat} (f : α → β) (h : q < l.length) (d : α) : (l.take (q + 1)).map f = (l.take q).map f ++ [f (l.getD q d)] := by
 rw [List.take_add_one, List.map_append, List.getD_eq_getElem?_getD, List.getElem?_eq_getElem h]; rfl
theorem Ord.take {n : Nat} {l : List Int} {q : Nat} (h : Ord n (l.take q)) (hq : q < l.length) (h0 : 0 ≤ l.getD q 0) (h1 : (l.getD q 0).toNat < n) (h2 : l.getD q 0 ∉ l.take q) : Ord n (l.take (q + 1)) := by
 have := h.snoc h1 (by rwa [Int.toNat_of_nonneg h0])
 rw [Int.toNat_of_nonneg h0] at this
 rw [List.take_add_one, List.getElem?_eq_getElem hq]
 rwa [List.getD_eq_getElem?_getD, List.getElem?_eq_getElem hq] at this
theorem schF_len {n : Nat} {l : List Int} (h : l.length ≠ n) : schF n l = 3 := by rw [schF, if_neg fun e => h e.1]
theorem schF_out {n : Nat} {l : List Int} {q : Nat} (hq : q < l.length) (h : l.getD q 0 < 0 ∨ (n : Int) ≤ l.getD q 0) : schF n l = 3 := by
 rw [schF, if_neg fun e => ?_]
 have := e.2.2 (l[q]) (List.getElem_mem hq)
 rw [List.getD_eq_getElem?_getD, List.getElem?_eq_getElem hq] at h
 simp only [Option.getD_some] at h
 omega
theorem schF_twice {n : Nat} {l : List Int} {q : Nat} (hq : q < l.length) (h : l.getD q 0 ∈ l.take q) : schF n l = 3 := by
 rw [schF, if_neg fun e => ?_]
 rw [List.getD_eq_getElem?_getD, List.getElem?_eq_getElem hq] at h
 simp only [Option.getD_some] at h
 obtain ⟨i, hi, he⟩ := List.getElem_of_mem h
 simp at hi
 rw [List.getElem_take] at he
 have := List.pairwise_iff_getElem.1 e.2.1 i q (by omega) hq (by omega)
 exact this he
theorem schF_ok {n : Nat} {l : List Int} (hl : l.length = n) (h : Ord n l) : schF n l = 0 := by rw [schF, if_pos ⟨hl, h.nd, h.lt⟩]
theorem usedL_take {n : Nat} {l : List Int} {q : Nat} (hq : q < l.length) (h0 : 0 ≤ l.getD q 0) (h1 : (l.getD q 0).toNat < n) : (usedL n (l.take q)).set (l.getD q 0).toNat (avB true) = usedL n (l.take (q + 1)) := by
 rw [usedL_set h1, Int.toNat_of_nonneg h0, List.take_add_one, List.getElem?_eq_getElem hq]
 rw [List.getD_eq_getElem?_getD, List.getElem?_eq_getElem hq]
 rfl
end Go.Proofs.YtdnlhdilpdeecaaGreatDoor
namespace Go.Proofs.YtdnlhdilpdeecaaGreatDoor
open Go.RowKit
set_option linter.unusedVariables false
set_option linter.unusedSimpArgs false
section
variable {p : List PaceS} {o : List OrdrS} {l : List Int} {start each : Int} (h : SchOk p o l start each)
include h
end
section
variable {p : List PaceS} {o : List OrdrS} {l : List Int} {start each : Int} (h : SchOk p o l start each)
include h
theorem SchOk.up : ∀ q, q + 1 < l.length → endP p o l start each q ≤ fromP p o l start each (q + 1) ∧ endP p o l start each q ≤ endP p o l start each (q + 1) := fun q hq => by
 have h1 := h.at_ (q := q + 1) hq
 have h6 := h.turn (i := (l.getD q 0).toNat) h1.2
 have hb := h.bd (q + 1) hq
 have : fromP p o l start each (q + 1) = max (endP p o l start each q + turnO p each (orA o (l.getD q 0)) (orA o (l.getD (q + 1) 0))) (orA o (l.getD (q + 1) 0)).ready := rfl
 have h7 : 0 ≤ turnO p each (orA o (l.getD q 0)) (orA o (l.getD (q + 1) 0)) := h6.1
 omega
theorem SchOk.mono {a : Nat} : ∀ b, a ≤ b → b < l.length → endP p o l start each a ≤ endP p o l start each b
 | 0, hab, _ => by rw [show a = 0 by omega]; exact Int.le_refl _
 | b + 1, hab, hb => by
  by_cases e : a = b + 1
  ·rw [e]; exact Int.le_refl _
  ·exact Int.le_trans (SchOk.mono b (by omega) (by omega)) (h.up b hb).2
end
section
variable {p : List PaceS} {o : List OrdrS} {l : List Int} {start each : Int} (h : SchOk p o l start each)
include h
end
end Go.Proofs.YtdnlhdilpdeecaaGreatDoor
namespace Go.Proofs.YtdnlhdilpdeecaaGreatDoor
open Go.RowKit
set_option linter.unusedVariables false
set_option linter.unusedSimpArgs false

set_option maxRecDepth 100000 in
theorem slices_Index_str {xs : List ByteArray} {v : ByteArray} (hl : xs.length ≤ 1000000000) :
  SpecN Tryz.prog 151 [avStrs xs, avS v] (fun y => y = avI (fidx (fun x => sEq v x) xs)) := by
 refine SpecN.of_VCN Tryz.func151 rfl Tryz.ntmps151 (Nle rfl) fun w A hB => ?_
 have hnew : True := trivial
 refine VC.sr ?_
 refine VO.ma rfl rfl rfl rfl ?_
 refine VO.nil ?_
 refine VC.seq ?_
 refine VC.sr ?_
 refine VO.mv rfl rfl rfl rfl ?_
 refine VO.val rfl rfl (OpV.len_im rfl Tryz.underlying29 rfl) ?_
 refine VO.mv rfl rfl rfl rfl ?_
 refine VO.nil ?_
 refine VC.block ?_
 refine VC.loopK [] trivial ({q : Nat // q ≤ xs.length ∧ ∀ j, j < q → sEq v (xs.getD j ByteArray.empty) = false}) (fun (iZ : {q : Nat // q ≤ xs.length ∧ ∀ j, j < q → sEq v (xs.getD j ByteArray.empty) = false}) => match iZ with | ⟨q, hq, hn⟩ => [(0, avStrs xs), (1, avS v), (6, avStrs xs), (7, avI xs.length), (8, avI (q : Int))]) (fun (iZ : {q : Nat // q ≤ xs.length ∧ ∀ j, j < q → sEq v (xs.getD j ByteArray.empty) = false}) => match iZ with | ⟨q, hq, hn⟩ => []) (fun (iZ : {q : Nat // q ≤ xs.length ∧ ∀ j, j < q → sEq v (xs.getD j ByteArray.empty) = false}) => match iZ with | ⟨q, hq, hn⟩ => 0) (fun (iZ : {q : Nat // q ≤ xs.length ∧ ∀ j, j < q → sEq v (xs.getD j ByteArray.empty) = false}) => match iZ with | ⟨q, hq, hn⟩ => xs.length - q) ⟨0, Nat.zero_le _, fun j hj => absurd hj (Nat.not_lt_zero j)⟩ (Le.mk hB [] ⟨rfl, rfl, rfl, rfl, rfl, trivial⟩ rfl rfl (Nat.le_refl _)) ?_
 rintro ⟨q, hq, hn⟩
 show VC _ _ _ _ ⟨[(0, avStrs xs), (1, avS v), (6, avStrs xs), (7, avI xs.length), (8, avI (q : Int))] ++ [], [], 0⟩
 refine VC.sr ?_
 refine VO.val rfl rfl (OpV.lss rfl rfl rfl) ?_
 refine VO.nil ?_
 refine VC.seq ?_
 refine VC.cond rfl (fun aH1b => ?_) (fun aH1b => ?_)
 ·have aH1 := aH1b
  try simp only [qqT, qqF, qqN, qqM, qqL, qqE] at aH1
  refine VC.skip ?_
  refine VC.seq ?_
  refine VC.block ?_
  refine VC.sr ?_
  refine VO.mv rfl rfl rfl rfl ?_
  refine VO.ma rfl rfl rfl rfl ?_
  refine VO.nil ?_
  refine VC.sr ?_
  refine VO.mv rfl rfl rfl rfl ?_
  refine VO.mv rfl rfl rfl rfl ?_
  refine VO.mv rfl rfl rfl rfl ?_
  refine VO.val rfl rfl (OpV.indexAddr_1 rfl Tryz.underlying29 Tryz.sizeOf9 rfl rfl rfl (by omega)) ?_
  refine VO.val rfl rfl (OpV.load_at rfl hB OutW.no Tryz.isAgg9 rfl rfl) ?_
  refine VO.val rfl rfl (OpV.seql rfl rfl rfl) ?_
  refine VO.nil ?_
  refine VC.cond rfl (fun aH2b => ?_) (fun aH2b => ?_)
  ·have aH2 := aH2b
   try simp only [qqT, qqF, qqN, qqM, qqL, qqE] at aH2
   refine VC.sr ?_
   refine VO.mv rfl rfl rfl rfl ?_
   refine VO.ma rfl rfl rfl rfl ?_
   refine VO.nil ?_
   refine VC.ret ?_
   exact Exists.intro _ (And.intro (RetN.one Tryz.results151 (ResN.v rfl)) (by first | (rw [fidx_found (d := ByteArray.empty) (q := q) (by omega) hn (by assumption)]) | (rw [fidx_none (d := ByteArray.empty) (fun j hj => hn j (by omega))])))
  ·have aH2 := aH2b
   try simp only [qqT, qqF, qqN, qqM, qqL, qqE] at aH2
   refine VC.skip ?_
   refine VC.region ?_
   refine VO.val rfl rfl (OpV.add rfl rfl rfl (by unfold fits; omega)) ?_
   refine VO.mv rfl rfl rfl rfl ?_
   refine VO.nil ?_
   exact Exists.intro (⟨q + 1, by omega, lt_succ_cases hn (by assumption)⟩) (And.intro (Le.mk hB [] ⟨rfl, rfl, rfl, rfl, rfl, trivial⟩ rfl rfl (Nat.le_refl _)) (by first | omega | (show _ < _; omega) | (simp only []; omega)))
 ·have aH1 := aH1b
  try simp only [qqT, qqF, qqN, qqM, qqL, qqE] at aH1
  refine VC.exit ?_
  refine VC.sr ?_
  refine VO.ma rfl rfl rfl rfl ?_
  refine VO.nil ?_
  refine VC.ret ?_
  exact Exists.intro _ (And.intro (RetN.one Tryz.results151 (ResN.v rfl)) (by first | (rw [fidx_found (d := ByteArray.empty) (q := q) (by omega) hn (by assumption)]) | (rw [fidx_none (d := ByteArray.empty) (fun j hj => hn j (by omega))])))
set_option maxRecDepth 100000 in
theorem slices_Contains_str {xs : List ByteArray} {v : ByteArray} (hl : xs.length ≤ 1000000000) :
  SpecN Tryz.prog 49 [avStrs xs, avS v] (fun y => y = avB (xs.any fun x => sEq v x)) := by
 refine SpecN.of_VCN Tryz.func49 rfl Tryz.ntmps49 (Nle rfl) fun w A hB => ?_
 have hnew : True := trivial
 refine VC.sr ?_
 refine VO.ma rfl rfl rfl rfl ?_
 refine VO.nil ?_
 refine VC.sr ?_
 refine VO.mv rfl rfl rfl rfl ?_
 refine VO.mv rfl rfl rfl rfl ?_
 refine VO.op rfl (OpE.call rfl hB rfl Tryz.call151 rfl (SpecN.spec ((slices_Index_str (by omega)))) ?_)
 rintro _ rfl
 refine VO.val rfl rfl (OpV.geq rfl rfl rfl) ?_
 refine VO.ma rfl rfl rfl rfl ?_
 refine VO.nil ?_
 refine VC.ret ?_
 exact Exists.intro _ (And.intro (RetN.one Tryz.results49 (ResN.v rfl)) (by rw [← fidx_any]))

end Go.Proofs.YtdnlhdilpdeecaaGreatDoor
namespace Go.Proofs.YtdnlhdilpdeecaaGreatDoor
open Go.RowKit
set_option linter.unusedVariables false
set_option linter.unusedSimpArgs false

set_option maxRecDepth 100000 in
theorem line_NeedsFault {l : List NeedS} {lo hi : Int} (hl : l.length ≤ 1000000000) (hb : ∀ i, (l.getD i default).key.size ≤ 1000000000) :
  SpecN Tryz.prog 370 [avL l, avI lo, avI hi] (fun y => y = avI (needsF l lo hi)) := by
 refine SpecN.of_VCN Tryz.func370 rfl Tryz.ntmps370 (Nle rfl) fun w A hB => ?_
 have hnew : True := trivial
 refine VC.sr ?_
 refine VO.ma rfl rfl rfl rfl ?_
 refine VO.nil ?_
 refine VC.seq ?_
 refine VC.sr ?_
 refine VO.mv rfl rfl rfl rfl ?_
 refine VO.val rfl rfl (OpV.len_im rfl Tryz.underlying110 rfl) ?_
 refine VO.val rfl rfl (OpV.gtr rfl rfl rfl) ?_
 refine VO.nil ?_
 refine VC.cond rfl (fun aH1b => ?_) (fun aH1b => ?_)
 ·have aH1 := aH1b
  try simp only [qqT, qqF, qqN, qqM, qqL, qqE] at aH1
  refine VC.sr ?_
  refine VO.ma rfl rfl rfl rfl ?_
  refine VO.nil ?_
  refine VC.ret ?_
  exact Exists.intro _ (And.intro (RetN.one Tryz.results370 (ResN.v rfl)) (by rw [needsF_big (by omega)]))
 ·have aH1 := aH1b
  try simp only [qqT, qqF, qqN, qqM, qqL, qqE] at aH1
  refine VC.skip ?_
  refine VC.seq ?_
  refine VC.sr ?_
  refine VO.mv rfl rfl rfl rfl ?_
  refine VO.val rfl rfl (OpV.len_im rfl Tryz.underlying110 rfl) ?_
  refine VO.mv rfl rfl rfl rfl ?_
  refine VO.nil ?_
  refine VC.block ?_
  refine VC.loopK [] trivial ({q : Nat // q ≤ l.length ∧ ∀ j, j < q → needE l lo hi j = 0}) (fun (iZ : {q : Nat // q ≤ l.length ∧ ∀ j, j < q → needE l lo hi j = 0}) => match iZ with | ⟨q, hq, hn⟩ => [(0, avL l), (1, avI lo), (2, avI hi), (12, avL l), (13, avI l.length), (14, avI (q : Int))]) (fun (iZ : {q : Nat // q ≤ l.length ∧ ∀ j, j < q → needE l lo hi j = 0}) => match iZ with | ⟨q, hq, hn⟩ => []) (fun (iZ : {q : Nat // q ≤ l.length ∧ ∀ j, j < q → needE l lo hi j = 0}) => match iZ with | ⟨q, hq, hn⟩ => 0) (fun (iZ : {q : Nat // q ≤ l.length ∧ ∀ j, j < q → needE l lo hi j = 0}) => match iZ with | ⟨q, hq, hn⟩ => l.length - q) ⟨0, Nat.zero_le _, fun j hj => absurd hj (Nat.not_lt_zero j)⟩ (Le.mk hB [] ⟨rfl, rfl, rfl, rfl, rfl, rfl, trivial⟩ rfl rfl (Nat.le_refl _)) ?_
  rintro ⟨q, hq, hn⟩
  show VC _ _ _ _ ⟨[(0, avL l), (1, avI lo), (2, avI hi), (12, avL l), (13, avI l.length), (14, avI (q : Int))] ++ [], [], 0⟩
  refine VC.sr ?_
  refine VO.val rfl rfl (OpV.lss rfl rfl rfl) ?_
  refine VO.nil ?_
  refine VC.seq ?_
  refine VC.cond rfl (fun aH2b => ?_) (fun aH2b => ?_)
  ·have aH2 := aH2b
   try simp only [qqT, qqF, qqN, qqM, qqL, qqE] at aH2
   refine VC.skip ?_
   refine VC.seq ?_
   refine VC.block ?_
   refine VC.sr ?_
   refine VO.mv rfl rfl rfl rfl ?_
   refine VO.val rfl rfl (OpV.indexAddr_E rfl Tryz.underlying110 Tryz.sizeOf114 rfl rfl rfl (by omega)) ?_
   refine VO.val rfl rfl (OpV.loadK_at rfl hB OutW.no Tryz.isAgg114 Tryz.sizeOf114 rfl rfl) ?_
   refine VO.op rfl (OpE.alloc rfl hB rfl Tryz.zeroValue114 rfl ?_)
   intro g8
   refine VO.ma rfl rfl rfl rfl ?_
   refine VO.op rfl (OpE.store (i := 0) rfl hB rfl Tryz.sizeOf114 rfl rfl rfl rfl rfl rfl (Nle rfl) trivial ?_)
   refine VO.nil ?_
   refine VC.block ?_
   refine VC.sr ?_
   refine VO.val rfl rfl (OpV.fieldAddrO 0 rfl Tryz.underlying114 rfl rfl Tryz.sizeOf9 rfl) ?_
   refine VO.val rfl rfl (OpV.load_own (i := 0) rfl hB Tryz.isAgg9 rfl rfl rfl (fun h => h)) ?_
   refine VO.op rfl (OpE.call rfl hB rfl Tryz.call182 rfl (SpecN.spec (kit_IsKey (hb _))) ?_)
   rintro _ rfl
   refine VO.val rfl rfl (OpV.not rfl rfl) ?_
   refine VO.ma rfl rfl rfl rfl ?_
   refine VO.nil ?_
   refine VC.cond rfl (fun hkb => ?_) (fun hkb => ?_)
   ·have hk := hkb
    try simp only [qqT, qqF, qqN, qqM, qqL, qqE] at hk
    refine VC.sr ?_
    refine VO.ma rfl rfl rfl rfl ?_
    refine VO.nil ?_
    refine VC.ret ?_
    exact Exists.intro _ (And.intro (RetN.one Tryz.results370 (ResN.v rfl)) (by rw [needsF_at (by omega) (by omega) hn (needE_5 hk) (by decide)]))
   ·have hk := hkb
    try simp only [qqT, qqF, qqN, qqM, qqL, qqE] at hk
    refine VC.seq ?_
    refine VC.draw (fun _ => NoB) hB (by kernel_rfl) ?_
    refine VA.take (i := 0) rfl (by kernel_rfl) (by kernel_rfl) (by kernel_rfl) rfl rfl (OpV.move (.inl rfl) rfl) ?_
    refine VA.take (i := 1) rfl (by kernel_rfl) (by kernel_rfl) (by kernel_rfl) rfl rfl (OpV.gtr rfl rfl rfl) ?_
    refine VA.take (i := 2) rfl (by kernel_rfl) (by kernel_rfl) (by kernel_rfl) rfl rfl (OpV.move (.inl rfl) rfl) ?_
    refine VA.split (t := 27) rfl (fun aK3b => ?_) (fun aK3b => ?_)
    ·have aK3 := aK3b
     try simp only [qqT, qqF, qqN, qqM, qqL, qqE] at aK3
     refine VA.takeY (i := 3) rfl (by kernel_rfl) (by kernel_rfl) (by kernel_rfl) rfl rfl rfl rfl aK3b (OpV.fieldAddrO 0 rfl Tryz.underlying114 rfl rfl Tryz.sizeOf9 rfl) ?_
     refine VA.takeY (i := 4) rfl (by kernel_rfl) (by kernel_rfl) (by kernel_rfl) rfl rfl rfl rfl aK3b (OpV.load_own (i := 0) rfl hB Tryz.isAgg9 rfl rfl rfl Wi.not0) ?_
     refine VA.takeY (i := 5) rfl (by kernel_rfl) (by kernel_rfl) (by kernel_rfl) rfl rfl rfl rfl aK3b (OpV.move (.inl rfl) rfl) ?_
     refine VA.takeY (i := 6) rfl (by kernel_rfl) (by kernel_rfl) (by kernel_rfl) rfl rfl rfl rfl aK3b (OpV.move (.inl rfl) rfl) ?_
     refine VA.takeY (i := 7) rfl (by kernel_rfl) (by kernel_rfl) (by kernel_rfl) rfl rfl rfl rfl aK3b (OpV.sub rfl rfl rfl (by unfold fits; omega)) ?_
     refine VA.takeY (i := 8) rfl (by kernel_rfl) (by kernel_rfl) (by kernel_rfl) rfl rfl rfl rfl aK3b (OpV.indexAddr_E rfl Tryz.underlying110 Tryz.sizeOf114 rfl rfl (show ((q : Int) - 1) = ((q - 1 : Nat) : Int) by omega) (by omega)) ?_
     refine VA.takeY (i := 9) rfl (by kernel_rfl) (by kernel_rfl) (by kernel_rfl) rfl rfl rfl rfl aK3b (OpV.fieldAddr_atO 0 rfl Tryz.underlying114 rfl rfl Tryz.sizeOf9 rfl rfl) ?_
     refine VA.takeY (i := 10) rfl (by kernel_rfl) (by kernel_rfl) (by kernel_rfl) rfl rfl rfl rfl aK3b (OpV.load_at rfl hB OutW.wi0 Tryz.isAgg9 rfl rfl) ?_
     refine VA.takeY (i := 11) rfl (by kernel_rfl) (by kernel_rfl) (by kernel_rfl) rfl rfl rfl rfl aK3b (OpV.sleq rfl rfl rfl) ?_
     refine VA.take (i := 12) rfl (by kernel_rfl) (by kernel_rfl) (by kernel_rfl) rfl rfl (OpV.pickT rfl rfl rfl rfl aK3b) ?_
     refine VA.take (i := 13) rfl (by kernel_rfl) (by kernel_rfl) (by kernel_rfl) rfl rfl (OpV.move (.inr rfl) rfl) ?_
     refine VA.done (by kernel_rfl) ?_
     refine VC.cond rfl (fun hsb => ?_) (fun hsb => ?_)
     ·have hs := hsb
      try simp only [qqT, qqF, qqN, qqM, qqL, qqE] at hs
      refine VC.sr ?_
      refine VO.ma rfl rfl rfl rfl ?_
      refine VO.nil ?_
      refine VC.ret ?_
      exact Exists.intro _ (And.intro (RetN.one Tryz.results370 (ResN.v rfl)) (by rw [needsF_at (by omega) (by omega) hn (needE_7 hk (by omega) hs) (by decide)]))
     ·have hs := hsb
      try simp only [qqT, qqF, qqN, qqM, qqL, qqE] at hs
      refine VC.sr ?_
      refine VO.val rfl rfl (OpV.fieldAddrO 1 rfl Tryz.underlying114 rfl rfl Tryz.sizeOf3 rfl) ?_
      refine VO.val rfl rfl (OpV.load_own (i := 0) rfl hB Tryz.isAgg3 rfl rfl rfl (fun h => h)) ?_
      refine VO.mv rfl rfl rfl rfl ?_
      refine VO.mv rfl rfl rfl rfl ?_
      refine VO.op rfl (OpE.call rfl hB rfl Tryz.call181 rfl (SpecN.spec (kit_Outside)) ?_)
      rintro _ rfl
      refine VO.ma rfl rfl rfl rfl ?_
      refine VO.nil ?_
      refine VC.cond rfl (fun hob => ?_) (fun hob => ?_)
      ·have ho := hob
       try simp only [qqT, qqF, qqN, qqM, qqL, qqE] at ho
       refine VC.sr ?_
       refine VO.ma rfl rfl rfl rfl ?_
       refine VO.nil ?_
       refine VC.ret ?_
       exact Exists.intro _ (And.intro (RetN.one Tryz.results370 (ResN.v rfl)) (by first | rw [needsF_at (by omega) (by omega) hn (needE_1 hk (.inr hs) ho) (by decide)] | rw [needsF_at (by omega) (by omega) hn (needE_1 hk (.inl (by omega)) ho) (by decide)]))
      ·have ho := hob
       try simp only [qqT, qqF, qqN, qqM, qqL, qqE] at ho
       refine VC.skip ?_
       refine VC.region ?_
       refine VO.val rfl rfl (OpV.add rfl rfl rfl (by unfold fits; omega)) ?_
       refine VO.mv rfl rfl rfl rfl ?_
       refine VO.nil ?_
       exact Exists.intro (⟨q + 1, by omega, lt_succ_cases hn (needE_0 hk (.inr hs) ho)⟩) (And.intro (Le.mk hB [] ⟨rfl, rfl, rfl, rfl, rfl, rfl, trivial⟩ rfl rfl (Nat.le_refl _)) (by first | omega | (show _ < _; omega) | (simp only []; omega)))
    ·have aK3 := aK3b
     try simp only [qqT, qqF, qqN, qqM, qqL, qqE] at aK3
     refine VA.takeX (i := 3) rfl (by kernel_rfl) (by kernel_rfl) (by kernel_rfl) rfl rfl rfl rfl aK3b ?_
     refine VA.takeX (i := 4) rfl (by kernel_rfl) (by kernel_rfl) (by kernel_rfl) rfl rfl rfl rfl aK3b ?_
     refine VA.takeX (i := 5) rfl (by kernel_rfl) (by kernel_rfl) (by kernel_rfl) rfl rfl rfl rfl aK3b ?_
     refine VA.takeX (i := 6) rfl (by kernel_rfl) (by kernel_rfl) (by kernel_rfl) rfl rfl rfl rfl aK3b ?_
     refine VA.takeX (i := 7) rfl (by kernel_rfl) (by kernel_rfl) (by kernel_rfl) rfl rfl rfl rfl aK3b ?_
     refine VA.takeX (i := 8) rfl (by kernel_rfl) (by kernel_rfl) (by kernel_rfl) rfl rfl rfl rfl aK3b ?_
     refine VA.takeX (i := 9) rfl (by kernel_rfl) (by kernel_rfl) (by kernel_rfl) rfl rfl rfl rfl aK3b ?_
     refine VA.takeX (i := 10) rfl (by kernel_rfl) (by kernel_rfl) (by kernel_rfl) rfl rfl rfl rfl aK3b ?_
     refine VA.takeX (i := 11) rfl (by kernel_rfl) (by kernel_rfl) (by kernel_rfl) rfl rfl rfl rfl aK3b ?_
     refine VA.take (i := 12) rfl (by kernel_rfl) (by kernel_rfl) (by kernel_rfl) rfl rfl (OpV.pickF rfl rfl rfl rfl aK3b) ?_
     refine VA.take (i := 13) rfl (by kernel_rfl) (by kernel_rfl) (by kernel_rfl) rfl rfl (OpV.move (.inr rfl) rfl) ?_
     refine VA.done (by kernel_rfl) ?_
     refine VC.condF rfl rfl ?_
     refine VC.sr ?_
     refine VO.val rfl rfl (OpV.fieldAddrO 1 rfl Tryz.underlying114 rfl rfl Tryz.sizeOf3 rfl) ?_
     refine VO.val rfl rfl (OpV.load_own (i := 0) rfl hB Tryz.isAgg3 rfl rfl rfl (fun h => h)) ?_
     refine VO.mv rfl rfl rfl rfl ?_
     refine VO.mv rfl rfl rfl rfl ?_
     refine VO.op rfl (OpE.call rfl hB rfl Tryz.call181 rfl (SpecN.spec (kit_Outside)) ?_)
     rintro _ rfl
     refine VO.ma rfl rfl rfl rfl ?_
     refine VO.nil ?_
     refine VC.cond rfl (fun hob => ?_) (fun hob => ?_)
     ·have ho := hob
      try simp only [qqT, qqF, qqN, qqM, qqL, qqE] at ho
      refine VC.sr ?_
      refine VO.ma rfl rfl rfl rfl ?_
      refine VO.nil ?_
      refine VC.ret ?_
      exact Exists.intro _ (And.intro (RetN.one Tryz.results370 (ResN.v rfl)) (by first | rw [needsF_at (by omega) (by omega) hn (needE_1 hk (.inr hs) ho) (by decide)] | rw [needsF_at (by omega) (by omega) hn (needE_1 hk (.inl (by omega)) ho) (by decide)]))
     ·have ho := hob
      try simp only [qqT, qqF, qqN, qqM, qqL, qqE] at ho
      refine VC.skip ?_
      refine VC.region ?_
      refine VO.val rfl rfl (OpV.add rfl rfl rfl (by unfold fits; omega)) ?_
      refine VO.mv rfl rfl rfl rfl ?_
      refine VO.nil ?_
      exact Exists.intro (⟨q + 1, by omega, lt_succ_cases hn (needE_0 hk (.inl (by omega)) ho)⟩) (And.intro (Le.mk hB [] ⟨rfl, rfl, rfl, rfl, rfl, rfl, trivial⟩ rfl rfl (Nat.le_refl _)) (by first | omega | (show _ < _; omega) | (simp only []; omega)))
  ·have aH2 := aH2b
   try simp only [qqT, qqF, qqN, qqM, qqL, qqE] at aH2
   refine VC.exit ?_
   refine VC.sr ?_
   refine VO.ma rfl rfl rfl rfl ?_
   refine VO.nil ?_
   refine VC.ret ?_
   exact Exists.intro _ (And.intro (RetN.one Tryz.results370 (ResN.v rfl)) (by rw [needsF_ok (by omega) (fun j hj => hn j (by omega))]))
set_option maxRecDepth 100000 in
theorem line_CheckNeeds {l : List NeedS} (hl : l.length ≤ 1000000000) (hb : ∀ i, (l.getD i default).key.size ≤ 1000000000) :
  SpecN Tryz.prog 358 [avL l] (fun y => y = avI (needsF l 1 1000)) := by
 refine SpecN.of_VCN Tryz.func358 rfl Tryz.ntmps358 (Nle rfl) fun w A hB => ?_
 have hnew : True := trivial
 refine VC.sr ?_
 refine VO.ma rfl rfl rfl rfl ?_
 refine VO.nil ?_
 refine VC.sr ?_
 refine VO.mv rfl rfl rfl rfl ?_
 refine VO.op rfl (OpE.call rfl hB rfl Tryz.call370 rfl (SpecN.spec (line_NeedsFault hl hb)) ?_)
 rintro _ rfl
 refine VO.ma rfl rfl rfl rfl ?_
 refine VO.nil ?_
 refine VC.ret ?_
 exact Exists.intro _ (And.intro (RetN.one Tryz.results358 (ResN.v rfl)) (rfl))






set_option maxRecDepth 100000 in
theorem rf_needsFault {l : List NeedS} {lo hi : Int} (hl : l.length ≤ 1000000000) (hb : ∀ i, (l.getD i default).key.size ≤ 1000000000) :
  SpecN Tryz.prog 363 [avL l, avI lo, avI hi] (fun y => y = avI (needsF l lo hi)) := by
 refine SpecN.of_VCN Tryz.func363 rfl Tryz.ntmps363 (Nle rfl) fun w A hB => ?_
 have hnew : True := trivial
 refine VC.sr ?_
 refine VO.ma rfl rfl rfl rfl ?_
 refine VO.nil ?_
 refine VC.seq ?_
 refine VC.sr ?_
 refine VO.mv rfl rfl rfl rfl ?_
 refine VO.val rfl rfl (OpV.len_im rfl Tryz.underlying110 rfl) ?_
 refine VO.val rfl rfl (OpV.gtr rfl rfl rfl) ?_
 refine VO.nil ?_
 refine VC.cond rfl (fun aH1b => ?_) (fun aH1b => ?_)
 ·have aH1 := aH1b
  try simp only [qqT, qqF, qqN, qqM, qqL, qqE] at aH1
  refine VC.sr ?_
  refine VO.ma rfl rfl rfl rfl ?_
  refine VO.nil ?_
  refine VC.ret ?_
  exact Exists.intro _ (And.intro (RetN.one Tryz.results363 (ResN.v rfl)) (by rw [needsF_big (by omega)]))
 ·have aH1 := aH1b
  try simp only [qqT, qqF, qqN, qqM, qqL, qqE] at aH1
  refine VC.skip ?_
  refine VC.sr ?_
  refine VO.ma rfl rfl rfl rfl ?_
  refine VO.nil ?_
  refine VC.seq ?_
  refine VC.sr ?_
  refine VO.mv rfl rfl rfl rfl ?_
  refine VO.val rfl rfl (OpV.len_im rfl Tryz.underlying110 rfl) ?_
  refine VO.mv rfl rfl rfl rfl ?_
  refine VO.nil ?_
  refine VC.block ?_
  refine VC.loopK [] trivial ({q : Nat // q ≤ l.length ∧ ∀ j, j < q → needE l lo hi j = 0}) (fun (iZ : {q : Nat // q ≤ l.length ∧ ∀ j, j < q → needE l lo hi j = 0}) => match iZ with | ⟨q, hq, hn⟩ => [(0, avL l), (1, avI lo), (2, avI hi), (13, avL l), (14, avI l.length), (15, avI (q : Int)), (7, avS (lastN l q))]) (fun (iZ : {q : Nat // q ≤ l.length ∧ ∀ j, j < q → needE l lo hi j = 0}) => match iZ with | ⟨q, hq, hn⟩ => []) (fun (iZ : {q : Nat // q ≤ l.length ∧ ∀ j, j < q → needE l lo hi j = 0}) => match iZ with | ⟨q, hq, hn⟩ => 0) (fun (iZ : {q : Nat // q ≤ l.length ∧ ∀ j, j < q → needE l lo hi j = 0}) => match iZ with | ⟨q, hq, hn⟩ => l.length - q) ⟨0, Nat.zero_le _, fun j hj => absurd hj (Nat.not_lt_zero j)⟩ (Le.mk hB [] ⟨rfl, rfl, rfl, rfl, rfl, rfl, rfl, trivial⟩ rfl rfl (Nat.le_refl _)) ?_
  rintro ⟨q, hq, hn⟩
  show VC _ _ _ _ ⟨[(0, avL l), (1, avI lo), (2, avI hi), (13, avL l), (14, avI l.length), (15, avI (q : Int)), (7, avS (lastN l q))] ++ [], [], 0⟩
  refine VC.sr ?_
  refine VO.val rfl rfl (OpV.lss rfl rfl rfl) ?_
  refine VO.nil ?_
  refine VC.seq ?_
  refine VC.cond rfl (fun aH2b => ?_) (fun aH2b => ?_)
  ·have aH2 := aH2b
   try simp only [qqT, qqF, qqN, qqM, qqL, qqE] at aH2
   refine VC.skip ?_
   refine VC.seq ?_
   refine VC.block ?_
   refine VC.sr ?_
   refine VO.val rfl rfl (OpV.indexAddr_E rfl Tryz.underlying110 Tryz.sizeOf114 rfl rfl rfl (by omega)) ?_
   refine VO.val rfl rfl (OpV.loadK_at rfl hB OutW.no Tryz.isAgg114 Tryz.sizeOf114 rfl rfl) ?_
   refine VO.op rfl (OpE.alloc rfl hB rfl Tryz.zeroValue114 rfl ?_)
   intro g9
   refine VO.op rfl (OpE.store (i := 0) rfl hB rfl Tryz.sizeOf114 rfl rfl rfl rfl rfl rfl (Nle rfl) trivial ?_)
   refine VO.nil ?_
   refine VC.seq ?_
   refine VC.block ?_
   refine VC.sr ?_
   refine VO.val rfl rfl (OpV.fieldAddrO 0 rfl Tryz.underlying114 rfl rfl Tryz.sizeOf9 rfl) ?_
   refine VO.val rfl rfl (OpV.load_own (i := 0) rfl hB Tryz.isAgg9 rfl rfl rfl (fun h => h)) ?_
   refine VO.op rfl (OpE.call rfl hB rfl Tryz.call98 rfl (SpecN.spec (rf_Key (hb _))) ?_)
   rintro _ rfl
   refine VO.val rfl rfl (OpV.not rfl rfl) ?_
   refine VO.ma rfl rfl rfl rfl ?_
   refine VO.nil ?_
   refine VC.cond rfl (fun hkb => ?_) (fun hkb => ?_)
   ·have hk := hkb
    try simp only [qqT, qqF, qqN, qqM, qqL, qqE] at hk
    refine VC.sr ?_
    refine VO.ma rfl rfl rfl rfl ?_
    refine VO.nil ?_
    refine VC.ret ?_
    exact Exists.intro _ (And.intro (RetN.one Tryz.results363 (ResN.v rfl)) (by rw [needsF_at (by omega) (by omega) hn (needE_5 hk) (by decide)]))
   ·have hk := hkb
    try simp only [qqT, qqF, qqN, qqM, qqL, qqE] at hk
    refine VC.sr ?_
    refine VO.val rfl rfl (OpV.fieldAddrO 0 rfl Tryz.underlying114 rfl rfl Tryz.sizeOf9 rfl) ?_
    refine VO.val rfl rfl (OpV.load_own (i := 0) rfl hB Tryz.isAgg9 rfl rfl rfl (fun h => h)) ?_
    refine VO.mv rfl rfl rfl rfl ?_
    refine VO.val rfl rfl (OpV.sleq rfl rfl rfl) ?_
    refine VO.ma rfl rfl rfl rfl ?_
    refine VO.nil ?_
    refine VC.cond rfl (fun hsb => ?_) (fun hsb => ?_)
    ·have hs := hsb
     try simp only [qqT, qqF, qqN, qqM, qqL, qqE] at hs
     refine VC.sr ?_
     refine VO.ma rfl rfl rfl rfl ?_
     refine VO.nil ?_
     refine VC.ret ?_
     exact Exists.intro _ (And.intro (RetN.one Tryz.results363 (ResN.v rfl)) (by rw [needsF_at (by omega) (by omega) hn (needE_7' hk hs) (by decide)]))
    ·have hs := hsb
     try simp only [qqT, qqF, qqN, qqM, qqL, qqE] at hs
     refine VC.sr ?_
     refine VO.val rfl rfl (OpV.fieldAddrO 1 rfl Tryz.underlying114 rfl rfl Tryz.sizeOf3 rfl) ?_
     refine VO.val rfl rfl (OpV.load_own (i := 0) rfl hB Tryz.isAgg3 rfl rfl rfl (fun h => h)) ?_
     refine VO.mv rfl rfl rfl rfl ?_
     refine VO.mv rfl rfl rfl rfl ?_
     refine VO.op rfl (OpE.call rfl hB rfl Tryz.call97 rfl (SpecN.spec (rf_in)) ?_)
     rintro _ rfl
     refine VO.val rfl rfl (OpV.not rfl rfl) ?_
     refine VO.ma rfl rfl rfl rfl ?_
     refine VO.nil ?_
     refine VC.cond rfl (fun hob => ?_) (fun hob => ?_)
     ·have ho := hob
      try simp only [qqT, qqF, qqN, qqM, qqL, qqE] at ho
      refine VC.sr ?_
      refine VO.ma rfl rfl rfl rfl ?_
      refine VO.nil ?_
      refine VC.ret ?_
      exact Exists.intro _ (And.intro (RetN.one Tryz.results363 (ResN.v rfl)) (by rw [needsF_at (by omega) (by omega) hn (needE_1 hk (lastN_ne hk hsb) ((outR_in _ _ _).trans hob)) (by decide)]))
     ·have ho := hob
      try simp only [qqT, qqF, qqN, qqM, qqL, qqE] at ho
      refine VC.skip ?_
      refine VC.region ?_
      refine VO.val rfl rfl (OpV.fieldAddrO 0 rfl Tryz.underlying114 rfl rfl Tryz.sizeOf9 rfl) ?_
      refine VO.val rfl rfl (OpV.load_own (i := 0) rfl hB Tryz.isAgg9 rfl rfl rfl (fun h => h)) ?_
      refine VO.ma rfl rfl rfl rfl ?_
      refine VO.nil ?_
      refine VC.region ?_
      refine VO.val rfl rfl (OpV.add rfl rfl rfl (by unfold fits; omega)) ?_
      refine VO.mv rfl rfl rfl rfl ?_
      refine VO.nil ?_
      exact Exists.intro (⟨q + 1, by omega, lt_succ_cases hn (needE_0 hk (lastN_ne hk hs) ((outR_in _ _ _).trans hob))⟩) (And.intro (Le.mk hB [] ⟨rfl, rfl, rfl, rfl, rfl, rfl, (by rw [lastN_succ]; rfl), trivial⟩ rfl rfl (Nat.le_refl _)) (by first | omega | (show _ < _; omega) | (simp only []; omega)))
  ·have aH2 := aH2b
   try simp only [qqT, qqF, qqN, qqM, qqL, qqE] at aH2
   refine VC.exit ?_
   refine VC.sr ?_
   refine VO.ma rfl rfl rfl rfl ?_
   refine VO.nil ?_
   refine VC.ret ?_
   exact Exists.intro _ (And.intro (RetN.one Tryz.results363 (ResN.v rfl)) (by rw [needsF_ok (by omega) (fun j hj => hn j (by omega))]))
set_option maxRecDepth 100000 in
theorem rf_NeedsFault {l : List NeedS} (hl : l.length ≤ 1000000000) (hb : ∀ i, (l.getD i default).key.size ≤ 1000000000) :
  SpecN Tryz.prog 337 [avL l] (fun y => y = avI (needsF l 1 1000)) := by
 refine SpecN.of_VCN Tryz.func337 rfl Tryz.ntmps337 (Nle rfl) fun w A hB => ?_
 have hnew : True := trivial
 refine VC.sr ?_
 refine VO.ma rfl rfl rfl rfl ?_
 refine VO.nil ?_
 refine VC.sr ?_
 refine VO.mv rfl rfl rfl rfl ?_
 refine VO.op rfl (OpE.call rfl hB rfl Tryz.call363 rfl (SpecN.spec (rf_needsFault hl hb)) ?_)
 rintro _ rfl
 refine VO.ma rfl rfl rfl rfl ?_
 refine VO.nil ?_
 refine VC.ret ?_
 exact Exists.intro _ (And.intro (RetN.one Tryz.results337 (ResN.v rfl)) (rfl))

end Go.Proofs.YtdnlhdilpdeecaaGreatDoor
namespace Go.Proofs.YtdnlhdilpdeecaaGreatDoor
open Go.RowKit
set_option linter.unusedVariables false
set_option linter.unusedSimpArgs false
def errsF (xs : List Int) : Int := match xs.find? (fun x => decide (x ≠ 0)) with | some x => x | none => 0
theorem Le.lits {B : Bs} {s : St'} {t n : Nat} {xs : List Int} (hn : n = xs.length) (ht : look s.sl t = some (.im n 1 fun j => (intsL xs).getD j .any)) : Le B s ⟨(t, avInts xs) :: s.sl, s.hp, s.k⟩ := Le.recast ht fun w Z u h => Rep.ints hn h
end Go.Proofs.YtdnlhdilpdeecaaGreatDoor
namespace Go.Proofs.YtdnlhdilpdeecaaGreatDoor
open Go.RowKit
set_option linter.unusedVariables false
set_option linter.unusedSimpArgs false

structure LookS where
 board : ByteArray
 name : ByteArray
 at_ : Int
 verdict : Int
 bad : Bool
 machine : ByteArray
 nozzle : ByteArray
 reel : ByteArray
instance : Inhabited LookS := ⟨⟨ByteArray.empty, ByteArray.empty, 0, 0, false, ByteArray.empty, ByteArray.empty, ByteArray.empty⟩⟩
instance : Sxc LookS where
 k := 8
 pos := by decide
 cell m j := match j with
  | 0 => avS m.board
  | 1 => avS m.name
  | 2 => avI m.at_
  | 3 => avI m.verdict
  | 4 => avB m.bad
  | 5 => avS m.machine
  | 6 => avS m.nozzle
  | 7 => avS m.reel
  | _ => .any
structure SmLk (l : List LookS) : Prop where
 len : l.length ≤ 1000000
 board : ∀ i, (l.getD i default).board.size ≤ 1000000
 name : ∀ i, (l.getD i default).name.size ≤ 1000000
 machine : ∀ i, (l.getD i default).machine.size ≤ 1000000
 nozzle : ∀ i, (l.getD i default).nozzle.size ≤ 1000000
 reel : ∀ i, (l.getD i default).reel.size ≤ 1000000
def cmpI (a b : Int) : Int := if a < b then -1 else if b < a then 1 else 0
def cmpLk (a b : LookS) : Int := errsF [cmpI a.at_ b.at_, cmpB a.board b.board, cmpB a.name b.name]
def lkStrs (x : LookS) : List ByteArray := [x.board, x.name, x.machine, x.nozzle, x.reel]
def lookE (l : List LookS) (i : Nat) : Int :=
 if (lkStrs (l.getD i default)).all keyF = false then 5
 else if outR (l.getD i default).at_ 0 345686399999 = true then 1
 else if outR (l.getD i default).verdict 1 5 = true then 4
 else if (decide (0 < i) && decide (0 ≤ cmpLk (l.getD (i - 1) default) (l.getD i default))) = true then 7
 else 0
def sameT (o x : LookS) : Bool := sEq o.board x.board && sEq o.name x.name
def twE (l : List LookS) (i : Nat) : Int := if (l.take i).any (fun o => sameT o (l.getD i default)) = true then 6 else 0
def lookF (l : List LookS) : Int :=
 if 5000 < l.length then 2
 else if firstE (lookE l) l.length ≠ 0 then firstE (lookE l) l.length
 else firstE (twE l) l.length
section
variable {l : List LookS} {i : Nat}
end
structure LookOk (l : List LookS) : Prop where
 len : l.length ≤ 5000
 all : ∀ j, j < l.length → lookE l j = 0
 once : ∀ j, j < l.length → twE l j = 0
theorem lookOk {l : List LookS} (h : lookF l = 0) : LookOk l := by
 unfold lookF at h
 split at h
 ·cases h
 ·split at h
  ·contradiction
  ·rename_i h1 h2
   exact ⟨by omega, firstE_zero (by simpa using h2), firstE_zero h⟩
end Go.Proofs.YtdnlhdilpdeecaaGreatDoor
namespace Go.Proofs.YtdnlhdilpdeecaaGreatDoor
open Go.RowKit
set_option linter.unusedVariables false
set_option linter.unusedSimpArgs false

def AV.isV : AV → Bool
 | .v _ => true
 | _ => false
theorem flat_ofB {cs : List AV} (h : cs.all AV.isV = true) : FlatA cs := fun x hx => by
 have := List.all_eq_true.1 h x hx
 cases x <;> simp [AV.isV] at this
 exact ⟨_, rfl⟩
section
variable {P : Program} {s : St'}
theorem ResN.cellF {b t g j i k : Nat} {o' : Own'} {r : List AV} (hag : ∀ w, (isAgg t).run P w = .ok true w) (hsz : ∀ w, (sizeOf t).run P w = .ok k w) (hx : look s.sl b = some (.v (.pointer (some ⟨g, j, none⟩)))) (hi : s.hp[i]? = some (.box g o')) (hc : cutL o'.cs j k = some r) (hf : FlatA r) :
  ResN P s (.cell b t) (.agg r) := fun B a w hS hr => by
 obtain ⟨v, h1, h2⟩ := ResV.cellK hag hsz hx hi hc B a w hr
 refine ⟨v, h1, ?_⟩
 cases h2 with
 | agg cs us hl hr' => exact .agg _ _ hl fun j h => (hr' j h).flat (hf _ (List.getElem_mem h))
theorem ResN.rowT {α : Type} [Inhabited α] [Sxc α] {t i n : Nat} {u : Value} {xs : List α} {ty : TypeId} (h : look s.sl t = some (.v u)) (hi : s.hp[i]? = some (.row u n (Sxc.k α) (rowL xs) ty)) (hn : n = xs.length) (hf : FlatA (rowL xs)) : ResN P s (.tmp t) (avL xs) :=
 ResN.row h hi hf fun w Z u h => Rep.rowL hn h
theorem ResN.nilE {t sz : Nat} {F : Nat → AV} (h : look s.sl t = some (.v (.slice none 0 0))) : ResN P s (.tmp t) (.im 0 sz F) := fun B a w hS hr => ⟨_, rfl, by
 show Rep w (NewZ B w) _ (a.tmps.getD t undef)
 rw [(hr.slots t _ h).eq_v]; exact .nil _ _⟩
theorem flat_rowL {α : Type} [Inhabited α] [Sxc α] (h : ∀ (x : α) j, j < Sxc.k α → ∃ v, Sxc.cell x j = .v v) (xs : List α) : FlatA (rowL xs) := fun y hy => by
 simp only [rowL, List.mem_flatMap] at hy
 obtain ⟨x, _, hy⟩ := hy
 obtain ⟨j, hj, rfl⟩ := List.getElem_of_mem hy
 rw [tab_len] at hj
 obtain ⟨v, hv⟩ := h x j hj
 refine ⟨v, ?_⟩
 rw [← hv]
 have := tab_get (Sxc.k α) (Sxc.cell x) j
 have h2 : (tab (Sxc.k α) (Sxc.cell x))[j]? = some (Sxc.cell x j) := by rw [List.getElem?_eq_getElem (by rw [tab_len]; exact hj), tab_get]
 have h3 : j < (tab (Sxc.k α) (Sxc.cell x)).length := by rw [tab_len]; exact hj
 rw [List.getElem?_eq_getElem h3] at h2
 exact Option.some.inj h2
end
section
variable {P : Program} {B : Bs} {W : Nat → Prop} {s : St'} {o : Oper} {K : St' → Prop} {a : Act} {w : World}
theorem Le.freezeAt {t i m g : Nat} {o' : Own'} {f : Nat → AV} (ht : look s.sl t = some (.v (.pointer (some ⟨g, 0, none⟩)))) (hi : s.hp[i]? = some (.box g o')) (hl : 0 + m ≤ o'.cs.length) (hf : ∀ w Z u, Rep w Z (.at_ m fun j => o'.cs.getD (0 + j) .any) u → Rep w Z (.at_ m f) u) (hnew : True) (hB : B.Ok) :
  Le B s ⟨(t, .at_ m f) :: s.sl, s.hp.eraseIdx i, s.k⟩ := fun a w hr => by
 have hr' := hr.erase i
 refine hr'.over t ?_
 have hu : a.tmps.getD t undef = _ := (hr.slots t _ ht).eq_v
 rw [hu]
 refine hf _ _ _ (hr.repPtr hi hl (fun b hb => ⟨hb.1, fun p hp => hb.2.1 p ((List.eraseIdx_sublist s.hp i).subset hp), hb.2.2⟩) fun hl => ?_)
 exact hr.erased hB hi rfl
theorem apart_ne {hp : List Ent} (h : Apart hp) {i j g g' : Nat} (hi : (hp[i]?).bind Ent.blk = some g) (hj : (hp[j]?).bind Ent.blk = some g') (hij : i ≠ j) : g ≠ g' := fun e => by
 obtain ⟨p, hp1, hp2⟩ := Option.bind_eq_some_iff.1 hi
 obtain ⟨q, hq1, hq2⟩ := Option.bind_eq_some_iff.1 hj
 exact h.get hp1 hq1 hij hp2 (by rw [hq2, e])
theorem OpE.hap (h : Apart s.hp → OpE P B W s o K) : OpE P B W s o K := fun a w hr => h hr.nodup a w hr
theorem VC.hap {c : Code} {Q : Exit → St' → Prop} (h : Apart s.hp → VC P B c Q s) : VC P B c Q s := fun a w hr => h hr.nodup a w hr
theorem Wi.notD {ops : Array Oper} {i g : Nat} {js : List Nat} {X : Nat → Prop} (h : (js.all fun j => depB ops j i) = true) : ¬ Wi (fun j b => j ∈ js ∧ X b) ops i g := fun ⟨j, h1, h2, _⟩ => by
 rw [List.all_eq_true.1 h j h2] at h1; cases h1
theorem Wi.notN {ops : Array Oper} {i m m2 g : Nat} {X : Nat → Prop} (h : depB ops m i = true) : ¬ Wi (fun j b => (j = m ∧ X b) ∨ (j = m2 ∧ b ≠ g)) ops i g := fun ⟨j, h1, h2⟩ => by
 rcases h2 with ⟨h2, _⟩ | ⟨_, h2⟩
 ·subst h2; rw [h] at h1; cases h1
 ·exact h2 rfl
theorem Wi.notN2 {ops : Array Oper} {i g m m2 : Nat} {X Y : Nat → Prop} (h : depB ops m i = true) (hY : ¬ Y g) : ¬ Wi (fun j b => (j = m ∧ X b) ∨ (j = m2 ∧ Y b)) ops i g := fun ⟨j, h1, h2⟩ => by
 rcases h2 with ⟨h2, _⟩ | ⟨_, h2⟩
 ·subst h2; rw [h] at h1; cases h1
 ·exact hY h2
def lstB (n : Nat) (l : List Nat) : Array Bool := l.foldl (fun a i => a.setIfInBounds i true) (Array.replicate n false)
theorem VA.bind {V : Nat → Nat → Prop} {ops : Array Oper} {Q : Exit → St' → Prop} {n : Nat} {L : Array Bool} (h : ∀ F : Nat → Array Bool → St' → Prop, F = (fun n L s => VA P B V ops Q n L s) → F n L s) : VA P B V ops Q n L s := h _ rfl
theorem VA.to {V : Nat → Nat → Prop} {ops : Array Oper} {Q : Exit → St' → Prop} {n : Nat} {L L' : Array Bool} {s' : St'} (h : VA P B V ops Q n L' s') (hL : L = L') (hle : Le B s s') : VA P B V ops Q n L s := by
 subst hL
 exact VA.le _ hle h
theorem Rep.fn0 {w : World} {Z : Nat → Prop} {F : FuncId} {u : Value} (h : Rep w Z (.v (.func (.func F) #[] #[])) u) : Rep w Z (.fn F []) u := by
 rw [h.eq_v]; exact .fn F [] #[] rfl fun j hj => by simp at hj
end
end Go.Proofs.YtdnlhdilpdeecaaGreatDoor
namespace Go.Proofs.YtdnlhdilpdeecaaGreatDoor
open Go.RowKit
set_option linter.unusedVariables false
set_option linter.unusedSimpArgs false

def below (x n : Int) : Int := if n < 1 then 0 else x % n
theorem below_lo (x n : Int) : 0 ≤ below x n := by unfold below; split; omega; exact Int.emod_nonneg _ (by omega)
theorem below_lt (x n : Int) (h : 1 ≤ n) : below x n < n := by unfold below; rw [if_neg (by omega)]; exact Int.emod_lt_of_pos _ (by omega)
theorem tmod_facts (x n : Int) (h : 1 ≤ n) : x.tmod n < n ∧ -n < x.tmod n ∧ (x.tmod n < 0 → x.tmod n + n = x % n) ∧ (0 ≤ x.tmod n → x.tmod n = x % n) := by
 have hn := Int.emod_nonneg x (show n ≠ 0 by omega)
 have hl := Int.emod_lt_of_pos x (show 0 < n by omega)
 by_cases h0 : 0 ≤ x
 ·rw [Int.tmod_eq_emod_of_nonneg h0]
  exact ⟨hl, by omega, fun _ => by omega, fun _ => rfl⟩
 ·have e : x.tmod n = -((-x) % n) := by
   rw [← Int.tmod_eq_emod_of_nonneg (by omega : 0 ≤ -x), Int.neg_tmod, Int.neg_neg]
  have hn' := Int.emod_nonneg (-x) (show n ≠ 0 by omega)
  have hl' := Int.emod_lt_of_pos (-x) (show 0 < n by omega)
  have e2 := Int.neg_emod (a := x) (b := n)
  rw [e]
  split at e2
  ·have : x % n = 0 := Int.emod_eq_zero_of_dvd ‹_›
   exact ⟨by omega, by omega, fun _ => by omega, fun _ => by omega⟩
  ·have e3 : (n.natAbs : Int) = n := by omega
   rw [e3] at e2
   exact ⟨by omega, by omega, fun _ => by omega, fun _ => by omega⟩

set_option maxHeartbeats 400000 in
theorem below_any (x n : Int) (w : World) (hn : n ≤ 9223372036854775807) :
  Calls Tryz.prog 178 #[.int .i64 x, .int .i64 n] w fun e w' => e = .returned (.int .i64 (below x n)) ∧ w = w' := by
 by_cases h1 : n < 1
 ·go_enter Tryz.func178, Tryz.ntmps178
  go_wp2
  go_ret
  exact ⟨by simp [below, h1], rfl⟩
 ·obtain ⟨b1, b2, b3, b4⟩ := tmod_facts x n (by omega)
  have B3 := hid b3; clear b3
  have B4 := hid b4; clear b4
  go_enter Tryz.func178, Tryz.ntmps178
  go_wp2
  ·go_ret
   exact ⟨ret_int (by rw [below, if_neg (by omega)]; exact B3.out (by omega)), rfl⟩
  ·go_ret
   exact ⟨ret_int (by rw [below, if_neg (by omega)]; exact B4.out (by omega)), rfl⟩

def nxt (L : List Int) (k : Nat) (n : Int) : Int :=
 if L.length = 0 then below (((k : Int) + 1) * 7919) n
 else below (below (L.getD (k % L.length) 0) 1073741824 + ((k / L.length : Nat) : Int) * (7919 + ((k % L.length : Nat) : Int))) n
theorem nxt_lo (L : List Int) (k : Nat) (n : Int) : 0 ≤ nxt L k n := by unfold nxt; split <;> exact below_lo _ _
theorem nxt_lt (L : List Int) (k : Nat) (n : Int) (h : 1 ≤ n) : nxt L k n < n := by unfold nxt; split <;> exact below_lt _ _ h

def Strm (w : World) (p : Nat) (L : List Int) (k : Nat) : Prop :=
 ∃ a cap, w.heap[p]? = some (.cells #[.slice a L.length cap, .int .i64 k] 25 (0, 0)) ∧ L.length ≤ 9223372036854775807 ∧
  ∀ i, i < L.length → ∃ b o, a = some ⟨b, o, none⟩ ∧ b < p ∧ w.cell? ⟨b, o + i, none⟩ = some (.int .i64 (L.getD i 0))

theorem Strm.keep {S : Nat → Prop} {w w' : World} {p : Nat} {L : List Int} {k : Nat} (h : Strm w p L k) (c : Chg S w w') (hs : ∀ j, j ≤ p → ¬ S j) : Strm w' p L k := by
 obtain ⟨a, cap, hp, hl, hc⟩ := h
 have hlt := (Array.getElem?_eq_some_iff.1 hp).1
 refine ⟨a, cap, (c.block p hlt (hs p (Nat.le_refl _))).trans hp, hl, fun i hi => ?_⟩
 obtain ⟨b, o, ha, hb, hcell⟩ := hc i hi
 exact ⟨b, o, ha, hb, c.cell hcell (hs _ (Nat.le_of_lt hb))⟩
theorem Strm.lt {w : World} {p : Nat} {L : List Int} {k : Nat} (h : Strm w p L k) : p < w.heap.size := by
 obtain ⟨a, cap, hp, hl, hc⟩ := h
 exact (Array.getElem?_eq_some_iff.1 hp).1

theorem Strm.step {w : World} {p : Nat} {L : List Int} {k : Nat} {a : Option Addr} {cap : Nat}
  (hp : w.heap[p]? = some (.cells #[.slice a L.length cap, .int .i64 k] 25 (0, 0))) (hl : L.length ≤ 9223372036854775807)
  (hc : ∀ i, i < L.length → ∃ b o, a = some ⟨b, o, none⟩ ∧ b < p ∧ w.cell? ⟨b, o + i, none⟩ = some (.int .i64 (L.getD i 0))) :
  Strm (w.setCell ⟨p, 1, none⟩ (.int .i64 ((k : Int) + 1))) p L (k + 1) := by
 refine ⟨a, cap, ?_, hl, fun i hi => ?_⟩
 ·simp [World.setCell, Array.getElem?_modify, hp]
 ·obtain ⟨b, o, ha, hb, hcell⟩ := hc i hi
  refine ⟨b, o, ha, hb, ?_⟩
  rw [← hcell]
  exact World.cell?_of_block (Below.heap_setCell _ _ _ _ (Nat.ne_of_lt hb))

set_option maxHeartbeats 400000 in
theorem next_any (p : Nat) (L : List Int) (k : Nat) (n : Int) (w : World) (h : Strm w p L k) (hk : k ≤ 1000000) (hn : n ≤ 1000000000) :
  Calls Tryz.prog 80 #[.pointer (some ⟨p, 0, none⟩), .int .i64 n] w fun e w' => e = .returned (.int .i64 (nxt L k n)) ∧ Strm w' p L (k + 1) ∧ Chg (AtB p) w w' := by
 obtain ⟨a, cap, hp, hl, hc⟩ := h
 have c0 : w.cell? ⟨p, 0, none⟩ = some (.slice a L.length cap) := by simp [World.cell?, hp]
 have c1 : w.cell? ⟨p, 1, none⟩ = some (.int .i64 k) := by simp [World.cell?, hp]
 have f1 : w.frozen? ⟨p, 1, none⟩ = false := by simp [World.frozen?, hp]
 have HP := hid hp; clear hp
 by_cases h0 : L.length = 0
 ·have h0' : ((L.length : Int) == 0) = true := by simp [h0]
  have H0 := hid h0; clear h0
  go_enter Tryz.func80, Tryz.ntmps80
  go_wp2_with (go_at_call 178; refine (below_any _ _ _ (by omega)).mono ?_; rintro e w' ⟨rfl, rfl⟩)
  go_ret
  exact ⟨ret_int (by rw [nxt, if_pos H0.out]), Strm.step HP.out hl hc, (Chg.refl (AtB p) w).setCell (a := ⟨p, 1, none⟩) (fun _ => rfl) _⟩
 ·have h0' : ((L.length : Int) == 0) = false := beq_eq_false_iff_ne.2 (by omega)
  obtain ⟨b, o, rfl, hbp', _⟩ := hc 0 (by omega)
  have hbp : b ≠ p := by omega
  have hci := (hc (k % L.length) (Nat.mod_lt _ (by omega)))
  obtain ⟨_, _, he, _, hci⟩ := hci
  cases he
  have HC := hid hc; clear hc
  have hm := Nat.mod_lt k (show 0 < L.length by omega)
  have hmk := Nat.mod_le k L.length
  have hdk := Nat.div_le_self k L.length
  have hb := below_lo (L[k % L.length]) 1073741824
  have hb2 := below_lt (L[k % L.length]) 1073741824 (by omega)
  have em : (k : Int) % (L.length : Int) = ((k % L.length : Nat) : Int) := by simp
  have ed : (k : Int) / (L.length : Int) = ((k / L.length : Nat) : Int) := by simp
  have m1 : 0 ≤ (k : Int) % (L.length : Int) := by rw [em]; omega
  have m2 : (k : Int) % (L.length : Int) < (L.length : Int) := by rw [em]; omega
  have m3 : (k : Int) % (L.length : Int) ≤ 1000000 := by rw [em]; omega
  have d1 : 0 ≤ (k : Int) / (L.length : Int) := Int.ediv_nonneg (by omega) (by omega)
  have d2 : (k : Int) / (L.length : Int) ≤ 1000000 := by rw [ed]; omega
  clear em ed
  have q1 : 0 ≤ (k : Int) / (L.length : Int) * (7919 + (k : Int) % (L.length : Int)) := Int.mul_nonneg d1 (by omega)
  have q2 : (k : Int) / (L.length : Int) * (7919 + (k : Int) % (L.length : Int)) ≤ 1000000 * 1007919 := Int.mul_le_mul d2 (by omega) (by omega) (by omega)
  go_enter Tryz.func80, Tryz.ntmps80
  go_wp2_with fail
  go_quiet (fail)
  go_wp2_with fail
  go_quiet (fail)
  go_wp2_with (go_at_call 178; refine (below_any _ _ _ (by omega)).mono ?_; rintro e w' ⟨rfl, rfl⟩)
  go_ret
  refine ⟨ret_int ?_, (Strm.step HP.out hl HC.out).keep ((Chg.refl NoB _).drewN _) (fun _ _ x => x), ((Chg.refl (AtB p) w).setCell (a := ⟨p, 1, none⟩) (fun _ => rfl) _).drewN _⟩
  rw [nxt, if_neg h0]
  simp [hm]

def rng (L : List Int) (k : Nat) (lo hi : Int) : Int := lo + nxt L k (hi - lo + 1)
theorem rng_lo (L : List Int) (k : Nat) (lo hi : Int) : lo ≤ rng L k lo hi := by unfold rng; have := nxt_lo L k (hi - lo + 1); omega
theorem rng_hi (L : List Int) (k : Nat) (lo hi : Int) (h : lo ≤ hi) : rng L k lo hi ≤ hi := by unfold rng; have := nxt_lt L k (hi - lo + 1) (by omega); omega

set_option maxHeartbeats 400000 in
theorem range_any (p : Nat) (L : List Int) (k : Nat) (lo hi : Int) (w : World) (h : Strm w p L k) (hk : k ≤ 1000000) (h0 : 0 ≤ lo) (hl : lo ≤ hi) (hn : hi ≤ 999999999) :
  Calls Tryz.prog 10 #[.pointer (some ⟨p, 0, none⟩), .int .i64 lo, .int .i64 hi] w fun e w' => e = .returned (.int .i64 (rng L k lo hi)) ∧ Strm w' p L (k + 1) ∧ Chg (AtB p) w w' := by
 have b1 := nxt_lo L k (hi - lo + 1)
 have b2 := nxt_lt L k (hi - lo + 1) (by omega)
 have hlt := h.lt
 go_enter Tryz.func10, Tryz.ntmps10
 go_wp2_with (go_at_call 80; refine (next_any _ _ _ _ _ h (by omega) (by omega)).mono ?_; rintro e w' ⟨rfl, hs, hc⟩)
 go_ret
 exact ⟨rfl, hs, hc⟩

set_option maxHeartbeats 400000 in
theorem flip_any (p : Nat) (L : List Int) (k : Nat) (n : Int) (w : World) (h : Strm w p L k) (hk : k ≤ 1000000) (hn : n ≤ 1000000000) :
  Calls Tryz.prog 15 #[.pointer (some ⟨p, 0, none⟩), .int .i64 n] w fun e w' => e = .returned (.bool (nxt L k n == 0)) ∧ Strm w' p L (k + 1) ∧ Chg (AtB p) w w' := by
 go_enter Tryz.func15, Tryz.ntmps15
 go_wp2_with (go_at_call 80; refine (next_any _ _ _ _ _ h (by omega) (by omega)).mono ?_; rintro e w' ⟨rfl, hs, hc⟩)
 go_ret
 exact ⟨rfl, hs, hc⟩

end Go.Proofs.YtdnlhdilpdeecaaGreatDoor
namespace Go.Proofs.YtdnlhdilpdeecaaGreatDoor
open Go.RowKit
set_option linter.unusedVariables false
set_option linter.unusedSimpArgs false

def TT (p : Nat) (L : List Int) (w : World) (k : Nat) : Prop := ∃ k', k' ≤ k ∧ Strm w p L k'
abbrev sp (p : Nat) : AV := .v (.pointer (some ⟨p, 0, none⟩))
theorem TT.ok {p : Nat} {L : List Int} {w : World} {A : Nat → Prop} {nt k : Nat} (h : TT p L w k) : (B1 w A nt (fun b => b = p) (fun b => b ≤ p) (TT p L)).Ok := by
 obtain ⟨k', hk, hs⟩ := h
 exact {
  keep := fun {S w w' k} ⟨k', hk, hs⟩ hc hS => ⟨k', hk, hs.keep hc hS⟩
  low := fun j hj => Nat.lt_of_le_of_lt hj hs.lt
  str := fun j hj => by cases hj; exact ⟨Nat.le_refl _, rfl⟩
  up := fun {w k k2} ⟨k', h1, h2⟩ h3 => ⟨k', Nat.le_trans h1 h3, h2⟩ }
theorem chgIs {p : Nat} {w w' : World} (h : Chg (AtB p) w w') : Chg (fun b => b = p) w w' := by
 have : (fun b => b = p) = AtB p := rfl
 rw [this]; exact h

theorem SpecT.of_Calls {P : Program} {F : FuncId} {xs : List AV} {us0 : Array Value} {p : Nat} {L : List Int} {G : AV → Prop}
  (hus : ∀ w A us, Args w A xs us → us = us0)
  (h : ∀ w k, k ≤ 1000000 → Strm w p L k → Calls P F us0 w fun e w' => ∃ v, e = .returned v ∧ G (.v v) ∧ Strm w' p L (k + 1) ∧ Chg (AtB p) w w') :
  SpecT P (TT p L) (fun b => b = p) F xs 1 G := by
 intro w A us k hA ⟨k', hk', hs⟩ hstr hk
 have hu := hus w A us hA
 subst hu
 refine (h w k' (by omega) hs).mono ?_
 rintro e w' ⟨v, rfl, hG, hs', hc⟩
 exact ⟨.v v, v, hG, rfl, .v v, chgIs hc, ⟨k' + 1, by omega, hs'⟩⟩
theorem args2 {p : Nat} {u : Value} {w : World} {A : Nat → Prop} {us : Array Value} (h : Args w A [sp p, .v u] us) : us = #[.pointer (some ⟨p, 0, none⟩), u] := by
 obtain ⟨h1, h2⟩ := h
 have e0 := (h2 0 (by simp)).eq_v
 have e1 := (h2 1 (by simp)).eq_v
 apply Array.ext (by simpa using h1)
 intro i hi hi'
 simp at hi'
 rw [h1] at hi
 match i, hi' with
 | 0, _ => simpa [Array.getD_eq_getD_getElem?, h1] using e0
 | 1, _ => simpa [Array.getD_eq_getD_getElem?, h1] using e1
theorem args3 {p : Nat} {u v : Value} {w : World} {A : Nat → Prop} {us : Array Value} (h : Args w A [sp p, .v u, .v v] us) : us = #[.pointer (some ⟨p, 0, none⟩), u, v] := by
 obtain ⟨h1, h2⟩ := h
 have e0 := (h2 0 (by simp)).eq_v
 have e1 := (h2 1 (by simp)).eq_v
 have e2 := (h2 2 (by simp)).eq_v
 apply Array.ext (by simpa using h1)
 intro i hi hi'
 simp at hi'
 rw [h1] at hi
 match i, hi' with
 | 0, _ => simpa [Array.getD_eq_getD_getElem?, h1] using e0
 | 1, _ => simpa [Array.getD_eq_getD_getElem?, h1] using e1
 | 2, _ => simpa [Array.getD_eq_getD_getElem?, h1] using e2

section
variable {p : Nat} {L : List Int}
theorem next_T {n : Int} (hn : n ≤ 1000000000) : SpecT Tryz.prog (TT p L) (fun b => b = p) 80 [sp p, avI n] 1 (fun y => ∃ r : Int, (0 ≤ r ∧ (1 ≤ n → r < n)) ∧ y = avI r) :=
 SpecT.of_Calls (fun w A us h => args2 h) fun w k hk hs => (next_any p L k n w hs hk hn).mono fun e w' ⟨h1, h2, h3⟩ => ⟨_, h1, ⟨_, ⟨nxt_lo L k n, nxt_lt L k n⟩, rfl⟩, h2, h3⟩
theorem range_T {lo hi : Int} (h0 : 0 ≤ lo) (hl : lo ≤ hi) (hn : hi ≤ 999999999) : SpecT Tryz.prog (TT p L) (fun b => b = p) 10 [sp p, avI lo, avI hi] 1 (fun y => ∃ r : Int, (lo ≤ r ∧ r ≤ hi) ∧ y = avI r) :=
 SpecT.of_Calls (fun w A us h => args3 h) fun w k hk hs => (range_any p L k lo hi w hs hk h0 hl hn).mono fun e w' ⟨h1, h2, h3⟩ => ⟨_, h1, ⟨_, ⟨rng_lo L k lo hi, rng_hi L k lo hi hl⟩, rfl⟩, h2, h3⟩
theorem flip_T {n : Int} (hn : n ≤ 1000000000) : SpecT Tryz.prog (TT p L) (fun b => b = p) 15 [sp p, avI n] 1 (fun y => ∃ r : Bool, y = avB r) :=
 SpecT.of_Calls (fun w A us h => args2 h) fun w k hk hs => (flip_any p L k n w hs hk hn).mono fun e w' ⟨h1, h2, h3⟩ => ⟨_, h1, ⟨_, rfl⟩, h2, h3⟩
end

def AllI (lo hi : Int) : List AV → Prop
 | [] => True
 | x :: r => (∃ i : Int, (lo ≤ i ∧ i ≤ hi) ∧ x = avI i) ∧ AllI lo hi r
theorem AllI.nil {lo hi : Int} : AllI lo hi [] := trivial
theorem AllI.cons {lo hi i : Int} {r : List AV} (h : lo ≤ i ∧ i ≤ hi) (hr : AllI lo hi r) : AllI lo hi (avI i :: r) := ⟨⟨i, h, rfl⟩, hr⟩
theorem AllI.get {lo hi : Int} : ∀ {l : List AV} {q : Nat}, AllI lo hi l → q < l.length → ∃ i : Int, (lo ≤ i ∧ i ≤ hi) ∧ l.getD q .any = avI i
 | [], q, _, h => by simp at h
 | x :: r, 0, h, _ => by simpa using h.1
 | x :: r, q + 1, h, hq => by simpa using AllI.get h.2 (by simpa using hq)
def AllX : List AV → Prop
 | [] => True
 | x :: r => (∃ i : Int, x = avI i) ∧ AllX r
theorem AllX.nil : AllX [] := trivial
theorem AllX.cons {i : Int} {r : List AV} (hr : AllX r) : AllX (avI i :: r) := ⟨⟨i, rfl⟩, hr⟩
theorem AllX.get : ∀ {l : List AV} {q : Nat}, AllX l → q < l.length → ∃ i : Int, l.getD q .any = avI i
 | [], q, _, h => by simp at h
 | x :: r, 0, h, _ => by simpa using h.1
 | x :: r, q + 1, h, hq => by simpa using AllX.get h.2 (by simpa using hq)
def AllS (m : Nat) : List AV → Prop
 | [] => True
 | x :: r => (∃ i : ByteArray, i.size ≤ m ∧ x = avS i) ∧ AllS m r
theorem AllS.nil {m : Nat} : AllS m [] := trivial
theorem AllS.cons {m : Nat} {i : ByteArray} {r : List AV} (h : i.size ≤ m) (hr : AllS m r) : AllS m (avS i :: r) := ⟨⟨i, h, rfl⟩, hr⟩
theorem AllS.get {m : Nat} : ∀ {l : List AV} {q : Nat}, AllS m l → q < l.length → ∃ i : ByteArray, i.size ≤ m ∧ l.getD q .any = avS i
 | [], q, _, h => by simp at h
 | x :: r, 0, h, _ => by simpa using h.1
 | x :: r, q + 1, h, hq => by simpa using AllS.get h.2 (by simpa using hq)



set_option maxRecDepth 100000 in
theorem pick_T {p : Nat} {L : List Int} {n : Nat} {l : List AV} (lo hi : Int) (hn : l.length = n) (h0 : 0 < n) (h1 : n ≤ 1000) (hall : AllI lo hi l) :
  SpecT Tryz.prog (TT p L) (fun b => b = p) 14 [sp p, .im n 1 fun j => l.getD j .any] 1 (fun y => ∃ r : Int, (lo ≤ r ∧ r ≤ hi) ∧ y = avI r) := by
 refine SpecT.of_VC Tryz.func14 rfl Tryz.ntmps14 (Nle rfl) (low := (fun b => b ≤ p)) (fun w A k h => h.ok) fun w A k hk hB => ?_
 have hnew : True := trivial
 refine VC.sr ?_
 refine VO.ma rfl rfl rfl rfl ?_
 refine VO.nil ?_
 refine VC.sr ?_
 refine VO.mv rfl rfl rfl rfl ?_
 refine VO.mv rfl rfl rfl rfl ?_
 refine VO.mv rfl rfl rfl rfl ?_
 refine VO.val rfl rfl (OpV.len_im rfl Tryz.underlying22 rfl) ?_
 refine VO.op rfl (OpE.callT' (k) rfl rfl hB rfl Tryz.call80 rfl ((next_T (by omega))) (by omega) ?_)
 rintro _ ⟨r9, hr9, rfl⟩
 refine VO.val rfl rfl (OpV.indexAddr_1 rfl Tryz.underlying22 Tryz.sizeOf3 rfl rfl (Int.toNat_of_nonneg (by omega)).symm (by omega)) ?_
 refine VO.val rfl rfl (OpV.load_at rfl hB OutW.no Tryz.isAgg3 rfl rfl) ?_
 refine VO.ma rfl rfl rfl rfl ?_
 refine VO.nil ?_
 refine VC.ret ?_
 exact Exists.intro _ (And.intro (RetV.one Tryz.results14 (ResV.tmp rfl)) (And.intro (hall.get (by omega)) ((show k + 1 ≤ k + 1 by omega))))
set_option maxRecDepth 100000 in
theorem pick_X {p : Nat} {L : List Int} {n : Nat} {l : List AV} (hn : l.length = n) (h0 : 0 < n) (h1 : n ≤ 1000) (hall : AllX l) :
  SpecT Tryz.prog (TT p L) (fun b => b = p) 14 [sp p, .im n 1 fun j => l.getD j .any] 1 (fun y => ∃ r : Int, y = avI r) := by
 refine SpecT.of_VC Tryz.func14 rfl Tryz.ntmps14 (Nle rfl) (low := (fun b => b ≤ p)) (fun w A k h => h.ok) fun w A k hk hB => ?_
 have hnew : True := trivial
 refine VC.sr ?_
 refine VO.ma rfl rfl rfl rfl ?_
 refine VO.nil ?_
 refine VC.sr ?_
 refine VO.mv rfl rfl rfl rfl ?_
 refine VO.mv rfl rfl rfl rfl ?_
 refine VO.mv rfl rfl rfl rfl ?_
 refine VO.val rfl rfl (OpV.len_im rfl Tryz.underlying22 rfl) ?_
 refine VO.op rfl (OpE.callT' (k) rfl rfl hB rfl Tryz.call80 rfl ((next_T (by omega))) (by omega) ?_)
 rintro _ ⟨r9, hr9, rfl⟩
 refine VO.val rfl rfl (OpV.indexAddr_1 rfl Tryz.underlying22 Tryz.sizeOf3 rfl rfl (Int.toNat_of_nonneg (by omega)).symm (by omega)) ?_
 refine VO.val rfl rfl (OpV.load_at rfl hB OutW.no Tryz.isAgg3 rfl rfl) ?_
 refine VO.ma rfl rfl rfl rfl ?_
 refine VO.nil ?_
 refine VC.ret ?_
 exact Exists.intro _ (And.intro (RetV.one Tryz.results14 (ResV.tmp rfl)) (And.intro (hall.get (by omega)) ((show k + 1 ≤ k + 1 by omega))))
set_option maxRecDepth 100000 in
theorem some_T {p : Nat} {L : List Int} {n : Nat} {l : List AV} (m : Nat) (hn : l.length = n) (h0 : 0 < n) (h1 : n ≤ 1000) (hall : AllS m l) :
  SpecT Tryz.prog (TT p L) (fun b => b = p) 82 [sp p, .im n 1 fun j => l.getD j .any] 1 (fun y => ∃ r : ByteArray, r.size ≤ m ∧ y = avS r) := by
 refine SpecT.of_VC Tryz.func82 rfl Tryz.ntmps82 (Nle rfl) (low := (fun b => b ≤ p)) (fun w A k h => h.ok) fun w A k hk hB => ?_
 have hnew : True := trivial
 refine VC.sr ?_
 refine VO.ma rfl rfl rfl rfl ?_
 refine VO.nil ?_
 refine VC.sr ?_
 refine VO.mv rfl rfl rfl rfl ?_
 refine VO.mv rfl rfl rfl rfl ?_
 refine VO.mv rfl rfl rfl rfl ?_
 refine VO.val rfl rfl (OpV.len_im rfl Tryz.underlying29 rfl) ?_
 refine VO.op rfl (OpE.callT' (k) rfl rfl hB rfl Tryz.call80 rfl ((next_T (by omega))) (by omega) ?_)
 rintro _ ⟨r9, hr9, rfl⟩
 refine VO.val rfl rfl (OpV.indexAddr_1 rfl Tryz.underlying29 Tryz.sizeOf9 rfl rfl (Int.toNat_of_nonneg (by omega)).symm (by omega)) ?_
 refine VO.val rfl rfl (OpV.load_at rfl hB OutW.no Tryz.isAgg9 rfl rfl) ?_
 refine VO.ma rfl rfl rfl rfl ?_
 refine VO.nil ?_
 refine VC.ret ?_
 exact Exists.intro _ (And.intro (RetV.one Tryz.results82 (ResV.tmp rfl)) (And.intro (hall.get (by omega)) ((show k + 1 ≤ k + 1 by omega))))


end Go.Proofs.YtdnlhdilpdeecaaGreatDoor
namespace Go.Proofs.YtdnlhdilpdeecaaGreatDoor
open Go.RowKit
set_option linter.unusedVariables false
set_option linter.unusedSimpArgs false
theorem Le.litsS {B : Bs} {s : St'} {t n : Nat} {xs : List ByteArray} (hn : n = xs.length) (ht : look s.sl t = some (.im n 1 fun j => (strsL xs).getD j .any)) : Le B s ⟨(t, avStrs xs) :: s.sl, s.hp, s.k⟩ := Le.recast ht fun w Z u h => Rep.strs hn h
set_option maxRecDepth 100000 in
theorem kit_IsMoment {n : Int}  :
  SpecN Tryz.prog 261 [avI n] (fun y => y = avB (!outR n 0 345686399999)) := by
 refine SpecN.of_VCN Tryz.func261 rfl Tryz.ntmps261 (Nle rfl) fun w A hB => ?_
 have hnew : True := trivial
 refine VC.sr ?_
 refine VO.ma rfl rfl rfl rfl ?_
 refine VO.nil ?_
 refine VC.sr ?_
 refine VO.mv rfl rfl rfl rfl ?_
 refine VO.op rfl (OpE.call rfl hB rfl Tryz.call181 rfl (SpecN.spec (kit_Outside)) ?_)
 rintro _ rfl
 refine VO.val rfl rfl (OpV.not rfl rfl) ?_
 refine VO.ma rfl rfl rfl rfl ?_
 refine VO.nil ?_
 refine VC.ret ?_
 exact Exists.intro _ (And.intro (RetN.one Tryz.results261 (ResN.v rfl)) (rfl))
end Go.Proofs.YtdnlhdilpdeecaaGreatDoor
namespace Go.Proofs.YtdnlhdilpdeecaaGreatDoor
open Go.RowKit
set_option linter.unusedVariables false
set_option linter.unusedSimpArgs false
abbrev boxPc (g : Nat) (x : PaceS) (ty : TypeId) : Ent := .box g ⟨[avS x.product, avI x.cycle, avL x.needs], ty, 3⟩
theorem nil_pace {w : World} {Z : Nat → Prop} {u : Value} (h : Rep w Z (.agg [avS ⟨#[]⟩, avI 0, .v (.slice none 0 0)]) u) : Rep w Z (avPc default) u := by
 cases h with
 | agg cs us hl hr =>
  refine .agg _ us hl fun j hj => ?_
  match j, hj with
  | 0, _ => exact hr 0 (by simp)
  | 1, _ => exact hr 1 (by simp)
  | 2, _ =>
   have := hr 2 (by simp)
   show Rep w Z (.im 0 2 _) _
   rw [this.eq_v]; exact .nil _ _
set_option maxRecDepth 100000 in
set_option maxHeartbeats 4000000 in
theorem plan_orderFault {o : List OrdrS} {i : Nat} (hs : SmOr o) (hi : i < o.length) :
  SpecN Tryz.prog 238 [avL o, avI (i : Int)] (fun y => y = avI (ordrE o i)) := by
 refine SpecN.of_VCN Tryz.func238 rfl Tryz.ntmps238 (Nle rfl) fun w A hB => ?_
 have hnew : True := trivial
 refine VC.seq ?_
 have hl := hs.len
 refine VC.region ?_
 refine VO.ma rfl rfl rfl rfl ?_
 refine VO.nil ?_
 refine VC.sr ?_
 refine VO.mv rfl rfl rfl rfl ?_
 refine VO.mv rfl rfl rfl rfl ?_
 refine VO.val rfl rfl (OpV.indexAddr_E rfl Tryz.underlying95 Tryz.sizeOf104 rfl rfl rfl (by omega)) ?_
 refine VO.val rfl rfl (OpV.loadK_at rfl hB OutW.no Tryz.isAgg104 Tryz.sizeOf104 rfl rfl) ?_
 refine VO.op rfl (OpE.alloc rfl hB rfl Tryz.zeroValue104 rfl ?_)
 intro g5
 refine VO.op rfl (OpE.store (i := 0) rfl hB rfl Tryz.sizeOf104 rfl rfl rfl rfl rfl rfl (Nle rfl) trivial ?_)
 refine VO.nil ?_
 refine VC.seq ?_
 refine VC.block ?_
 refine VC.sr ?_
 refine VO.val rfl rfl (OpV.fieldAddrO 0 rfl Tryz.underlying104 rfl rfl Tryz.sizeOf9 rfl) ?_
 refine VO.val rfl rfl (OpV.load_own (i := 0) rfl hB Tryz.isAgg9 rfl rfl rfl (fun h => h)) ?_
 refine VO.op rfl (OpE.call rfl hB rfl Tryz.call182 rfl (SpecN.spec (kit_IsKey (by have := hs.key i; omega))) ?_)
 rintro _ rfl
 refine VO.val rfl rfl (OpV.not rfl rfl) ?_
 refine VO.mv rfl rfl rfl rfl ?_
 refine VO.opG rfl rfl rfl rfl (fun aK1b => ?_) (fun aK1b => ?_)
 ·replace aK1b : _ = false := aK1b
  have aK1 := aK1b
  try simp only [qqT, qqF, qqN, qqM, qqL, qqE] at aK1
  refine OpE.val (W := NoB) (OpV.fieldAddrO 1 rfl Tryz.underlying104 rfl rfl Tryz.sizeOf9 rfl) rfl ?_
  refine VO.opY rfl rfl rfl rfl aK1b ?_
  refine OpE.val (W := NoB) (OpV.load_own (i := 0) rfl hB Tryz.isAgg9 rfl rfl rfl (fun h => h)) rfl ?_
  refine VO.opY rfl rfl rfl rfl aK1b ?_
  refine OpE.call rfl hB rfl Tryz.call182 rfl (SpecN.spec (kit_IsKey (by have := hs.prod i; omega))) ?_
  rintro _ rfl
  refine VO.opY rfl rfl rfl rfl aK1b ?_
  refine OpE.val (W := NoB) (OpV.not rfl rfl) rfl ?_
  refine VO.val rfl rfl (OpV.pickF rfl rfl rfl rfl aK1b) ?_
  refine VO.ma rfl rfl rfl rfl ?_
  refine VO.nil ?_
  refine VC.cond rfl (fun aH2b => ?_) (fun aH2b => ?_)
  ·have aH2 := aH2b
   try simp only [qqT, qqF, qqN, qqM, qqL, qqE] at aH2
   refine VC.sr ?_
   refine VO.ma rfl rfl rfl rfl ?_
   refine VO.nil ?_
   refine VC.ret ?_
   exact Exists.intro _ (And.intro (RetN.one Tryz.results238 (ResN.v rfl)) (by first | rw [ordrE_5a (by assumption)] | rw [ordrE_5b (by assumption)]))
  ·have aH2 := aH2b
   try simp only [qqT, qqF, qqN, qqM, qqL, qqE] at aH2
   refine VC.sr ?_
   refine VO.val rfl rfl (OpV.fieldAddrO 2 rfl Tryz.underlying104 rfl rfl Tryz.sizeOf3 rfl) ?_
   refine VO.val rfl rfl (OpV.load_own (i := 0) rfl hB Tryz.isAgg3 rfl rfl rfl (fun h => h)) ?_
   refine VO.op rfl (OpE.call rfl hB rfl Tryz.call181 rfl (SpecN.spec (kit_Outside)) ?_)
   rintro _ rfl
   refine VO.mv rfl rfl rfl rfl ?_
   refine VO.opG rfl rfl rfl rfl (fun aK3b => ?_) (fun aK3b => ?_)
   ·replace aK3b : _ = false := aK3b
    have aK3 := aK3b
    try simp only [qqT, qqF, qqN, qqM, qqL, qqE] at aK3
    refine OpE.val (W := NoB) (OpV.fieldAddrO 3 rfl Tryz.underlying104 rfl rfl Tryz.sizeOf3 rfl) rfl ?_
    refine VO.opY rfl rfl rfl rfl aK3b ?_
    refine OpE.val (W := NoB) (OpV.load_own (i := 0) rfl hB Tryz.isAgg3 rfl rfl rfl (fun h => h)) rfl ?_
    refine VO.opY rfl rfl rfl rfl aK3b ?_
    refine OpE.call rfl hB rfl Tryz.call261 rfl (SpecN.spec (kit_IsMoment)) ?_
    rintro _ rfl
    refine VO.opY rfl rfl rfl rfl aK3b ?_
    refine OpE.val (W := NoB) (OpV.not rfl rfl) rfl ?_
    refine VO.val rfl rfl (OpV.pickF rfl rfl rfl rfl aK3b) ?_
    refine VO.mv rfl rfl rfl rfl ?_
    refine VO.opG rfl rfl rfl rfl (fun aK4b => ?_) (fun aK4b => ?_)
    ·replace aK4b : _ = false := aK4b
     have aK4 := aK4b
     try simp only [qqT, qqF, qqN, qqM, qqL, qqE] at aK4
     refine OpE.val (W := NoB) (OpV.fieldAddrO 4 rfl Tryz.underlying104 rfl rfl Tryz.sizeOf3 rfl) rfl ?_
     refine VO.opY rfl rfl rfl rfl aK4b ?_
     refine OpE.val (W := NoB) (OpV.load_own (i := 0) rfl hB Tryz.isAgg3 rfl rfl rfl (fun h => h)) rfl ?_
     refine VO.opY rfl rfl rfl rfl aK4b ?_
     refine OpE.call rfl hB rfl Tryz.call261 rfl (SpecN.spec (kit_IsMoment)) ?_
     rintro _ rfl
     refine VO.opY rfl rfl rfl rfl aK4b ?_
     refine OpE.val (W := NoB) (OpV.not rfl rfl) rfl ?_
     refine VO.val rfl rfl (OpV.pickF rfl rfl rfl rfl aK4b) ?_
     refine VO.ma rfl rfl rfl rfl ?_
     refine VO.nil ?_
     refine VC.cond rfl (fun aH5b => ?_) (fun aH5b => ?_)
     ·have aH5 := aH5b
      try simp only [qqT, qqF, qqN, qqM, qqL, qqE] at aH5
      refine VC.sr ?_
      refine VO.ma rfl rfl rfl rfl ?_
      refine VO.nil ?_
      refine VC.ret ?_
      exact Exists.intro _ (And.intro (RetN.one Tryz.results238 (ResN.v rfl)) (by rw [ordrE_1 (by assumption) (by assumption) (by first | exact or3a (by assumption) | exact or3b (by assumption) | exact or3c (by assumption))]))
     ·have aH5 := aH5b
      try simp only [qqT, qqF, qqN, qqM, qqL, qqE] at aH5
      refine VC.seq ?_
      refine VC.draw (fun _ => NoB) hB (by kernel_rfl) ?_
      refine VA.take (i := 0) rfl (by kernel_rfl) (by kernel_rfl) (by kernel_rfl) rfl rfl (OpV.move (.inl rfl) rfl) ?_
      refine VA.take (i := 1) rfl (by kernel_rfl) (by kernel_rfl) (by kernel_rfl) rfl rfl (OpV.gtr rfl rfl rfl) ?_
      refine VA.take (i := 2) rfl (by kernel_rfl) (by kernel_rfl) (by kernel_rfl) rfl rfl (OpV.move (.inl rfl) rfl) ?_
      refine VA.split (t := 40) rfl (fun aK6b => ?_) (fun aK6b => ?_)
      ·have aK6 := aK6b
       try simp only [qqT, qqF, qqN, qqM, qqL, qqE] at aK6
       refine VA.takeY (i := 3) rfl (by kernel_rfl) (by kernel_rfl) (by kernel_rfl) rfl rfl rfl rfl aK6b (OpV.fieldAddrO 0 rfl Tryz.underlying104 rfl rfl Tryz.sizeOf9 rfl) ?_
       refine VA.takeY (i := 4) rfl (by kernel_rfl) (by kernel_rfl) (by kernel_rfl) rfl rfl rfl rfl aK6b (OpV.load_own (i := 0) rfl hB Tryz.isAgg9 rfl rfl rfl Wi.not0) ?_
       refine VA.takeY (i := 5) rfl (by kernel_rfl) (by kernel_rfl) (by kernel_rfl) rfl rfl rfl rfl aK6b (OpV.move (.inl rfl) rfl) ?_
       refine VA.takeY (i := 6) rfl (by kernel_rfl) (by kernel_rfl) (by kernel_rfl) rfl rfl rfl rfl aK6b (OpV.move (.inl rfl) rfl) ?_
       refine VA.takeY (i := 7) rfl (by kernel_rfl) (by kernel_rfl) (by kernel_rfl) rfl rfl rfl rfl aK6b (OpV.sub rfl rfl rfl (by unfold fits; omega)) ?_
       refine VA.takeY (i := 8) rfl (by kernel_rfl) (by kernel_rfl) (by kernel_rfl) rfl rfl rfl rfl aK6b (OpV.indexAddr_E rfl Tryz.underlying95 Tryz.sizeOf104 rfl rfl (show ((i : Int) - 1) = ((i - 1 : Nat) : Int) by omega) (by omega)) ?_
       refine VA.takeY (i := 9) rfl (by kernel_rfl) (by kernel_rfl) (by kernel_rfl) rfl rfl rfl rfl aK6b (OpV.fieldAddr_atO 0 rfl Tryz.underlying104 rfl rfl Tryz.sizeOf9 rfl rfl) ?_
       refine VA.takeY (i := 10) rfl (by kernel_rfl) (by kernel_rfl) (by kernel_rfl) rfl rfl rfl rfl aK6b (OpV.load_at rfl hB OutW.wi0 Tryz.isAgg9 rfl rfl) ?_
       refine VA.takeY (i := 11) rfl (by kernel_rfl) (by kernel_rfl) (by kernel_rfl) rfl rfl rfl rfl aK6b (OpV.sleq rfl rfl rfl) ?_
       refine VA.take (i := 12) rfl (by kernel_rfl) (by kernel_rfl) (by kernel_rfl) rfl rfl (OpV.pickT rfl rfl rfl rfl aK6b) ?_
       refine VA.take (i := 13) rfl (by kernel_rfl) (by kernel_rfl) (by kernel_rfl) rfl rfl (OpV.move (.inr rfl) rfl) ?_
       refine VA.done (by kernel_rfl) ?_
       refine VC.cond rfl (fun aH7b => ?_) (fun aH7b => ?_)
       ·have aH7 := aH7b
        try simp only [qqT, qqF, qqN, qqM, qqL, qqE] at aH7
        refine VC.sr ?_
        refine VO.ma rfl rfl rfl rfl ?_
        refine VO.nil ?_
        refine VC.ret ?_
        exact Exists.intro _ (And.intro (RetN.one Tryz.results238 (ResN.v rfl)) (by rw [ordrE_7 (by assumption) (by assumption) (or3f (by assumption) (by assumption) (by assumption)) (by omega) (by assumption)]))
       ·have aH7 := aH7b
        try simp only [qqT, qqF, qqN, qqM, qqL, qqE] at aH7
        refine VC.skip ?_
        refine VC.sr ?_
        refine VO.ma rfl rfl rfl rfl ?_
        refine VO.nil ?_
        refine VC.ret ?_
        exact Exists.intro _ (And.intro (RetN.one Tryz.results238 (ResN.v rfl)) (by first | rw [ordrE_0 (by assumption) (by assumption) (or3f (by assumption) (by assumption) (by assumption)) (.inr (by assumption))] | rw [ordrE_0 (by assumption) (by assumption) (or3f (by assumption) (by assumption) (by assumption)) (.inl (by omega))]))
      ·have aK6 := aK6b
       try simp only [qqT, qqF, qqN, qqM, qqL, qqE] at aK6
       refine VA.takeX (i := 3) rfl (by kernel_rfl) (by kernel_rfl) (by kernel_rfl) rfl rfl rfl rfl aK6b ?_
       refine VA.takeX (i := 4) rfl (by kernel_rfl) (by kernel_rfl) (by kernel_rfl) rfl rfl rfl rfl aK6b ?_
       refine VA.takeX (i := 5) rfl (by kernel_rfl) (by kernel_rfl) (by kernel_rfl) rfl rfl rfl rfl aK6b ?_
       refine VA.takeX (i := 6) rfl (by kernel_rfl) (by kernel_rfl) (by kernel_rfl) rfl rfl rfl rfl aK6b ?_
       refine VA.takeX (i := 7) rfl (by kernel_rfl) (by kernel_rfl) (by kernel_rfl) rfl rfl rfl rfl aK6b ?_
       refine VA.takeX (i := 8) rfl (by kernel_rfl) (by kernel_rfl) (by kernel_rfl) rfl rfl rfl rfl aK6b ?_
       refine VA.takeX (i := 9) rfl (by kernel_rfl) (by kernel_rfl) (by kernel_rfl) rfl rfl rfl rfl aK6b ?_
       refine VA.takeX (i := 10) rfl (by kernel_rfl) (by kernel_rfl) (by kernel_rfl) rfl rfl rfl rfl aK6b ?_
       refine VA.takeX (i := 11) rfl (by kernel_rfl) (by kernel_rfl) (by kernel_rfl) rfl rfl rfl rfl aK6b ?_
       refine VA.take (i := 12) rfl (by kernel_rfl) (by kernel_rfl) (by kernel_rfl) rfl rfl (OpV.pickF rfl rfl rfl rfl aK6b) ?_
       refine VA.take (i := 13) rfl (by kernel_rfl) (by kernel_rfl) (by kernel_rfl) rfl rfl (OpV.move (.inr rfl) rfl) ?_
       refine VA.done (by kernel_rfl) ?_
       refine VC.condF rfl rfl ?_
       refine VC.skip ?_
       refine VC.sr ?_
       refine VO.ma rfl rfl rfl rfl ?_
       refine VO.nil ?_
       refine VC.ret ?_
       exact Exists.intro _ (And.intro (RetN.one Tryz.results238 (ResN.v rfl)) (by first | rw [ordrE_0 (by assumption) (by assumption) (or3f (by assumption) (by assumption) (by assumption)) (.inr (by assumption))] | rw [ordrE_0 (by assumption) (by assumption) (or3f (by assumption) (by assumption) (by assumption)) (.inl (by omega))]))
    ·replace aK4b : _ = true := aK4b
     have aK4 := aK4b
     try simp only [qqT, qqF, qqN, qqM, qqL, qqE] at aK4
     refine VO.opX rfl rfl rfl rfl aK4b ?_
     refine VO.opX rfl rfl rfl rfl aK4b ?_
     refine VO.opX rfl rfl rfl rfl aK4b ?_
     refine VO.val rfl rfl (OpV.pickT rfl rfl rfl rfl aK4b) ?_
     refine VO.ma rfl rfl rfl rfl ?_
     refine VO.nil ?_
     refine VC.condT rfl rfl ?_
     refine VC.sr ?_
     refine VO.ma rfl rfl rfl rfl ?_
     refine VO.nil ?_
     refine VC.ret ?_
     exact Exists.intro _ (And.intro (RetN.one Tryz.results238 (ResN.v rfl)) (by rw [ordrE_1 (by assumption) (by assumption) (by first | exact or3a (by assumption) | exact or3b (by assumption) | exact or3c (by assumption))]))
   ·replace aK3b : _ = true := aK3b
    have aK3 := aK3b
    try simp only [qqT, qqF, qqN, qqM, qqL, qqE] at aK3
    refine VO.opX rfl rfl rfl rfl aK3b ?_
    refine VO.opX rfl rfl rfl rfl aK3b ?_
    refine VO.opX rfl rfl rfl rfl aK3b ?_
    refine VO.val rfl rfl (OpV.pickT rfl rfl rfl rfl aK3b) ?_
    refine VO.mv rfl rfl rfl rfl ?_
    refine VO.opX rfl rfl rfl rfl rfl ?_
    refine VO.opX rfl rfl rfl rfl rfl ?_
    refine VO.opX rfl rfl rfl rfl rfl ?_
    refine VO.opX rfl rfl rfl rfl rfl ?_
    refine VO.val rfl rfl (OpV.pickT rfl rfl rfl rfl rfl) ?_
    refine VO.ma rfl rfl rfl rfl ?_
    refine VO.nil ?_
    refine VC.condT rfl rfl ?_
    refine VC.sr ?_
    refine VO.ma rfl rfl rfl rfl ?_
    refine VO.nil ?_
    refine VC.ret ?_
    exact Exists.intro _ (And.intro (RetN.one Tryz.results238 (ResN.v rfl)) (by rw [ordrE_1 (by assumption) (by assumption) (by first | exact or3a (by assumption) | exact or3b (by assumption) | exact or3c (by assumption))]))
 ·replace aK1b : _ = true := aK1b
  have aK1 := aK1b
  try simp only [qqT, qqF, qqN, qqM, qqL, qqE] at aK1
  refine VO.opX rfl rfl rfl rfl aK1b ?_
  refine VO.opX rfl rfl rfl rfl aK1b ?_
  refine VO.opX rfl rfl rfl rfl aK1b ?_
  refine VO.val rfl rfl (OpV.pickT rfl rfl rfl rfl aK1b) ?_
  refine VO.ma rfl rfl rfl rfl ?_
  refine VO.nil ?_
  refine VC.condT rfl rfl ?_
  refine VC.sr ?_
  refine VO.ma rfl rfl rfl rfl ?_
  refine VO.nil ?_
  refine VC.ret ?_
  exact Exists.intro _ (And.intro (RetN.one Tryz.results238 (ResN.v rfl)) (by first | rw [ordrE_5a (by assumption)] | rw [ordrE_5b (by assumption)]))
set_option maxRecDepth 100000 in
theorem plan_CheckOrders {o : List OrdrS} (hs : SmOr o) :
  SpecN Tryz.prog 168 [avL o] (fun y => y = avI (ordrF o)) := by
 refine SpecN.of_VCN Tryz.func168 rfl Tryz.ntmps168 (Nle rfl) fun w A hB => ?_
 have hnew : True := trivial
 refine VC.seq ?_
 have hl := hs.len
 refine VC.region ?_
 refine VO.ma rfl rfl rfl rfl ?_
 refine VO.nil ?_
 refine VC.seq ?_
 refine VC.sr ?_
 refine VO.mv rfl rfl rfl rfl ?_
 refine VO.val rfl rfl (OpV.len_im rfl Tryz.underlying95 rfl) ?_
 refine VO.val rfl rfl (OpV.gtr rfl rfl rfl) ?_
 refine VO.nil ?_
 refine VC.cond rfl (fun aH1b => ?_) (fun aH1b => ?_)
 ·have aH1 := aH1b
  try simp only [qqT, qqF, qqN, qqM, qqL, qqE] at aH1
  refine VC.sr ?_
  refine VO.ma rfl rfl rfl rfl ?_
  refine VO.nil ?_
  refine VC.ret ?_
  exact Exists.intro _ (And.intro (RetN.one Tryz.results168 (ResN.v rfl)) (by rw [ordrF_2 (by omega)]))
 ·have aH1 := aH1b
  try simp only [qqT, qqF, qqN, qqM, qqL, qqE] at aH1
  refine VC.skip ?_
  refine VC.seq ?_
  refine VC.sr ?_
  refine VO.mv rfl rfl rfl rfl ?_
  refine VO.val rfl rfl (OpV.len_im rfl Tryz.underlying95 rfl) ?_
  refine VO.mv rfl rfl rfl rfl ?_
  refine VO.nil ?_
  refine VC.block ?_
  refine VC.loopK [(0, _), (9, _)] ⟨rfl, rfl, trivial⟩ ({q : Nat // q ≤ o.length ∧ ∀ j, j < q → ordrE o j = 0}) (fun (iZ : {q : Nat // q ≤ o.length ∧ ∀ j, j < q → ordrE o j = 0}) => match iZ with | ⟨q, hq, hn⟩ => [(10, avI (q : Int))]) (fun (iZ : {q : Nat // q ≤ o.length ∧ ∀ j, j < q → ordrE o j = 0}) => match iZ with | ⟨q, hq, hn⟩ => []) (fun (iZ : {q : Nat // q ≤ o.length ∧ ∀ j, j < q → ordrE o j = 0}) => match iZ with | ⟨q, hq, hn⟩ => 0) (fun (iZ : {q : Nat // q ≤ o.length ∧ ∀ j, j < q → ordrE o j = 0}) => match iZ with | ⟨q, hq, hn⟩ => o.length - q) ⟨0, Nat.zero_le _, fun j hj => absurd hj (Nat.not_lt_zero j)⟩ (Le.mk hB [] ⟨rfl, rfl, rfl, trivial⟩ rfl rfl (Nat.le_refl _)) ?_
  rintro ⟨q, hq, hn⟩
  show VC _ _ _ _ ⟨[(10, avI (q : Int))] ++ [(0, _), (9, _)], [], 0⟩
  refine VC.sr ?_
  refine VO.val rfl rfl (OpV.lss rfl rfl rfl) ?_
  refine VO.nil ?_
  refine VC.seq ?_
  refine VC.cond rfl (fun aH2b => ?_) (fun aH2b => ?_)
  ·have aH2 := aH2b
   try simp only [qqT, qqF, qqN, qqM, qqL, qqE] at aH2
   refine VC.skip ?_
   refine VC.seq ?_
   refine VC.block ?_
   refine VC.sr ?_
   refine VO.mv rfl rfl rfl rfl ?_
   refine VO.ma rfl rfl rfl rfl ?_
   refine VO.nil ?_
   refine VC.sr ?_
   refine VO.mv rfl rfl rfl rfl ?_
   refine VO.mv rfl rfl rfl rfl ?_
   refine VO.op rfl (OpE.call rfl hB rfl Tryz.call238 rfl (SpecN.spec (plan_orderFault hs (by omega))) ?_)
   rintro _ rfl
   refine VO.ma rfl rfl rfl rfl ?_
   refine VO.nil ?_
   refine VC.sr ?_
   refine VO.mv rfl rfl rfl rfl ?_
   refine VO.val rfl rfl (OpV.neq rfl rfl rfl) ?_
   refine VO.nil ?_
   refine VC.cond rfl (fun h2b => ?_) (fun h2b => ?_)
   ·have h2 := h2b
    try simp only [qqT, qqF, qqN, qqM, qqL, qqE] at h2
    refine VC.sr ?_
    refine VO.mv rfl rfl rfl rfl ?_
    refine VO.ma rfl rfl rfl rfl ?_
    refine VO.nil ?_
    refine VC.ret ?_
    exact Exists.intro _ (And.intro (RetN.one Tryz.results168 (ResN.v rfl)) (by rw [ordrF_at (by omega) (by omega) hn rfl h2]))
   ·have h2 := h2b
    try simp only [qqT, qqF, qqN, qqM, qqL, qqE] at h2
    refine VC.skip ?_
    refine VC.region ?_
    refine VO.val rfl rfl (OpV.add rfl rfl rfl (by unfold fits; omega)) ?_
    refine VO.mv rfl rfl rfl rfl ?_
    refine VO.nil ?_
    exact Exists.intro (⟨q + 1, by omega, lt_succ_cases hn ((by omega))⟩) (And.intro (Le.mk hB [] ⟨rfl, rfl, rfl, trivial⟩ rfl rfl (Nat.le_refl _)) (by first | omega | (show _ < _; omega) | (simp only []; omega)))
  ·have aH2 := aH2b
   try simp only [qqT, qqF, qqN, qqM, qqL, qqE] at aH2
   refine VC.exit ?_
   refine VC.sr ?_
   refine VO.ma rfl rfl rfl rfl ?_
   refine VO.nil ?_
   refine VC.ret ?_
   exact Exists.intro _ (And.intro (RetN.one Tryz.results168 (ResN.v rfl)) (by rw [ordrF_ok (by omega) (fun j hj => hn j (by omega))]))
set_option maxRecDepth 100000 in
set_option maxHeartbeats 4000000 in
theorem plan_CheckPaces {p : List PaceS} (hs : SmPc p) :
  SpecN Tryz.prog 334 [avL p] (fun y => y = avI (paceF p)) := by
 refine SpecN.of_VCN Tryz.func334 rfl Tryz.ntmps334 (Nle rfl) fun w A hB => ?_
 have hnew : True := trivial
 refine VC.seq ?_
 have hl := hs.len
 refine VC.region ?_
 refine VO.ma rfl rfl rfl rfl ?_
 refine VO.nil ?_
 refine VC.seq ?_
 refine VC.sr ?_
 refine VO.mv rfl rfl rfl rfl ?_
 refine VO.val rfl rfl (OpV.len_im rfl Tryz.underlying195 rfl) ?_
 refine VO.val rfl rfl (OpV.gtr rfl rfl rfl) ?_
 refine VO.nil ?_
 refine VC.cond rfl (fun aH1b => ?_) (fun aH1b => ?_)
 ·have aH1 := aH1b
  try simp only [qqT, qqF, qqN, qqM, qqL, qqE] at aH1
  refine VC.sr ?_
  refine VO.ma rfl rfl rfl rfl ?_
  refine VO.nil ?_
  refine VC.ret ?_
  exact Exists.intro _ (And.intro (RetN.one Tryz.results334 (ResN.v rfl)) (by rw [paceF_2 (by omega)]))
 ·have aH1 := aH1b
  try simp only [qqT, qqF, qqN, qqM, qqL, qqE] at aH1
  refine VC.skip ?_
  refine VC.seq ?_
  refine VC.sr ?_
  refine VO.mv rfl rfl rfl rfl ?_
  refine VO.val rfl rfl (OpV.len_im rfl Tryz.underlying195 rfl) ?_
  refine VO.mv rfl rfl rfl rfl ?_
  refine VO.nil ?_
  refine VC.block ?_
  refine VC.loopK [(0, _), (9, _), (10, _)] ⟨rfl, rfl, rfl, trivial⟩ ({q : Nat // q ≤ p.length ∧ ∀ j, j < q → paceE p j = 0}) (fun (iZ : {q : Nat // q ≤ p.length ∧ ∀ j, j < q → paceE p j = 0}) => match iZ with | ⟨q, hq, hn⟩ => [(11, avI (q : Int))]) (fun (iZ : {q : Nat // q ≤ p.length ∧ ∀ j, j < q → paceE p j = 0}) => match iZ with | ⟨q, hq, hn⟩ => []) (fun (iZ : {q : Nat // q ≤ p.length ∧ ∀ j, j < q → paceE p j = 0}) => match iZ with | ⟨q, hq, hn⟩ => 0) (fun (iZ : {q : Nat // q ≤ p.length ∧ ∀ j, j < q → paceE p j = 0}) => match iZ with | ⟨q, hq, hn⟩ => p.length - q) ⟨0, Nat.zero_le _, fun j hj => absurd hj (Nat.not_lt_zero j)⟩ (Le.mk hB [] ⟨rfl, rfl, rfl, rfl, trivial⟩ rfl rfl (Nat.le_refl _)) ?_
  rintro ⟨q, hq, hn⟩
  show VC _ _ _ _ ⟨[(11, avI (q : Int))] ++ [(0, _), (9, _), (10, _)], [], 0⟩
  refine VC.sr ?_
  refine VO.val rfl rfl (OpV.lss rfl rfl rfl) ?_
  refine VO.nil ?_
  refine VC.seq ?_
  refine VC.cond rfl (fun aH2b => ?_) (fun aH2b => ?_)
  ·have aH2 := aH2b
   try simp only [qqT, qqF, qqN, qqM, qqL, qqE] at aH2
   refine VC.skip ?_
   refine VC.seq ?_
   refine VC.block ?_
   refine VC.sr ?_
   refine VO.mv rfl rfl rfl rfl ?_
   refine VO.val rfl rfl (OpV.indexAddr_E rfl Tryz.underlying195 Tryz.sizeOf194 rfl rfl rfl (by omega)) ?_
   refine VO.val rfl rfl (OpV.loadK_at rfl hB OutW.no Tryz.isAgg194 Tryz.sizeOf194 rfl rfl) ?_
   refine VO.op rfl (OpE.alloc rfl hB rfl Tryz.zeroValue194 rfl ?_)
   intro g4
   refine VO.ma rfl rfl rfl rfl ?_
   refine VO.op rfl (OpE.store (i := 0) rfl hB rfl Tryz.sizeOf194 rfl rfl rfl rfl rfl rfl (Nle rfl) trivial ?_)
   refine VO.nil ?_
   refine VC.seq ?_
   refine VC.block ?_
   refine VC.sr ?_
   refine VO.val rfl rfl (OpV.fieldAddrO 0 rfl Tryz.underlying194 rfl rfl Tryz.sizeOf9 rfl) ?_
   refine VO.val rfl rfl (OpV.load_own (i := 0) rfl hB Tryz.isAgg9 rfl rfl rfl (fun h => h)) ?_
   refine VO.op rfl (OpE.call rfl hB rfl Tryz.call182 rfl (SpecN.spec (kit_IsKey (by have := hs.prod q; omega))) ?_)
   rintro _ rfl
   refine VO.val rfl rfl (OpV.not rfl rfl) ?_
   refine VO.ma rfl rfl rfl rfl ?_
   refine VO.nil ?_
   refine VC.cond rfl (fun k2b => ?_) (fun k2b => ?_)
   ·have k2 := k2b
    try simp only [qqT, qqF, qqN, qqM, qqL, qqE] at k2
    refine VC.sr ?_
    refine VO.ma rfl rfl rfl rfl ?_
    refine VO.nil ?_
    refine VC.ret ?_
    exact Exists.intro _ (And.intro (RetN.one Tryz.results334 (ResN.v rfl)) (by rw [paceF_at (by omega) (by omega) hn (paceE_5 k2) (by decide)]))
   ·have k2 := k2b
    try simp only [qqT, qqF, qqN, qqM, qqL, qqE] at k2
    refine VC.seq ?_
    refine VC.draw (fun _ => NoB) hB (by kernel_rfl) ?_
    refine VA.take (i := 0) rfl (by kernel_rfl) (by kernel_rfl) (by kernel_rfl) rfl rfl (OpV.move (.inl rfl) rfl) ?_
    refine VA.take (i := 1) rfl (by kernel_rfl) (by kernel_rfl) (by kernel_rfl) rfl rfl (OpV.gtr rfl rfl rfl) ?_
    refine VA.take (i := 2) rfl (by kernel_rfl) (by kernel_rfl) (by kernel_rfl) rfl rfl (OpV.move (.inl rfl) rfl) ?_
    refine VA.split (t := 24) rfl (fun aK3b => ?_) (fun aK3b => ?_)
    ·have aK3 := aK3b
     try simp only [qqT, qqF, qqN, qqM, qqL, qqE] at aK3
     refine VA.takeY (i := 3) rfl (by kernel_rfl) (by kernel_rfl) (by kernel_rfl) rfl rfl rfl rfl aK3b (OpV.fieldAddrO 0 rfl Tryz.underlying194 rfl rfl Tryz.sizeOf9 rfl) ?_
     refine VA.takeY (i := 4) rfl (by kernel_rfl) (by kernel_rfl) (by kernel_rfl) rfl rfl rfl rfl aK3b (OpV.load_own (i := 0) rfl hB Tryz.isAgg9 rfl rfl rfl Wi.not0) ?_
     refine VA.takeY (i := 5) rfl (by kernel_rfl) (by kernel_rfl) (by kernel_rfl) rfl rfl rfl rfl aK3b (OpV.move (.inl rfl) rfl) ?_
     refine VA.takeY (i := 6) rfl (by kernel_rfl) (by kernel_rfl) (by kernel_rfl) rfl rfl rfl rfl aK3b (OpV.move (.inl rfl) rfl) ?_
     refine VA.takeY (i := 7) rfl (by kernel_rfl) (by kernel_rfl) (by kernel_rfl) rfl rfl rfl rfl aK3b (OpV.sub rfl rfl rfl (by unfold fits; omega)) ?_
     refine VA.takeY (i := 8) rfl (by kernel_rfl) (by kernel_rfl) (by kernel_rfl) rfl rfl rfl rfl aK3b (OpV.indexAddr_E rfl Tryz.underlying195 Tryz.sizeOf194 rfl rfl (show ((q : Int) - 1) = ((q - 1 : Nat) : Int) by omega) (by omega)) ?_
     refine VA.takeY (i := 9) rfl (by kernel_rfl) (by kernel_rfl) (by kernel_rfl) rfl rfl rfl rfl aK3b (OpV.fieldAddr_atO 0 rfl Tryz.underlying194 rfl rfl Tryz.sizeOf9 rfl rfl) ?_
     refine VA.takeY (i := 10) rfl (by kernel_rfl) (by kernel_rfl) (by kernel_rfl) rfl rfl rfl rfl aK3b (OpV.load_at rfl hB OutW.wi0 Tryz.isAgg9 rfl rfl) ?_
     refine VA.takeY (i := 11) rfl (by kernel_rfl) (by kernel_rfl) (by kernel_rfl) rfl rfl rfl rfl aK3b (OpV.sleq rfl rfl rfl) ?_
     refine VA.take (i := 12) rfl (by kernel_rfl) (by kernel_rfl) (by kernel_rfl) rfl rfl (OpV.pickT rfl rfl rfl rfl aK3b) ?_
     refine VA.take (i := 13) rfl (by kernel_rfl) (by kernel_rfl) (by kernel_rfl) rfl rfl (OpV.move (.inr rfl) rfl) ?_
     refine VA.done (by kernel_rfl) ?_
     refine VC.cond rfl (fun k3b => ?_) (fun k3b => ?_)
     ·have k3 := k3b
      try simp only [qqT, qqF, qqN, qqM, qqL, qqE] at k3
      refine VC.sr ?_
      refine VO.ma rfl rfl rfl rfl ?_
      refine VO.nil ?_
      refine VC.ret ?_
      exact Exists.intro _ (And.intro (RetN.one Tryz.results334 (ResN.v rfl)) (by rw [paceF_at (by omega) (by omega) hn (paceE_7 k2 (by omega) (by assumption)) (by decide)]))
     ·have k3 := k3b
      try simp only [qqT, qqF, qqN, qqM, qqL, qqE] at k3
      refine VC.sr ?_
      refine VO.val rfl rfl (OpV.fieldAddrO 1 rfl Tryz.underlying194 rfl rfl Tryz.sizeOf3 rfl) ?_
      refine VO.val rfl rfl (OpV.load_own (i := 0) rfl hB Tryz.isAgg3 rfl rfl rfl (fun h => h)) ?_
      refine VO.op rfl (OpE.call rfl hB rfl Tryz.call181 rfl (SpecN.spec (kit_Outside)) ?_)
      rintro _ rfl
      refine VO.ma rfl rfl rfl rfl ?_
      refine VO.nil ?_
      refine VC.cond rfl (fun k4b => ?_) (fun k4b => ?_)
      ·have k4 := k4b
       try simp only [qqT, qqF, qqN, qqM, qqL, qqE] at k4
       refine VC.sr ?_
       refine VO.ma rfl rfl rfl rfl ?_
       refine VO.nil ?_
       refine VC.ret ?_
       exact Exists.intro _ (And.intro (RetN.one Tryz.results334 (ResN.v rfl)) (by first | rw [paceF_at (by omega) (by omega) hn (paceE_1 k2 (.inr (by assumption)) k4) (by decide)] | rw [paceF_at (by omega) (by omega) hn (paceE_1 k2 (.inl (by omega)) k4) (by decide)]))
      ·have k4 := k4b
       try simp only [qqT, qqF, qqN, qqM, qqL, qqE] at k4
       refine VC.skip ?_
       refine VC.sr ?_
       refine VO.val rfl rfl (OpV.fieldAddrO 2 rfl Tryz.underlying194 rfl rfl Tryz.sizeOf110 rfl) ?_
       refine VO.val rfl rfl (OpV.load_own (i := 0) rfl hB Tryz.isAgg110 rfl rfl rfl (fun h => h)) ?_
       refine VO.op rfl (OpE.call rfl hB rfl Tryz.call358 rfl (SpecN.spec (line_CheckNeeds (by have := hs.nlen q; omega) (fun j => by have := hs.nkey q j; omega))) ?_)
       rintro _ rfl
       refine VO.ma rfl rfl rfl rfl ?_
       refine VO.nil ?_
       refine VC.sr ?_
       refine VO.mv rfl rfl rfl rfl ?_
       refine VO.val rfl rfl (OpV.neq rfl rfl rfl) ?_
       refine VO.nil ?_
       refine VC.cond rfl (fun k5b => ?_) (fun k5b => ?_)
       ·have k5 := k5b
        try simp only [qqT, qqF, qqN, qqM, qqL, qqE] at k5
        refine VC.sr ?_
        refine VO.mv rfl rfl rfl rfl ?_
        refine VO.ma rfl rfl rfl rfl ?_
        refine VO.nil ?_
        refine VC.ret ?_
        exact Exists.intro _ (And.intro (RetN.one Tryz.results334 (ResN.v rfl)) (by first | rw [paceF_at (by omega) (by omega) hn (paceE_n k2 (.inr (by assumption)) k4) k5] | rw [paceF_at (by omega) (by omega) hn (paceE_n k2 (.inl (by omega)) k4) k5]))
       ·have k5 := k5b
        try simp only [qqT, qqF, qqN, qqM, qqL, qqE] at k5
        refine VC.skip ?_
        refine VC.region ?_
        refine VO.val rfl rfl (OpV.add rfl rfl rfl (by unfold fits; omega)) ?_
        refine VO.mv rfl rfl rfl rfl ?_
        refine VO.nil ?_
        exact Exists.intro (⟨q + 1, by omega, lt_succ_cases hn ((by first | (rw [paceE_n k2 (.inr (by assumption)) k4]; omega) | (rw [paceE_n k2 (.inl (by omega)) k4]; omega)))⟩) (And.intro (Le.mk hB [] ⟨rfl, rfl, rfl, rfl, trivial⟩ rfl rfl (Nat.le_refl _)) (by first | omega | (show _ < _; omega) | (simp only []; omega)))
    ·have aK3 := aK3b
     try simp only [qqT, qqF, qqN, qqM, qqL, qqE] at aK3
     refine VA.takeX (i := 3) rfl (by kernel_rfl) (by kernel_rfl) (by kernel_rfl) rfl rfl rfl rfl aK3b ?_
     refine VA.takeX (i := 4) rfl (by kernel_rfl) (by kernel_rfl) (by kernel_rfl) rfl rfl rfl rfl aK3b ?_
     refine VA.takeX (i := 5) rfl (by kernel_rfl) (by kernel_rfl) (by kernel_rfl) rfl rfl rfl rfl aK3b ?_
     refine VA.takeX (i := 6) rfl (by kernel_rfl) (by kernel_rfl) (by kernel_rfl) rfl rfl rfl rfl aK3b ?_
     refine VA.takeX (i := 7) rfl (by kernel_rfl) (by kernel_rfl) (by kernel_rfl) rfl rfl rfl rfl aK3b ?_
     refine VA.takeX (i := 8) rfl (by kernel_rfl) (by kernel_rfl) (by kernel_rfl) rfl rfl rfl rfl aK3b ?_
     refine VA.takeX (i := 9) rfl (by kernel_rfl) (by kernel_rfl) (by kernel_rfl) rfl rfl rfl rfl aK3b ?_
     refine VA.takeX (i := 10) rfl (by kernel_rfl) (by kernel_rfl) (by kernel_rfl) rfl rfl rfl rfl aK3b ?_
     refine VA.takeX (i := 11) rfl (by kernel_rfl) (by kernel_rfl) (by kernel_rfl) rfl rfl rfl rfl aK3b ?_
     refine VA.take (i := 12) rfl (by kernel_rfl) (by kernel_rfl) (by kernel_rfl) rfl rfl (OpV.pickF rfl rfl rfl rfl aK3b) ?_
     refine VA.take (i := 13) rfl (by kernel_rfl) (by kernel_rfl) (by kernel_rfl) rfl rfl (OpV.move (.inr rfl) rfl) ?_
     refine VA.done (by kernel_rfl) ?_
     refine VC.condF rfl rfl ?_
     refine VC.sr ?_
     refine VO.val rfl rfl (OpV.fieldAddrO 1 rfl Tryz.underlying194 rfl rfl Tryz.sizeOf3 rfl) ?_
     refine VO.val rfl rfl (OpV.load_own (i := 0) rfl hB Tryz.isAgg3 rfl rfl rfl (fun h => h)) ?_
     refine VO.op rfl (OpE.call rfl hB rfl Tryz.call181 rfl (SpecN.spec (kit_Outside)) ?_)
     rintro _ rfl
     refine VO.ma rfl rfl rfl rfl ?_
     refine VO.nil ?_
     refine VC.cond rfl (fun k4b => ?_) (fun k4b => ?_)
     ·have k4 := k4b
      try simp only [qqT, qqF, qqN, qqM, qqL, qqE] at k4
      refine VC.sr ?_
      refine VO.ma rfl rfl rfl rfl ?_
      refine VO.nil ?_
      refine VC.ret ?_
      exact Exists.intro _ (And.intro (RetN.one Tryz.results334 (ResN.v rfl)) (by first | rw [paceF_at (by omega) (by omega) hn (paceE_1 k2 (.inr (by assumption)) k4) (by decide)] | rw [paceF_at (by omega) (by omega) hn (paceE_1 k2 (.inl (by omega)) k4) (by decide)]))
     ·have k4 := k4b
      try simp only [qqT, qqF, qqN, qqM, qqL, qqE] at k4
      refine VC.skip ?_
      refine VC.sr ?_
      refine VO.val rfl rfl (OpV.fieldAddrO 2 rfl Tryz.underlying194 rfl rfl Tryz.sizeOf110 rfl) ?_
      refine VO.val rfl rfl (OpV.load_own (i := 0) rfl hB Tryz.isAgg110 rfl rfl rfl (fun h => h)) ?_
      refine VO.op rfl (OpE.call rfl hB rfl Tryz.call358 rfl (SpecN.spec (line_CheckNeeds (by have := hs.nlen q; omega) (fun j => by have := hs.nkey q j; omega))) ?_)
      rintro _ rfl
      refine VO.ma rfl rfl rfl rfl ?_
      refine VO.nil ?_
      refine VC.sr ?_
      refine VO.mv rfl rfl rfl rfl ?_
      refine VO.val rfl rfl (OpV.neq rfl rfl rfl) ?_
      refine VO.nil ?_
      refine VC.cond rfl (fun k5b => ?_) (fun k5b => ?_)
      ·have k5 := k5b
       try simp only [qqT, qqF, qqN, qqM, qqL, qqE] at k5
       refine VC.sr ?_
       refine VO.mv rfl rfl rfl rfl ?_
       refine VO.ma rfl rfl rfl rfl ?_
       refine VO.nil ?_
       refine VC.ret ?_
       exact Exists.intro _ (And.intro (RetN.one Tryz.results334 (ResN.v rfl)) (by first | rw [paceF_at (by omega) (by omega) hn (paceE_n k2 (.inr (by assumption)) k4) k5] | rw [paceF_at (by omega) (by omega) hn (paceE_n k2 (.inl (by omega)) k4) k5]))
      ·have k5 := k5b
       try simp only [qqT, qqF, qqN, qqM, qqL, qqE] at k5
       refine VC.skip ?_
       refine VC.region ?_
       refine VO.val rfl rfl (OpV.add rfl rfl rfl (by unfold fits; omega)) ?_
       refine VO.mv rfl rfl rfl rfl ?_
       refine VO.nil ?_
       exact Exists.intro (⟨q + 1, by omega, lt_succ_cases hn ((by first | (rw [paceE_n k2 (.inr (by assumption)) k4]; omega) | (rw [paceE_n k2 (.inl (by omega)) k4]; omega)))⟩) (And.intro (Le.mk hB [] ⟨rfl, rfl, rfl, rfl, trivial⟩ rfl rfl (Nat.le_refl _)) (by first | omega | (show _ < _; omega) | (simp only []; omega)))
  ·have aH2 := aH2b
   try simp only [qqT, qqF, qqN, qqM, qqL, qqE] at aH2
   refine VC.exit ?_
   refine VC.sr ?_
   refine VO.ma rfl rfl rfl rfl ?_
   refine VO.nil ?_
   refine VC.ret ?_
   exact Exists.intro _ (And.intro (RetN.one Tryz.results334 (ResN.v rfl)) (by rw [paceF_ok (by omega) (fun j hj => hn j (by omega))]))
set_option maxRecDepth 100000 in
theorem plan_paceOf1 {x : PaceS} {k : ByteArray}  :
  SpecN Tryz.prog 360 [avT x, avS k] (fun y => y = avI (cmpB x.product k)) := by
 refine SpecN.of_VCN Tryz.func360 rfl Tryz.ntmps360 (Nle rfl) fun w A hB => ?_
 have hnew : True := trivial
 refine VC.sr ?_
 refine VO.op rfl (OpE.box rfl hB rfl rfl rfl ?_)
 intro g2
 refine VO.ma rfl rfl rfl rfl ?_
 refine VO.nil ?_
 refine VC.sr ?_
 refine VO.val rfl rfl (OpV.fieldAddrO 0 rfl Tryz.underlying194 rfl rfl Tryz.sizeOf9 rfl) ?_
 refine VO.val rfl rfl (OpV.load_own (i := 0) rfl hB Tryz.isAgg9 rfl rfl rfl (fun h => h)) ?_
 refine VO.mv rfl rfl rfl rfl ?_
 refine VO.op rfl (OpE.call rfl hB rfl Tryz.call117 rfl (SpecN.spec (strings_Compare_S)) ?_)
 rintro _ rfl
 refine VO.ma rfl rfl rfl rfl ?_
 refine VO.nil ?_
 refine VC.ret ?_
 exact Exists.intro _ (And.intro (RetN.one Tryz.results360 (ResN.v rfl)) (rfl))
set_option maxRecDepth 100000 in
theorem bsf_pace {xs : List PaceS} {t : ByteArray} {F : FuncId} {cs : List AV} {c : PaceS → Int} {s0 : Nat} (hl : xs.length ≤ 1000000) (hcall : ∀ us w, (callFunc F us).run Tryz.prog w = .ok (.enter F us) w) (hF : ∀ x, Spec Tryz.prog F ([avT x, avS t] ++ cs) (fun y => y = avI (c x))) (hs : s0 ≤ xs.length) (hlo : ∀ j, j < s0 → c (xs.getD j default) < 0) (hhi : ∀ j, s0 ≤ j → j < xs.length → 0 ≤ c (xs.getD j default)) :
  SpecN Tryz.prog 359 [avL xs, avS t, .fn F cs] (fun y => y = .tup [avI (s0 : Int), avB (decide (s0 < xs.length) && decide (c (xs.getD s0 default) = 0))]) := by
 refine SpecN.of_VCN Tryz.func359 rfl Tryz.ntmps359 (Nle rfl) fun w A hB => ?_
 have hnew : True := trivial
 refine VC.sr ?_
 refine VO.ma rfl rfl rfl rfl ?_
 refine VO.ma rfl rfl rfl rfl ?_
 refine VO.nil ?_
 refine VC.sr ?_
 refine VO.mv rfl rfl rfl rfl ?_
 refine VO.val rfl rfl (OpV.len_im rfl Tryz.underlying195 rfl) ?_
 refine VO.ma rfl rfl rfl rfl ?_
 refine VO.nil ?_
 refine VC.sr ?_
 refine VO.mv rfl rfl rfl rfl ?_
 refine VO.ma rfl rfl rfl rfl ?_
 refine VO.ma rfl rfl rfl rfl ?_
 refine VO.nil ?_
 refine VC.seq ?_
 refine VC.block ?_
 refine VC.loopK [(0, _), (1, _), (2, _), (8, _)] ⟨rfl, rfl, rfl, rfl, trivial⟩ ({z : Nat × Nat // z.1 ≤ s0 ∧ s0 ≤ z.2 ∧ z.2 ≤ xs.length}) (fun (iZ : {z : Nat × Nat // z.1 ≤ s0 ∧ s0 ≤ z.2 ∧ z.2 ≤ xs.length}) => match iZ with | ⟨⟨i, j⟩, h1, h2, h3⟩ => [(9, avI (i : Int)), (10, avI (j : Int))]) (fun (iZ : {z : Nat × Nat // z.1 ≤ s0 ∧ s0 ≤ z.2 ∧ z.2 ≤ xs.length}) => match iZ with | ⟨⟨i, j⟩, h1, h2, h3⟩ => []) (fun (iZ : {z : Nat × Nat // z.1 ≤ s0 ∧ s0 ≤ z.2 ∧ z.2 ≤ xs.length}) => match iZ with | ⟨⟨i, j⟩, h1, h2, h3⟩ => 0) (fun (iZ : {z : Nat × Nat // z.1 ≤ s0 ∧ s0 ≤ z.2 ∧ z.2 ≤ xs.length}) => match iZ with | ⟨⟨i, j⟩, h1, h2, h3⟩ => j - i) ⟨(0, xs.length), Nat.zero_le _, hs, Nat.le_refl _⟩ (Le.mk hB [] ⟨rfl, rfl, rfl, rfl, rfl, rfl, trivial⟩ rfl rfl (Nat.le_refl _)) ?_
 rintro ⟨⟨i, j⟩, h1, h2, h3⟩
 show VC _ _ _ _ ⟨[(9, avI (i : Int)), (10, avI (j : Int))] ++ [(0, _), (1, _), (2, _), (8, _)], [], 0⟩
 simp only at h1 h2 h3
 refine VC.seq ?_
 refine VC.sr ?_
 refine VO.mv rfl rfl rfl rfl ?_
 refine VO.mv rfl rfl rfl rfl ?_
 refine VO.val rfl rfl (OpV.lss rfl rfl rfl) ?_
 refine VO.nil ?_
 refine VC.cond rfl (fun aH1b => ?_) (fun aH1b => ?_)
 ·have aH1 := aH1b
  try simp only [qqT, qqF, qqN, qqM, qqL, qqE] at aH1
  refine VC.skip ?_
  refine VC.block ?_
  refine VC.sr ?_
  refine VO.mv rfl rfl rfl rfl ?_
  refine VO.mv rfl rfl rfl rfl ?_
  refine VO.val rfl rfl (OpV.add rfl rfl rfl (by unfold fits; omega)) ?_
  refine VO.val rfl rfl (OpV.conv rfl Tryz.underlying3 Tryz.underlying121 rfl (IntWalk.u64_in _ (by omega))) ?_
  refine VO.val rfl rfl (OpV.shr1 rfl rfl rfl rfl (by omega)) ?_
  refine VO.val rfl rfl (OpV.conv rfl Tryz.underlying121 Tryz.underlying3 rfl (IntWalk.i64_in _ (by omega))) ?_
  refine VO.ma rfl rfl rfl rfl ?_
  refine VO.nil ?_
  refine VC.sr ?_
  refine VO.mv rfl rfl rfl rfl ?_
  refine VO.mv rfl rfl rfl rfl ?_
  refine VO.mv rfl rfl rfl rfl ?_
  refine VO.val rfl rfl (OpV.indexAddr_E rfl Tryz.underlying195 Tryz.sizeOf194 rfl rfl (Int.toNat_of_nonneg (by omega)).symm (by omega)) ?_
  refine VO.val rfl rfl (OpV.loadK_at rfl hB OutW.no Tryz.isAgg194 Tryz.sizeOf194 rfl rfl) ?_
  refine VO.mv rfl rfl rfl rfl ?_
  refine VO.op rfl (OpE.callF rfl hB rfl hcall rfl rfl (hF _) ?_)
  rintro _ rfl
  refine VO.val rfl rfl (OpV.lss rfl rfl rfl) ?_
  refine VO.nil ?_
  refine VC.cond rfl (fun hcb => ?_) (fun hcb => ?_)
  ·have hc := hcb
   try simp only [qqT, qqF, qqN, qqM, qqL, qqE] at hc
   refine VC.region ?_
   refine VO.mv rfl rfl rfl rfl ?_
   refine VO.val rfl rfl (OpV.add rfl rfl rfl (by unfold fits; omega)) ?_
   refine VO.ma rfl rfl rfl rfl ?_
   refine VO.nil ?_
   exact Exists.intro (⟨((((i : Int) + j) / 2).toNat + 1, j), bsf_lo hhi (by omega) hc, h2, h3⟩) (And.intro (Le.mk hB [] ⟨(by first | rfl | exact congrArg (fun z => some (avI z)) (by omega)), (by first | rfl | exact congrArg (fun z => some (avI z)) (by omega)), rfl, rfl, rfl, rfl, trivial⟩ rfl rfl (Nat.le_refl _)) (by first | omega | (show _ < _; omega) | (simp only []; omega)))
  ·have hc := hcb
   try simp only [qqT, qqF, qqN, qqM, qqL, qqE] at hc
   refine VC.region ?_
   refine VO.mv rfl rfl rfl rfl ?_
   refine VO.ma rfl rfl rfl rfl ?_
   refine VO.nil ?_
   exact Exists.intro (⟨(i, (((i : Int) + j) / 2).toNat), h1, bsf_hi (h := (((i : Int) + j) / 2).toNat) hlo hc, by show _ ≤ xs.length; omega⟩) (And.intro (Le.mk hB [] ⟨(by first | rfl | exact congrArg (fun z => some (avI z)) (by omega)), (by first | rfl | exact congrArg (fun z => some (avI z)) (by omega)), rfl, rfl, rfl, rfl, trivial⟩ rfl rfl (Nat.le_refl _)) (by first | omega | (show _ < _; omega) | (simp only []; omega)))
 ·have aH1 := aH1b
  try simp only [qqT, qqF, qqN, qqM, qqL, qqE] at aH1
  obtain rfl : i = s0 := by omega
  refine VC.exit ?_
  refine VC.sr ?_
  refine VO.mv rfl rfl rfl rfl ?_
  refine VO.mv rfl rfl rfl rfl ?_
  refine VO.mv rfl rfl rfl rfl ?_
  refine VO.val rfl rfl (OpV.lss rfl rfl rfl) ?_
  refine VO.mv rfl rfl rfl rfl ?_
  refine VO.opG rfl rfl rfl rfl (fun aK2b => ?_) (fun aK2b => ?_)
  ·replace aK2b : _ = true := aK2b
   have aK2 := aK2b
   try simp only [qqT, qqF, qqN, qqM, qqL, qqE] at aK2
   refine OpE.val (W := NoB) (OpV.move (.inl rfl) rfl) rfl ?_
   refine VO.opY rfl rfl rfl rfl aK2b ?_
   refine OpE.val (W := NoB) (OpV.move (.inl rfl) rfl) rfl ?_
   refine VO.opY rfl rfl rfl rfl aK2b ?_
   refine OpE.val (W := NoB) (OpV.move (.inl rfl) rfl) rfl ?_
   refine VO.opY rfl rfl rfl rfl aK2b ?_
   refine OpE.val (W := NoB) (OpV.indexAddr_E rfl Tryz.underlying195 Tryz.sizeOf194 rfl rfl rfl (by omega)) rfl ?_
   refine VO.opY rfl rfl rfl rfl aK2b ?_
   refine OpE.val (W := NoB) (OpV.loadK_at rfl hB OutW.no Tryz.isAgg194 Tryz.sizeOf194 rfl rfl) rfl ?_
   refine VO.opY rfl rfl rfl rfl aK2b ?_
   refine OpE.val (W := NoB) (OpV.move (.inl rfl) rfl) rfl ?_
   refine VO.opY rfl rfl rfl rfl aK2b ?_
   refine OpE.callF rfl hB rfl hcall rfl rfl (hF _) ?_
   rintro _ rfl
   refine VO.opY rfl rfl rfl rfl aK2b ?_
   refine OpE.val (W := NoB) (OpV.eql rfl rfl rfl) rfl ?_
   refine VO.val rfl rfl (OpV.pickT rfl rfl rfl rfl aK2b) ?_
   refine VO.ma rfl rfl rfl rfl ?_
   refine VO.ma rfl rfl rfl rfl ?_
   refine VO.nil ?_
   refine VC.ret ?_
   exact Exists.intro _ (And.intro (RetN.two Tryz.results359 (ResN.v rfl) (ResN.v rfl)) (by first | (rw [decide_eq_true (show i < xs.length by omega)]; rfl) | (rw [decide_eq_false (show ¬ i < xs.length by omega)]; rfl)))
  ·replace aK2b : _ = false := aK2b
   have aK2 := aK2b
   try simp only [qqT, qqF, qqN, qqM, qqL, qqE] at aK2
   refine VO.opX rfl rfl rfl rfl aK2b ?_
   refine VO.opX rfl rfl rfl rfl aK2b ?_
   refine VO.opX rfl rfl rfl rfl aK2b ?_
   refine VO.opX rfl rfl rfl rfl aK2b ?_
   refine VO.opX rfl rfl rfl rfl aK2b ?_
   refine VO.opX rfl rfl rfl rfl aK2b ?_
   refine VO.opX rfl rfl rfl rfl aK2b ?_
   refine VO.val rfl rfl (OpV.pickF rfl rfl rfl rfl aK2b) ?_
   refine VO.ma rfl rfl rfl rfl ?_
   refine VO.ma rfl rfl rfl rfl ?_
   refine VO.nil ?_
   refine VC.ret ?_
   exact Exists.intro _ (And.intro (RetN.two Tryz.results359 (ResN.v rfl) (ResN.v rfl)) (by first | (rw [decide_eq_true (show i < xs.length by omega)]; rfl) | (rw [decide_eq_false (show ¬ i < xs.length by omega)]; rfl)))
set_option maxRecDepth 100000 in
theorem plan_paceOf {p : List PaceS} {k : ByteArray} (hl : p.length ≤ 1000000) (hr : RiseK PaceS.product p) :
  Spec Tryz.prog 335 [avL p, avS k] (fun y => y = .tup [avPc (paceO p k), avB (hasP p k)]) := by
 refine Spec.of_VC Tryz.func335 rfl Tryz.ntmps335 (Nle rfl) fun w A hB => ?_
 have hnew : True := trivial
 refine VC.sr ?_
 refine VO.op rfl (OpE.alloc rfl hB rfl Tryz.zeroValue194 rfl ?_)
 intro g4
 refine VO.ma rfl rfl rfl rfl ?_
 refine VO.nil ?_
 refine VC.sr ?_
 refine VO.mv rfl rfl rfl rfl ?_
 refine VO.mv rfl rfl rfl rfl ?_
 refine VO.op rfl (OpE.callL rfl hB rfl Tryz.call359 (bsf_pace (c := fun x => cmpB x.product k) (s0 := lowK PaceS.product p k) hl Tryz.call360 (fun x => plan_paceOf1.spec) lowK_le (lowK_cmp hr).1 (lowK_cmp hr).2) (ArgsP.cons (ArgP.ev rfl) (ArgsP.cons (ArgP.ev rfl) (ArgsP.cons (ArgP.fn0 rfl) (ArgsP.nil)))) ?_)
 rintro _ rfl
 refine VO.mv rfl rfl rfl rfl ?_
 refine VO.val rfl rfl (OpV.extract rfl rfl rfl) ?_
 refine VO.val rfl rfl (OpV.extract rfl rfl rfl) ?_
 refine VO.le _ (Le.recast (t := 13) (y := avB (hasP p k)) rfl (fun w Z u h => by rw [hasP, ← lowK_any hr, ← cmp_zero]; exact h)) ?_
 have hle := lowK_le (key := PaceS.product) (l := p) (k := k)
 refine VO.ma rfl rfl rfl rfl ?_
 refine VO.ma rfl rfl rfl rfl ?_
 refine VO.nil ?_
 refine VC.seq ?_
 refine VC.sr ?_
 refine VO.mv rfl rfl rfl rfl ?_
 refine VO.val rfl rfl (OpV.not rfl rfl) ?_
 refine VO.nil ?_
 refine VC.cond rfl (fun h0b => ?_) (fun h0b => ?_)
 ·have h0 := h0b
  try simp only [qqT, qqF, qqN, qqM, qqL, qqE] at h0
  refine VC.sr ?_
  refine VO.val rfl rfl (OpV.build (pls := #[(0, 1), (1, 1), (2, 1)]) rfl Tryz.zeroValue194 Tryz.underlying194 (fun w => by kernel_rfl) rfl rfl) ?_
  refine VO.le _ (Le.recast (t := 16) (y := avPc default) rfl (fun w Z u h => nil_pace h)) ?_
  refine VO.op rfl (OpE.store (i := 0) rfl hB rfl Tryz.sizeOf194 rfl rfl rfl rfl rfl rfl (Nle rfl) trivial ?_)
  refine VO.ma rfl rfl rfl rfl ?_
  refine VO.nil ?_
  refine VC.ret ?_
  exact Exists.intro _ (And.intro (RetV.two Tryz.results335 ((by first | exact ResV.cellK (i := 0) Tryz.isAgg194 Tryz.sizeOf194 rfl rfl rfl)) (ResV.tmp rfl)) (by rw [h0, paceO, find_none' h0]; rfl))
 ·have h0 := h0b
  try simp only [qqT, qqF, qqN, qqM, qqL, qqE] at h0
  have h1 := (lowK_any hr (k := k)).trans h0
  rw [Bool.and_eq_true, decide_eq_true_eq] at h1
  refine VC.skip ?_
  refine VC.sr ?_
  refine VO.mv rfl rfl rfl rfl ?_
  refine VO.mv rfl rfl rfl rfl ?_
  refine VO.val rfl rfl (OpV.indexAddr_E rfl Tryz.underlying195 Tryz.sizeOf194 rfl rfl rfl (by omega)) ?_
  refine VO.val rfl rfl (OpV.loadK_at rfl hB OutW.no Tryz.isAgg194 Tryz.sizeOf194 rfl rfl) ?_
  refine VO.op rfl (OpE.store (i := 0) rfl hB rfl Tryz.sizeOf194 rfl rfl rfl rfl rfl rfl (Nle rfl) trivial ?_)
  refine VO.ma rfl rfl rfl rfl ?_
  refine VO.nil ?_
  refine VC.ret ?_
  exact Exists.intro _ (And.intro (RetV.two Tryz.results335 ((by first | exact ResV.cellK (i := 0) Tryz.isAgg194 Tryz.sizeOf194 rfl rfl rfl)) (ResV.tmp rfl)) (by rw [h0, paceO, lowK_find hr h1.1 h1.2]; rfl))
set_option maxRecDepth 100000 in
set_option maxHeartbeats 4000000 in
theorem plan_fault {p : List PaceS} {o : List OrdrS} (hp : SmPc p) (ho : SmOr o) :
  SpecN Tryz.prog 288 [avL p, avL o] (fun y => y = avI (bothF p o)) := by
 refine SpecN.of_VCN Tryz.func288 rfl Tryz.ntmps288 (Nle rfl) fun w A hB => ?_
 have hnew : True := trivial
 refine VC.seq ?_
 have hl := hp.len
 have hl2 := ho.len
 refine VC.region ?_
 refine VO.ma rfl rfl rfl rfl ?_
 refine VO.nil ?_
 refine VC.seq ?_
 refine VC.sr ?_
 refine VO.mv rfl rfl rfl rfl ?_
 refine VO.op rfl (OpE.call rfl hB rfl Tryz.call334 rfl (SpecN.spec (plan_CheckPaces hp)) ?_)
 rintro _ rfl
 refine VO.ma rfl rfl rfl rfl ?_
 refine VO.nil ?_
 refine VC.sr ?_
 refine VO.mv rfl rfl rfl rfl ?_
 refine VO.val rfl rfl (OpV.neq rfl rfl rfl) ?_
 refine VO.nil ?_
 refine VC.cond rfl (fun h0b => ?_) (fun h0b => ?_)
 ·have h0 := h0b
  try simp only [qqT, qqF, qqN, qqM, qqL, qqE] at h0
  refine VC.sr ?_
  refine VO.mv rfl rfl rfl rfl ?_
  refine VO.ma rfl rfl rfl rfl ?_
  refine VO.nil ?_
  refine VC.ret ?_
  exact Exists.intro _ (And.intro (RetN.one Tryz.results288 (ResN.v rfl)) (by rw [bothF_1 h0]))
 ·have h0 := h0b
  try simp only [qqT, qqF, qqN, qqM, qqL, qqE] at h0
  refine VC.skip ?_
  refine VC.seq ?_
  refine VC.sr ?_
  refine VO.mv rfl rfl rfl rfl ?_
  refine VO.op rfl (OpE.call rfl hB rfl Tryz.call168 rfl (SpecN.spec (plan_CheckOrders ho)) ?_)
  rintro _ rfl
  refine VO.ma rfl rfl rfl rfl ?_
  refine VO.nil ?_
  refine VC.sr ?_
  refine VO.mv rfl rfl rfl rfl ?_
  refine VO.val rfl rfl (OpV.neq rfl rfl rfl) ?_
  refine VO.nil ?_
  refine VC.cond rfl (fun h1b => ?_) (fun h1b => ?_)
  ·have h1 := h1b
   try simp only [qqT, qqF, qqN, qqM, qqL, qqE] at h1
   refine VC.sr ?_
   refine VO.mv rfl rfl rfl rfl ?_
   refine VO.ma rfl rfl rfl rfl ?_
   refine VO.nil ?_
   refine VC.ret ?_
   exact Exists.intro _ (And.intro (RetN.one Tryz.results288 (ResN.v rfl)) (by rw [bothF_2 (by omega) h1]))
  ·have h1 := h1b
   try simp only [qqT, qqF, qqN, qqM, qqL, qqE] at h1
   refine VC.skip ?_
   refine VC.seq ?_
   refine VC.sr ?_
   refine VO.mv rfl rfl rfl rfl ?_
   refine VO.val rfl rfl (OpV.len_im rfl Tryz.underlying95 rfl) ?_
   refine VO.mv rfl rfl rfl rfl ?_
   refine VO.nil ?_
   refine VC.block ?_
   refine VC.loopK [(0, _), (21, _), (22, _)] ⟨rfl, rfl, rfl, trivial⟩ ({q : Nat // q ≤ o.length ∧ ∀ j, j < q → hasP p (o.getD j default).product = true}) (fun (iZ : {q : Nat // q ≤ o.length ∧ ∀ j, j < q → hasP p (o.getD j default).product = true}) => match iZ with | ⟨q, hq, hn⟩ => [(23, avI (q : Int))]) (fun (iZ : {q : Nat // q ≤ o.length ∧ ∀ j, j < q → hasP p (o.getD j default).product = true}) => match iZ with | ⟨q, hq, hn⟩ => []) (fun (iZ : {q : Nat // q ≤ o.length ∧ ∀ j, j < q → hasP p (o.getD j default).product = true}) => match iZ with | ⟨q, hq, hn⟩ => 0) (fun (iZ : {q : Nat // q ≤ o.length ∧ ∀ j, j < q → hasP p (o.getD j default).product = true}) => match iZ with | ⟨q, hq, hn⟩ => o.length - q) ⟨0, Nat.zero_le _, fun j hj => absurd hj (Nat.not_lt_zero j)⟩ (Le.mk hB [] ⟨rfl, rfl, rfl, rfl, trivial⟩ rfl rfl (Nat.le_refl _)) ?_
   rintro ⟨q, hq, hn⟩
   show VC _ _ _ _ ⟨[(23, avI (q : Int))] ++ [(0, _), (21, _), (22, _)], [], 0⟩
   refine VC.sr ?_
   refine VO.val rfl rfl (OpV.lss rfl rfl rfl) ?_
   refine VO.nil ?_
   refine VC.seq ?_
   refine VC.cond rfl (fun aH1b => ?_) (fun aH1b => ?_)
   ·have aH1 := aH1b
    try simp only [qqT, qqF, qqN, qqM, qqL, qqE] at aH1
    refine VC.skip ?_
    refine VC.seq ?_
    refine VC.block ?_
    refine VC.sr ?_
    refine VO.val rfl rfl (OpV.indexAddr_E rfl Tryz.underlying95 Tryz.sizeOf104 rfl rfl rfl (by omega)) ?_
    refine VO.val rfl rfl (OpV.loadK_at rfl hB OutW.no Tryz.isAgg104 Tryz.sizeOf104 rfl rfl) ?_
    refine VO.op rfl (OpE.alloc rfl hB rfl Tryz.zeroValue104 rfl ?_)
    intro g8
    refine VO.op rfl (OpE.store (i := 0) rfl hB rfl Tryz.sizeOf104 rfl rfl rfl rfl rfl rfl (Nle rfl) trivial ?_)
    refine VO.nil ?_
    refine VC.sr ?_
    refine VO.mv rfl rfl rfl rfl ?_
    refine VO.val rfl rfl (OpV.fieldAddrO 1 rfl Tryz.underlying104 rfl rfl Tryz.sizeOf9 rfl) ?_
    refine VO.val rfl rfl (OpV.load_own (i := 0) rfl hB Tryz.isAgg9 rfl rfl rfl (fun h => h)) ?_
    refine VO.op rfl (OpE.call rfl hB rfl Tryz.call335 rfl (plan_paceOf (k := (o.getD q default).product) (by omega) (pace_rise (pacesOk (by omega)))) ?_)
    rintro _ rfl
    refine VO.mv rfl rfl rfl rfl ?_
    refine VO.val rfl rfl (OpV.extract rfl rfl rfl) ?_
    refine VO.val rfl rfl (OpV.extract rfl rfl rfl) ?_
    refine VO.op rfl (OpE.alloc rfl hB rfl Tryz.zeroValue194 rfl ?_)
    intro g9
    refine VO.op rfl (OpE.store (i := 1) rfl hB rfl Tryz.sizeOf194 rfl rfl rfl rfl rfl rfl (Nle rfl) trivial ?_)
    refine VO.ma rfl rfl rfl rfl ?_
    refine VO.nil ?_
    refine VC.sr ?_
    refine VO.mv rfl rfl rfl rfl ?_
    refine VO.val rfl rfl (OpV.not rfl rfl) ?_
    refine VO.nil ?_
    refine VC.cond rfl (fun h3b => ?_) (fun h3b => ?_)
    ·have h3 := h3b
     try simp only [qqT, qqF, qqN, qqM, qqL, qqE] at h3
     refine VC.sr ?_
     refine VO.ma rfl rfl rfl rfl ?_
     refine VO.nil ?_
     refine VC.ret ?_
     exact Exists.intro _ (And.intro (RetN.one Tryz.results288 (ResN.v rfl)) (by rw [bothF_3 (by omega) (by omega), if_neg (by rw [all_no (d := default) (q := q) (by omega) h3]; simp)]))
    ·have h3 := h3b
     try simp only [qqT, qqF, qqN, qqM, qqL, qqE] at h3
     refine VC.skip ?_
     refine VC.region ?_
     refine VO.val rfl rfl (OpV.add rfl rfl rfl (by unfold fits; omega)) ?_
     refine VO.mv rfl rfl rfl rfl ?_
     refine VO.nil ?_
     exact Exists.intro (⟨q + 1, by omega, lt_succ_cases hn (h3)⟩) (And.intro (Le.mk hB [] ⟨rfl, rfl, rfl, rfl, trivial⟩ rfl rfl (Nat.le_refl _)) (by first | omega | (show _ < _; omega) | (simp only []; omega)))
   ·have aH1 := aH1b
    try simp only [qqT, qqF, qqN, qqM, qqL, qqE] at aH1
    refine VC.exit ?_
    refine VC.sr ?_
    refine VO.ma rfl rfl rfl rfl ?_
    refine VO.nil ?_
    refine VC.ret ?_
    exact Exists.intro _ (And.intro (RetN.one Tryz.results288 (ResN.v rfl)) (by rw [bothF_3 (by omega) (by omega), if_pos (all_yes (d := default) (fun j hj => hn j (by omega)))]))
set_option maxRecDepth 100000 in
set_option maxHeartbeats 4000000 in
theorem plan_scheduleFault {o : List OrdrS} {l : List Int} (ho : o.length ≤ 1000000) (hl : l.length ≤ 1000000) :
  SpecN Tryz.prog 289 [avL o, avInts l] (fun y => y = avI (schF o.length l)) := by
 refine SpecN.of_VCN Tryz.func289 rfl Tryz.ntmps289 (Nle rfl) fun w A hB => ?_
 have hnew : True := trivial
 refine VC.sr ?_
 refine VO.ma rfl rfl rfl rfl ?_
 refine VO.nil ?_
 refine VC.seq ?_
 refine VC.sr ?_
 refine VO.mv rfl rfl rfl rfl ?_
 refine VO.val rfl rfl (OpV.len_im rfl Tryz.underlying22 rfl) ?_
 refine VO.mv rfl rfl rfl rfl ?_
 refine VO.val rfl rfl (OpV.len_im rfl Tryz.underlying95 rfl) ?_
 refine VO.val rfl rfl (OpV.neq rfl rfl rfl) ?_
 refine VO.nil ?_
 refine VC.cond rfl (fun aH1b => ?_) (fun aH1b => ?_)
 ·have aH1 := aH1b
  try simp only [qqT, qqF, qqN, qqM, qqL, qqE] at aH1
  refine VC.sr ?_
  refine VO.ma rfl rfl rfl rfl ?_
  refine VO.nil ?_
  refine VC.ret ?_
  exact Exists.intro _ (And.intro (RetN.one Tryz.results289 (ResN.v rfl)) (by rw [schF_len (by omega)]))
 ·have aH1 := aH1b
  try simp only [qqT, qqF, qqN, qqM, qqL, qqE] at aH1
  refine VC.skip ?_
  refine VC.sr ?_
  refine VO.mv rfl rfl rfl rfl ?_
  refine VO.val rfl rfl (OpV.len_im rfl Tryz.underlying95 rfl) ?_
  refine VO.op rfl (OpE.make rfl hB rfl Tryz.underlying352 (infoOf Tryz.t4 1 (by kernel_rfl) rfl rfl) (by decide) rfl rfl (n := o.length) rfl rfl (by omega) (usedL_make rfl) ?_)
  intro g15
  rw [usedL_len]
  refine VO.ma rfl rfl rfl rfl ?_
  refine VO.nil ?_
  refine VC.seq ?_
  refine VC.sr ?_
  refine VO.mv rfl rfl rfl rfl ?_
  refine VO.val rfl rfl (OpV.len_im rfl Tryz.underlying22 rfl) ?_
  refine VO.mv rfl rfl rfl rfl ?_
  refine VO.nil ?_
  refine VC.block ?_
  refine VC.loopK [(0, _), (5, _), (16, _), (17, _)] ⟨rfl, rfl, rfl, rfl, trivial⟩ ({q : Nat // q ≤ l.length ∧ Ord o.length (l.take q)}) (fun (iZ : {q : Nat // q ≤ l.length ∧ Ord o.length (l.take q)}) => match iZ with | ⟨q, hq, hn⟩ => [(18, avI (q : Int))]) (fun (iZ : {q : Nat // q ≤ l.length ∧ Ord o.length (l.take q)}) => match iZ with | ⟨q, hq, hn⟩ => [.box g15 ⟨usedL o.length (l.take q), 4, o.length⟩]) (fun (iZ : {q : Nat // q ≤ l.length ∧ Ord o.length (l.take q)}) => match iZ with | ⟨q, hq, hn⟩ => 0) (fun (iZ : {q : Nat // q ≤ l.length ∧ Ord o.length (l.take q)}) => match iZ with | ⟨q, hq, hn⟩ => l.length - q) ⟨0, Nat.zero_le _, Ord.nil _⟩ (Le.mk hB [0] ⟨rfl, rfl, rfl, rfl, rfl, trivial⟩ rfl rfl (Nat.le_refl _)) ?_
  rintro ⟨q, hq, hn⟩
  show VC _ _ _ _ ⟨[(18, avI (q : Int))] ++ [(0, _), (5, _), (16, _), (17, _)], [.box g15 ⟨usedL o.length (l.take q), 4, o.length⟩], 0⟩
  refine VC.sr ?_
  refine VO.val rfl rfl (OpV.lss rfl rfl rfl) ?_
  refine VO.nil ?_
  refine VC.seq ?_
  refine VC.cond rfl (fun aH2b => ?_) (fun aH2b => ?_)
  ·have aH2 := aH2b
   try simp only [qqT, qqF, qqN, qqM, qqL, qqE] at aH2
   refine VC.skip ?_
   refine VC.seq ?_
   refine VC.block ?_
   refine VC.sr ?_
   refine VO.val rfl rfl (OpV.indexAddr_1 rfl Tryz.underlying22 Tryz.sizeOf3 rfl rfl rfl (by omega)) ?_
   refine VO.val rfl rfl (OpV.load_at rfl hB OutW.no Tryz.isAgg3 rfl rfl) ?_
   refine VO.ma rfl rfl rfl rfl ?_
   refine VO.nil ?_
   refine VC.seq ?_
   refine VC.sr ?_
   refine VO.mv rfl rfl rfl rfl ?_
   refine VO.val rfl rfl (OpV.lss rfl rfl rfl) ?_
   refine VO.mv rfl rfl rfl rfl ?_
   refine VO.opG rfl rfl rfl rfl (fun aK3b => ?_) (fun aK3b => ?_)
   ·replace aK3b : _ = false := aK3b
    have aK3 := aK3b
    try simp only [qqT, qqF, qqN, qqM, qqL, qqE] at aK3
    refine OpE.val (W := NoB) (OpV.move (.inl rfl) rfl) rfl ?_
    refine VO.opY rfl rfl rfl rfl aK3b ?_
    refine OpE.val (W := NoB) (OpV.move (.inl rfl) rfl) rfl ?_
    refine VO.opY rfl rfl rfl rfl aK3b ?_
    refine OpE.val (W := NoB) (OpV.len_im rfl Tryz.underlying95 rfl) rfl ?_
    refine VO.opY rfl rfl rfl rfl aK3b ?_
    refine OpE.val (W := NoB) (OpV.geq rfl rfl rfl) rfl ?_
    refine VO.val rfl rfl (OpV.pickF rfl rfl rfl rfl aK3b) ?_
    refine VO.mv rfl rfl rfl rfl ?_
    refine VO.opG rfl rfl rfl rfl (fun aK4b => ?_) (fun aK4b => ?_)
    ·replace aK4b : _ = false := aK4b
     have aK4 := aK4b
     try simp only [qqT, qqF, qqN, qqM, qqL, qqE] at aK4
     refine OpE.val (W := NoB) (OpV.move (.inl rfl) rfl) rfl ?_
     refine VO.opY rfl rfl rfl rfl aK4b ?_
     refine OpE.val (W := NoB) (OpV.move (.inl rfl) rfl) rfl ?_
     refine VO.opY rfl rfl rfl rfl aK4b ?_
     refine OpE.val (W := NoB) (OpV.indexAddr_o rfl Tryz.underlying352 Tryz.sizeOf4 rfl rfl (show l.getD q 0 = (((l.getD q 0).toNat : Nat) : Int) by omega) (by omega)) rfl ?_
     refine VO.opY rfl rfl rfl rfl aK4b ?_
     refine OpE.val (W := NoB) (OpV.load_own (i := 0) rfl hB Tryz.isAgg4 rfl rfl (usedL_get (q := (l.getD q 0).toNat) (by omega)) (fun h => h)) rfl ?_
     refine VO.le _ (Le.recast (t := 34) (y := avB (decide (l.getD q 0 ∈ l.take q))) rfl (fun w Z u h => by rw [Int.toNat_of_nonneg (by omega)] at h; exact h)) ?_
     refine VO.val rfl rfl (OpV.pickF rfl rfl rfl rfl aK4b) ?_
     refine VO.nil ?_
     refine VC.cond rfl (fun hxb => ?_) (fun hxb => ?_)
     ·have hx := hxb
      try simp only [qqT, qqF, qqN, qqM, qqL, qqE] at hx
      refine VC.sr ?_
      refine VO.ma rfl rfl rfl rfl ?_
      refine VO.nil ?_
      refine VC.ret ?_
      exact Exists.intro _ (And.intro (RetN.one Tryz.results289 (ResN.v rfl)) (by first | rw [schF_out (q := q) (by omega) (by omega)] | rw [schF_twice (q := q) (by omega) (by assumption)]))
     ·have hx := hxb
      try simp only [qqT, qqF, qqN, qqM, qqL, qqE] at hx
      have hx' : l.getD q 0 ∉ l.take q := by assumption
      refine VC.skip ?_
      refine VC.region ?_
      refine VO.mv rfl rfl rfl rfl ?_
      refine VO.mv rfl rfl rfl rfl ?_
      refine VO.val rfl rfl (OpV.indexAddr_o rfl Tryz.underlying352 Tryz.sizeOf4 rfl rfl (show l.getD q 0 = (((l.getD q 0).toNat : Nat) : Int) by omega) (by omega)) ?_
      refine VO.op rfl (OpE.store1 (i := 0) rfl hB rfl Tryz.sizeOf4 rfl rfl rfl rfl rfl rfl (by rw [usedL_len]; omega) (usedL_take (by omega) (by omega) (by omega)) trivial ?_)
      refine VO.nil ?_
      refine VC.region ?_
      refine VO.val rfl rfl (OpV.add rfl rfl rfl (by unfold fits; omega)) ?_
      refine VO.mv rfl rfl rfl rfl ?_
      refine VO.nil ?_
      exact Exists.intro (⟨q + 1, by omega, Ord.take hn (by omega) (by omega) (by omega) hx'⟩) (And.intro (Le.mk hB [0] ⟨rfl, rfl, rfl, rfl, rfl, trivial⟩ rfl rfl (Nat.le_refl _)) (by first | omega | (show _ < _; omega) | (simp only []; omega)))
    ·replace aK4b : _ = true := aK4b
     have aK4 := aK4b
     try simp only [qqT, qqF, qqN, qqM, qqL, qqE] at aK4
     refine VO.opX rfl rfl rfl rfl aK4b ?_
     refine VO.opX rfl rfl rfl rfl aK4b ?_
     refine VO.opX rfl rfl rfl rfl aK4b ?_
     refine VO.val rfl rfl (OpV.pickT rfl rfl rfl rfl aK4b) ?_
     refine VO.nil ?_
     refine VC.condT rfl rfl ?_
     refine VC.sr ?_
     refine VO.ma rfl rfl rfl rfl ?_
     refine VO.nil ?_
     refine VC.ret ?_
     exact Exists.intro _ (And.intro (RetN.one Tryz.results289 (ResN.v rfl)) (by first | rw [schF_out (q := q) (by omega) (by omega)] | rw [schF_twice (q := q) (by omega) (by assumption)]))
   ·replace aK3b : _ = true := aK3b
    have aK3 := aK3b
    try simp only [qqT, qqF, qqN, qqM, qqL, qqE] at aK3
    refine VO.opX rfl rfl rfl rfl aK3b ?_
    refine VO.opX rfl rfl rfl rfl aK3b ?_
    refine VO.opX rfl rfl rfl rfl aK3b ?_
    refine VO.val rfl rfl (OpV.pickT rfl rfl rfl rfl aK3b) ?_
    refine VO.mv rfl rfl rfl rfl ?_
    refine VO.opX rfl rfl rfl rfl rfl ?_
    refine VO.opX rfl rfl rfl rfl rfl ?_
    refine VO.opX rfl rfl rfl rfl rfl ?_
    refine VO.opX rfl rfl rfl rfl rfl ?_
    refine VO.val rfl rfl (OpV.pickT rfl rfl rfl rfl rfl) ?_
    refine VO.nil ?_
    refine VC.condT rfl rfl ?_
    refine VC.sr ?_
    refine VO.ma rfl rfl rfl rfl ?_
    refine VO.nil ?_
    refine VC.ret ?_
    exact Exists.intro _ (And.intro (RetN.one Tryz.results289 (ResN.v rfl)) (by first | rw [schF_out (q := q) (by omega) (by omega)] | rw [schF_twice (q := q) (by omega) (by assumption)]))
  ·have aH2 := aH2b
   try simp only [qqT, qqF, qqN, qqM, qqL, qqE] at aH2
   refine VC.exit ?_
   refine VC.sr ?_
   refine VO.ma rfl rfl rfl rfl ?_
   refine VO.nil ?_
   refine VC.ret ?_
   exact Exists.intro _ (And.intro (RetN.one Tryz.results289 (ResN.v rfl)) (by rw [schF_ok (by omega) (by rwa [List.take_of_length_le (by omega)] at hn)]))
set_option maxRecDepth 100000 in
theorem plan_numbersFault {s e : Int}  :
  SpecN Tryz.prog 290 [avI s, avI e] (fun y => y = avI (startF s e)) := by
 refine SpecN.of_VCN Tryz.func290 rfl Tryz.ntmps290 (Nle rfl) fun w A hB => ?_
 have hnew : True := trivial
 refine VC.sr ?_
 refine VO.ma rfl rfl rfl rfl ?_
 refine VO.nil ?_
 refine VC.seq ?_
 refine VC.sr ?_
 refine VO.mv rfl rfl rfl rfl ?_
 refine VO.op rfl (OpE.call rfl hB rfl Tryz.call261 rfl (SpecN.spec (kit_IsMoment)) ?_)
 rintro _ rfl
 refine VO.val rfl rfl (OpV.not rfl rfl) ?_
 refine VO.mv rfl rfl rfl rfl ?_
 refine VO.opG rfl rfl rfl rfl (fun aK1b => ?_) (fun aK1b => ?_)
 ·replace aK1b : _ = false := aK1b
  have aK1 := aK1b
  try simp only [qqT, qqF, qqN, qqM, qqL, qqE] at aK1
  refine OpE.val (W := NoB) (OpV.move (.inl rfl) rfl) rfl ?_
  refine VO.opY rfl rfl rfl rfl aK1b ?_
  refine OpE.call rfl hB rfl Tryz.call181 rfl (SpecN.spec (kit_Outside)) ?_
  rintro _ rfl
  refine VO.val rfl rfl (OpV.pickF rfl rfl rfl rfl aK1b) ?_
  refine VO.nil ?_
  refine VC.cond rfl (fun aH2b => ?_) (fun aH2b => ?_)
  ·have aH2 := aH2b
   try simp only [qqT, qqF, qqN, qqM, qqL, qqE] at aH2
   refine VC.sr ?_
   refine VO.ma rfl rfl rfl rfl ?_
   refine VO.nil ?_
   refine VC.ret ?_
   exact Exists.intro _ (And.intro (RetN.one Tryz.results290 (ResN.v rfl)) (by rw [startF, if_pos (by first | exact or2a (by assumption) | exact or2b (by assumption))]))
  ·have aH2 := aH2b
   try simp only [qqT, qqF, qqN, qqM, qqL, qqE] at aH2
   refine VC.skip ?_
   refine VC.sr ?_
   refine VO.ma rfl rfl rfl rfl ?_
   refine VO.nil ?_
   refine VC.ret ?_
   exact Exists.intro _ (And.intro (RetN.one Tryz.results290 (ResN.v rfl)) (by rw [startF, if_neg (by rw [or2f (by assumption) (by assumption)]; simp)]))
 ·replace aK1b : _ = true := aK1b
  have aK1 := aK1b
  try simp only [qqT, qqF, qqN, qqM, qqL, qqE] at aK1
  refine VO.opX rfl rfl rfl rfl aK1b ?_
  refine VO.val rfl rfl (OpV.pickT rfl rfl rfl rfl aK1b) ?_
  refine VO.nil ?_
  refine VC.condT rfl rfl ?_
  refine VC.sr ?_
  refine VO.ma rfl rfl rfl rfl ?_
  refine VO.nil ?_
  refine VC.ret ?_
  exact Exists.intro _ (And.intro (RetN.one Tryz.results290 (ResN.v rfl)) (by rw [startF, if_pos (by first | exact or2a (by assumption) | exact or2b (by assumption))]))
set_option maxRecDepth 100000 in
theorem slices_IndexFunc_need {xs : List NeedS} {F : FuncId} {cs : List AV} {p : NeedS → Bool} (hl : xs.length ≤ 1000000000) (hcall : ∀ us w, (callFunc F us).run Tryz.prog w = .ok (.enter F us) w) (hF : ∀ x, Spec Tryz.prog F ([avT x] ++ cs) (fun y => y = avB (p x))) :
  SpecN Tryz.prog 371 [avL xs, .fn F cs] (fun y => y = avI (fidx p xs)) := by
 refine SpecN.of_VCN Tryz.func371 rfl Tryz.ntmps371 (Nle rfl) fun w A hB => ?_
 have hnew : True := trivial
 refine VC.sr ?_
 refine VO.ma rfl rfl rfl rfl ?_
 refine VO.nil ?_
 refine VC.seq ?_
 refine VC.sr ?_
 refine VO.mv rfl rfl rfl rfl ?_
 refine VO.val rfl rfl (OpV.len_im rfl Tryz.underlying110 rfl) ?_
 refine VO.mv rfl rfl rfl rfl ?_
 refine VO.nil ?_
 refine VC.block ?_
 refine VC.loopK [(0, _), (1, _), (7, _)] ⟨rfl, rfl, rfl, trivial⟩ ({q : Nat // q ≤ xs.length ∧ ∀ j, j < q → p (xs.getD j default) = false}) (fun (iZ : {q : Nat // q ≤ xs.length ∧ ∀ j, j < q → p (xs.getD j default) = false}) => match iZ with | ⟨q, hq, hn⟩ => [(8, avI (q : Int))]) (fun (iZ : {q : Nat // q ≤ xs.length ∧ ∀ j, j < q → p (xs.getD j default) = false}) => match iZ with | ⟨q, hq, hn⟩ => []) (fun (iZ : {q : Nat // q ≤ xs.length ∧ ∀ j, j < q → p (xs.getD j default) = false}) => match iZ with | ⟨q, hq, hn⟩ => 0) (fun (iZ : {q : Nat // q ≤ xs.length ∧ ∀ j, j < q → p (xs.getD j default) = false}) => match iZ with | ⟨q, hq, hn⟩ => xs.length - q) ⟨0, Nat.zero_le _, fun j hj => absurd hj (Nat.not_lt_zero j)⟩ (Le.mk hB [] ⟨rfl, rfl, rfl, rfl, trivial⟩ rfl rfl (Nat.le_refl _)) ?_
 rintro ⟨q, hq, hn⟩
 show VC _ _ _ _ ⟨[(8, avI (q : Int))] ++ [(0, _), (1, _), (7, _)], [], 0⟩
 refine VC.sr ?_
 refine VO.val rfl rfl (OpV.lss rfl rfl rfl) ?_
 refine VO.nil ?_
 refine VC.seq ?_
 refine VC.cond rfl (fun aH1b => ?_) (fun aH1b => ?_)
 ·have aH1 := aH1b
  try simp only [qqT, qqF, qqN, qqM, qqL, qqE] at aH1
  refine VC.skip ?_
  refine VC.seq ?_
  refine VC.block ?_
  refine VC.sr ?_
  refine VO.mv rfl rfl rfl rfl ?_
  refine VO.ma rfl rfl rfl rfl ?_
  refine VO.nil ?_
  refine VC.sr ?_
  refine VO.mv rfl rfl rfl rfl ?_
  refine VO.mv rfl rfl rfl rfl ?_
  refine VO.mv rfl rfl rfl rfl ?_
  refine VO.val rfl rfl (OpV.indexAddr_E rfl Tryz.underlying110 Tryz.sizeOf114 rfl rfl rfl (by omega)) ?_
  refine VO.val rfl rfl (OpV.loadK_at rfl hB OutW.no Tryz.isAgg114 Tryz.sizeOf114 rfl rfl) ?_
  refine VO.op rfl (OpE.callF rfl hB rfl hcall rfl rfl (hF _) ?_)
  rintro _ rfl
  refine VO.nil ?_
  refine VC.cond rfl (fun aH2b => ?_) (fun aH2b => ?_)
  ·have aH2 := aH2b
   try simp only [qqT, qqF, qqN, qqM, qqL, qqE] at aH2
   refine VC.sr ?_
   refine VO.mv rfl rfl rfl rfl ?_
   refine VO.ma rfl rfl rfl rfl ?_
   refine VO.nil ?_
   refine VC.ret ?_
   exact Exists.intro _ (And.intro (RetN.one Tryz.results371 (ResN.v rfl)) (by first | (rw [fidx_found (d := default) (q := q) (by omega) hn (by assumption)]) | (rw [fidx_none (d := default) (fun j hj => hn j (by omega))])))
  ·have aH2 := aH2b
   try simp only [qqT, qqF, qqN, qqM, qqL, qqE] at aH2
   refine VC.skip ?_
   refine VC.region ?_
   refine VO.val rfl rfl (OpV.add rfl rfl rfl (by unfold fits; omega)) ?_
   refine VO.mv rfl rfl rfl rfl ?_
   refine VO.nil ?_
   exact Exists.intro (⟨q + 1, by omega, lt_succ_cases hn ((by assumption))⟩) (And.intro (Le.mk hB [] ⟨rfl, rfl, rfl, rfl, trivial⟩ rfl rfl (Nat.le_refl _)) (by first | omega | (show _ < _; omega) | (simp only []; omega)))
 ·have aH1 := aH1b
  try simp only [qqT, qqF, qqN, qqM, qqL, qqE] at aH1
  refine VC.exit ?_
  refine VC.sr ?_
  refine VO.ma rfl rfl rfl rfl ?_
  refine VO.nil ?_
  refine VC.ret ?_
  exact Exists.intro _ (And.intro (RetN.one Tryz.results371 (ResN.v rfl)) (by first | (rw [fidx_found (d := default) (q := q) (by omega) hn (by assumption)]) | (rw [fidx_none (d := default) (fun j hj => hn j (by omega))])))
set_option maxRecDepth 100000 in
theorem slices_ContainsFunc_need {xs : List NeedS} {F : FuncId} {cs : List AV} {p : NeedS → Bool} (hl : xs.length ≤ 1000000000) (hcall : ∀ us w, (callFunc F us).run Tryz.prog w = .ok (.enter F us) w) (hF : ∀ x, Spec Tryz.prog F ([avT x] ++ cs) (fun y => y = avB (p x))) :
  SpecN Tryz.prog 361 [avL xs, .fn F cs] (fun y => y = avB (xs.any p)) := by
 refine SpecN.of_VCN Tryz.func361 rfl Tryz.ntmps361 (Nle rfl) fun w A hB => ?_
 have hnew : True := trivial
 refine VC.sr ?_
 refine VO.ma rfl rfl rfl rfl ?_
 refine VO.nil ?_
 refine VC.sr ?_
 refine VO.mv rfl rfl rfl rfl ?_
 refine VO.mv rfl rfl rfl rfl ?_
 refine VO.op rfl (OpE.call rfl hB rfl Tryz.call371 rfl (SpecN.spec (slices_IndexFunc_need hl hcall hF)) ?_)
 rintro _ rfl
 refine VO.val rfl rfl (OpV.geq rfl rfl rfl) ?_
 refine VO.ma rfl rfl rfl rfl ?_
 refine VO.nil ?_
 refine VC.ret ?_
 exact Exists.intro _ (And.intro (RetN.one Tryz.results361 (ResN.v rfl)) (by rw [← fidx_any]))
set_option maxRecDepth 100000 in
theorem plan_changeover1 {x o : NeedS}  :
  SpecN Tryz.prog 362 [avT o, .at_ 2 (Sxc.cell x)] (fun y => y = avB (sEq o.key x.key)) := by
 refine SpecN.of_VCN Tryz.func362 rfl Tryz.ntmps362 (Nle rfl) fun w A hB => ?_
 have hnew : True := trivial
 refine VC.sr ?_
 refine VO.op rfl (OpE.box rfl hB rfl rfl rfl ?_)
 intro g2
 refine VO.ma rfl rfl rfl rfl ?_
 refine VO.nil ?_
 refine VC.sr ?_
 refine VO.val rfl rfl (OpV.fieldAddrO 0 rfl Tryz.underlying114 rfl rfl Tryz.sizeOf9 rfl) ?_
 refine VO.val rfl rfl (OpV.load_own (i := 0) rfl hB Tryz.isAgg9 rfl rfl rfl (fun h => h)) ?_
 refine VO.val rfl rfl (OpV.fieldAddr_atO 0 rfl Tryz.underlying114 rfl rfl Tryz.sizeOf9 rfl rfl) ?_
 refine VO.val rfl rfl (OpV.load_at rfl hB OutW.no Tryz.isAgg9 rfl rfl) ?_
 refine VO.val rfl rfl (OpV.seql rfl rfl rfl) ?_
 refine VO.ma rfl rfl rfl rfl ?_
 refine VO.nil ?_
 refine VC.ret ?_
 exact Exists.intro _ (And.intro (RetN.one Tryz.results362 (ResN.v rfl)) (rfl))
set_option maxRecDepth 100000 in
set_option maxHeartbeats 4000000 in
theorem plan_changeover {a b : PaceS} {each : Int} (ha : a.needs.length ≤ 1000000) (hb : b.needs.length ≤ 1000000) (he : 0 ≤ each ∧ each ≤ 10000000) :
  SpecN Tryz.prog 336 [avPc a, avPc b, avI each] (fun y => y = avI (chgI a b each)) := by
 refine SpecN.of_VCN Tryz.func336 rfl Tryz.ntmps336 (Nle rfl) fun w A hB => ?_
 have hnew : True := trivial
 refine VC.sr ?_
 refine VO.op rfl (OpE.box rfl hB rfl rfl rfl ?_)
 intro g3
 refine VO.op rfl (OpE.box rfl hB rfl rfl rfl ?_)
 intro g4
 refine VO.ma rfl rfl rfl rfl ?_
 refine VO.nil ?_
 refine VC.sr ?_
 refine VO.ma rfl rfl rfl rfl ?_
 refine VO.nil ?_
 refine VC.seq ?_
 refine VC.sr ?_
 refine VO.val rfl rfl (OpV.fieldAddrO 2 rfl Tryz.underlying194 rfl rfl Tryz.sizeOf110 rfl) ?_
 refine VO.val rfl rfl (OpV.load_own (i := 1) rfl hB Tryz.isAgg110 rfl rfl rfl (fun h => h)) ?_
 refine VO.val rfl rfl (OpV.len_im rfl Tryz.underlying110 rfl) ?_
 refine VO.mv rfl rfl rfl rfl ?_
 refine VO.nil ?_
 refine VC.block ?_
 refine VC.loopK [(2, _), (3, _), (11, _), (12, _)] ⟨rfl, rfl, rfl, rfl, trivial⟩ ({q : Nat // q ≤ b.needs.length}) (fun (iZ : {q : Nat // q ≤ b.needs.length}) => match iZ with | ⟨q, hq⟩ => [(7, avI (each * (chgN a.needs b.needs q : Int))), (13, avI (q : Int))]) (fun (iZ : {q : Nat // q ≤ b.needs.length}) => match iZ with | ⟨q, hq⟩ => [boxPc g3 a 194]) (fun (iZ : {q : Nat // q ≤ b.needs.length}) => match iZ with | ⟨q, hq⟩ => 0) (fun (iZ : {q : Nat // q ≤ b.needs.length}) => match iZ with | ⟨q, hq⟩ => b.needs.length - q) ⟨0, Nat.zero_le _⟩ (Le.mk hB [0] ⟨(by rw [show chgN a.needs b.needs 0 = 0 by simp [chgN]]; simp; rfl), rfl, rfl, rfl, rfl, rfl, trivial⟩ rfl rfl (Nat.le_refl _)) ?_
 rintro ⟨q, hq⟩
 show VC _ _ _ _ ⟨[(7, avI (each * (chgN a.needs b.needs q : Int))), (13, avI (q : Int))] ++ [(2, _), (3, _), (11, _), (12, _)], [boxPc g3 a 194], 0⟩
 have hcn := chgN_le a.needs b.needs q
 have hcm := mul_bd he.1 he.2 (by omega : (0 : Int) ≤ (chgN a.needs b.needs q : Int)) (by omega : _ ≤ (1000000 : Int))
 refine VC.sr ?_
 refine VO.val rfl rfl (OpV.lss rfl rfl rfl) ?_
 refine VO.nil ?_
 refine VC.seq ?_
 refine VC.cond rfl (fun aH1b => ?_) (fun aH1b => ?_)
 ·have aH1 := aH1b
  try simp only [qqT, qqF, qqN, qqM, qqL, qqE] at aH1
  refine VC.skip ?_
  refine VC.seq ?_
  refine VC.block ?_
  refine VC.sr ?_
  refine VO.val rfl rfl (OpV.indexAddr_E rfl Tryz.underlying110 Tryz.sizeOf114 rfl rfl rfl (by omega)) ?_
  refine VO.val rfl rfl (OpV.loadK_at rfl hB OutW.no Tryz.isAgg114 Tryz.sizeOf114 rfl rfl) ?_
  refine VO.op rfl (OpE.alloc rfl hB rfl Tryz.zeroValue114 rfl ?_)
  intro g9
  refine VO.op rfl (OpE.store (i := 1) rfl hB rfl Tryz.sizeOf114 rfl rfl rfl rfl rfl rfl (Nle rfl) trivial ?_)
  refine VO.nil ?_
  refine VC.sr ?_
  refine VO.val rfl rfl (OpV.fieldAddrO 2 rfl Tryz.underlying194 rfl rfl Tryz.sizeOf110 rfl) ?_
  refine VO.val rfl rfl (OpV.load_own (i := 0) rfl hB Tryz.isAgg110 rfl rfl rfl (fun h => h)) ?_
  refine VO.val rfl rfl (OpV.makeFunc1 rfl rfl) ?_
  refine VO.op rfl (OpE.callL rfl hB rfl Tryz.call361 (slices_ContainsFunc_need (p := fun o => sEq o.key (b.needs.getD q default).key) (by omega) Tryz.call362 (fun x => plan_changeover1.spec)) (ArgsP.cons (ArgP.ev rfl) (ArgsP.cons (ArgP.fn1 (i := 1) (m := 2) (f := Sxc.cell (b.needs.getD q default)) rfl rfl (Nle rfl) (lt2 rfl rfl)) (ArgsP.nil))) ?_)
  rintro _ rfl
  refine VO.val rfl rfl (OpV.not rfl rfl) ?_
  refine VO.nil ?_
  refine VC.cond rfl (fun hxb => ?_) (fun hxb => ?_)
  ·have hx := hxb
   try simp only [qqT, qqF, qqN, qqM, qqL, qqE] at hx
   refine VC.region ?_
   refine VO.mv rfl rfl rfl rfl ?_
   refine VO.mv rfl rfl rfl rfl ?_
   refine VO.val rfl rfl (OpV.add rfl rfl rfl (by unfold fits; omega)) ?_
   refine VO.ma rfl rfl rfl rfl ?_
   refine VO.nil ?_
   refine VC.region ?_
   refine VO.val rfl rfl (OpV.add rfl rfl rfl (by unfold fits; omega)) ?_
   refine VO.mv rfl rfl rfl rfl ?_
   refine VO.nil ?_
   exact Exists.intro (⟨q + 1, by omega⟩) (And.intro (Le.mk hB [0] ⟨(by first | (rw [chgN_t (by omega) hx, Int.natCast_add, Int.mul_add, Int.natCast_one, Int.mul_one]; rfl) | (rw [chgN_f (by omega) hx]; rfl)), rfl, rfl, rfl, rfl, rfl, trivial⟩ rfl rfl (Nat.le_refl _)) (by first | omega | (show _ < _; omega) | (simp only []; omega)))
  ·have hx := hxb
   try simp only [qqT, qqF, qqN, qqM, qqL, qqE] at hx
   refine VC.skip ?_
   refine VC.region ?_
   refine VO.val rfl rfl (OpV.add rfl rfl rfl (by unfold fits; omega)) ?_
   refine VO.mv rfl rfl rfl rfl ?_
   refine VO.nil ?_
   exact Exists.intro (⟨q + 1, by omega⟩) (And.intro (Le.mk hB [0] ⟨(by first | (rw [chgN_t (by omega) hx, Int.natCast_add, Int.mul_add, Int.natCast_one, Int.mul_one]; rfl) | (rw [chgN_f (by omega) hx]; rfl)), rfl, rfl, rfl, rfl, rfl, trivial⟩ rfl rfl (Nat.le_refl _)) (by first | omega | (show _ < _; omega) | (simp only []; omega)))
 ·have aH1 := aH1b
  try simp only [qqT, qqF, qqN, qqM, qqL, qqE] at aH1
  refine VC.exit ?_
  refine VC.seq ?_
  have hqe : q = b.needs.length := by omega
  rw [hqe]
  refine VC.region ?_
  refine VO.mv rfl rfl rfl rfl ?_
  refine VO.ma rfl rfl rfl rfl ?_
  refine VO.nil ?_
  refine VC.ret ?_
  exact Exists.intro _ (And.intro (RetN.one Tryz.results336 (ResN.v rfl)) (rfl))
end Go.Proofs.YtdnlhdilpdeecaaGreatDoor
namespace Go.Proofs.YtdnlhdilpdeecaaGreatDoor
open Go.RowKit
set_option linter.unusedVariables false
set_option linter.unusedSimpArgs false
section
variable {P : Program} {B : Bs} {s : St'}
theorem Le.cellRow {i k j g n sz : Nat} {o' : Own'} {u : Value} {cs : List AV} {ty : TypeId} {y : AV} (hB : B.Ok) (hi : s.hp[i]? = some (.box g o')) (hj : o'.cs[j]? = some (.v u)) (hk : s.hp[k]? = some (.row u n sz cs ty)) (hik : i < k) (hy : ∀ w Z u, Rep w Z (.im n sz fun j => cs.getD j .any) u → Rep w Z y u) :
  Le B s ⟨s.sl, (s.hp.eraseIdx k).set i (.box g ⟨o'.cs.set j y, o'.ty, o'.tot⟩), s.k⟩ := fun a w hr => by
 have hr1 := hr.erase k
 have hi1 : (s.hp.eraseIdx k)[i]? = some (.box g o') := by rw [List.getElem?_eraseIdx, if_pos hik]; exact hi
 have hz : ∀ b, Zn B (s.hp.eraseIdx k) w b → Zn B ((s.hp.eraseIdx k).set i (.box g ⟨o'.cs.set j y, o'.ty, o'.tot⟩)) w b := fun b hb => ⟨hb.1, fun p hp hpb => by
  rcases List.mem_or_eq_of_mem_set hp with h | h
  ·exact hb.2.1 p h hpb
  ·subst h; exact hb.2.1 _ (List.mem_of_getElem? hi1) hpb, hb.2.2⟩
 have hz0 : ∀ b, Zn B s.hp w b → Zn B (s.hp.eraseIdx k) w b := fun b hb => ⟨hb.1, fun p hp => hb.2.1 p ((List.eraseIdx_sublist s.hp k).subset hp), hb.2.2⟩
 refine hr1.set hB hi1 (w' := w) (Chg.refl _ w) (.inl rfl) ?_
 obtain ⟨c, h1, h2, h3, h4⟩ := hr1.blocks _ (List.mem_of_getElem? hi1)
 refine ⟨c, h1, h2, by simpa using h3, fun q hq => ?_⟩
 have hq' : q < o'.cs.length := by simpa using hq
 obtain ⟨hjl, hje⟩ := List.getElem?_eq_some_iff.1 hj
 obtain ⟨v, k1, k2⟩ := h4 q hq'
 refine ⟨v, k1, ?_⟩
 rw [List.getElem_set]
 split
 ·rename_i e
  subst e
  rw [hje] at k2
  rw [k2.eq_v]
  exact hy _ _ _ (hr.repRow hk (fun b hb => hz b (hz0 b hb)) fun g' hg hl => hz g' (hr.erased hB hk hg))
 ·exact k2.keep fun b hb _ => ⟨rfl, hz b hb⟩
end
end Go.Proofs.YtdnlhdilpdeecaaGreatDoor
namespace Go.Proofs.YtdnlhdilpdeecaaGreatDoor
open Go.RowKit
set_option linter.unusedVariables false
set_option linter.unusedSimpArgs false
section
variable {α : Type} [Inhabited α] [Sxc α]
theorem rowL_inE {xs : List α} {q k : Nat} (hk : k = Sxc.k α) (h : q < xs.length) : 0 + q * k + k ≤ (rowL xs).length := by
 subst hk
 rw [rowL_len, Nat.zero_add]
 have : (q + 1) * Sxc.k α ≤ xs.length * Sxc.k α := Nat.mul_le_mul_right _ h
 rw [Nat.add_mul] at this; omega
theorem setAll_gt : ∀ (r cs : List AV) (off i : Nat), off + r.length ≤ cs.length → (setAll cs off r)[i]? = if off ≤ i ∧ i < off + r.length then r[i - off]? else cs[i]?
 | [], cs, off, i, h => by simp [setAll]; intro h1 h2; omega
 | x :: r, cs, off, i, h => by
  simp only [List.length_cons] at h
  rw [setAll, setAll_gt r _ (off + 1) i (by simp; omega)]
  by_cases h1 : i = off
  ·subst h1
   rw [if_neg (by omega), if_pos (by simp only [List.length_cons]; omega), Nat.sub_self, List.getElem?_set_self (by omega)]
   rfl
  ·rw [List.getElem?_set_ne (by omega)]
   by_cases h2 : off ≤ i ∧ i < off + (r.length + 1)
   ·rw [if_pos (by omega), if_pos (by simpa using h2), show i - off = (i - (off + 1)) + 1 by omega, List.getElem?_cons_succ]
   ·rw [if_neg (by omega), if_neg (by simpa using h2)]
theorem rowL_get' (xs : List α) {i : Nat} (hi : i < xs.length * Sxc.k α) : (rowL xs)[i]? = some (Sxc.cell (xs.getD (i / Sxc.k α) default) (i % Sxc.k α)) := by
 have hp := Sxc.pos (α := α)
 have h1 : i / Sxc.k α < xs.length := Nat.div_lt_of_lt_mul (by rw [Nat.mul_comm]; exact hi)
 have h2 := rowL_get xs (i / Sxc.k α) (i % Sxc.k α) h1 (Nat.mod_lt _ hp)
 rw [Nat.mul_comm, Nat.div_add_mod] at h2
 exact h2
theorem rowL_setAll {xs : List α} {q k : Nat} {x : α} (hk : k = Sxc.k α) (h : q < xs.length) : setAll (rowL xs) (0 + q * k) (tab (Sxc.k α) (Sxc.cell x)) = rowL (xs.set q x) := by
 subst hk
 have hp := Sxc.pos (α := α)
 have hle : 0 + q * Sxc.k α + Sxc.k α ≤ xs.length * Sxc.k α := by
  have : (q + 1) * Sxc.k α ≤ xs.length * Sxc.k α := Nat.mul_le_mul_right _ h
  rw [Nat.add_mul] at this; omega
 apply List.ext_getElem?
 intro i
 rw [setAll_gt _ _ _ _ (by rw [tab_len, rowL_len]; exact hle), tab_len]
 by_cases hi : i < xs.length * Sxc.k α
 ·rw [rowL_get' (xs.set q x) (by rw [List.length_set]; exact hi)]
  by_cases hr : 0 + q * Sxc.k α ≤ i ∧ i < 0 + q * Sxc.k α + Sxc.k α
  ·rw [if_pos hr]
   have e1 : i / Sxc.k α = q := Nat.div_eq_of_lt_le (by omega) (by rw [Nat.add_mul]; omega)
   have e2 : i % Sxc.k α = i - (0 + q * Sxc.k α) := by
    have := Nat.div_add_mod i (Sxc.k α); rw [e1, Nat.mul_comm] at this; omega
   rw [e1, e2, List.getElem?_eq_getElem (by rw [tab_len]; omega), tab_get]
   simp [List.getD_eq_getElem?_getD, h]
  ·rw [if_neg hr, rowL_get' xs hi]
   have e1 : i / Sxc.k α ≠ q := fun e => by
    have h1 := Nat.div_add_mod i (Sxc.k α)
    have h2 := Nat.mod_lt i hp
    rw [e, Nat.mul_comm] at h1
    exact hr ⟨by omega, by omega⟩
   simp [List.getD_eq_getElem?_getD, List.getElem?_set_ne (Ne.symm e1)]
 ·rw [if_neg (by omega), List.getElem?_eq_none (by rw [rowL_len]; omega), List.getElem?_eq_none (by rw [rowL_len, List.length_set]; omega)]
end
section
variable {P : Program} {B : Bs} {W : Nat → Prop} {s : St'} {o : Oper} {K : St' → Prop}
theorem OpE.storeE {x y : Operand} {t g j i k : Nat} {o' : Own'} {v : AV} {cs' : List AV} (ho : o.op = .store t x y) (hB : B.Ok) (hd : okd B.nt o.dst = true) (hsz : ∀ w, (sizeOf t).run P w = .ok k w) (hx : evO s x = some (.v (.pointer (some ⟨g, j, none⟩)))) (hy : evO s y = some v)
  (hk : v.known = true) (hl : (cellsOf v).length = k) (hone : (cellsOf v).all AV.one = true) (hi : s.hp[i]? = some (.box g o')) (hj : j + k ≤ o'.cs.length) (hcs : setAll o'.cs j (cellsOf v) = cs') (hW : W g)
  (hK : K ((St'.mk s.sl (s.hp.set i (.box g ⟨cs', o'.ty, o'.tot⟩)) s.k).put o.dst (.v undef))) : OpE P B W s o K := by
 subst hcs
 exact OpE.store ho hB hd hsz hx hy hk hl hone hi hj hW hK
end
end Go.Proofs.YtdnlhdilpdeecaaGreatDoor
namespace Go.Proofs.YtdnlhdilpdeecaaGreatDoor
open Go.RowKit
set_option linter.unusedVariables false
set_option linter.unusedSimpArgs false
abbrev boxSch (g : Nat) (o : List OrdrS) (b1 : Option Addr) (q c1 : Nat) (b2 : Option Addr) (c2 : Nat) (ty : TypeId) : Ent := .box g ⟨[avL o, .v (.slice b1 q c1), .v (.slice b2 q c2)], ty, 3⟩
set_option maxRecDepth 100000 in
set_option maxHeartbeats 8000000 in
theorem plan_newScheduler {p : List PaceS} {o : List OrdrS} {each : Int} (hp : SmPc p) (hpok : PacesOk p) (hook : OrdrsB o) (hhas : ∀ j, j < o.length → hasP p (o.getD j default).product = true) (he : 0 ≤ each ∧ each ≤ 10000000) :
  Spec Tryz.prog 291 [avL p, avL o, avI each] (fun y => y = .at_ 3 (schC p o each)) := by
 refine Spec.of_VC Tryz.func291 rfl Tryz.ntmps291 (Nle rfl) fun w A hB => ?_
 have hnew : True := trivial
 refine VC.seq ?_
 have hl := hp.len
 have hl2 := hook.len
 refine VC.region ?_
 refine VO.ma rfl rfl rfl rfl ?_
 refine VO.nil ?_
 refine VC.sr ?_
 refine VO.mv rfl rfl rfl rfl ?_
 refine VO.val rfl rfl (OpV.build (pls := #[(0, 1), (1, 1), (2, 1)]) rfl Tryz.zeroValue319 Tryz.underlying319 (fun w => by kernel_rfl) rfl rfl) ?_
 refine VO.op rfl (OpE.box rfl hB rfl rfl rfl ?_)
 intro g19
 refine VO.ma rfl rfl rfl rfl ?_
 refine VO.nil ?_
 refine VC.seq ?_
 refine VC.seq ?_
 refine VC.le _ (Le.nilRow 1 3) ?_
 refine VC.le _ (Le.nilRow 1 22) ?_
 refine VC.region ?_
 refine VO.mv rfl rfl rfl rfl ?_
 refine VO.val rfl rfl (OpV.len_im rfl Tryz.underlying95 rfl) ?_
 refine VO.mv rfl rfl rfl rfl ?_
 refine VO.nil ?_
 refine VC.block ?_
 refine VC.loopK [(0, _), (1, _), (2, _), (7, _), (20, _), (21, _)] ⟨rfl, rfl, rfl, rfl, rfl, rfl, trivial⟩ ({z : (Option Addr × Nat) × (Option Addr × Nat) × Nat // z.2.2 ≤ o.length}) (fun (iZ : {z : (Option Addr × Nat) × (Option Addr × Nat) × Nat // z.2.2 ≤ o.length}) => match iZ with | ⟨⟨⟨b1, c1⟩, ⟨b2, c2⟩, q⟩, hq⟩ => [(22, avI (q : Int))]) (fun (iZ : {z : (Option Addr × Nat) × (Option Addr × Nat) × Nat // z.2.2 ≤ o.length}) => match iZ with | ⟨⟨⟨b1, c1⟩, ⟨b2, c2⟩, q⟩, hq⟩ => [boxSch g19 o b1 q c1 b2 c2 319, .row (.slice b1 q c1) q 1 (intsL ((o.take q).map (longO p))) 3, .row (.slice b2 q c2) q 1 (listM ((o.take q).map fun x => o.map (turnO p each x))) 22]) (fun (iZ : {z : (Option Addr × Nat) × (Option Addr × Nat) × Nat // z.2.2 ≤ o.length}) => match iZ with | ⟨⟨⟨b1, c1⟩, ⟨b2, c2⟩, q⟩, hq⟩ => 0) (fun (iZ : {z : (Option Addr × Nat) × (Option Addr × Nat) × Nat // z.2.2 ≤ o.length}) => match iZ with | ⟨⟨⟨b1, c1⟩, ⟨b2, c2⟩, q⟩, hq⟩ => o.length - q) ⟨((none, 0), (none, 0), 0), Nat.zero_le _⟩ (Le.mk hB [0, 1, 2] ⟨rfl, rfl, rfl, rfl, rfl, rfl, rfl, trivial⟩ rfl rfl (Nat.le_refl _)) ?_
 rintro ⟨⟨⟨b1, c1⟩, ⟨b2, c2⟩, q⟩, hq⟩
 show VC _ _ _ _ ⟨[(22, avI (q : Int))] ++ [(0, _), (1, _), (2, _), (7, _), (20, _), (21, _)], [boxSch g19 o b1 q c1 b2 c2 319, .row (.slice b1 q c1) q 1 (intsL ((o.take q).map (longO p))) 3, .row (.slice b2 q c2) q 1 (listM ((o.take q).map fun x => o.map (turnO p each x))) 22], 0⟩
 simp only at hq
 refine VC.sr ?_
 refine VO.val rfl rfl (OpV.lss rfl rfl rfl) ?_
 refine VO.nil ?_
 refine VC.seq ?_
 refine VC.cond rfl (fun aH1b => ?_) (fun aH1b => ?_)
 ·have aH1 := aH1b
  try simp only [qqT, qqF, qqN, qqM, qqL, qqE] at aH1
  refine VC.skip ?_
  refine VC.seq ?_
  refine VC.block ?_
  refine VC.sr ?_
  refine VO.val rfl rfl (OpV.indexAddr_E rfl Tryz.underlying95 Tryz.sizeOf104 rfl rfl rfl (by omega)) ?_
  refine VO.val rfl rfl (OpV.loadK_at rfl hB OutW.no Tryz.isAgg104 Tryz.sizeOf104 rfl rfl) ?_
  refine VO.op rfl (OpE.alloc rfl hB rfl Tryz.zeroValue104 rfl ?_)
  intro g9
  refine VO.op rfl (OpE.store (i := 3) rfl hB rfl Tryz.sizeOf104 rfl rfl rfl rfl rfl rfl (Nle rfl) trivial ?_)
  refine VO.nil ?_
  refine VC.seq ?_
  have hoq := hook.all q (by omega)
  have hpq := paceO_ok hpok (hhas q (by omega))
  have hlq := mul_bd (by omega : 0 ≤ (paceO p (o.getD q default).product).cycle) hpq.1.2 (by omega : 0 ≤ (o.getD q default).count) hoq.1.2
  refine VC.region ?_
  refine VO.mv rfl rfl rfl rfl ?_
  refine VO.val rfl rfl (OpV.fieldAddrO 1 rfl Tryz.underlying104 rfl rfl Tryz.sizeOf9 rfl) ?_
  refine VO.val rfl rfl (OpV.load_own (i := 3) rfl hB Tryz.isAgg9 rfl rfl rfl (fun h => h)) ?_
  refine VO.op rfl (OpE.call rfl hB rfl Tryz.call335 rfl (plan_paceOf (k := (o.getD q default).product) (by omega) (pace_rise hpok)) ?_)
  rintro _ rfl
  refine VO.mv rfl rfl rfl rfl ?_
  refine VO.val rfl rfl (OpV.extract rfl rfl rfl) ?_
  refine VO.val rfl rfl (OpV.extract rfl rfl rfl) ?_
  refine VO.op rfl (OpE.alloc rfl hB rfl Tryz.zeroValue194 rfl ?_)
  intro g10
  refine VO.op rfl (OpE.store (i := 4) rfl hB rfl Tryz.sizeOf194 rfl rfl rfl rfl rfl rfl (Nle rfl) trivial ?_)
  refine VO.ma rfl rfl rfl rfl ?_
  refine VO.nil ?_
  refine VC.seq ?_
  refine VC.draw (fun j b => (j = 14 ∧ b = g19) ∨ (j = 11 ∧ (b ≠ g10 ∧ b ≠ g9))) hB (by kernel_rfl) ?_
  refine VA.take (i := 0) rfl (by kernel_rfl) (by kernel_rfl) (by kernel_rfl) rfl rfl (OpV.move (.inl rfl) rfl) ?_
  refine VA.take (i := 1) rfl (by kernel_rfl) (by kernel_rfl) (by kernel_rfl) rfl rfl (OpV.move (.inl rfl) rfl) ?_
  refine VA.take (i := 2) rfl (by kernel_rfl) (by kernel_rfl) (by kernel_rfl) rfl rfl (OpV.nilCheck rfl rfl) ?_
  refine VA.take (i := 3) rfl (by kernel_rfl) (by kernel_rfl) (by kernel_rfl) rfl rfl (OpV.fieldAddrO 1 rfl Tryz.underlying319 rfl rfl Tryz.sizeOf22 rfl) ?_
  refine VA.take (i := 4) rfl (by kernel_rfl) (by kernel_rfl) (by kernel_rfl) rfl rfl (OpV.load_own (i := 0) rfl hB Tryz.isAgg22 rfl rfl rfl (Wi.not2 (by kernel_rfl) (by kernel_rfl))) ?_
  refine VA.take (i := 5) rfl (by kernel_rfl) (by kernel_rfl) (by kernel_rfl) rfl rfl (OpV.fieldAddrO 1 rfl Tryz.underlying194 rfl rfl Tryz.sizeOf3 rfl) ?_
  refine VA.take (i := 6) rfl (by kernel_rfl) (by kernel_rfl) (by kernel_rfl) rfl rfl (OpV.load_own (i := 4) rfl hB Tryz.isAgg3 rfl rfl rfl (Wi.notN2 (by kernel_rfl) (fun h => h.1 rfl))) ?_
  refine VA.take (i := 7) rfl (by kernel_rfl) (by kernel_rfl) (by kernel_rfl) rfl rfl (OpV.fieldAddrO 2 rfl Tryz.underlying104 rfl rfl Tryz.sizeOf3 rfl) ?_
  refine VA.take (i := 8) rfl (by kernel_rfl) (by kernel_rfl) (by kernel_rfl) rfl rfl (OpV.load_own (i := 3) rfl hB Tryz.isAgg3 rfl rfl rfl (Wi.notN2 (by kernel_rfl) (fun h => h.2 rfl))) ?_
  refine VA.take (i := 9) rfl (by kernel_rfl) (by kernel_rfl) (by kernel_rfl) rfl rfl (OpV.mul rfl rfl rfl (by unfold fits; omega)) ?_
  refine VA.all (rs := [10]) (by kernel_rfl) (by decide) ?_
  refine ⟨⟨_, rfl, .inl rfl, ?_⟩, trivial⟩
  refine OpE.buildSlice (zc := #[.int .i64 0]) rfl hB rfl Tryz.underlying22 Tryz.sizeOf3 Tryz.zeroValue3 (by decide) (by decide) (by kernel_rfl) rfl rfl ?_
  refine VA.all (rs := [11]) (by kernel_rfl) (by decide) ?_
  refine ⟨⟨_, rfl, .inl rfl, ?_⟩, trivial⟩
  refine OpE.hap (fun hap => ?_)
  refine OpE.append1S (i := 1) rfl hB rfl Tryz.underlying22 (infoOf Tryz.t3 1 (by kernel_rfl) rfl rfl) rfl (by decide) (by decide) rfl rfl rfl rfl (intsL_snoc _ _) (by omega) (fun g' hg => .inr ⟨rfl, apart_ne hap (i := 1) (j := 4) hg rfl (by decide), apart_ne hap (i := 1) (j := 3) hg rfl (by decide)⟩) ?_
  intro b44 c44
  refine VA.take (i := 12) rfl (by kernel_rfl) (by kernel_rfl) (by kernel_rfl) rfl rfl (OpV.nilCheck rfl rfl) ?_
  refine VA.take (i := 13) rfl (by kernel_rfl) (by kernel_rfl) (by kernel_rfl) rfl rfl (OpV.fieldAddrO 1 rfl Tryz.underlying319 rfl rfl Tryz.sizeOf22 rfl) ?_
  refine VA.all (rs := [14]) (by kernel_rfl) (by decide) ?_
  refine ⟨⟨_, rfl, .inl rfl, ?_⟩, trivial⟩
  refine OpE.hap (fun hap => ?_)
  refine OpE.store (i := 0) rfl hB rfl Tryz.sizeOf22 rfl rfl rfl rfl rfl rfl (Nle rfl) (by first | exact .inl ⟨rfl, rfl⟩ | (refine ⟨by first | exact rfl | exact .inl rfl | exact .inr rfl, ?_⟩; repeat (first | (first | exact apart_ne hap (i := 4) (j := 0) rfl rfl (by decide) | exact apart_ne hap (i := 4) (j := 1) rfl rfl (by decide) | exact apart_ne hap (i := 4) (j := 2) rfl rfl (by decide) | exact apart_ne hap (i := 4) (j := 3) rfl rfl (by decide) | exact apart_ne hap (i := 3) (j := 0) rfl rfl (by decide) | exact apart_ne hap (i := 3) (j := 1) rfl rfl (by decide) | exact apart_ne hap (i := 3) (j := 2) rfl rfl (by decide) | exact apart_ne hap (i := 3) (j := 4) rfl rfl (by decide) | exact apart_ne hap (i := 2) (j := 0) rfl rfl (by decide) | exact apart_ne hap (i := 2) (j := 1) rfl rfl (by decide) | exact apart_ne hap (i := 2) (j := 3) rfl rfl (by decide) | exact apart_ne hap (i := 2) (j := 4) rfl rfl (by decide) | exact apart_ne hap (i := 1) (j := 0) rfl rfl (by decide) | exact apart_ne hap (i := 1) (j := 2) rfl rfl (by decide) | exact apart_ne hap (i := 1) (j := 3) rfl rfl (by decide) | exact apart_ne hap (i := 1) (j := 4) rfl rfl (by decide) | exact apart_ne hap (i := 0) (j := 1) rfl rfl (by decide) | exact apart_ne hap (i := 0) (j := 2) rfl rfl (by decide) | exact apart_ne hap (i := 0) (j := 3) rfl rfl (by decide) | exact apart_ne hap (i := 0) (j := 4) rfl rfl (by decide)) | refine And.intro ?_ ?_))) ?_
  refine VA.done (by kernel_rfl) ?_
  refine VC.sr ?_
  refine VO.ma rfl rfl rfl rfl ?_
  refine VO.nil ?_
  refine VC.seq ?_
  refine VC.sr ?_
  refine VO.mv rfl rfl rfl rfl ?_
  refine VO.val rfl rfl (OpV.len_im rfl Tryz.underlying95 rfl) ?_
  refine VO.mv rfl rfl rfl rfl ?_
  refine VO.nil ?_
  refine VC.block ?_
  refine VC.le _ (Le.nilRow 1 3) ?_
  refine VC.loopK [(0, _), (1, _), (2, _), (7, _), (10, _), (20, _), (21, _), (22, _), (47, _), (48, _)] ⟨rfl, rfl, rfl, rfl, rfl, rfl, rfl, rfl, rfl, rfl, trivial⟩ ({z : Value × Nat // z.2 ≤ o.length}) (fun (iZ : {z : Value × Nat // z.2 ≤ o.length}) => match iZ with | ⟨⟨u, r⟩, hr⟩ => [(12, .v u), (49, avI (r : Int))]) (fun (iZ : {z : Value × Nat // z.2 ≤ o.length}) => match iZ with | ⟨⟨u, r⟩, hr⟩ => [.box g19 ⟨[avL o, .v (.slice b44 (q + 1) c44), .v (.slice b2 q c2)], 319, 3⟩, .row (.slice b44 (q + 1) c44) (q + 1) 1 (intsL ((o.take q).map (longO p) ++ [longO p (o.getD q default)])) 3, .row (.slice b2 q c2) q 1 (listM ((o.take q).map fun x => o.map (turnO p each x))) 22, boxPc g10 (paceO p (o.getD q default).product) 194, .row u r 1 (intsL ((o.take r).map (turnO p each (o.getD q default)))) 3]) (fun (iZ : {z : Value × Nat // z.2 ≤ o.length}) => match iZ with | ⟨⟨u, r⟩, hr⟩ => 0) (fun (iZ : {z : Value × Nat // z.2 ≤ o.length}) => match iZ with | ⟨⟨u, r⟩, hr⟩ => o.length - r) ⟨(.slice none 0 0, 0), Nat.zero_le _⟩ (Le.mk hB [0, 1, 2, 4, 5] ⟨rfl, rfl, rfl, rfl, rfl, rfl, rfl, rfl, rfl, rfl, rfl, rfl, trivial⟩ rfl rfl (Nat.le_refl _)) ?_
  rintro ⟨⟨u, r⟩, hr⟩
  show VC _ _ _ _ ⟨[(12, .v u), (49, avI (r : Int))] ++ [(0, _), (1, _), (2, _), (7, _), (10, _), (20, _), (21, _), (22, _), (47, _), (48, _)], [.box g19 ⟨[avL o, .v (.slice b44 (q + 1) c44), .v (.slice b2 q c2)], 319, 3⟩, .row (.slice b44 (q + 1) c44) (q + 1) 1 (intsL ((o.take q).map (longO p) ++ [longO p (o.getD q default)])) 3, .row (.slice b2 q c2) q 1 (listM ((o.take q).map fun x => o.map (turnO p each x))) 22, boxPc g10 (paceO p (o.getD q default).product) 194, .row u r 1 (intsL ((o.take r).map (turnO p each (o.getD q default)))) 3], 0⟩
  simp only at hr
  refine VC.sr ?_
  refine VO.val rfl rfl (OpV.lss rfl rfl rfl) ?_
  refine VO.nil ?_
  refine VC.seq ?_
  refine VC.cond rfl (fun aH2b => ?_) (fun aH2b => ?_)
  ·have aH2 := aH2b
   try simp only [qqT, qqF, qqN, qqM, qqL, qqE] at aH2
   refine VC.skip ?_
   refine VC.seq ?_
   refine VC.block ?_
   refine VC.sr ?_
   refine VO.val rfl rfl (OpV.indexAddr_E rfl Tryz.underlying95 Tryz.sizeOf104 rfl rfl rfl (by omega)) ?_
   refine VO.val rfl rfl (OpV.loadK_at rfl hB OutW.no Tryz.isAgg104 Tryz.sizeOf104 rfl rfl) ?_
   refine VO.op rfl (OpE.alloc rfl hB rfl Tryz.zeroValue104 rfl ?_)
   intro g14
   refine VO.op rfl (OpE.store (i := 5) rfl hB rfl Tryz.sizeOf104 rfl rfl rfl rfl rfl rfl (Nle rfl) trivial ?_)
   refine VO.nil ?_
   refine VC.sr ?_
   refine VO.mv rfl rfl rfl rfl ?_
   refine VO.val rfl rfl (OpV.fieldAddrO 1 rfl Tryz.underlying104 rfl rfl Tryz.sizeOf9 rfl) ?_
   refine VO.val rfl rfl (OpV.load_own (i := 5) rfl hB Tryz.isAgg9 rfl rfl rfl (fun h => h)) ?_
   refine VO.op rfl (OpE.call rfl hB rfl Tryz.call335 rfl (plan_paceOf (k := (o.getD r default).product) (by omega) (pace_rise hpok)) ?_)
   rintro _ rfl
   refine VO.mv rfl rfl rfl rfl ?_
   refine VO.val rfl rfl (OpV.extract rfl rfl rfl) ?_
   refine VO.val rfl rfl (OpV.extract rfl rfl rfl) ?_
   refine VO.op rfl (OpE.alloc rfl hB rfl Tryz.zeroValue194 rfl ?_)
   intro g15
   refine VO.op rfl (OpE.store (i := 6) rfl hB rfl Tryz.sizeOf194 rfl rfl rfl rfl rfl rfl (Nle rfl) trivial ?_)
   refine VO.ma rfl rfl rfl rfl ?_
   refine VO.nil ?_
   refine VC.region ?_
   refine VO.mv rfl rfl rfl rfl ?_
   refine VO.val rfl rfl (OpV.loadK_own (i := 3) rfl hB Tryz.isAgg194 Tryz.sizeOf194 rfl rfl rfl (fun h => h)) ?_
   refine VO.val rfl rfl (OpV.loadK_own (i := 6) rfl hB Tryz.isAgg194 Tryz.sizeOf194 rfl rfl rfl (fun h => h)) ?_
   refine VO.mv rfl rfl rfl rfl ?_
   refine VO.op rfl (OpE.call rfl hB rfl Tryz.call336 rfl (SpecN.spec (plan_changeover (a := paceO p (o.getD q default).product) (b := paceO p (o.getD r default).product) (paceO_sm hp _).1 (paceO_sm hp _).1 he)) ?_)
   rintro _ rfl
   refine VO.op rfl (OpE.buildSlice (zc := #[.int .i64 0]) rfl hB rfl Tryz.underlying22 Tryz.sizeOf3 Tryz.zeroValue3 (by decide) (by decide) (by kernel_rfl) rfl rfl ?_)
   refine VO.op rfl (OpE.append1 (i := 4) rfl hB rfl Tryz.underlying22 (infoOf Tryz.t3 1 (by kernel_rfl) rfl rfl) rfl (by decide) (by decide) rfl rfl rfl rfl (intsL_snoc _ _) (by omega) (fun _ _ => trivial) ?_)
   intro u66
   refine VO.ma rfl rfl rfl rfl ?_
   refine VO.nil ?_
   refine VC.region ?_
   refine VO.val rfl rfl (OpV.add rfl rfl rfl (by unfold fits; omega)) ?_
   refine VO.mv rfl rfl rfl rfl ?_
   refine VO.nil ?_
   exact Exists.intro (⟨(u66, r + 1), by show r + 1 ≤ _; omega⟩) (And.intro (Le.mk hB [0, 1, 2, 3, 4] ⟨rfl, rfl, rfl, rfl, rfl, rfl, rfl, rfl, rfl, rfl, rfl, rfl, trivial⟩ rfl (by dsimp only; rw [map_snoc (turnO p each (o.getD q default)) (show r < o.length by omega) default]; rfl) (Nat.le_refl _)) (by first | omega | (show _ < _; omega) | (simp only []; omega)))
  ·have aH2 := aH2b
   try simp only [qqT, qqF, qqN, qqM, qqL, qqE] at aH2
   refine VC.exit ?_
   have hre : o.take r = o := List.take_of_length_le (by omega)
   have hro : r = o.length := by omega
   rw [hre]
   refine VC.le _ (Le.rowI (t := 12) (i := 4) hB hnew rfl rfl (by rw [List.length_map]; exact hro)) ?_
   refine VC.region ?_
   refine VO.mv rfl rfl rfl rfl ?_
   refine VO.mv rfl rfl rfl rfl ?_
   refine VO.val rfl rfl (OpV.nilCheck rfl rfl) ?_
   refine VO.val rfl rfl (OpV.fieldAddrO 2 rfl Tryz.underlying319 rfl rfl Tryz.sizeOf35 rfl) ?_
   refine VO.val rfl rfl (OpV.load_own (i := 0) rfl hB Tryz.isAgg35 rfl rfl rfl (fun h => h)) ?_
   refine VO.mv rfl rfl rfl rfl ?_
   refine VO.op rfl (OpE.buildSlice (zc := #[.slice none 0 0]) rfl hB rfl Tryz.underlying35 Tryz.sizeOf22 Tryz.zeroValue22 (by decide) (by decide) (by kernel_rfl) rfl rfl ?_)
   refine VO.op rfl (OpE.append1S (i := 2) rfl hB rfl Tryz.underlying35 (infoOf Tryz.t22 1 (by kernel_rfl) rfl rfl) rfl (by decide) (by decide) rfl rfl rfl rfl (listM_snoc _ (o.map (turnO p each (o.getD q default)))) (by omega) (fun _ _ => trivial) ?_)
   intro b75 c75
   refine VO.val rfl rfl (OpV.nilCheck rfl rfl) ?_
   refine VO.val rfl rfl (OpV.fieldAddrO 2 rfl Tryz.underlying319 rfl rfl Tryz.sizeOf35 rfl) ?_
   refine VO.op rfl (OpE.store (i := 0) rfl hB rfl Tryz.sizeOf35 rfl rfl rfl rfl rfl rfl (Nle rfl) trivial ?_)
   refine VO.nil ?_
   refine VC.region ?_
   refine VO.val rfl rfl (OpV.add rfl rfl rfl (by unfold fits; omega)) ?_
   refine VO.mv rfl rfl rfl rfl ?_
   refine VO.nil ?_
   exact Exists.intro (⟨((b44, c44), (b75, c75), q + 1), by show q + 1 ≤ _; omega⟩) (And.intro (Le.mk hB [0, 1, 2] ⟨rfl, rfl, rfl, rfl, rfl, rfl, rfl, trivial⟩ rfl (by dsimp only; rw [map_snoc (longO p) (show q < o.length by omega) default, map_snoc (fun x => o.map (turnO p each x)) (show q < o.length by omega) default]; rfl) (Nat.le_refl _)) (by first | omega | (show _ < _; omega) | (simp only []; omega)))
 ·have aH1 := aH1b
  try simp only [qqT, qqF, qqN, qqM, qqL, qqE] at aH1
  refine VC.exit ?_
  refine VC.seq ?_
  have hqe : o.take q = o := List.take_of_length_le (by omega)
  have hqo : q = o.length := by omega
  rw [hqe]
  refine VC.le _ (Le.cellRow (i := 0) (k := 1) (j := 1) (y := avInts (o.map (longO p))) hB rfl rfl rfl (by omega) (fun w Z u h => Rep.ints (by rw [List.length_map]; exact hqo) h)) ?_
  refine VC.le _ (Le.cellRow (i := 0) (k := 1) (j := 2) (y := avM (o.map fun x => o.map (turnO p each x))) hB rfl rfl rfl (by omega) (fun w Z u h => Rep.listM (by rw [List.length_map]; exact hqo) h)) ?_
  refine VC.le _ (Le.freezeAt (t := 7) (i := 0) (m := 3) (f := schC p o each) rfl rfl (Nle rfl) (fun w Z u h => h.at_congr (g := schC p o each) (fun j hj => by rcases j with _ | _ | _ | j <;> first | rfl | omega)) hnew hB) ?_
  refine VC.region ?_
  refine VO.mv rfl rfl rfl rfl ?_
  refine VO.ma rfl rfl rfl rfl ?_
  refine VO.nil ?_
  refine VC.ret ?_
  exact Exists.intro _ (And.intro (RetV.one Tryz.results291 (ResV.tmp rfl)) (rfl))
set_option maxRecDepth 100000 in
theorem plan_scheduled {p : List PaceS} {o : List OrdrS} {l : List Int} {start each : Int} (hp : SmPc p) (ho : SmOr o) (hl : l.length ≤ 1000000) :
  Spec Tryz.prog 223 [avL p, avL o, avInts l, avI start, avI each] (fun y => y = .tup [schAV p o l start each, avI (scheF p o l start each)]) := by
 refine Spec.of_VC Tryz.func223 rfl Tryz.ntmps223 (Nle rfl) fun w A hB => ?_
 have hnew : True := trivial
 refine VC.sr ?_
 refine VO.ma rfl rfl rfl rfl ?_
 refine VO.ma rfl rfl rfl rfl ?_
 refine VO.nil ?_
 refine VC.seq ?_
 refine VC.sr ?_
 refine VO.mv rfl rfl rfl rfl ?_
 refine VO.mv rfl rfl rfl rfl ?_
 refine VO.op rfl (OpE.call rfl hB rfl Tryz.call288 rfl (SpecN.spec (plan_fault hp ho)) ?_)
 rintro _ rfl
 refine VO.ma rfl rfl rfl rfl ?_
 refine VO.nil ?_
 refine VC.sr ?_
 refine VO.mv rfl rfl rfl rfl ?_
 refine VO.val rfl rfl (OpV.neq rfl rfl rfl) ?_
 refine VO.nil ?_
 refine VC.cond rfl (fun h0b => ?_) (fun h0b => ?_)
 ·have h0 := h0b
  try simp only [qqT, qqF, qqN, qqM, qqL, qqE] at h0
  refine VC.sr ?_
  refine VO.mv rfl rfl rfl rfl ?_
  refine VO.ma rfl rfl rfl rfl ?_
  refine VO.ma rfl rfl rfl rfl ?_
  refine VO.nil ?_
  refine VC.ret ?_
  exact Exists.intro _ (And.intro (RetV.two Tryz.results223 (ResV.tmp rfl) (ResV.tmp rfl)) (by rw [schAV_no (by rw [scheF_1 h0]; exact h0), scheF_1 h0]))
 ·have h0 := h0b
  try simp only [qqT, qqF, qqN, qqM, qqL, qqE] at h0
  refine VC.skip ?_
  refine VC.seq ?_
  refine VC.sr ?_
  refine VO.mv rfl rfl rfl rfl ?_
  refine VO.mv rfl rfl rfl rfl ?_
  refine VO.op rfl (OpE.call rfl hB rfl Tryz.call289 rfl (SpecN.spec (plan_scheduleFault ho.len hl)) ?_)
  rintro _ rfl
  refine VO.ma rfl rfl rfl rfl ?_
  refine VO.nil ?_
  refine VC.sr ?_
  refine VO.mv rfl rfl rfl rfl ?_
  refine VO.val rfl rfl (OpV.neq rfl rfl rfl) ?_
  refine VO.nil ?_
  refine VC.cond rfl (fun h1b => ?_) (fun h1b => ?_)
  ·have h1 := h1b
   try simp only [qqT, qqF, qqN, qqM, qqL, qqE] at h1
   refine VC.sr ?_
   refine VO.mv rfl rfl rfl rfl ?_
   refine VO.ma rfl rfl rfl rfl ?_
   refine VO.ma rfl rfl rfl rfl ?_
   refine VO.nil ?_
   refine VC.ret ?_
   exact Exists.intro _ (And.intro (RetV.two Tryz.results223 (ResV.tmp rfl) (ResV.tmp rfl)) (by rw [schAV_no (by rw [scheF_2 (by omega) h1]; exact h1), scheF_2 (by omega) h1]))
  ·have h1 := h1b
   try simp only [qqT, qqF, qqN, qqM, qqL, qqE] at h1
   refine VC.skip ?_
   refine VC.seq ?_
   refine VC.sr ?_
   refine VO.mv rfl rfl rfl rfl ?_
   refine VO.mv rfl rfl rfl rfl ?_
   refine VO.op rfl (OpE.call rfl hB rfl Tryz.call290 rfl (SpecN.spec (plan_numbersFault)) ?_)
   rintro _ rfl
   refine VO.ma rfl rfl rfl rfl ?_
   refine VO.nil ?_
   refine VC.sr ?_
   refine VO.mv rfl rfl rfl rfl ?_
   refine VO.val rfl rfl (OpV.neq rfl rfl rfl) ?_
   refine VO.nil ?_
   refine VC.cond rfl (fun h2b => ?_) (fun h2b => ?_)
   ·have h2 := h2b
    try simp only [qqT, qqF, qqN, qqM, qqL, qqE] at h2
    refine VC.sr ?_
    refine VO.mv rfl rfl rfl rfl ?_
    refine VO.ma rfl rfl rfl rfl ?_
    refine VO.ma rfl rfl rfl rfl ?_
    refine VO.nil ?_
    refine VC.ret ?_
    exact Exists.intro _ (And.intro (RetV.two Tryz.results223 (ResV.tmp rfl) (ResV.tmp rfl)) (by rw [schAV_no (by rw [scheF_3 (by omega) (by omega)]; exact h2), scheF_3 (by omega) (by omega)]))
   ·have h2 := h2b
    try simp only [qqT, qqF, qqN, qqM, qqL, qqE] at h2
    have hz : scheF p o l start each = 0 := by rw [scheF_3 (by omega) (by omega)]; omega
    have hk := schOk hz
    refine VC.skip ?_
    refine VC.sr ?_
    refine VO.mv rfl rfl rfl rfl ?_
    refine VO.mv rfl rfl rfl rfl ?_
    refine VO.mv rfl rfl rfl rfl ?_
    refine VO.op rfl (OpE.call rfl hB rfl Tryz.call291 rfl (plan_newScheduler hp hk.pok hk.ook hk.has hk.ea) ?_)
    rintro _ rfl
    refine VO.ma rfl rfl rfl rfl ?_
    refine VO.ma rfl rfl rfl rfl ?_
    refine VO.nil ?_
    refine VC.ret ?_
    exact Exists.intro _ (And.intro (RetV.two Tryz.results223 (ResV.tmp rfl) (ResV.tmp rfl)) (by rw [schAV_ok hz, hz]))
abbrev boxRes (g : Nat) (r : ResS) (ty : TypeId) : Ent := .box g ⟨[avI r.late, avI r.many, avI r.en], ty, 3⟩
set_option maxRecDepth 100000 in
set_option maxHeartbeats 8000000 in
theorem plan_run {τ : Type} {K : τ → List Ent → Prop} {step : τ → Int → WinS → τ} {p : List PaceS} {o : List OrdrS} {l : List Int} {start each : Int} {F : FuncId} {caps : Array Value} {h : List Ent} {a : τ} (hk : SchOk p o l start each) (hcd : ∀ us w, (callFunc F us).run Tryz.prog w = .ok (.enter F us) w) (hdo : DoesW o.length K step Tryz.prog F caps) (hK : K a h) :
  SpecH Tryz.prog 224 [.at_ 3 (schC p o each), avInts l, avI start, .v (.func (.func F) #[] caps)] h (fun y hp' => ∃ h' e1 e2, K (runA step p o l start each a l.length) h' ∧ y = .agg [avI (resP p o l start each l.length).late, avI (resP p o l start each l.length).many, avI (resP p o l start each l.length).en] ∧ hp' = e1 :: e2 :: h') := by
 refine SpecH.of_VC Tryz.func224 rfl Tryz.ntmps224 (Nle rfl) fun w A hB => ?_
 have hnew : True := trivial
 refine VC.seq ?_
 have hl := hk.len
 have ho := hk.ook.len
 refine VC.region ?_
 refine VO.op rfl (OpE.alloc rfl hB rfl Tryz.zeroValue268 rfl ?_)
 intro g8
 refine VO.le _ (Le.front rfl) ?_
 refine VO.nil ?_
 refine VC.sr ?_
 refine VO.mv rfl rfl rfl rfl ?_
 refine VO.val rfl rfl (OpV.build (pls := #[(0, 1), (1, 1), (2, 1)]) rfl Tryz.zeroValue268 Tryz.underlying268 (fun w => by kernel_rfl) rfl rfl) ?_
 refine VO.op rfl (OpE.alloc rfl hB rfl Tryz.zeroValue268 rfl ?_)
 intro g9
 refine VO.le _ (Le.front rfl) ?_
 refine VO.op rfl (OpE.store (i := 0) rfl hB rfl Tryz.sizeOf268 rfl rfl rfl rfl rfl rfl (Nle rfl) trivial ?_)
 refine VO.nil ?_
 refine VC.seq ?_
 refine VC.sr ?_
 refine VO.mv rfl rfl rfl rfl ?_
 refine VO.val rfl rfl (OpV.len_im rfl Tryz.underlying22 rfl) ?_
 refine VO.mv rfl rfl rfl rfl ?_
 refine VO.nil ?_
 refine VC.block ?_
 refine VC.loopK [(0, _), (1, _), (2, _), (3, _), (8, _), (9, _), (15, _), (16, _)] ⟨rfl, rfl, rfl, rfl, rfl, rfl, rfl, rfl, trivial⟩ ({z : List Ent × Nat // z.2 ≤ l.length ∧ K (runA step p o l start each a z.2) z.1}) (fun (iZ : {z : List Ent × Nat // z.2 ≤ l.length ∧ K (runA step p o l start each a z.2) z.1}) => match iZ with | ⟨⟨hh, q⟩, hq, hkk⟩ => [(17, avI (q : Int))]) (fun (iZ : {z : List Ent × Nat // z.2 ≤ l.length ∧ K (runA step p o l start each a z.2) z.1}) => match iZ with | ⟨⟨hh, q⟩, hq, hkk⟩ => [boxRes g9 (resP p o l start each q) 268, .box g8 ⟨[avI 0, avI 0, avI 0], 268, 3⟩] ++ hh) (fun (iZ : {z : List Ent × Nat // z.2 ≤ l.length ∧ K (runA step p o l start each a z.2) z.1}) => match iZ with | ⟨⟨hh, q⟩, hq, hkk⟩ => 0) (fun (iZ : {z : List Ent × Nat // z.2 ≤ l.length ∧ K (runA step p o l start each a z.2) z.1}) => match iZ with | ⟨⟨hh, q⟩, hq, hkk⟩ => l.length - q) ⟨(h, 0), Nat.zero_le _, hK⟩ (Le.mkP hB ⟨rfl, rfl, rfl, rfl, rfl, rfl, rfl, rfl, rfl, trivial⟩ (List.Sublist.refl _) (List.Perm.refl _) (Nat.le_refl _)) ?_
 rintro ⟨⟨hh, q⟩, hq, hkk⟩
 show VC _ _ _ _ ⟨[(17, avI (q : Int))] ++ [(0, _), (1, _), (2, _), (3, _), (8, _), (9, _), (15, _), (16, _)], [boxRes g9 (resP p o l start each q) 268, .box g8 ⟨[avI 0, avI 0, avI 0], 268, 3⟩] ++ hh, 0⟩
 simp only at hq hkk
 refine VC.sr ?_
 refine VO.val rfl rfl (OpV.lss rfl rfl rfl) ?_
 refine VO.nil ?_
 refine VC.seq ?_
 refine VC.cond rfl (fun aH1b => ?_) (fun aH1b => ?_)
 ·have aH1 := aH1b
  try simp only [qqT, qqF, qqN, qqM, qqL, qqE] at aH1
  refine VC.skip ?_
  refine VC.seq ?_
  refine VC.block ?_
  refine VC.seq ?_
  have hat := hk.at_ (q := q) (by omega)
  have hbd := hk.bd q (by omega)
  have hrs := hk.res q (by omega)
  have hfe := endP_from p o l start each q
  have hlo : 0 ≤ longO p (orA o (l.getD q 0)) ∧ longO p (orA o (l.getD q 0)) ≤ 1000000000000 := hk.long hat.2
  have hdu : (0 ≤ (orA o (l.getD q 0)).ready ∧ (orA o (l.getD q 0)).ready ≤ 345686399999) ∧ 0 ≤ (orA o (l.getD q 0)).due ∧ (orA o (l.getD q 0)).due ≤ 345686399999 := (hk.ook.all _ hat.2).2
  refine VC.region ?_
  refine VO.mv rfl rfl rfl rfl ?_
  refine VO.val rfl rfl (OpV.indexAddr_1 rfl Tryz.underlying22 Tryz.sizeOf3 rfl rfl rfl (by omega)) ?_
  refine VO.val rfl rfl (OpV.load_at rfl hB OutW.no Tryz.isAgg3 rfl rfl) ?_
  refine VO.ma rfl rfl rfl rfl ?_
  refine VO.ma rfl rfl rfl rfl ?_
  refine VO.nil ?_
  refine VC.sr ?_
  refine VO.mv rfl rfl rfl rfl ?_
  refine VO.ma rfl rfl rfl rfl ?_
  refine VO.nil ?_
  refine VC.seq ?_
  refine VC.sr ?_
  refine VO.mv rfl rfl rfl rfl ?_
  refine VO.val rfl rfl (OpV.gtr rfl rfl rfl) ?_
  refine VO.nil ?_
  refine VC.cond rfl (fun aH2b => ?_) (fun aH2b => ?_)
  ·have aH2 := aH2b
   try simp only [qqT, qqF, qqN, qqM, qqL, qqE] at aH2
   obtain ⟨q', hq'⟩ : ∃ q', q = q' + 1 := ⟨q - 1, by omega⟩
   have hen : (resP p o l start each q).en = endP p o l start each q' := by rw [hq', resP_en]
   have hfr : fromP p o l start each q = max (endP p o l start each q' + turnO p each (orA o (l.getD q' 0)) (orA o (l.getD q 0))) (orA o (l.getD q 0)).ready := by rw [hq']; rfl
   have hat1 := hk.at_ (q := q') (by omega)
   have htu : 0 ≤ turnO p each (orA o (l.getD q' 0)) (orA o (l.getD q 0)) ∧ turnO p each (orA o (l.getD q' 0)) (orA o (l.getD q 0)) ≤ 10000000000 := hk.turn hat.2
   refine VC.draw (fun _ => NoB) hB (by kernel_rfl) ?_
   refine VA.take (i := 0) rfl (by kernel_rfl) (by kernel_rfl) (by kernel_rfl) rfl rfl (OpV.fieldAddrO 2 rfl Tryz.underlying268 rfl rfl Tryz.sizeOf3 rfl) ?_
   refine VA.take (i := 1) rfl (by kernel_rfl) (by kernel_rfl) (by kernel_rfl) rfl rfl (OpV.load_own (i := 0) rfl hB Tryz.isAgg3 rfl rfl rfl Wi.not0) ?_
   refine VA.le _ (Le.recast (t := 26) (y := avI (endP p o l start each q')) rfl (fun w Z u h => by rw [hen] at h; exact h)) ?_
   refine VA.take (i := 2) rfl (by kernel_rfl) (by kernel_rfl) (by kernel_rfl) rfl rfl (OpV.move (.inl rfl) rfl) ?_
   refine VA.take (i := 3) rfl (by kernel_rfl) (by kernel_rfl) (by kernel_rfl) rfl rfl (OpV.nilCheck_at rfl rfl) ?_
   refine VA.take (i := 4) rfl (by kernel_rfl) (by kernel_rfl) (by kernel_rfl) rfl rfl (OpV.fieldAddr_atO 2 rfl Tryz.underlying319 rfl rfl Tryz.sizeOf35 rfl rfl) ?_
   refine VA.take (i := 5) rfl (by kernel_rfl) (by kernel_rfl) (by kernel_rfl) rfl rfl (OpV.load_at rfl hB OutW.wi0 Tryz.isAgg35 rfl rfl) ?_
   refine VA.take (i := 6) rfl (by kernel_rfl) (by kernel_rfl) (by kernel_rfl) rfl rfl (OpV.move (.inl rfl) rfl) ?_
   refine VA.take (i := 7) rfl (by kernel_rfl) (by kernel_rfl) (by kernel_rfl) rfl rfl (OpV.move (.inl rfl) rfl) ?_
   refine VA.take (i := 8) rfl (by kernel_rfl) (by kernel_rfl) (by kernel_rfl) rfl rfl (OpV.sub rfl rfl rfl (by unfold fits; omega)) ?_
   refine VA.take (i := 9) rfl (by kernel_rfl) (by kernel_rfl) (by kernel_rfl) rfl rfl (OpV.indexAddr_1 rfl Tryz.underlying22 Tryz.sizeOf3 rfl rfl (show ((q : Int) - 1) = (q' : Int) by omega) (by omega)) ?_
   refine VA.take (i := 10) rfl (by kernel_rfl) (by kernel_rfl) (by kernel_rfl) rfl rfl (OpV.load_at rfl hB OutW.wi0 Tryz.isAgg3 rfl rfl) ?_
   refine VA.take (i := 11) rfl (by kernel_rfl) (by kernel_rfl) (by kernel_rfl) rfl rfl (OpV.indexAddr_1 rfl Tryz.underlying35 Tryz.sizeOf22 rfl rfl (Int.toNat_of_nonneg hat1.1).symm (by rw [List.length_map]; exact hat1.2)) ?_
   refine VA.take (i := 12) rfl (by kernel_rfl) (by kernel_rfl) (by kernel_rfl) rfl rfl (OpV.load_at rfl hB OutW.wi0 Tryz.isAgg22 rfl rfl) ?_
   refine VA.le _ (Le.recast (t := 37) (y := avInts (o.map (turnO p each (orA o (l.getD q' 0))))) rfl (fun w Z u h => by rw [map_getD (fun x => o.map (turnO p each x)) hat1.2 default default] at h; exact h)) ?_
   refine VA.take (i := 13) rfl (by kernel_rfl) (by kernel_rfl) (by kernel_rfl) rfl rfl (OpV.move (.inl rfl) rfl) ?_
   refine VA.take (i := 14) rfl (by kernel_rfl) (by kernel_rfl) (by kernel_rfl) rfl rfl (OpV.indexAddr_1 rfl Tryz.underlying22 Tryz.sizeOf3 rfl rfl (Int.toNat_of_nonneg hat.1).symm (by rw [List.length_map]; exact hat.2)) ?_
   refine VA.take (i := 15) rfl (by kernel_rfl) (by kernel_rfl) (by kernel_rfl) rfl rfl (OpV.load_at rfl hB OutW.wi0 Tryz.isAgg3 rfl rfl) ?_
   refine VA.le _ (Le.recast (t := 40) (y := avI (turnO p each (orA o (l.getD q' 0)) (orA o (l.getD q 0)))) rfl (fun w Z u h => by rw [map_getD (turnO p each (orA o (l.getD q' 0))) hat.2 default 0] at h; exact h)) ?_
   refine VA.take (i := 16) rfl (by kernel_rfl) (by kernel_rfl) (by kernel_rfl) rfl rfl (OpV.add rfl rfl rfl ((by have := hk.bd q' (by omega); unfold fits; omega))) ?_
   refine VA.take (i := 17) rfl (by kernel_rfl) (by kernel_rfl) (by kernel_rfl) rfl rfl (OpV.move (.inr rfl) rfl) ?_
   refine VA.done (by kernel_rfl) ?_
   refine VC.sr ?_
   refine VO.mv rfl rfl rfl rfl ?_
   refine VO.mv rfl rfl rfl rfl ?_
   refine VO.val rfl rfl (OpV.nilCheck_at rfl rfl) ?_
   refine VO.val rfl rfl (OpV.fieldAddr_atO 0 rfl Tryz.underlying319 rfl rfl Tryz.sizeOf95 rfl rfl) ?_
   refine VO.val rfl rfl (OpV.load_at rfl hB OutW.no Tryz.isAgg95 rfl rfl) ?_
   refine VO.le _ (Le.recast (t := 46) (y := avL o) rfl (fun w Z u h => h)) ?_
   refine VO.mv rfl rfl rfl rfl ?_
   refine VO.val rfl rfl (OpV.indexAddr_E rfl Tryz.underlying95 Tryz.sizeOf104 rfl rfl (Int.toNat_of_nonneg hat.1).symm hat.2) ?_
   refine VO.val rfl rfl (OpV.fieldAddr_atO 3 rfl Tryz.underlying104 rfl rfl Tryz.sizeOf3 rfl rfl) ?_
   refine VO.val rfl rfl (OpV.load_at rfl hB OutW.no Tryz.isAgg3 rfl rfl) ?_
   refine VO.val rfl rfl (OpV.max2 rfl rfl rfl) ?_
   refine VO.le _ (Le.recast (t := 51) (y := avI (fromP p o l start each q)) rfl (fun w Z u h => by rw [hfr]; exact h)) ?_
   refine VO.ma rfl rfl rfl rfl ?_
   refine VO.nil ?_
   refine VC.sr ?_
   refine VO.mv rfl rfl rfl rfl ?_
   refine VO.mv rfl rfl rfl rfl ?_
   refine VO.val rfl rfl (OpV.nilCheck_at rfl rfl) ?_
   refine VO.val rfl rfl (OpV.fieldAddr_atO 1 rfl Tryz.underlying319 rfl rfl Tryz.sizeOf22 rfl rfl) ?_
   refine VO.val rfl rfl (OpV.load_at rfl hB OutW.no Tryz.isAgg22 rfl rfl) ?_
   refine VO.mv rfl rfl rfl rfl ?_
   refine VO.val rfl rfl (OpV.indexAddr_1 rfl Tryz.underlying22 Tryz.sizeOf3 rfl rfl (Int.toNat_of_nonneg hat.1).symm (by rw [List.length_map]; exact hat.2)) ?_
   refine VO.val rfl rfl (OpV.load_at rfl hB OutW.no Tryz.isAgg3 rfl rfl) ?_
   refine VO.le _ (Le.recast (t := 59) (y := avI (longO p (orA o (l.getD q 0)))) rfl (fun w Z u h => by rw [map_getD (longO p) hat.2 default 0] at h; exact h)) ?_
   refine VO.val rfl rfl (OpV.add rfl rfl rfl ((by unfold fits; rw [← hfe]; omega))) ?_
   refine VO.le _ (Le.recast (t := 60) (y := avI (endP p o l start each q)) rfl (fun w Z u h => by rw [hfe]; exact h)) ?_
   refine VO.val rfl rfl (OpV.fieldAddrO 2 rfl Tryz.underlying268 rfl rfl Tryz.sizeOf3 rfl) ?_
   refine VO.op rfl (OpE.store (i := 0) rfl hB rfl Tryz.sizeOf3 rfl rfl rfl rfl rfl rfl (Nle rfl) trivial ?_)
   refine VO.nil ?_
   refine VC.sr ?_
   refine VO.mv rfl rfl rfl rfl ?_
   refine VO.mv rfl rfl rfl rfl ?_
   refine VO.mv rfl rfl rfl rfl ?_
   refine VO.val rfl rfl (OpV.fieldAddrO 2 rfl Tryz.underlying268 rfl rfl Tryz.sizeOf3 rfl) ?_
   refine VO.val rfl rfl (OpV.load_own (i := 0) rfl hB Tryz.isAgg3 rfl rfl rfl (fun h => h)) ?_
   refine VO.val rfl rfl (OpV.build (pls := #[(0, 1), (1, 1)]) rfl Tryz.zeroValue197 Tryz.underlying197 (fun w => by kernel_rfl) rfl rfl) ?_
   refine VO.op rfl (OpE.callH rfl hB rfl hcd rfl rfl (hdo (l.getD q 0) (winP p o l start each q) (runA step p o l start each a q) hh hat.1 hat.2 hkk) (List.perm_append_comm (l₁ := [_, _]) (l₂ := hh)) (fun _ _ => trivial) ?_)
   rintro _ h2 hk2
   refine VO.le _ (Le.perm (List.perm_append_comm (l₁ := h2) (l₂ := [_, _]))) ?_
   refine VO.nil ?_
   refine VC.seq ?_
   refine VC.draw (fun _ => NoB) hB (by kernel_rfl) ?_
   refine VA.take (i := 0) rfl (by kernel_rfl) (by kernel_rfl) (by kernel_rfl) rfl rfl (OpV.fieldAddrO 2 rfl Tryz.underlying268 rfl rfl Tryz.sizeOf3 rfl) ?_
   refine VA.take (i := 1) rfl (by kernel_rfl) (by kernel_rfl) (by kernel_rfl) rfl rfl (OpV.load_own (i := 0) rfl hB Tryz.isAgg3 rfl rfl rfl Wi.not0) ?_
   refine VA.take (i := 2) rfl (by kernel_rfl) (by kernel_rfl) (by kernel_rfl) rfl rfl (OpV.move (.inl rfl) rfl) ?_
   refine VA.take (i := 3) rfl (by kernel_rfl) (by kernel_rfl) (by kernel_rfl) rfl rfl (OpV.nilCheck_at rfl rfl) ?_
   refine VA.take (i := 4) rfl (by kernel_rfl) (by kernel_rfl) (by kernel_rfl) rfl rfl (OpV.fieldAddr_atO 0 rfl Tryz.underlying319 rfl rfl Tryz.sizeOf95 rfl rfl) ?_
   refine VA.take (i := 5) rfl (by kernel_rfl) (by kernel_rfl) (by kernel_rfl) rfl rfl (OpV.load_at rfl hB OutW.wi0 Tryz.isAgg95 rfl rfl) ?_
   refine VA.le _ (Le.recast (t := 74) (y := avL o) rfl (fun w Z u h => h)) ?_
   refine VA.take (i := 6) rfl (by kernel_rfl) (by kernel_rfl) (by kernel_rfl) rfl rfl (OpV.move (.inl rfl) rfl) ?_
   refine VA.take (i := 7) rfl (by kernel_rfl) (by kernel_rfl) (by kernel_rfl) rfl rfl (OpV.indexAddr_E rfl Tryz.underlying95 Tryz.sizeOf104 rfl rfl (Int.toNat_of_nonneg hat.1).symm hat.2) ?_
   refine VA.take (i := 8) rfl (by kernel_rfl) (by kernel_rfl) (by kernel_rfl) rfl rfl (OpV.fieldAddr_atO 4 rfl Tryz.underlying104 rfl rfl Tryz.sizeOf3 rfl rfl) ?_
   refine VA.take (i := 9) rfl (by kernel_rfl) (by kernel_rfl) (by kernel_rfl) rfl rfl (OpV.load_at rfl hB OutW.wi0 Tryz.isAgg3 rfl rfl) ?_
   refine VA.le _ (Le.recast (t := 78) (y := avI (orA o (l.getD q 0)).due) rfl (fun w Z u h => h)) ?_
   refine VA.take (i := 10) rfl (by kernel_rfl) (by kernel_rfl) (by kernel_rfl) rfl rfl (OpV.gtr rfl rfl rfl) ?_
   refine VA.done (by kernel_rfl) ?_
   refine VC.cond rfl (fun hdb => ?_) (fun hdb => ?_)
   ·have hd := hdb
    try simp only [qqT, qqF, qqN, qqM, qqL, qqE] at hd
    refine VC.seq ?_
    refine VC.draw (fun j b => j = 15 ∧ b = g9) hB (by kernel_rfl) ?_
    refine VA.take (i := 0) rfl (by kernel_rfl) (by kernel_rfl) (by kernel_rfl) rfl rfl (OpV.fieldAddrO 0 rfl Tryz.underlying268 rfl rfl Tryz.sizeOf3 rfl) ?_
    refine VA.take (i := 1) rfl (by kernel_rfl) (by kernel_rfl) (by kernel_rfl) rfl rfl (OpV.load_own (i := 0) rfl hB Tryz.isAgg3 rfl rfl rfl (by first | exact Wi.not1 (by kernel_rfl) | exact Wi.not2 (by kernel_rfl) (by kernel_rfl) | exact Wi.notX (by kernel_rfl))) ?_
    refine VA.take (i := 2) rfl (by kernel_rfl) (by kernel_rfl) (by kernel_rfl) rfl rfl (OpV.fieldAddrO 2 rfl Tryz.underlying268 rfl rfl Tryz.sizeOf3 rfl) ?_
    refine VA.take (i := 3) rfl (by kernel_rfl) (by kernel_rfl) (by kernel_rfl) rfl rfl (OpV.load_own (i := 0) rfl hB Tryz.isAgg3 rfl rfl rfl (by first | exact Wi.not1 (by kernel_rfl) | exact Wi.not2 (by kernel_rfl) (by kernel_rfl) | exact Wi.notX (by kernel_rfl))) ?_
    refine VA.take (i := 4) rfl (by kernel_rfl) (by kernel_rfl) (by kernel_rfl) rfl rfl (OpV.move (.inl rfl) rfl) ?_
    refine VA.take (i := 5) rfl (by kernel_rfl) (by kernel_rfl) (by kernel_rfl) rfl rfl (OpV.nilCheck_at rfl rfl) ?_
    refine VA.take (i := 6) rfl (by kernel_rfl) (by kernel_rfl) (by kernel_rfl) rfl rfl (OpV.fieldAddr_atO 0 rfl Tryz.underlying319 rfl rfl Tryz.sizeOf95 rfl rfl) ?_
    refine VA.take (i := 7) rfl (by kernel_rfl) (by kernel_rfl) (by kernel_rfl) rfl rfl (OpV.load_at rfl hB (by first | exact OutW.wi1 (k := 0) rfl rfl | exact OutW.wi1 (k := 1) rfl rfl) Tryz.isAgg95 rfl rfl) ?_
    refine VA.le _ (Le.recast (t := 87) (y := avL o) rfl (fun w Z u h => h)) ?_
    refine VA.take (i := 8) rfl (by kernel_rfl) (by kernel_rfl) (by kernel_rfl) rfl rfl (OpV.move (.inl rfl) rfl) ?_
    refine VA.take (i := 9) rfl (by kernel_rfl) (by kernel_rfl) (by kernel_rfl) rfl rfl (OpV.indexAddr_E rfl Tryz.underlying95 Tryz.sizeOf104 rfl rfl (Int.toNat_of_nonneg hat.1).symm hat.2) ?_
    refine VA.take (i := 10) rfl (by kernel_rfl) (by kernel_rfl) (by kernel_rfl) rfl rfl (OpV.fieldAddr_atO 4 rfl Tryz.underlying104 rfl rfl Tryz.sizeOf3 rfl rfl) ?_
    refine VA.take (i := 11) rfl (by kernel_rfl) (by kernel_rfl) (by kernel_rfl) rfl rfl (OpV.load_at rfl hB (by first | exact OutW.wi1 (k := 0) rfl rfl | exact OutW.wi1 (k := 1) rfl rfl) Tryz.isAgg3 rfl rfl) ?_
    refine VA.le _ (Le.recast (t := 91) (y := avI (orA o (l.getD q 0)).due) rfl (fun w Z u h => h)) ?_
    refine VA.take (i := 12) rfl (by kernel_rfl) (by kernel_rfl) (by kernel_rfl) rfl rfl (OpV.sub rfl rfl rfl (by unfold fits; omega)) ?_
    refine VA.take (i := 13) rfl (by kernel_rfl) (by kernel_rfl) (by kernel_rfl) rfl rfl (OpV.add rfl rfl rfl (by unfold fits; omega)) ?_
    refine VA.take (i := 14) rfl (by kernel_rfl) (by kernel_rfl) (by kernel_rfl) rfl rfl (OpV.fieldAddrO 0 rfl Tryz.underlying268 rfl rfl Tryz.sizeOf3 rfl) ?_
    refine VA.all (rs := [15]) (by kernel_rfl) (by decide) ?_
    refine ⟨⟨_, rfl, .inl rfl, ?_⟩, trivial⟩
    refine OpE.store (i := 0) rfl hB rfl Tryz.sizeOf3 rfl rfl rfl rfl rfl rfl (Nle rfl) (by first | exact ⟨rfl, rfl⟩ | exact .inl ⟨rfl, rfl⟩ | exact .inr ⟨rfl, rfl⟩ | exact ⟨rfl, trivial⟩ | exact .inl ⟨rfl, trivial⟩ | exact .inr ⟨rfl, trivial⟩ | exact ⟨by decide, rfl⟩) ?_
    refine VA.done (by kernel_rfl) ?_
    refine VC.region ?_
    refine VO.val rfl rfl (OpV.fieldAddrO 1 rfl Tryz.underlying268 rfl rfl Tryz.sizeOf3 rfl) ?_
    refine VO.val rfl rfl (OpV.load_own (i := 0) rfl hB Tryz.isAgg3 rfl rfl rfl (fun h => h)) ?_
    refine VO.val rfl rfl (OpV.add rfl rfl rfl (by unfold fits; omega)) ?_
    refine VO.val rfl rfl (OpV.fieldAddrO 1 rfl Tryz.underlying268 rfl rfl Tryz.sizeOf3 rfl) ?_
    refine VO.op rfl (OpE.store (i := 0) rfl hB rfl Tryz.sizeOf3 rfl rfl rfl rfl rfl rfl (Nle rfl) trivial ?_)
    refine VO.nil ?_
    refine VC.region ?_
    refine VO.val rfl rfl (OpV.add rfl rfl rfl (by unfold fits; omega)) ?_
    refine VO.mv rfl rfl rfl rfl ?_
    refine VO.nil ?_
    exact Exists.intro (⟨(h2, q + 1), by show q + 1 ≤ _; omega, hk2⟩) (And.intro (Le.mkP hB ⟨rfl, rfl, rfl, rfl, rfl, rfl, rfl, rfl, rfl, trivial⟩ (List.Sublist.refl _) (List.Perm.of_eq (by first | exact congrArg (fun z => boxRes g9 z 268 :: .box g8 ⟨[avI 0, avI 0, avI 0], 268, 3⟩ :: h2) (resP_t (p := p) (o := o) (l := l) (s := start) (e := each) (q := q) hd).symm | exact congrArg (fun z => boxRes g9 z 268 :: .box g8 ⟨[avI 0, avI 0, avI 0], 268, 3⟩ :: h2) (resP_f (p := p) (o := o) (l := l) (s := start) (e := each) (q := q) (Int.not_lt.2 hd)).symm)) (Nat.le_refl _)) (by first | omega | (show _ < _; omega) | (simp only []; omega)))
   ·have hd := hdb
    try simp only [qqT, qqF, qqN, qqM, qqL, qqE] at hd
    refine VC.skip ?_
    refine VC.region ?_
    refine VO.val rfl rfl (OpV.add rfl rfl rfl (by unfold fits; omega)) ?_
    refine VO.mv rfl rfl rfl rfl ?_
    refine VO.nil ?_
    exact Exists.intro (⟨(h2, q + 1), by show q + 1 ≤ _; omega, hk2⟩) (And.intro (Le.mkP hB ⟨rfl, rfl, rfl, rfl, rfl, rfl, rfl, rfl, rfl, trivial⟩ (List.Sublist.refl _) (List.Perm.of_eq (by first | exact congrArg (fun z => boxRes g9 z 268 :: .box g8 ⟨[avI 0, avI 0, avI 0], 268, 3⟩ :: h2) (resP_t (p := p) (o := o) (l := l) (s := start) (e := each) (q := q) hd).symm | exact congrArg (fun z => boxRes g9 z 268 :: .box g8 ⟨[avI 0, avI 0, avI 0], 268, 3⟩ :: h2) (resP_f (p := p) (o := o) (l := l) (s := start) (e := each) (q := q) (Int.not_lt.2 hd)).symm)) (Nat.le_refl _)) (by first | omega | (show _ < _; omega) | (simp only []; omega)))
  ·have aH2 := aH2b
   try simp only [qqT, qqF, qqN, qqM, qqL, qqE] at aH2
   have hq0 : q = 0 := by omega
   have hfr0 : fromP p o l start each q = max start (orA o (l.getD q 0)).ready := by rw [hq0]; rfl
   refine VC.skip ?_
   refine VC.sr ?_
   refine VO.mv rfl rfl rfl rfl ?_
   refine VO.mv rfl rfl rfl rfl ?_
   refine VO.val rfl rfl (OpV.nilCheck_at rfl rfl) ?_
   refine VO.val rfl rfl (OpV.fieldAddr_atO 0 rfl Tryz.underlying319 rfl rfl Tryz.sizeOf95 rfl rfl) ?_
   refine VO.val rfl rfl (OpV.load_at rfl hB OutW.no Tryz.isAgg95 rfl rfl) ?_
   refine VO.le _ (Le.recast (t := 46) (y := avL o) rfl (fun w Z u h => h)) ?_
   refine VO.mv rfl rfl rfl rfl ?_
   refine VO.val rfl rfl (OpV.indexAddr_E rfl Tryz.underlying95 Tryz.sizeOf104 rfl rfl (Int.toNat_of_nonneg hat.1).symm hat.2) ?_
   refine VO.val rfl rfl (OpV.fieldAddr_atO 3 rfl Tryz.underlying104 rfl rfl Tryz.sizeOf3 rfl rfl) ?_
   refine VO.val rfl rfl (OpV.load_at rfl hB OutW.no Tryz.isAgg3 rfl rfl) ?_
   refine VO.val rfl rfl (OpV.max2 rfl rfl rfl) ?_
   refine VO.le _ (Le.recast (t := 51) (y := avI (fromP p o l start each q)) rfl (fun w Z u h => by rw [hfr0]; exact h)) ?_
   refine VO.ma rfl rfl rfl rfl ?_
   refine VO.nil ?_
   refine VC.sr ?_
   refine VO.mv rfl rfl rfl rfl ?_
   refine VO.mv rfl rfl rfl rfl ?_
   refine VO.val rfl rfl (OpV.nilCheck_at rfl rfl) ?_
   refine VO.val rfl rfl (OpV.fieldAddr_atO 1 rfl Tryz.underlying319 rfl rfl Tryz.sizeOf22 rfl rfl) ?_
   refine VO.val rfl rfl (OpV.load_at rfl hB OutW.no Tryz.isAgg22 rfl rfl) ?_
   refine VO.mv rfl rfl rfl rfl ?_
   refine VO.val rfl rfl (OpV.indexAddr_1 rfl Tryz.underlying22 Tryz.sizeOf3 rfl rfl (Int.toNat_of_nonneg hat.1).symm (by rw [List.length_map]; exact hat.2)) ?_
   refine VO.val rfl rfl (OpV.load_at rfl hB OutW.no Tryz.isAgg3 rfl rfl) ?_
   refine VO.le _ (Le.recast (t := 59) (y := avI (longO p (orA o (l.getD q 0)))) rfl (fun w Z u h => by rw [map_getD (longO p) hat.2 default 0] at h; exact h)) ?_
   refine VO.val rfl rfl (OpV.add rfl rfl rfl ((by unfold fits; rw [← hfe]; omega))) ?_
   refine VO.le _ (Le.recast (t := 60) (y := avI (endP p o l start each q)) rfl (fun w Z u h => by rw [hfe]; exact h)) ?_
   refine VO.val rfl rfl (OpV.fieldAddrO 2 rfl Tryz.underlying268 rfl rfl Tryz.sizeOf3 rfl) ?_
   refine VO.op rfl (OpE.store (i := 0) rfl hB rfl Tryz.sizeOf3 rfl rfl rfl rfl rfl rfl (Nle rfl) trivial ?_)
   refine VO.nil ?_
   refine VC.sr ?_
   refine VO.mv rfl rfl rfl rfl ?_
   refine VO.mv rfl rfl rfl rfl ?_
   refine VO.mv rfl rfl rfl rfl ?_
   refine VO.val rfl rfl (OpV.fieldAddrO 2 rfl Tryz.underlying268 rfl rfl Tryz.sizeOf3 rfl) ?_
   refine VO.val rfl rfl (OpV.load_own (i := 0) rfl hB Tryz.isAgg3 rfl rfl rfl (fun h => h)) ?_
   refine VO.val rfl rfl (OpV.build (pls := #[(0, 1), (1, 1)]) rfl Tryz.zeroValue197 Tryz.underlying197 (fun w => by kernel_rfl) rfl rfl) ?_
   refine VO.op rfl (OpE.callH rfl hB rfl hcd rfl rfl (hdo (l.getD q 0) (winP p o l start each q) (runA step p o l start each a q) hh hat.1 hat.2 hkk) (List.perm_append_comm (l₁ := [_, _]) (l₂ := hh)) (fun _ _ => trivial) ?_)
   rintro _ h2 hk2
   refine VO.le _ (Le.perm (List.perm_append_comm (l₁ := h2) (l₂ := [_, _]))) ?_
   refine VO.nil ?_
   refine VC.seq ?_
   refine VC.draw (fun _ => NoB) hB (by kernel_rfl) ?_
   refine VA.take (i := 0) rfl (by kernel_rfl) (by kernel_rfl) (by kernel_rfl) rfl rfl (OpV.fieldAddrO 2 rfl Tryz.underlying268 rfl rfl Tryz.sizeOf3 rfl) ?_
   refine VA.take (i := 1) rfl (by kernel_rfl) (by kernel_rfl) (by kernel_rfl) rfl rfl (OpV.load_own (i := 0) rfl hB Tryz.isAgg3 rfl rfl rfl Wi.not0) ?_
   refine VA.take (i := 2) rfl (by kernel_rfl) (by kernel_rfl) (by kernel_rfl) rfl rfl (OpV.move (.inl rfl) rfl) ?_
   refine VA.take (i := 3) rfl (by kernel_rfl) (by kernel_rfl) (by kernel_rfl) rfl rfl (OpV.nilCheck_at rfl rfl) ?_
   refine VA.take (i := 4) rfl (by kernel_rfl) (by kernel_rfl) (by kernel_rfl) rfl rfl (OpV.fieldAddr_atO 0 rfl Tryz.underlying319 rfl rfl Tryz.sizeOf95 rfl rfl) ?_
   refine VA.take (i := 5) rfl (by kernel_rfl) (by kernel_rfl) (by kernel_rfl) rfl rfl (OpV.load_at rfl hB OutW.wi0 Tryz.isAgg95 rfl rfl) ?_
   refine VA.le _ (Le.recast (t := 74) (y := avL o) rfl (fun w Z u h => h)) ?_
   refine VA.take (i := 6) rfl (by kernel_rfl) (by kernel_rfl) (by kernel_rfl) rfl rfl (OpV.move (.inl rfl) rfl) ?_
   refine VA.take (i := 7) rfl (by kernel_rfl) (by kernel_rfl) (by kernel_rfl) rfl rfl (OpV.indexAddr_E rfl Tryz.underlying95 Tryz.sizeOf104 rfl rfl (Int.toNat_of_nonneg hat.1).symm hat.2) ?_
   refine VA.take (i := 8) rfl (by kernel_rfl) (by kernel_rfl) (by kernel_rfl) rfl rfl (OpV.fieldAddr_atO 4 rfl Tryz.underlying104 rfl rfl Tryz.sizeOf3 rfl rfl) ?_
   refine VA.take (i := 9) rfl (by kernel_rfl) (by kernel_rfl) (by kernel_rfl) rfl rfl (OpV.load_at rfl hB OutW.wi0 Tryz.isAgg3 rfl rfl) ?_
   refine VA.le _ (Le.recast (t := 78) (y := avI (orA o (l.getD q 0)).due) rfl (fun w Z u h => h)) ?_
   refine VA.take (i := 10) rfl (by kernel_rfl) (by kernel_rfl) (by kernel_rfl) rfl rfl (OpV.gtr rfl rfl rfl) ?_
   refine VA.done (by kernel_rfl) ?_
   refine VC.cond rfl (fun hdb => ?_) (fun hdb => ?_)
   ·have hd := hdb
    try simp only [qqT, qqF, qqN, qqM, qqL, qqE] at hd
    refine VC.seq ?_
    refine VC.draw (fun j b => j = 15 ∧ b = g9) hB (by kernel_rfl) ?_
    refine VA.take (i := 0) rfl (by kernel_rfl) (by kernel_rfl) (by kernel_rfl) rfl rfl (OpV.fieldAddrO 0 rfl Tryz.underlying268 rfl rfl Tryz.sizeOf3 rfl) ?_
    refine VA.take (i := 1) rfl (by kernel_rfl) (by kernel_rfl) (by kernel_rfl) rfl rfl (OpV.load_own (i := 0) rfl hB Tryz.isAgg3 rfl rfl rfl (by first | exact Wi.not1 (by kernel_rfl) | exact Wi.not2 (by kernel_rfl) (by kernel_rfl) | exact Wi.notX (by kernel_rfl))) ?_
    refine VA.take (i := 2) rfl (by kernel_rfl) (by kernel_rfl) (by kernel_rfl) rfl rfl (OpV.fieldAddrO 2 rfl Tryz.underlying268 rfl rfl Tryz.sizeOf3 rfl) ?_
    refine VA.take (i := 3) rfl (by kernel_rfl) (by kernel_rfl) (by kernel_rfl) rfl rfl (OpV.load_own (i := 0) rfl hB Tryz.isAgg3 rfl rfl rfl (by first | exact Wi.not1 (by kernel_rfl) | exact Wi.not2 (by kernel_rfl) (by kernel_rfl) | exact Wi.notX (by kernel_rfl))) ?_
    refine VA.take (i := 4) rfl (by kernel_rfl) (by kernel_rfl) (by kernel_rfl) rfl rfl (OpV.move (.inl rfl) rfl) ?_
    refine VA.take (i := 5) rfl (by kernel_rfl) (by kernel_rfl) (by kernel_rfl) rfl rfl (OpV.nilCheck_at rfl rfl) ?_
    refine VA.take (i := 6) rfl (by kernel_rfl) (by kernel_rfl) (by kernel_rfl) rfl rfl (OpV.fieldAddr_atO 0 rfl Tryz.underlying319 rfl rfl Tryz.sizeOf95 rfl rfl) ?_
    refine VA.take (i := 7) rfl (by kernel_rfl) (by kernel_rfl) (by kernel_rfl) rfl rfl (OpV.load_at rfl hB (by first | exact OutW.wi1 (k := 0) rfl rfl | exact OutW.wi1 (k := 1) rfl rfl) Tryz.isAgg95 rfl rfl) ?_
    refine VA.le _ (Le.recast (t := 87) (y := avL o) rfl (fun w Z u h => h)) ?_
    refine VA.take (i := 8) rfl (by kernel_rfl) (by kernel_rfl) (by kernel_rfl) rfl rfl (OpV.move (.inl rfl) rfl) ?_
    refine VA.take (i := 9) rfl (by kernel_rfl) (by kernel_rfl) (by kernel_rfl) rfl rfl (OpV.indexAddr_E rfl Tryz.underlying95 Tryz.sizeOf104 rfl rfl (Int.toNat_of_nonneg hat.1).symm hat.2) ?_
    refine VA.take (i := 10) rfl (by kernel_rfl) (by kernel_rfl) (by kernel_rfl) rfl rfl (OpV.fieldAddr_atO 4 rfl Tryz.underlying104 rfl rfl Tryz.sizeOf3 rfl rfl) ?_
    refine VA.take (i := 11) rfl (by kernel_rfl) (by kernel_rfl) (by kernel_rfl) rfl rfl (OpV.load_at rfl hB (by first | exact OutW.wi1 (k := 0) rfl rfl | exact OutW.wi1 (k := 1) rfl rfl) Tryz.isAgg3 rfl rfl) ?_
    refine VA.le _ (Le.recast (t := 91) (y := avI (orA o (l.getD q 0)).due) rfl (fun w Z u h => h)) ?_
    refine VA.take (i := 12) rfl (by kernel_rfl) (by kernel_rfl) (by kernel_rfl) rfl rfl (OpV.sub rfl rfl rfl (by unfold fits; omega)) ?_
    refine VA.take (i := 13) rfl (by kernel_rfl) (by kernel_rfl) (by kernel_rfl) rfl rfl (OpV.add rfl rfl rfl (by unfold fits; omega)) ?_
    refine VA.take (i := 14) rfl (by kernel_rfl) (by kernel_rfl) (by kernel_rfl) rfl rfl (OpV.fieldAddrO 0 rfl Tryz.underlying268 rfl rfl Tryz.sizeOf3 rfl) ?_
    refine VA.all (rs := [15]) (by kernel_rfl) (by decide) ?_
    refine ⟨⟨_, rfl, .inl rfl, ?_⟩, trivial⟩
    refine OpE.store (i := 0) rfl hB rfl Tryz.sizeOf3 rfl rfl rfl rfl rfl rfl (Nle rfl) (by first | exact ⟨rfl, rfl⟩ | exact .inl ⟨rfl, rfl⟩ | exact .inr ⟨rfl, rfl⟩ | exact ⟨rfl, trivial⟩ | exact .inl ⟨rfl, trivial⟩ | exact .inr ⟨rfl, trivial⟩ | exact ⟨by decide, rfl⟩) ?_
    refine VA.done (by kernel_rfl) ?_
    refine VC.region ?_
    refine VO.val rfl rfl (OpV.fieldAddrO 1 rfl Tryz.underlying268 rfl rfl Tryz.sizeOf3 rfl) ?_
    refine VO.val rfl rfl (OpV.load_own (i := 0) rfl hB Tryz.isAgg3 rfl rfl rfl (fun h => h)) ?_
    refine VO.val rfl rfl (OpV.add rfl rfl rfl (by unfold fits; omega)) ?_
    refine VO.val rfl rfl (OpV.fieldAddrO 1 rfl Tryz.underlying268 rfl rfl Tryz.sizeOf3 rfl) ?_
    refine VO.op rfl (OpE.store (i := 0) rfl hB rfl Tryz.sizeOf3 rfl rfl rfl rfl rfl rfl (Nle rfl) trivial ?_)
    refine VO.nil ?_
    refine VC.region ?_
    refine VO.val rfl rfl (OpV.add rfl rfl rfl (by unfold fits; omega)) ?_
    refine VO.mv rfl rfl rfl rfl ?_
    refine VO.nil ?_
    exact Exists.intro (⟨(h2, q + 1), by show q + 1 ≤ _; omega, hk2⟩) (And.intro (Le.mkP hB ⟨rfl, rfl, rfl, rfl, rfl, rfl, rfl, rfl, rfl, trivial⟩ (List.Sublist.refl _) (List.Perm.of_eq (by first | exact congrArg (fun z => boxRes g9 z 268 :: .box g8 ⟨[avI 0, avI 0, avI 0], 268, 3⟩ :: h2) (resP_t (p := p) (o := o) (l := l) (s := start) (e := each) (q := q) hd).symm | exact congrArg (fun z => boxRes g9 z 268 :: .box g8 ⟨[avI 0, avI 0, avI 0], 268, 3⟩ :: h2) (resP_f (p := p) (o := o) (l := l) (s := start) (e := each) (q := q) (Int.not_lt.2 hd)).symm)) (Nat.le_refl _)) (by first | omega | (show _ < _; omega) | (simp only []; omega)))
   ·have hd := hdb
    try simp only [qqT, qqF, qqN, qqM, qqL, qqE] at hd
    refine VC.skip ?_
    refine VC.region ?_
    refine VO.val rfl rfl (OpV.add rfl rfl rfl (by unfold fits; omega)) ?_
    refine VO.mv rfl rfl rfl rfl ?_
    refine VO.nil ?_
    exact Exists.intro (⟨(h2, q + 1), by show q + 1 ≤ _; omega, hk2⟩) (And.intro (Le.mkP hB ⟨rfl, rfl, rfl, rfl, rfl, rfl, rfl, rfl, rfl, trivial⟩ (List.Sublist.refl _) (List.Perm.of_eq (by first | exact congrArg (fun z => boxRes g9 z 268 :: .box g8 ⟨[avI 0, avI 0, avI 0], 268, 3⟩ :: h2) (resP_t (p := p) (o := o) (l := l) (s := start) (e := each) (q := q) hd).symm | exact congrArg (fun z => boxRes g9 z 268 :: .box g8 ⟨[avI 0, avI 0, avI 0], 268, 3⟩ :: h2) (resP_f (p := p) (o := o) (l := l) (s := start) (e := each) (q := q) (Int.not_lt.2 hd)).symm)) (Nat.le_refl _)) (by first | omega | (show _ < _; omega) | (simp only []; omega)))
 ·have aH1 := aH1b
  try simp only [qqT, qqF, qqN, qqM, qqL, qqE] at aH1
  obtain rfl : q = l.length := by omega
  refine VC.exit ?_
  refine VC.sr ?_
  refine VO.val rfl rfl (OpV.loadK_own (i := 0) rfl hB Tryz.isAgg268 Tryz.sizeOf268 rfl rfl rfl (fun h => h)) ?_
  refine VO.op rfl (OpE.store (i := 1) rfl hB rfl Tryz.sizeOf268 rfl rfl rfl rfl rfl rfl (Nle rfl) trivial ?_)
  refine VO.nil ?_
  refine VC.ret ?_
  exact Exists.intro _ (And.intro (RetV.one Tryz.results224 ((by first | exact ResV.cellK (i := 0) Tryz.isAgg268 Tryz.sizeOf268 rfl rfl rfl | exact ResV.cellK (i := 1) Tryz.isAgg268 Tryz.sizeOf268 rfl rfl rfl))) (⟨hh, _, _, hkk, rfl, rfl⟩))
theorem made_win (n : Nat) : (madeCells (Value.agg #[.int .i64 0, .int .i64 0]).cells (n * 2)).toList.map AV.v = rowL (List.replicate n (default : WinS)) := by
 apply List.ext_getElem
 ·rw [rowL_len]; simp [size_madeCells]; rfl
 intro i h1 h2
 have hi : i < n * 2 := by simpa [size_madeCells] using h1
 have e2 := rowL_get' (List.replicate n (default : WinS)) (i := i) (by rw [List.length_replicate]; exact hi)
 rw [List.getElem?_eq_getElem h2] at e2
 have e3 := Option.some.inj e2
 rw [e3]
 have hd : (List.replicate n (default : WinS)).getD (i / Sxc.k WinS) default = default := by
  rw [List.getD_eq_getElem?_getD, List.getElem?_replicate]; split <;> rfl
 rw [hd]
 have hm : i % 2 = 0 ∨ i % 2 = 1 := by omega
 have hk : Sxc.k WinS = 2 := rfl
 rw [hk]
 simp only [List.getElem_map, Array.getElem_toList, madeCells, Array.getElem_map, Array.getElem_range]
 rcases hm with hm | hm <;> rw [show (Value.agg #[.int .i64 0, .int .i64 0]).cells = #[.int .i64 0, .int .i64 0] from rfl, show (#[Value.int .i64 0, Value.int .i64 0]).size = 2 from rfl, hm] <;> rfl
set_option maxRecDepth 100000 in
theorem plan_Times1 {n : Nat} {i : Int} {x : WinS} {l : List WinS} {g14 g29 : Nat} (hl : l.length = n) (h0 : 0 ≤ i) (h1 : i.toNat < n) :
  SpecH Tryz.prog 225 [avI i, .agg [avI x.fr, avI x.to], .v (.pointer (some ⟨g14, 0, none⟩))] [.box g14 ⟨[.v (.slice (some ⟨g29, 0, none⟩) n n)], 190, 1⟩, .box g29 ⟨rowL l, 197, n * 2⟩] (fun y hp' => hp' = [.box g14 ⟨[.v (.slice (some ⟨g29, 0, none⟩) n n)], 190, 1⟩, .box g29 ⟨rowL (l.set i.toNat x), 197, n * 2⟩]) := by
 refine SpecH.of_VC Tryz.func225 rfl Tryz.ntmps225 (Nle rfl) fun w A hB => ?_
 have hnew : True := trivial
 refine VC.sr ?_
 refine VO.op rfl (OpE.box rfl hB rfl rfl rfl ?_)
 intro g4
 refine VO.nil ?_
 refine VC.region ?_
 refine VO.val rfl rfl (OpV.load_own (i := 0) rfl hB Tryz.isAgg190 rfl rfl rfl (fun h => h)) ?_
 refine VO.mv rfl rfl rfl rfl ?_
 refine VO.val rfl rfl (OpV.loadK_own (i := 2) rfl hB Tryz.isAgg197 Tryz.sizeOf197 rfl rfl rfl (fun h => h)) ?_
 refine VO.le _ (Le.pickH [0, 1] rfl rfl) ?_
 refine VO.val rfl rfl (OpV.indexAddr_q rfl Tryz.underlying190 Tryz.sizeOf197 rfl rfl (Int.toNat_of_nonneg h0).symm h1) ?_
 refine VO.op rfl (OpE.storeE (i := 1) rfl hB rfl Tryz.sizeOf197 rfl rfl rfl rfl rfl rfl (rowL_inE rfl (by omega)) (rowL_setAll (x := x) rfl (by omega)) trivial ?_)
 refine VO.nil ?_
 exact Exists.intro _ (And.intro (RetV.none Tryz.results225) (rfl))
def KT (n g14 g29 : Nat) (a : List WinS) (h : List Ent) : Prop := a.length = n ∧ h = [.box g14 ⟨[.v (.slice (some ⟨g29, 0, none⟩) n n)], 190, 1⟩, .box g29 ⟨rowL a, 197, n * 2⟩]
theorem times_does {n g14 g29 : Nat} : DoesW n (KT n g14 g29) (fun (a : List WinS) i w => a.set i.toNat w) Tryz.prog 225 #[.pointer (some ⟨g14, 0, none⟩)] := by
 rintro i w a h h0 h1 ⟨hl, rfl⟩
 refine (plan_Times1 (x := w) (l := a) hl h0 h1).mono ?_
 rintro y hp' rfl
 exact ⟨by rw [List.length_set]; exact hl, rfl⟩
theorem flat_win (xs : List WinS) : FlatA (rowL xs) := flat_rowL (fun x j hj => by
 match j, hj with
 | 0, _ => exact ⟨_, rfl⟩
 | 1, _ => exact ⟨_, rfl⟩) xs
set_option maxRecDepth 100000 in
set_option maxHeartbeats 4000000 in
theorem plan_Times {p : List PaceS} {o : List OrdrS} {l : List Int} {start each : Int} (hp : SmPc p) (ho : SmOr o) (hl : l.length ≤ 1000000) :
  SpecN Tryz.prog 155 [avL p, avL o, avInts l, avI start, avI each] (fun y => y = .tup [avL (timesR p o l start each), avI (scheF p o l start each)]) := by
 refine SpecN.of_VCN Tryz.func155 rfl Tryz.ntmps155 (Nle rfl) fun w A hB => ?_
 have hnew : True := trivial
 refine VC.sr ?_
 refine VO.ma rfl rfl rfl rfl ?_
 refine VO.ma rfl rfl rfl rfl ?_
 refine VO.nil ?_
 refine VC.sr ?_
 refine VO.mv rfl rfl rfl rfl ?_
 refine VO.mv rfl rfl rfl rfl ?_
 refine VO.mv rfl rfl rfl rfl ?_
 refine VO.mv rfl rfl rfl rfl ?_
 refine VO.mv rfl rfl rfl rfl ?_
 refine VO.op rfl (OpE.call rfl hB rfl Tryz.call223 rfl (plan_scheduled hp ho hl) ?_)
 rintro _ rfl
 refine VO.mv rfl rfl rfl rfl ?_
 refine VO.val rfl rfl (OpV.extract rfl rfl rfl) ?_
 refine VO.val rfl rfl (OpV.extract rfl rfl rfl) ?_
 refine VO.ma rfl rfl rfl rfl ?_
 refine VO.ma rfl rfl rfl rfl ?_
 refine VO.nil ?_
 refine VC.seq ?_
 refine VC.sr ?_
 refine VO.mv rfl rfl rfl rfl ?_
 refine VO.val rfl rfl (OpV.neq rfl rfl rfl) ?_
 refine VO.nil ?_
 refine VC.cond rfl (fun h0b => ?_) (fun h0b => ?_)
 ·have h0 := h0b
  try simp only [qqT, qqF, qqN, qqM, qqL, qqE] at h0
  have hE : timesR p o l start each = [] := by rw [timesR, if_neg h0]
  refine VC.sr ?_
  refine VO.mv rfl rfl rfl rfl ?_
  refine VO.ma rfl rfl rfl rfl ?_
  refine VO.ma rfl rfl rfl rfl ?_
  refine VO.nil ?_
  refine VC.ret ?_
  exact Exists.intro _ (And.intro (RetN.two Tryz.results155 (ResN.nilE rfl) (ResN.v rfl)) (by rw [hE]; rfl))
 ·have h0 := h0b
  try simp only [qqT, qqF, qqN, qqM, qqL, qqE] at h0
  have h00 : scheF p o l start each = 0 := by omega
  have hk := schOk h00
  have hol := hk.ook.len
  have hE : timesR p o l start each = timesQ p o l start each l.length := by rw [timesR, if_pos h00]
  refine VC.le _ (Le.recast (t := 12) (y := .at_ 3 (schC p o each)) rfl (fun w Z u h => by rw [← schAV_ok h00]; exact h)) ?_
  refine VC.skip ?_
  refine VC.sr ?_
  refine VO.mv rfl rfl rfl rfl ?_
  refine VO.val rfl rfl (OpV.len_im rfl Tryz.underlying95 rfl) ?_
  refine VO.op rfl (OpE.make rfl hB rfl Tryz.underlying190 (infoOf Tryz.t197 2 (by kernel_rfl) rfl rfl) (by decide) rfl rfl (n := o.length) rfl rfl (by omega) (made_win o.length) ?_)
  intro g29
  rw [show (rowL (List.replicate o.length (default : WinS))).length = o.length * 2 by rw [rowL_len, List.length_replicate]; rfl]
  refine VO.op rfl (OpE.alloc rfl hB rfl Tryz.zeroValue190 rfl ?_)
  intro g14
  refine VO.op rfl (OpE.store (i := 1) rfl hB rfl Tryz.sizeOf190 rfl rfl rfl rfl rfl rfl (Nle rfl) trivial ?_)
  refine VO.nil ?_
  refine VC.seq ?_
  refine VC.le _ (Le.pickH [1, 0] rfl rfl) ?_
  refine VC.region ?_
  refine VO.mv rfl rfl rfl rfl ?_
  refine VO.mv rfl rfl rfl rfl ?_
  refine VO.mv rfl rfl rfl rfl ?_
  refine VO.val rfl rfl (OpV.makeFunc1 rfl rfl) ?_
  refine VO.op rfl (OpE.callH0 rfl hB rfl Tryz.call224 rfl rfl (plan_run hk Tryz.call225 times_does (a := List.replicate o.length default) ⟨by simp, rfl⟩) (List.Perm.refl _) (fun _ _ => trivial) ?_)
  rintro _ _ ⟨_, e1, e2, ⟨hll, rfl⟩, rfl, rfl⟩
  refine VO.le _ (Le.drop 2) ?_
  refine VO.nil ?_
  refine VC.seq ?_
  rw [runA_times]
  refine VC.region ?_
  refine VO.val rfl rfl (OpV.load_own (i := 0) rfl hB Tryz.isAgg190 rfl rfl rfl (fun h => h)) ?_
  refine VO.ma rfl rfl rfl rfl ?_
  refine VO.ma rfl rfl rfl rfl ?_
  refine VO.nil ?_
  refine VC.ret ?_
  exact Exists.intro _ (And.intro (RetN.two Tryz.results155 (ResN.box (i := 1) rfl rfl (by rw [rowL_len, timesQ_len]; exact Nat.le_refl _) (Nat.le_refl _) (by simp only [maxLen]; omega) (flat_win _) (fun w Z u h => by simp only [Nat.zero_add] at h; exact Rep.rowL (timesQ_len _ _ _ _ _ _).symm h)) (ResN.v rfl)) (by rw [hE, h00]))
end Go.Proofs.YtdnlhdilpdeecaaGreatDoor
namespace Go.Proofs.YtdnlhdilpdeecaaGreatDoor
set_option linter.unusedVariables false
set_option linter.unusedSimpArgs false
section
variable {α : Type} (lt : α → α → Bool) (d : α)
def OrdL (l : List α) : Prop := l.Pairwise fun a b => lt b a = false
def InvO (l0 : List α) (i : Nat) (l : List α) : Prop := ∃ P R, l = P ++ R ∧ P.length = min i l.length ∧ l.Perm l0 ∧ OrdL lt P
def InvI (l0 : List α) (i j : Nat) (l : List α) : Prop := ∃ P x S R, l = P ++ x :: (S ++ R) ∧ P.length = j ∧ P.length + S.length = i ∧ l.Perm l0 ∧ OrdL lt (P ++ S) ∧ ∀ s ∈ S, lt x s = true
variable {lt d} {l0 l : List α} {i j : Nat}
theorem InvO.len (h : InvO lt l0 i l) : l.length = l0.length := h.choose_spec.choose_spec.2.2.1.length_eq
theorem InvI.len (h : InvI lt l0 i j l) : l.length = l0.length ∧ i < l.length ∧ j ≤ i := by
 obtain ⟨P, x, S, R, h1, h2, h3, h4, _⟩ := h
 refine ⟨h4.length_eq, ?_, by omega⟩
 rw [h1]; simp; omega
theorem InvO.one (l0 : List α) : InvO lt l0 1 l0 := by
 cases l0 with
 | nil => exact ⟨[], [], rfl, by simp, .refl _, .nil⟩
 | cons x r => exact ⟨[x], r, rfl, by simp, .refl _, List.pairwise_singleton _ _⟩
theorem InvO.start (h : InvO lt l0 i l) (hi : i < l.length) : InvI lt l0 i i l := by
 obtain ⟨P, R, h1, h2, h3, h4⟩ := h
 rw [Nat.min_eq_left (by omega)] at h2
 cases R with
 | nil => rw [h1] at hi; simp at hi; omega
 | cons x R => exact ⟨P, x, [], R, h1, h2, by simpa using h2, h3, by simpa using h4, by simp⟩
theorem snocOf {P : List α} (h : 0 < P.length) : ∃ Q y, P = Q ++ [y] := ⟨P.dropLast, P.getLast (by intro e; rw [e] at h; simp at h), (List.dropLast_concat_getLast _).symm⟩
theorem swap_eq {Q T : List α} {x y : α} : ((Q ++ y :: x :: T).set (Q.length + 1) y).set Q.length x = Q ++ x :: y :: T := by
 rw [List.set_append_right _ _ (by omega), show Q.length + 1 - Q.length = 1 by omega, List.set_append_right _ _ (by omega), Nat.sub_self]
 rfl
theorem at0 {Q T : List α} {y : α} : (Q ++ y :: T).getD Q.length d = y := by simp [List.getD_eq_getElem?_getD]
theorem at1 {Q T : List α} {x y : α} : (Q ++ y :: x :: T).getD (Q.length + 1) d = x := by
 simp [List.getD_eq_getElem?_getD, List.getElem?_append_right]
theorem InvI.next (ht : ∀ {a b c : α}, lt a b = true → lt b c = true → lt a c = true) (h : InvI lt l0 i j l) (hj : 0 < j) (hlt : lt (l.getD j d) (l.getD (j - 1) d) = true) :
  InvI lt l0 i (j - 1) ((l.set j (l.getD (j - 1) d)).set (j - 1) (l.getD j d)) := by
 obtain ⟨P, x, S, R, h1, h2, h3, h4, h5, h6⟩ := h
 obtain ⟨Q, y, rfl⟩ := snocOf (P := P) (by omega)
 have hl : l = Q ++ y :: x :: (S ++ R) := by rw [h1]; simp
 have hj' : j = Q.length + 1 := by rw [← h2]; simp
 subst hj'
 rw [hl] at hlt ⊢
 rw [at1, show Q.length + 1 - 1 = Q.length by omega, at0] at hlt
 rw [at1, show Q.length + 1 - 1 = Q.length by omega, at0, swap_eq]
 refine ⟨Q, x, y :: S, R, by simp, rfl, by simp at h3 ⊢; omega, ?_, by simpa using h5, ?_⟩
 ·rw [hl] at h4
  exact ((List.Perm.swap y x (S ++ R)).append_left Q).trans h4
 ·intro s hs
  rcases List.mem_cons.1 hs with rfl | hs
  ·exact hlt
  ·exact h6 s hs
theorem InvI.done (ha : ∀ {a b : α}, lt a b = true → lt b a = false) (hn : ∀ {a b c : α}, lt b a = false → lt c b = false → lt c a = false) (h : InvI lt l0 i j l) (hx : j = 0 ∨ lt (l.getD j d) (l.getD (j - 1) d) = false) : InvO lt l0 (i + 1) l := by
 obtain ⟨P, x, S, R, h1, h2, h3, h4, h5, h6⟩ := h
 refine ⟨P ++ x :: S, R, by rw [h1]; simp, by rw [h1]; simp; omega, h4, ?_⟩
 unfold OrdL at h5 ⊢
 obtain ⟨k1, k2, k3⟩ := List.pairwise_append.1 h5
 refine List.pairwise_append.2 ⟨k1, List.pairwise_cons.2 ⟨fun s hs => ha (h6 s hs), k2⟩, fun a hA b hb => ?_⟩
 rcases List.mem_cons.1 hb with rfl | hb
 ·rcases hx with hx | hx
  ·subst hx; rw [List.eq_nil_of_length_eq_zero h2] at hA; cases hA
  ·obtain ⟨Q, y, rfl⟩ := snocOf (P := P) (List.length_pos_of_mem hA)
   have hl : l = Q ++ y :: b :: (S ++ R) := by rw [h1]; simp
   have hj' : j = Q.length + 1 := by rw [← h2]; simp
   subst hj'
   rw [hl, at1, show Q.length + 1 - 1 = Q.length by omega, at0] at hx
   rcases List.mem_append.1 hA with hA | hA
   ·have := (List.pairwise_append.1 k1).2.2 a hA y (by simp)
    exact hn this hx
   ·simp at hA; subst hA; exact hx
 ·exact k3 a hA b hb
theorem InvO.all (h : InvO lt l0 i l) (hi : l.length ≤ i) : l.Perm l0 ∧ OrdL lt l := by
 obtain ⟨P, R, h1, h2, h3, h4⟩ := h
 rw [Nat.min_eq_right hi] at h2
 have : R = [] := by rw [h1] at h2; simpa using h2
 subst this
 rw [List.append_nil] at h1
 subst h1
 exact ⟨h3, h4⟩
end
end Go.Proofs.YtdnlhdilpdeecaaGreatDoor
