/- Part 1 of a proof: the walks and laws that it needs. -/
import Derived.Laws.StructEq
import Derived.Test.YtceflkkgmmcieaaGreatDoorProg
import Derived.Test.YtceflkkgmmcieaaGreatDoorZB4
namespace Go.Proofs.YtceflkkgmmcieaaGreatDoor
open Go.RowKit
set_option linter.unusedVariables false
set_option linter.unusedSimpArgs false

inductive EqFs (P : Program) : Nat → List Field → List AV → List AV → Bool → Prop where
 | nil (off : Nat) : EqFs P off [] [] [] true
 | int {off : Nat} {f : Field} {fs : List Field} {k k' : IntKind} {a b : Int} {xs ys : List AV} {r : Bool} (hu : P.underlying f.type = some (.int k')) (hag : ∀ w, (isAgg f.type).run P w = .ok false w) (ho : f.offset = off) (hn : f.name ≠ "_") (h : EqFs P (off + 1) fs xs ys r) :
   EqFs P off (f :: fs) (.v (.int k a) :: xs) (.v (.int k b) :: ys) (decide (a = b) && r)
 | str {off : Nat} {f : Field} {fs : List Field} {a b : ByteArray} {xs ys : List AV} {r : Bool} (hu : P.underlying f.type = some .string) (hag : ∀ w, (isAgg f.type).run P w = .ok false w) (ho : f.offset = off) (hn : f.name ≠ "_") (h : EqFs P (off + 1) fs xs ys r) :
   EqFs P off (f :: fs) (.v (.string a) :: xs) (.v (.string b) :: ys) (sEq a b && r)
 | bool {off : Nat} {f : Field} {fs : List Field} {a b : Bool} {xs ys : List AV} {r : Bool} (hu : P.underlying f.type = some .bool) (hag : ∀ w, (isAgg f.type).run P w = .ok false w) (ho : f.offset = off) (hn : f.name ≠ "_") (h : EqFs P (off + 1) fs xs ys r) :
   EqFs P off (f :: fs) (.v (.bool a) :: xs) (.v (.bool b) :: ys) ((a == b) && r)

theorem EqFs.run {P : Program} {w : World} {Z : Nat → Prop} {us vs : Array Value} {d : Nat} : ∀ {off : Nat} {fs : List Field} {xs ys : List AV} {r : Bool}, EqFs P off fs xs ys r →
  (∀ j, (h : j < xs.length) → off + j < us.size ∧ Rep w Z xs[j] (us.getD (off + j) undef)) → (∀ j, (h : j < ys.length) → off + j < vs.size ∧ Rep w Z ys[j] (vs.getD (off + j) undef)) → ∀ w', (Op.eqFields (d + 1) us vs fs).run P w' = .ok r w' := by
 intro off fs xs ys r h
 have cellP : ∀ (t : TypeId) (us : Array Value) (off : Nat) (v : Value) (w' : World), (∀ w, (isAgg t).run P w = .ok false w) → off < us.size → us.getD off undef = v → (part t us off).run P w' = .ok v w' := fun t us off v w' hag hl hv => by
  have : us[off]? = some v := by rw [← hv, Array.getD_eq_getD_getElem?, Array.getElem?_eq_getElem hl]; rfl
  simp [part, hag, this]
 have sh : ∀ n j : Nat, n + (j + 1) = n + 1 + j := fun n j => by omega
 induction h with
 | nil off => intro _ _ w'; rfl
 | int hu hag ho hn h ih =>
  intro h1 h2 w'
  obtain ⟨k1, k2⟩ := h1 0 (by simp)
  obtain ⟨k3, k4⟩ := h2 0 (by simp)
  subst ho
  have e1 := cellP _ us _ _ w' hag k1 k2.eq_v
  have e2 := cellP _ vs _ _ w' hag k3 k4.eq_v
  have ih' := ih (fun j hj => by have := h1 (j + 1) (by simpa using hj); rw [sh] at this; exact this) (fun j hj => by have := h2 (j + 1) (by simpa using hj); rw [sh] at this; exact this) w'
  simp only [Nat.add_zero] at e1 e2
  rename_i a b _ _ _
  have e3 := fun k => run_equalIn_int (P := P) w' d _ k _ a b hu
  simp only [Op.eqFields, hn, ne_eq, not_false_eq_true, if_true, Sem.run_bind, e1, e2, e3, Result.andThen_ok]
  by_cases hab : a = b
  ·subst hab; simpa using ih'
  ·simp [hab]
 | str hu hag ho hn h ih =>
  intro h1 h2 w'
  obtain ⟨k1, k2⟩ := h1 0 (by simp)
  obtain ⟨k3, k4⟩ := h2 0 (by simp)
  subst ho
  have e1 := cellP _ us _ _ w' hag k1 k2.eq_v
  have e2 := cellP _ vs _ _ w' hag k3 k4.eq_v
  have ih' := ih (fun j hj => by have := h1 (j + 1) (by simpa using hj); rw [sh] at this; exact this) (fun j hj => by have := h2 (j + 1) (by simpa using hj); rw [sh] at this; exact this) w'
  simp only [Nat.add_zero] at e1 e2
  rename_i a b _ _ _
  have e3 := run_equalIn_string (P := P) w' d _ a b hu
  simp only [Op.eqFields, hn, ne_eq, not_false_eq_true, if_true, Sem.run_bind, e1, e2, e3, Result.andThen_ok]
  cases hab : sEq a b with
  | true => unfold sEq at hab; rw [hab]; simpa using ih'
  | false => unfold sEq at hab; rw [hab]; simp
 | bool hu hag ho hn h ih =>
  intro h1 h2 w'
  obtain ⟨k1, k2⟩ := h1 0 (by simp)
  obtain ⟨k3, k4⟩ := h2 0 (by simp)
  subst ho
  have e1 := cellP _ us _ _ w' hag k1 k2.eq_v
  have e2 := cellP _ vs _ _ w' hag k3 k4.eq_v
  have ih' := ih (fun j hj => by have := h1 (j + 1) (by simpa using hj); rw [sh] at this; exact this) (fun j hj => by have := h2 (j + 1) (by simpa using hj); rw [sh] at this; exact this) w'
  simp only [Nat.add_zero] at e1 e2
  rename_i a b _ _ _
  have e3 := run_equalIn_bool' (P := P) w' d _ a b hu
  simp only [Op.eqFields, hn, ne_eq, not_false_eq_true, if_true, Sem.run_bind, e1, e2, e3, Result.andThen_ok]
  cases hab : (a == b) with
  | true => simpa using ih'
  | false => simp

section
variable {P : Program} {B : Bs} {W : Nat → Prop} {s : St'} {o : Oper}
theorem agg_eq {w : World} {Z : Nat → Prop} {t : TypeId} {xs ys : List AV} {u v : Value} {r : Bool} (hu : P.underlying t = some (.struct (P.fieldsOf t))) (hs : P.stoodInHeld t = false) (h : EqFs P 0 (P.fieldsOf t).toList xs ys r) (hx : Rep w Z (.agg xs) u) (hy : Rep w Z (.agg ys) v) :
  ∃ us vs, u = .agg us ∧ v = .agg vs ∧ ∀ w', (Op.equalIn 10000 t u v).run P w' = .ok r w' := by
 cases hx with
 | agg _ us l1 r1 =>
  cases hy with
  | agg _ vs l2 r2 =>
   refine ⟨us, vs, rfl, rfl, fun w' => ?_⟩
   rw [run_equalIn_struct w' 9999 t us vs hu hs]
   exact h.run (w := w) (Z := Z) (fun j hj => ⟨by omega, by rw [Nat.zero_add]; exact r1 j hj⟩) (fun j hj => ⟨by omega, by rw [Nat.zero_add]; exact r2 j hj⟩) w'
theorem OpV.aneq {x y : Operand} {t u : TypeId} {xs ys : List AV} {r : Bool} (ho : o.op = .binOp .neq t x y u) (hu : P.underlying t = some (.struct (P.fieldsOf t))) (hs : P.stoodInHeld t = false) (hg : P.eqGuardType P.depth t = false)
  (hx : evO s x = some (.agg xs)) (hy : evO s y = some (.agg ys)) (h : EqFs P 0 (P.fieldsOf t).toList xs ys r) : OpV P B W s o (avB (!r)) := fun a w hr => by
 obtain ⟨us, vs, e1, e2, e3⟩ := agg_eq hu hs h (hr.ev hx) (hr.ev hy)
 rw [e1, e2] at e3
 refine ⟨_, fun w' _ => ?_, .v _⟩
 simp only [execOp, ho, e1, e2, Sem.run_bind, run_eqGuard_agg w' _ t x y us vs hg, run_neq_struct, e3, Result.andThen_ok, Sem.run_pure]
end
end Go.Proofs.YtceflkkgmmcieaaGreatDoor
namespace Go.Proofs.YtceflkkgmmcieaaGreatDoor
open Go.RowKit
set_option linter.unusedVariables false
set_option linter.unusedSimpArgs false
set_option maxRecDepth 100000 in
theorem panel_isSize {n : Int}  :
  SpecN Tryz.prog 83 [avI n] (fun y => y = avB (!outR n 1 500000)) := by
 refine SpecN.of_VCN Tryz.func83 rfl Tryz.ntmps83 (Nle rfl) fun w A hB => ?_
 have hnew : True := trivial
 refine VC.sr ?_
 refine VO.ma rfl rfl rfl rfl ?_
 refine VO.nil ?_
 refine VC.sr ?_
 refine VO.mv rfl rfl rfl rfl ?_
 refine VO.op rfl (OpE.call rfl hB rfl Tryz.call131 rfl (SpecN.spec (kit_Outside)) ?_)
 rintro _ rfl
 refine VO.val rfl rfl (OpV.not rfl rfl) ?_
 refine VO.ma rfl rfl rfl rfl ?_
 refine VO.nil ?_
 refine VC.ret ?_
 exact Exists.intro _ (And.intro (RetN.one Tryz.results83 (ResN.v rfl)) (rfl))
set_option maxRecDepth 100000 in
theorem panel_placementFault {p : ProdS} {i : Nat} (hs : SmP p) (hi : i < p.places.length) :
  SpecN Tryz.prog 84 [avProd p, avI (i : Int)] (fun y => y = avI (placeE p i)) := by
 refine SpecN.of_VCN Tryz.func84 rfl Tryz.ntmps84 (Nle rfl) fun w A hB => ?_
 have hnew : True := trivial
 refine VC.seq ?_
 have hl := hs.len
 refine VC.region ?_
 refine VO.op rfl (OpE.box rfl hB rfl rfl rfl ?_)
 intro g2
 refine VO.ma rfl rfl rfl rfl ?_
 refine VO.nil ?_
 refine VC.sr ?_
 refine VO.val rfl rfl (OpV.fieldAddrO 3 rfl Tryz.underlying28 rfl rfl Tryz.sizeOf26 rfl) ?_
 refine VO.val rfl rfl (OpV.load_own (i := 0) rfl hB Tryz.isAgg26 rfl rfl rfl (fun h => h)) ?_
 refine VO.mv rfl rfl rfl rfl ?_
 refine VO.val rfl rfl (OpV.indexAddr_E rfl Tryz.underlying26 Tryz.sizeOf50 rfl rfl rfl (by omega)) ?_
 refine VO.val rfl rfl (OpV.loadK_at rfl hB OutW.no Tryz.isAgg50 Tryz.sizeOf50 rfl rfl) ?_
 refine VO.op rfl (OpE.alloc rfl hB rfl Tryz.zeroValue50 rfl ?_)
 intro g5
 refine VO.op rfl (OpE.store (i := 1) rfl hB rfl Tryz.sizeOf50 rfl rfl rfl rfl rfl rfl (Nle rfl) trivial ?_)
 refine VO.nil ?_
 refine VC.seq ?_
 refine VC.block ?_
 refine VC.sr ?_
 refine VO.val rfl rfl (OpV.fieldAddrO 0 rfl Tryz.underlying50 rfl rfl Tryz.sizeOf9 rfl) ?_
 refine VO.val rfl rfl (OpV.load_own (i := 1) rfl hB Tryz.isAgg9 rfl rfl rfl (fun h => h)) ?_
 refine VO.op rfl (OpE.call rfl hB rfl Tryz.call82 rfl (SpecN.spec (kit_IsKey (by have := hs.name i; omega))) ?_)
 rintro _ rfl
 refine VO.val rfl rfl (OpV.not rfl rfl) ?_
 refine VO.mv rfl rfl rfl rfl ?_
 refine VO.opG rfl rfl rfl rfl (fun aK1b => ?_) (fun aK1b => ?_)
 ·replace aK1b : _ = false := aK1b
  have aK1 := aK1b
  try simp only [qqT, qqF, qqN, qqM, qqL, qqE] at aK1
  refine OpE.val (W := NoB) (OpV.fieldAddrO 1 rfl Tryz.underlying50 rfl rfl Tryz.sizeOf9 rfl) rfl ?_
  refine VO.opY rfl rfl rfl rfl aK1b ?_
  refine OpE.val (W := NoB) (OpV.load_own (i := 1) rfl hB Tryz.isAgg9 rfl rfl rfl (fun h => h)) rfl ?_
  refine VO.opY rfl rfl rfl rfl aK1b ?_
  refine OpE.call rfl hB rfl Tryz.call82 rfl (SpecN.spec (kit_IsKey (by have := hs.part i; omega))) ?_
  rintro _ rfl
  refine VO.opY rfl rfl rfl rfl aK1b ?_
  refine OpE.val (W := NoB) (OpV.not rfl rfl) rfl ?_
  refine VO.val rfl rfl (OpV.pickF rfl rfl rfl rfl aK1b) ?_
  refine VO.ma rfl rfl rfl rfl ?_
  refine VO.nil ?_
  refine VC.cond rfl (fun aH2b => ?_) (fun aH2b => ?_)
  ·have aH2 := aH2b
   try simp only [qqT, qqF, qqN, qqM, qqL, qqE] at aH2
   refine VC.sr ?_
   refine VO.ma rfl rfl rfl rfl ?_
   refine VO.nil ?_
   refine VC.ret ?_
   exact Exists.intro _ (And.intro (RetN.one Tryz.results84 (ResN.v rfl)) (by first | rw [placeE_5a (by assumption)] | rw [placeE_5b (by assumption)]))
  ·have aH2 := aH2b
   try simp only [qqT, qqF, qqN, qqM, qqL, qqE] at aH2
   refine VC.seq ?_
   refine VC.draw (fun _ => NoB) hB (by kernel_rfl) ?_
   refine VA.take (i := 0) rfl (by kernel_rfl) (by kernel_rfl) (by kernel_rfl) rfl rfl (OpV.move (.inl rfl) rfl) ?_
   refine VA.take (i := 1) rfl (by kernel_rfl) (by kernel_rfl) (by kernel_rfl) rfl rfl (OpV.gtr rfl rfl rfl) ?_
   refine VA.take (i := 2) rfl (by kernel_rfl) (by kernel_rfl) (by kernel_rfl) rfl rfl (OpV.move (.inl rfl) rfl) ?_
   refine VA.split (t := 25) rfl (fun aK3b => ?_) (fun aK3b => ?_)
   ·have aK3 := aK3b
    try simp only [qqT, qqF, qqN, qqM, qqL, qqE] at aK3
    refine VA.takeY (i := 3) rfl (by kernel_rfl) (by kernel_rfl) (by kernel_rfl) rfl rfl rfl rfl aK3b (OpV.fieldAddrO 0 rfl Tryz.underlying50 rfl rfl Tryz.sizeOf9 rfl) ?_
    refine VA.takeY (i := 4) rfl (by kernel_rfl) (by kernel_rfl) (by kernel_rfl) rfl rfl rfl rfl aK3b (OpV.load_own (i := 1) rfl hB Tryz.isAgg9 rfl rfl rfl Wi.not0) ?_
    refine VA.takeY (i := 5) rfl (by kernel_rfl) (by kernel_rfl) (by kernel_rfl) rfl rfl rfl rfl aK3b (OpV.fieldAddrO 3 rfl Tryz.underlying28 rfl rfl Tryz.sizeOf26 rfl) ?_
    refine VA.takeY (i := 6) rfl (by kernel_rfl) (by kernel_rfl) (by kernel_rfl) rfl rfl rfl rfl aK3b (OpV.load_own (i := 0) rfl hB Tryz.isAgg26 rfl rfl rfl Wi.not0) ?_
    refine VA.takeY (i := 7) rfl (by kernel_rfl) (by kernel_rfl) (by kernel_rfl) rfl rfl rfl rfl aK3b (OpV.move (.inl rfl) rfl) ?_
    refine VA.takeY (i := 8) rfl (by kernel_rfl) (by kernel_rfl) (by kernel_rfl) rfl rfl rfl rfl aK3b (OpV.sub rfl rfl rfl (by unfold fits; omega)) ?_
    refine VA.takeY (i := 9) rfl (by kernel_rfl) (by kernel_rfl) (by kernel_rfl) rfl rfl rfl rfl aK3b (OpV.indexAddr_E rfl Tryz.underlying26 Tryz.sizeOf50 rfl rfl (show ((i : Int) - 1) = ((i - 1 : Nat) : Int) by omega) (by omega)) ?_
    refine VA.takeY (i := 10) rfl (by kernel_rfl) (by kernel_rfl) (by kernel_rfl) rfl rfl rfl rfl aK3b (OpV.fieldAddr_atO 0 rfl Tryz.underlying50 rfl rfl Tryz.sizeOf9 rfl rfl) ?_
    refine VA.takeY (i := 11) rfl (by kernel_rfl) (by kernel_rfl) (by kernel_rfl) rfl rfl rfl rfl aK3b (OpV.load_at rfl hB OutW.wi0 Tryz.isAgg9 rfl rfl) ?_
    refine VA.takeY (i := 12) rfl (by kernel_rfl) (by kernel_rfl) (by kernel_rfl) rfl rfl rfl rfl aK3b (OpV.sleq rfl rfl rfl) ?_
    refine VA.take (i := 13) rfl (by kernel_rfl) (by kernel_rfl) (by kernel_rfl) rfl rfl (OpV.pickT rfl rfl rfl rfl aK3b) ?_
    refine VA.take (i := 14) rfl (by kernel_rfl) (by kernel_rfl) (by kernel_rfl) rfl rfl (OpV.move (.inr rfl) rfl) ?_
    refine VA.done (by kernel_rfl) ?_
    refine VC.cond rfl (fun aH4b => ?_) (fun aH4b => ?_)
    ·have aH4 := aH4b
     try simp only [qqT, qqF, qqN, qqM, qqL, qqE] at aH4
     refine VC.sr ?_
     refine VO.ma rfl rfl rfl rfl ?_
     refine VO.nil ?_
     refine VC.ret ?_
     exact Exists.intro _ (And.intro (RetN.one Tryz.results84 (ResN.v rfl)) (by rw [placeE_7 (by assumption) (by assumption) (by omega) (by assumption)]))
    ·have aH4 := aH4b
     try simp only [qqT, qqF, qqN, qqM, qqL, qqE] at aH4
     refine VC.sr ?_
     refine VO.val rfl rfl (OpV.fieldAddrO 2 rfl Tryz.underlying50 rfl rfl Tryz.sizeOf3 rfl) ?_
     refine VO.val rfl rfl (OpV.load_own (i := 1) rfl hB Tryz.isAgg3 rfl rfl rfl (fun h => h)) ?_
     refine VO.val rfl rfl (OpV.fieldAddrO 1 rfl Tryz.underlying28 rfl rfl Tryz.sizeOf3 rfl) ?_
     refine VO.val rfl rfl (OpV.load_own (i := 0) rfl hB Tryz.isAgg3 rfl rfl rfl (fun h => h)) ?_
     refine VO.op rfl (OpE.call rfl hB rfl Tryz.call131 rfl (SpecN.spec (kit_Outside)) ?_)
     rintro _ rfl
     refine VO.mv rfl rfl rfl rfl ?_
     refine VO.opG rfl rfl rfl rfl (fun aK5b => ?_) (fun aK5b => ?_)
     ·replace aK5b : _ = false := aK5b
      have aK5 := aK5b
      try simp only [qqT, qqF, qqN, qqM, qqL, qqE] at aK5
      refine OpE.val (W := NoB) (OpV.fieldAddrO 3 rfl Tryz.underlying50 rfl rfl Tryz.sizeOf3 rfl) rfl ?_
      refine VO.opY rfl rfl rfl rfl aK5b ?_
      refine OpE.val (W := NoB) (OpV.load_own (i := 1) rfl hB Tryz.isAgg3 rfl rfl rfl (fun h => h)) rfl ?_
      refine VO.opY rfl rfl rfl rfl aK5b ?_
      refine OpE.val (W := NoB) (OpV.fieldAddrO 2 rfl Tryz.underlying28 rfl rfl Tryz.sizeOf3 rfl) rfl ?_
      refine VO.opY rfl rfl rfl rfl aK5b ?_
      refine OpE.val (W := NoB) (OpV.load_own (i := 0) rfl hB Tryz.isAgg3 rfl rfl rfl (fun h => h)) rfl ?_
      refine VO.opY rfl rfl rfl rfl aK5b ?_
      refine OpE.call rfl hB rfl Tryz.call131 rfl (SpecN.spec (kit_Outside)) ?_
      rintro _ rfl
      refine VO.val rfl rfl (OpV.pickF rfl rfl rfl rfl aK5b) ?_
      refine VO.mv rfl rfl rfl rfl ?_
      refine VO.opG rfl rfl rfl rfl (fun aK6b => ?_) (fun aK6b => ?_)
      ·replace aK6b : _ = false := aK6b
       have aK6 := aK6b
       try simp only [qqT, qqF, qqN, qqM, qqL, qqE] at aK6
       refine OpE.val (W := NoB) (OpV.fieldAddrO 4 rfl Tryz.underlying50 rfl rfl Tryz.sizeOf3 rfl) rfl ?_
       refine VO.opY rfl rfl rfl rfl aK6b ?_
       refine OpE.val (W := NoB) (OpV.load_own (i := 1) rfl hB Tryz.isAgg3 rfl rfl rfl (fun h => h)) rfl ?_
       refine VO.opY rfl rfl rfl rfl aK6b ?_
       refine OpE.call rfl hB rfl Tryz.call131 rfl (SpecN.spec (kit_Outside)) ?_
       rintro _ rfl
       refine VO.val rfl rfl (OpV.pickF rfl rfl rfl rfl aK6b) ?_
       refine VO.ma rfl rfl rfl rfl ?_
       refine VO.nil ?_
       refine VC.cond rfl (fun aH7b => ?_) (fun aH7b => ?_)
       ·have aH7 := aH7b
        try simp only [qqT, qqF, qqN, qqM, qqL, qqE] at aH7
        refine VC.sr ?_
        refine VO.ma rfl rfl rfl rfl ?_
        refine VO.nil ?_
        refine VC.ret ?_
        exact Exists.intro _ (And.intro (RetN.one Tryz.results84 (ResN.v rfl)) (by first | rw [placeE_1 (by assumption) (by assumption) (by first | (left; omega) | (right; assumption)) (by first | exact or3a (by assumption) | exact or3b (by assumption) | exact or3c (by assumption))]))
       ·have aH7 := aH7b
        try simp only [qqT, qqF, qqN, qqM, qqL, qqE] at aH7
        refine VC.skip ?_
        refine VC.sr ?_
        refine VO.ma rfl rfl rfl rfl ?_
        refine VO.nil ?_
        refine VC.ret ?_
        exact Exists.intro _ (And.intro (RetN.one Tryz.results84 (ResN.v rfl)) (by rw [placeE_0 (by assumption) (by assumption) (by first | (left; omega) | (right; assumption)) (or3f (by assumption) (by assumption) (by assumption))]))
      ·replace aK6b : _ = true := aK6b
       have aK6 := aK6b
       try simp only [qqT, qqF, qqN, qqM, qqL, qqE] at aK6
       refine VO.opX rfl rfl rfl rfl aK6b ?_
       refine VO.opX rfl rfl rfl rfl aK6b ?_
       refine VO.val rfl rfl (OpV.pickT rfl rfl rfl rfl aK6b) ?_
       refine VO.ma rfl rfl rfl rfl ?_
       refine VO.nil ?_
       refine VC.condT rfl rfl ?_
       refine VC.sr ?_
       refine VO.ma rfl rfl rfl rfl ?_
       refine VO.nil ?_
       refine VC.ret ?_
       exact Exists.intro _ (And.intro (RetN.one Tryz.results84 (ResN.v rfl)) (by first | rw [placeE_1 (by assumption) (by assumption) (by first | (left; omega) | (right; assumption)) (by first | exact or3a (by assumption) | exact or3b (by assumption) | exact or3c (by assumption))]))
     ·replace aK5b : _ = true := aK5b
      have aK5 := aK5b
      try simp only [qqT, qqF, qqN, qqM, qqL, qqE] at aK5
      refine VO.opX rfl rfl rfl rfl aK5b ?_
      refine VO.opX rfl rfl rfl rfl aK5b ?_
      refine VO.opX rfl rfl rfl rfl aK5b ?_
      refine VO.opX rfl rfl rfl rfl aK5b ?_
      refine VO.val rfl rfl (OpV.pickT rfl rfl rfl rfl aK5b) ?_
      refine VO.mv rfl rfl rfl rfl ?_
      refine VO.opX rfl rfl rfl rfl rfl ?_
      refine VO.opX rfl rfl rfl rfl rfl ?_
      refine VO.opX rfl rfl rfl rfl rfl ?_
      refine VO.val rfl rfl (OpV.pickT rfl rfl rfl rfl rfl) ?_
      refine VO.ma rfl rfl rfl rfl ?_
      refine VO.nil ?_
      refine VC.condT rfl rfl ?_
      refine VC.sr ?_
      refine VO.ma rfl rfl rfl rfl ?_
      refine VO.nil ?_
      refine VC.ret ?_
      exact Exists.intro _ (And.intro (RetN.one Tryz.results84 (ResN.v rfl)) (by first | rw [placeE_1 (by assumption) (by assumption) (by first | (left; omega) | (right; assumption)) (by first | exact or3a (by assumption) | exact or3b (by assumption) | exact or3c (by assumption))]))
   ·have aK3 := aK3b
    try simp only [qqT, qqF, qqN, qqM, qqL, qqE] at aK3
    refine VA.takeX (i := 3) rfl (by kernel_rfl) (by kernel_rfl) (by kernel_rfl) rfl rfl rfl rfl aK3b ?_
    refine VA.takeX (i := 4) rfl (by kernel_rfl) (by kernel_rfl) (by kernel_rfl) rfl rfl rfl rfl aK3b ?_
    refine VA.takeX (i := 5) rfl (by kernel_rfl) (by kernel_rfl) (by kernel_rfl) rfl rfl rfl rfl aK3b ?_
    refine VA.takeX (i := 6) rfl (by kernel_rfl) (by kernel_rfl) (by kernel_rfl) rfl rfl rfl rfl aK3b ?_
    refine VA.takeX (i := 7) rfl (by kernel_rfl) (by kernel_rfl) (by kernel_rfl) rfl rfl rfl rfl aK3b ?_
    refine VA.takeX (i := 8) rfl (by kernel_rfl) (by kernel_rfl) (by kernel_rfl) rfl rfl rfl rfl aK3b ?_
    refine VA.takeX (i := 9) rfl (by kernel_rfl) (by kernel_rfl) (by kernel_rfl) rfl rfl rfl rfl aK3b ?_
    refine VA.takeX (i := 10) rfl (by kernel_rfl) (by kernel_rfl) (by kernel_rfl) rfl rfl rfl rfl aK3b ?_
    refine VA.takeX (i := 11) rfl (by kernel_rfl) (by kernel_rfl) (by kernel_rfl) rfl rfl rfl rfl aK3b ?_
    refine VA.takeX (i := 12) rfl (by kernel_rfl) (by kernel_rfl) (by kernel_rfl) rfl rfl rfl rfl aK3b ?_
    refine VA.take (i := 13) rfl (by kernel_rfl) (by kernel_rfl) (by kernel_rfl) rfl rfl (OpV.pickF rfl rfl rfl rfl aK3b) ?_
    refine VA.take (i := 14) rfl (by kernel_rfl) (by kernel_rfl) (by kernel_rfl) rfl rfl (OpV.move (.inr rfl) rfl) ?_
    refine VA.done (by kernel_rfl) ?_
    refine VC.condF rfl rfl ?_
    refine VC.sr ?_
    refine VO.val rfl rfl (OpV.fieldAddrO 2 rfl Tryz.underlying50 rfl rfl Tryz.sizeOf3 rfl) ?_
    refine VO.val rfl rfl (OpV.load_own (i := 1) rfl hB Tryz.isAgg3 rfl rfl rfl (fun h => h)) ?_
    refine VO.val rfl rfl (OpV.fieldAddrO 1 rfl Tryz.underlying28 rfl rfl Tryz.sizeOf3 rfl) ?_
    refine VO.val rfl rfl (OpV.load_own (i := 0) rfl hB Tryz.isAgg3 rfl rfl rfl (fun h => h)) ?_
    refine VO.op rfl (OpE.call rfl hB rfl Tryz.call131 rfl (SpecN.spec (kit_Outside)) ?_)
    rintro _ rfl
    refine VO.mv rfl rfl rfl rfl ?_
    refine VO.opG rfl rfl rfl rfl (fun aK8b => ?_) (fun aK8b => ?_)
    ·replace aK8b : _ = false := aK8b
     have aK8 := aK8b
     try simp only [qqT, qqF, qqN, qqM, qqL, qqE] at aK8
     refine OpE.val (W := NoB) (OpV.fieldAddrO 3 rfl Tryz.underlying50 rfl rfl Tryz.sizeOf3 rfl) rfl ?_
     refine VO.opY rfl rfl rfl rfl aK8b ?_
     refine OpE.val (W := NoB) (OpV.load_own (i := 1) rfl hB Tryz.isAgg3 rfl rfl rfl (fun h => h)) rfl ?_
     refine VO.opY rfl rfl rfl rfl aK8b ?_
     refine OpE.val (W := NoB) (OpV.fieldAddrO 2 rfl Tryz.underlying28 rfl rfl Tryz.sizeOf3 rfl) rfl ?_
     refine VO.opY rfl rfl rfl rfl aK8b ?_
     refine OpE.val (W := NoB) (OpV.load_own (i := 0) rfl hB Tryz.isAgg3 rfl rfl rfl (fun h => h)) rfl ?_
     refine VO.opY rfl rfl rfl rfl aK8b ?_
     refine OpE.call rfl hB rfl Tryz.call131 rfl (SpecN.spec (kit_Outside)) ?_
     rintro _ rfl
     refine VO.val rfl rfl (OpV.pickF rfl rfl rfl rfl aK8b) ?_
     refine VO.mv rfl rfl rfl rfl ?_
     refine VO.opG rfl rfl rfl rfl (fun aK9b => ?_) (fun aK9b => ?_)
     ·replace aK9b : _ = false := aK9b
      have aK9 := aK9b
      try simp only [qqT, qqF, qqN, qqM, qqL, qqE] at aK9
      refine OpE.val (W := NoB) (OpV.fieldAddrO 4 rfl Tryz.underlying50 rfl rfl Tryz.sizeOf3 rfl) rfl ?_
      refine VO.opY rfl rfl rfl rfl aK9b ?_
      refine OpE.val (W := NoB) (OpV.load_own (i := 1) rfl hB Tryz.isAgg3 rfl rfl rfl (fun h => h)) rfl ?_
      refine VO.opY rfl rfl rfl rfl aK9b ?_
      refine OpE.call rfl hB rfl Tryz.call131 rfl (SpecN.spec (kit_Outside)) ?_
      rintro _ rfl
      refine VO.val rfl rfl (OpV.pickF rfl rfl rfl rfl aK9b) ?_
      refine VO.ma rfl rfl rfl rfl ?_
      refine VO.nil ?_
      refine VC.cond rfl (fun aH10b => ?_) (fun aH10b => ?_)
      ·have aH10 := aH10b
       try simp only [qqT, qqF, qqN, qqM, qqL, qqE] at aH10
       refine VC.sr ?_
       refine VO.ma rfl rfl rfl rfl ?_
       refine VO.nil ?_
       refine VC.ret ?_
       exact Exists.intro _ (And.intro (RetN.one Tryz.results84 (ResN.v rfl)) (by first | rw [placeE_1 (by assumption) (by assumption) (by first | (left; omega) | (right; assumption)) (by first | exact or3a (by assumption) | exact or3b (by assumption) | exact or3c (by assumption))]))
      ·have aH10 := aH10b
       try simp only [qqT, qqF, qqN, qqM, qqL, qqE] at aH10
       refine VC.skip ?_
       refine VC.sr ?_
       refine VO.ma rfl rfl rfl rfl ?_
       refine VO.nil ?_
       refine VC.ret ?_
       exact Exists.intro _ (And.intro (RetN.one Tryz.results84 (ResN.v rfl)) (by rw [placeE_0 (by assumption) (by assumption) (by first | (left; omega) | (right; assumption)) (or3f (by assumption) (by assumption) (by assumption))]))
     ·replace aK9b : _ = true := aK9b
      have aK9 := aK9b
      try simp only [qqT, qqF, qqN, qqM, qqL, qqE] at aK9
      refine VO.opX rfl rfl rfl rfl aK9b ?_
      refine VO.opX rfl rfl rfl rfl aK9b ?_
      refine VO.val rfl rfl (OpV.pickT rfl rfl rfl rfl aK9b) ?_
      refine VO.ma rfl rfl rfl rfl ?_
      refine VO.nil ?_
      refine VC.condT rfl rfl ?_
      refine VC.sr ?_
      refine VO.ma rfl rfl rfl rfl ?_
      refine VO.nil ?_
      refine VC.ret ?_
      exact Exists.intro _ (And.intro (RetN.one Tryz.results84 (ResN.v rfl)) (by first | rw [placeE_1 (by assumption) (by assumption) (by first | (left; omega) | (right; assumption)) (by first | exact or3a (by assumption) | exact or3b (by assumption) | exact or3c (by assumption))]))
    ·replace aK8b : _ = true := aK8b
     have aK8 := aK8b
     try simp only [qqT, qqF, qqN, qqM, qqL, qqE] at aK8
     refine VO.opX rfl rfl rfl rfl aK8b ?_
     refine VO.opX rfl rfl rfl rfl aK8b ?_
     refine VO.opX rfl rfl rfl rfl aK8b ?_
     refine VO.opX rfl rfl rfl rfl aK8b ?_
     refine VO.val rfl rfl (OpV.pickT rfl rfl rfl rfl aK8b) ?_
     refine VO.mv rfl rfl rfl rfl ?_
     refine VO.opX rfl rfl rfl rfl rfl ?_
     refine VO.opX rfl rfl rfl rfl rfl ?_
     refine VO.opX rfl rfl rfl rfl rfl ?_
     refine VO.val rfl rfl (OpV.pickT rfl rfl rfl rfl rfl) ?_
     refine VO.ma rfl rfl rfl rfl ?_
     refine VO.nil ?_
     refine VC.condT rfl rfl ?_
     refine VC.sr ?_
     refine VO.ma rfl rfl rfl rfl ?_
     refine VO.nil ?_
     refine VC.ret ?_
     exact Exists.intro _ (And.intro (RetN.one Tryz.results84 (ResN.v rfl)) (by first | rw [placeE_1 (by assumption) (by assumption) (by first | (left; omega) | (right; assumption)) (by first | exact or3a (by assumption) | exact or3b (by assumption) | exact or3c (by assumption))]))
 ·replace aK1b : _ = true := aK1b
  have aK1 := aK1b
  try simp only [qqT, qqF, qqN, qqM, qqL, qqE] at aK1
  refine VO.opX rfl rfl rfl rfl aK1b ?_
  refine VO.opX rfl rfl rfl rfl aK1b ?_
  refine VO.opX rfl rfl rfl rfl aK1b ?_
  refine VO.val rfl rfl (OpV.pickT rfl rfl rfl rfl aK1b) ?_
  refine VO.ma rfl rfl rfl rfl ?_
  refine VO.nil ?_
  refine VC.condT rfl rfl ?_
  refine VC.sr ?_
  refine VO.ma rfl rfl rfl rfl ?_
  refine VO.nil ?_
  refine VC.ret ?_
  exact Exists.intro _ (And.intro (RetN.one Tryz.results84 (ResN.v rfl)) (by first | rw [placeE_5a (by assumption)] | rw [placeE_5b (by assumption)]))
set_option maxRecDepth 100000 in
theorem panel_CheckProduct {p : ProdS} (hs : SmP p) :
  SpecN Tryz.prog 26 [avProd p] (fun y => y = avI (prodF p)) := by
 refine SpecN.of_VCN Tryz.func26 rfl Tryz.ntmps26 (Nle rfl) fun w A hB => ?_
 have hnew : True := trivial
 refine VC.seq ?_
 have hl := hs.len
 refine VC.region ?_
 refine VO.op rfl (OpE.box rfl hB rfl rfl rfl ?_)
 intro g1
 refine VO.ma rfl rfl rfl rfl ?_
 refine VO.nil ?_
 refine VC.seq ?_
 refine VC.block ?_
 refine VC.sr ?_
 refine VO.val rfl rfl (OpV.fieldAddrO 0 rfl Tryz.underlying28 rfl rfl Tryz.sizeOf9 rfl) ?_
 refine VO.val rfl rfl (OpV.load_own (i := 0) rfl hB Tryz.isAgg9 rfl rfl rfl (fun h => h)) ?_
 refine VO.op rfl (OpE.call rfl hB rfl Tryz.call82 rfl (SpecN.spec (kit_IsKey (by have := hs.key; omega))) ?_)
 rintro _ rfl
 refine VO.val rfl rfl (OpV.not rfl rfl) ?_
 refine VO.ma rfl rfl rfl rfl ?_
 refine VO.nil ?_
 refine VC.cond rfl (fun k0b => ?_) (fun k0b => ?_)
 ·have k0 := k0b
  try simp only [qqT, qqF, qqN, qqM, qqL, qqE] at k0
  refine VC.sr ?_
  refine VO.ma rfl rfl rfl rfl ?_
  refine VO.nil ?_
  refine VC.ret ?_
  exact Exists.intro _ (And.intro (RetN.one Tryz.results26 (ResN.v rfl)) (by rw [prodF_5 (by assumption)]))
 ·have k0 := k0b
  try simp only [qqT, qqF, qqN, qqM, qqL, qqE] at k0
  refine VC.sr ?_
  refine VO.val rfl rfl (OpV.fieldAddrO 1 rfl Tryz.underlying28 rfl rfl Tryz.sizeOf3 rfl) ?_
  refine VO.val rfl rfl (OpV.load_own (i := 0) rfl hB Tryz.isAgg3 rfl rfl rfl (fun h => h)) ?_
  refine VO.op rfl (OpE.call rfl hB rfl Tryz.call83 rfl (SpecN.spec (panel_isSize)) ?_)
  rintro _ rfl
  refine VO.val rfl rfl (OpV.not rfl rfl) ?_
  refine VO.mv rfl rfl rfl rfl ?_
  refine VO.opG rfl rfl rfl rfl (fun aK1b => ?_) (fun aK1b => ?_)
  ·replace aK1b : _ = false := aK1b
   have aK1 := aK1b
   try simp only [qqT, qqF, qqN, qqM, qqL, qqE] at aK1
   refine OpE.val (W := NoB) (OpV.fieldAddrO 2 rfl Tryz.underlying28 rfl rfl Tryz.sizeOf3 rfl) rfl ?_
   refine VO.opY rfl rfl rfl rfl aK1b ?_
   refine OpE.val (W := NoB) (OpV.load_own (i := 0) rfl hB Tryz.isAgg3 rfl rfl rfl (fun h => h)) rfl ?_
   refine VO.opY rfl rfl rfl rfl aK1b ?_
   refine OpE.call rfl hB rfl Tryz.call83 rfl (SpecN.spec (panel_isSize)) ?_
   rintro _ rfl
   refine VO.opY rfl rfl rfl rfl aK1b ?_
   refine OpE.val (W := NoB) (OpV.not rfl rfl) rfl ?_
   refine VO.val rfl rfl (OpV.pickF rfl rfl rfl rfl aK1b) ?_
   refine VO.ma rfl rfl rfl rfl ?_
   refine VO.nil ?_
   refine VC.cond rfl (fun k1b => ?_) (fun k1b => ?_)
   ·have k1 := k1b
    try simp only [qqT, qqF, qqN, qqM, qqL, qqE] at k1
    refine VC.sr ?_
    refine VO.ma rfl rfl rfl rfl ?_
    refine VO.nil ?_
    refine VC.ret ?_
    exact Exists.intro _ (And.intro (RetN.one Tryz.results26 (ResN.v rfl)) (by first | rw [prodF_1 k0 (or2a (by assumption))] | rw [prodF_1 k0 (or2b (by assumption))]))
   ·have k1 := k1b
    try simp only [qqT, qqF, qqN, qqM, qqL, qqE] at k1
    refine VC.sr ?_
    refine VO.val rfl rfl (OpV.fieldAddrO 3 rfl Tryz.underlying28 rfl rfl Tryz.sizeOf26 rfl) ?_
    refine VO.val rfl rfl (OpV.load_own (i := 0) rfl hB Tryz.isAgg26 rfl rfl rfl (fun h => h)) ?_
    refine VO.val rfl rfl (OpV.len_im rfl Tryz.underlying26 rfl) ?_
    refine VO.val rfl rfl (OpV.gtr rfl rfl rfl) ?_
    refine VO.ma rfl rfl rfl rfl ?_
    refine VO.nil ?_
    refine VC.cond rfl (fun k2b => ?_) (fun k2b => ?_)
    ·have k2 := k2b
     try simp only [qqT, qqF, qqN, qqM, qqL, qqE] at k2
     refine VC.sr ?_
     refine VO.ma rfl rfl rfl rfl ?_
     refine VO.nil ?_
     refine VC.ret ?_
     exact Exists.intro _ (And.intro (RetN.one Tryz.results26 (ResN.v rfl)) (by rw [prodF_2 k0 (or2f (by assumption) (by assumption)) (by omega)]))
    ·have k2 := k2b
     try simp only [qqT, qqF, qqN, qqM, qqL, qqE] at k2
     refine VC.skip ?_
     refine VC.seq ?_
     refine VC.sr ?_
     refine VO.val rfl rfl (OpV.fieldAddrO 3 rfl Tryz.underlying28 rfl rfl Tryz.sizeOf26 rfl) ?_
     refine VO.val rfl rfl (OpV.load_own (i := 0) rfl hB Tryz.isAgg26 rfl rfl rfl (fun h => h)) ?_
     refine VO.val rfl rfl (OpV.len_im rfl Tryz.underlying26 rfl) ?_
     refine VO.mv rfl rfl rfl rfl ?_
     refine VO.nil ?_
     refine VC.block ?_
     refine VC.loopK [(1, _), (28, _)] ⟨rfl, rfl, trivial⟩ ({q : Nat // q ≤ p.places.length ∧ ∀ j, j < q → placeE p j = 0}) (fun (iZ : {q : Nat // q ≤ p.places.length ∧ ∀ j, j < q → placeE p j = 0}) => match iZ with | ⟨q, hq, hn⟩ => [(29, avI (q : Int))]) (fun (iZ : {q : Nat // q ≤ p.places.length ∧ ∀ j, j < q → placeE p j = 0}) => match iZ with | ⟨q, hq, hn⟩ => [boxProd g1 p 28]) (fun (iZ : {q : Nat // q ≤ p.places.length ∧ ∀ j, j < q → placeE p j = 0}) => match iZ with | ⟨q, hq, hn⟩ => 0) (fun (iZ : {q : Nat // q ≤ p.places.length ∧ ∀ j, j < q → placeE p j = 0}) => match iZ with | ⟨q, hq, hn⟩ => p.places.length - q) ⟨0, Nat.zero_le _, fun j hj => absurd hj (Nat.not_lt_zero j)⟩ (Le.mk hB [0] ⟨rfl, rfl, rfl, trivial⟩ rfl rfl (Nat.le_refl _)) ?_
     rintro ⟨q, hq, hn⟩
     show VC _ _ _ _ ⟨[(29, avI (q : Int))] ++ [(1, _), (28, _)], [boxProd g1 p 28], 0⟩
     refine VC.sr ?_
     refine VO.val rfl rfl (OpV.lss rfl rfl rfl) ?_
     refine VO.nil ?_
     refine VC.seq ?_
     refine VC.cond rfl (fun aH2b => ?_) (fun aH2b => ?_)
     ·have aH2 := aH2b
      try simp only [qqT, qqF, qqN, qqM, qqL, qqE] at aH2
      refine VC.skip ?_
      refine VC.seq ?_
      refine VC.block ?_
      refine VC.sr ?_
      refine VO.mv rfl rfl rfl rfl ?_
      refine VO.ma rfl rfl rfl rfl ?_
      refine VO.nil ?_
      refine VC.sr ?_
      refine VO.val rfl rfl (OpV.loadK_own (i := 0) rfl hB Tryz.isAgg28 Tryz.sizeOf28 rfl rfl rfl (fun h => h)) ?_
      refine VO.mv rfl rfl rfl rfl ?_
      refine VO.op rfl (OpE.call rfl hB rfl Tryz.call84 rfl (SpecN.spec (panel_placementFault hs (by omega))) ?_)
      rintro _ rfl
      refine VO.ma rfl rfl rfl rfl ?_
      refine VO.nil ?_
      refine VC.sr ?_
      refine VO.mv rfl rfl rfl rfl ?_
      refine VO.val rfl rfl (OpV.neq rfl rfl rfl) ?_
      refine VO.nil ?_
      refine VC.cond rfl (fun k4b => ?_) (fun k4b => ?_)
      ·have k4 := k4b
       try simp only [qqT, qqF, qqN, qqM, qqL, qqE] at k4
       refine VC.sr ?_
       refine VO.mv rfl rfl rfl rfl ?_
       refine VO.ma rfl rfl rfl rfl ?_
       refine VO.nil ?_
       refine VC.ret ?_
       exact Exists.intro _ (And.intro (RetN.one Tryz.results26 (ResN.v rfl)) (by rw [prodF_at k0 (or2f (by assumption) (by assumption)) (by omega) (by omega) hn rfl k4]))
      ·have k4 := k4b
       try simp only [qqT, qqF, qqN, qqM, qqL, qqE] at k4
       refine VC.skip ?_
       refine VC.region ?_
       refine VO.val rfl rfl (OpV.add rfl rfl rfl (by unfold fits; omega)) ?_
       refine VO.mv rfl rfl rfl rfl ?_
       refine VO.nil ?_
       exact Exists.intro (⟨q + 1, by omega, lt_succ_cases hn ((by omega))⟩) (And.intro (Le.mk hB [0] ⟨rfl, rfl, rfl, trivial⟩ rfl rfl (Nat.le_refl _)) (by first | omega | (show _ < _; omega) | (simp only []; omega)))
     ·have aH2 := aH2b
      try simp only [qqT, qqF, qqN, qqM, qqL, qqE] at aH2
      refine VC.exit ?_
      refine VC.sr ?_
      refine VO.ma rfl rfl rfl rfl ?_
      refine VO.nil ?_
      refine VC.ret ?_
      exact Exists.intro _ (And.intro (RetN.one Tryz.results26 (ResN.v rfl)) (by rw [prodF_ok k0 (or2f (by assumption) (by assumption)) (by omega) (fun j hj => hn j (by omega))]))
  ·replace aK1b : _ = true := aK1b
   have aK1 := aK1b
   try simp only [qqT, qqF, qqN, qqM, qqL, qqE] at aK1
   refine VO.opX rfl rfl rfl rfl aK1b ?_
   refine VO.opX rfl rfl rfl rfl aK1b ?_
   refine VO.opX rfl rfl rfl rfl aK1b ?_
   refine VO.val rfl rfl (OpV.pickT rfl rfl rfl rfl aK1b) ?_
   refine VO.ma rfl rfl rfl rfl ?_
   refine VO.nil ?_
   refine VC.condT rfl rfl ?_
   refine VC.sr ?_
   refine VO.ma rfl rfl rfl rfl ?_
   refine VO.nil ?_
   refine VC.ret ?_
   exact Exists.intro _ (And.intro (RetN.one Tryz.results26 (ResN.v rfl)) (by first | rw [prodF_1 k0 (or2a (by assumption))] | rw [prodF_1 k0 (or2b (by assumption))]))
end Go.Proofs.YtceflkkgmmcieaaGreatDoor
namespace Go.Proofs.YtceflkkgmmcieaaGreatDoor
open Go.RowKit
set_option linter.unusedVariables false
set_option linter.unusedSimpArgs false
abbrev kvS : ByteArray → Value := fun k => Value.string k
abbrev eI : Int → AV := fun n => avI n
theorem flat_need (xs : List NeedS) : FlatA (rowL xs) := flat_rowL (fun x j hj => by
 match j, hj with
 | 0, _ => exact ⟨_, rfl⟩
 | 1, _ => exact ⟨_, rfl⟩) xs
theorem cnt_key_small {p : ProdS} (hs : SmP p) (q : Nat) : ∀ x ∈ cntP (p.places.take q), x.1.size ≤ maxLen := fun x hx => by
 have : x.1 ∈ (cntP (p.places.take q)).map (·.1) := List.mem_map.2 ⟨x, hx, rfl⟩
 obtain ⟨y, hy, e⟩ := cntP_mem.1 this
 obtain ⟨j, hj, rfl⟩ := List.getElem_of_mem hy
 rw [← e]
 have h1 := hs.part j
 simp only [List.length_take] at hj
 rw [List.getElem_take]
 rw [List.getD_eq_getElem?_getD, List.getElem?_eq_getElem (by omega)] at h1
 simp only [maxLen]
 exact Nat.le_trans h1 (by decide)
theorem needs_take {p : ProdS} {r : Nat} (h : r < (sKeys (cntP p.places)).length) : (needsL p).take (r + 1) = (needsL p).take r ++ [⟨(sKeys (cntP p.places)).getD r ByteArray.empty, mgetD (cntP p.places) ((sKeys (cntP p.places)).getD r ByteArray.empty) 0⟩] := by
 rw [take_snocD (by simpa [needsL] using h) default]
 congr 2
 simp [needsL, List.getD_eq_getElem?_getD, h]
set_option maxRecDepth 100000 in
set_option maxHeartbeats 4000000 in
theorem panel_Needs {p : ProdS} (hs : SmP p) :
  SpecN Tryz.prog 15 [avProd p] (fun y => y = .tup [avL (needsR p), avI (prodF p)]) := by
 refine SpecN.of_VCN Tryz.func15 rfl Tryz.ntmps15 (Nle rfl) fun w A hB => ?_
 have hnew : True := trivial
 refine VC.seq ?_
 have hl := hs.len
 refine VC.region ?_
 refine VO.op rfl (OpE.box rfl hB rfl rfl rfl ?_)
 intro g1
 refine VO.ma rfl rfl rfl rfl ?_
 refine VO.ma rfl rfl rfl rfl ?_
 refine VO.nil ?_
 refine VC.seq ?_
 refine VC.sr ?_
 refine VO.val rfl rfl (OpV.loadK_own (i := 0) rfl hB Tryz.isAgg28 Tryz.sizeOf28 rfl rfl rfl (fun h => h)) ?_
 refine VO.op rfl (OpE.call rfl hB rfl Tryz.call26 rfl (SpecN.spec (panel_CheckProduct hs)) ?_)
 rintro _ rfl
 refine VO.ma rfl rfl rfl rfl ?_
 refine VO.nil ?_
 refine VC.sr ?_
 refine VO.mv rfl rfl rfl rfl ?_
 refine VO.val rfl rfl (OpV.neq rfl rfl rfl) ?_
 refine VO.nil ?_
 refine VC.cond rfl (fun h0b => ?_) (fun h0b => ?_)
 ·have h0 := h0b
  try simp only [qqT, qqF, qqN, qqM, qqL, qqE] at h0
  refine VC.sr ?_
  refine VO.mv rfl rfl rfl rfl ?_
  refine VO.ma rfl rfl rfl rfl ?_
  refine VO.ma rfl rfl rfl rfl ?_
  refine VO.nil ?_
  refine VC.ret ?_
  exact Exists.intro _ (And.intro (RetN.two Tryz.results15 (ResN.nilE rfl) (ResN.v rfl)) (by first | (rw [needsR, if_neg h0]; rfl) | (rw [needsR, if_pos h00, h00])))
 ·have h0 := h0b
  try simp only [qqT, qqF, qqN, qqM, qqL, qqE] at h0
  have h00 : prodF p = 0 := by omega
  have hok := prodOk h00
  have hlen := hok.len
  refine VC.skip ?_
  refine VC.sr ?_
  refine VO.op rfl (OpE.makeMap (kvS) (eI) rfl hB rfl ?_)
  intro g16
  refine VO.ma rfl rfl rfl rfl ?_
  refine VO.nil ?_
  refine VC.seq ?_
  refine VC.sr ?_
  refine VO.val rfl rfl (OpV.fieldAddrO 3 rfl Tryz.underlying28 rfl rfl Tryz.sizeOf26 rfl) ?_
  refine VO.val rfl rfl (OpV.load_own (i := 0) rfl hB Tryz.isAgg26 rfl rfl rfl (fun h => h)) ?_
  refine VO.val rfl rfl (OpV.len_im rfl Tryz.underlying26 rfl) ?_
  refine VO.mv rfl rfl rfl rfl ?_
  refine VO.nil ?_
  refine VC.block ?_
  refine VC.loopK [(5, _), (18, _), (19, _)] ⟨rfl, rfl, rfl, trivial⟩ ({q : Nat // q ≤ p.places.length}) (fun (iZ : {q : Nat // q ≤ p.places.length}) => match iZ with | ⟨q, hq⟩ => [(20, avI (q : Int))]) (fun (iZ : {q : Nat // q ≤ p.places.length}) => match iZ with | ⟨q, hq⟩ => [boxProd g1 p 28, mapE kvS g16 eI (cntP (p.places.take q))]) (fun (iZ : {q : Nat // q ≤ p.places.length}) => match iZ with | ⟨q, hq⟩ => 0) (fun (iZ : {q : Nat // q ≤ p.places.length}) => match iZ with | ⟨q, hq⟩ => p.places.length - q) ⟨0, Nat.zero_le _⟩ (Le.mk hB [0, 1] ⟨rfl, rfl, rfl, rfl, trivial⟩ rfl rfl (Nat.le_refl _)) ?_
  rintro ⟨q, hq⟩
  show VC _ _ _ _ ⟨[(20, avI (q : Int))] ++ [(5, _), (18, _), (19, _)], [boxProd g1 p 28, mapE kvS g16 eI (cntP (p.places.take q))], 0⟩
  refine VC.sr ?_
  refine VO.val rfl rfl (OpV.lss rfl rfl rfl) ?_
  refine VO.nil ?_
  refine VC.seq ?_
  refine VC.cond rfl (fun aH1b => ?_) (fun aH1b => ?_)
  ·have aH1 := aH1b
   try simp only [qqT, qqF, qqN, qqM, qqL, qqE] at aH1
   refine VC.skip ?_
   refine VC.seq ?_
   refine VC.block ?_
   refine VC.sr ?_
   refine VO.val rfl rfl (OpV.indexAddr_E rfl Tryz.underlying26 Tryz.sizeOf50 rfl rfl rfl (by omega)) ?_
   refine VO.val rfl rfl (OpV.loadK_at rfl hB OutW.no Tryz.isAgg50 Tryz.sizeOf50 rfl rfl) ?_
   refine VO.op rfl (OpE.alloc rfl hB rfl Tryz.zeroValue50 rfl ?_)
   intro g7
   refine VO.op rfl (OpE.store (i := 2) rfl hB rfl Tryz.sizeOf50 rfl rfl rfl rfl rfl rfl (Nle rfl) trivial ?_)
   refine VO.nil ?_
   refine VC.region ?_
   refine VO.mv rfl rfl rfl rfl ?_
   refine VO.val rfl rfl (OpV.fieldAddrO 1 rfl Tryz.underlying50 rfl rfl Tryz.sizeOf9 rfl) ?_
   refine VO.val rfl rfl (OpV.load_own (i := 2) rfl hB Tryz.isAgg9 rfl rfl rfl (fun h => h)) ?_
   refine VO.val rfl rfl (OpV.lookup_own (i := 1) rfl hB Tryz.underlying128 (KeyOk.str Tryz.underlying9) Tryz.zeroValue3 rfl (KeyE.v rfl) rfl (fun h => h)) ?_
   refine VO.le _ (Le.recast (t := 27) (y := avI (mgetD (cntP (p.places.take q)) (p.places.getD q default).part 0)) rfl (fun w Z u h => by unfold mgetD; revert h; cases mget (cntP (p.places.take q)) (p.places.getD q default).part <;> exact id)) ?_
   refine VO.val rfl rfl (OpV.add rfl rfl rfl (by have h := cntP_bd (p.places.take q) (p.places.getD q default).part; have h2 := List.length_take_le q p.places; unfold fits; omega)) ?_
   refine VO.op rfl (OpE.mapUpdate (i := 1) (xx := mgetD (cntP (p.places.take q)) (p.places.getD q default).part 0 + 1) rfl hB rfl Tryz.underlying128 (KeyOk.str Tryz.underlying9) rfl (KeyE.v rfl) rfl rfl trivial ?_)
   refine VO.nil ?_
   refine VC.region ?_
   refine VO.val rfl rfl (OpV.add rfl rfl rfl (by unfold fits; omega)) ?_
   refine VO.mv rfl rfl rfl rfl ?_
   refine VO.nil ?_
   exact Exists.intro (⟨q + 1, by omega⟩) (And.intro (Le.mk hB [0, 1] ⟨rfl, rfl, rfl, rfl, trivial⟩ rfl (by dsimp only; rw [cntP_take (by omega)]; rfl) (Nat.le_refl _)) (by first | omega | (show _ < _; omega) | (simp only []; omega)))
  ·have aH1 := aH1b
   try simp only [qqT, qqF, qqN, qqM, qqL, qqE] at aH1
   refine VC.exit ?_
   refine VC.seq ?_
   have hqe : p.places.take q = p.places := List.take_of_length_le (by omega)
   rw [hqe]
   have hcl := cntP_len p.places
   refine VC.region ?_
   refine VO.ma rfl rfl rfl rfl ?_
   refine VO.nil ?_
   refine VC.seq ?_
   refine VC.sr ?_
   refine VO.mv rfl rfl rfl rfl ?_
   refine VO.op rfl (OpE.callH rfl hB rfl Tryz.call72 rfl rfl (maps_Keys_int (some g16)) (List.Perm.refl _) (fun _ _ => trivial) ?_)
   rintro _ _ ⟨g31, rfl, rfl⟩
   refine VO.op rfl (OpE.callH (rest := [_]) rfl hB rfl Tryz.call71 rfl rfl (slices_Sorted_int (l := cntP p.places) (E := eI) (cntP_nodup _) (by have := cnt_key_small hs p.places.length; rwa [List.take_length] at this) (by omega)) (List.Perm.cons _ (List.Perm.swap _ _ _)) (fun _ _ => trivial) ?_)
   rintro _ _ ⟨u32, rfl, rfl⟩
   refine VO.le _ (Le.rowS (t := 32) (i := 0) hB hnew rfl rfl (sKeys_len _).symm) ?_
   obtain ⟨m, hm⟩ : ∃ m, cntP p.places = m := ⟨_, rfl⟩
   obtain ⟨ks, hks⟩ : ∃ ks, sKeys (cntP p.places) = ks := ⟨_, rfl⟩
   have hkl : ks.length = (cntP p.places).length := by rw [← hks, sKeys_len]
   rw [hks]
   refine VO.val rfl rfl (OpV.len_im rfl Tryz.underlying81 rfl) ?_
   refine VO.mv rfl rfl rfl rfl ?_
   refine VO.nil ?_
   refine VC.block ?_
   refine VC.le _ (Le.nilRow 2 60) ?_
   refine VC.loopK [(5, _), (32, _), (33, _)] ⟨rfl, rfl, rfl, trivial⟩ ({z : Value × Nat // z.2 ≤ ks.length}) (fun (iZ : {z : Value × Nat // z.2 ≤ ks.length}) => match iZ with | ⟨⟨u, r⟩, hr⟩ => [(8, .v u), (34, avI (r : Int))]) (fun (iZ : {z : Value × Nat // z.2 ≤ ks.length}) => match iZ with | ⟨⟨u, r⟩, hr⟩ => [mapE kvS g16 eI (cntP p.places), .row u r 2 (rowL ((needsL p).take r)) 60]) (fun (iZ : {z : Value × Nat // z.2 ≤ ks.length}) => match iZ with | ⟨⟨u, r⟩, hr⟩ => 0) (fun (iZ : {z : Value × Nat // z.2 ≤ ks.length}) => match iZ with | ⟨⟨u, r⟩, hr⟩ => ks.length - r) ⟨(.slice none 0 0, 0), Nat.zero_le _⟩ (Le.mk hB [1, 3] ⟨rfl, rfl, rfl, rfl, rfl, trivial⟩ rfl rfl (Nat.le_refl _)) ?_
   rintro ⟨⟨u, r⟩, hr⟩
   show VC _ _ _ _ ⟨[(8, .v u), (34, avI (r : Int))] ++ [(5, _), (32, _), (33, _)], [mapE kvS g16 eI (cntP p.places), .row u r 2 (rowL ((needsL p).take r)) 60], 0⟩
   simp only at hr
   refine VC.sr ?_
   refine VO.val rfl rfl (OpV.lss rfl rfl rfl) ?_
   refine VO.nil ?_
   refine VC.seq ?_
   refine VC.cond rfl (fun aH2b => ?_) (fun aH2b => ?_)
   ·have aH2 := aH2b
    try simp only [qqT, qqF, qqN, qqM, qqL, qqE] at aH2
    refine VC.skip ?_
    refine VC.seq ?_
    refine VC.block ?_
    refine VC.sr ?_
    refine VO.val rfl rfl (OpV.indexAddr_1 rfl Tryz.underlying81 Tryz.sizeOf9 rfl rfl rfl (by omega)) ?_
    refine VO.val rfl rfl (OpV.load_at rfl hB OutW.no Tryz.isAgg9 rfl rfl) ?_
    refine VO.ma rfl rfl rfl rfl ?_
    refine VO.nil ?_
    refine VC.region ?_
    refine VO.mv rfl rfl rfl rfl ?_
    refine VO.mv rfl rfl rfl rfl ?_
    refine VO.mv rfl rfl rfl rfl ?_
    refine VO.mv rfl rfl rfl rfl ?_
    refine VO.val rfl rfl (OpV.lookup_own (i := 0) rfl hB Tryz.underlying128 (KeyOk.str Tryz.underlying9) Tryz.zeroValue3 rfl (KeyE.v rfl) rfl (fun h => h)) ?_
    refine VO.le _ (Le.recast (t := 42) (y := avI (mgetD (cntP p.places) (ks.getD r ByteArray.empty) 0)) rfl (fun w Z u h => by unfold mgetD; revert h; cases mget (cntP p.places) (ks.getD r ByteArray.empty) <;> exact id)) ?_
    refine VO.val rfl rfl (OpV.build (pls := #[(0, 1), (1, 1)]) rfl Tryz.zeroValue60 Tryz.underlying60 (fun w => by kernel_rfl) rfl rfl) ?_
    refine VO.op rfl (OpE.buildSlice (zc := #[.string ⟨#[]⟩, .int .i64 0]) rfl hB rfl Tryz.underlying36 Tryz.sizeOf60 Tryz.zeroValue60 (by decide) (by decide) (by kernel_rfl) rfl rfl ?_)
    refine VO.op rfl (OpE.append1 (i := 1) rfl hB rfl Tryz.underlying36 (infoOf Tryz.t60 2 (by kernel_rfl) rfl rfl) rfl (by decide) (by decide) rfl rfl rfl rfl (rowL_snoc _ (⟨ks.getD r ByteArray.empty, mgetD (cntP p.places) (ks.getD r ByteArray.empty) 0⟩ : NeedS)) (by omega) (fun _ _ => trivial) ?_)
    intro u2
    refine VO.ma rfl rfl rfl rfl ?_
    refine VO.nil ?_
    refine VC.region ?_
    refine VO.val rfl rfl (OpV.add rfl rfl rfl (by unfold fits; omega)) ?_
    refine VO.mv rfl rfl rfl rfl ?_
    refine VO.nil ?_
    exact Exists.intro (⟨(u2, r + 1), by show r + 1 ≤ _; omega⟩) (And.intro (Le.mk hB [0, 1] ⟨rfl, rfl, rfl, rfl, rfl, trivial⟩ rfl (by dsimp only; rw [needs_take (by rw [hks]; omega), hks]; rfl) (Nat.le_refl _)) (by first | omega | (show _ < _; omega) | (simp only []; omega)))
   ·have aH2 := aH2b
    try simp only [qqT, qqF, qqN, qqM, qqL, qqE] at aH2
    refine VC.exit ?_
    refine VC.seq ?_
    have hre : r = (needsL p).length := by rw [needsL_len]; omega
    have hrt : (needsL p).take r = needsL p := List.take_of_length_le (by omega)
    rw [hrt]
    refine VC.region ?_
    refine VO.mv rfl rfl rfl rfl ?_
    refine VO.ma rfl rfl rfl rfl ?_
    refine VO.ma rfl rfl rfl rfl ?_
    refine VO.nil ?_
    refine VC.ret ?_
    exact Exists.intro _ (And.intro (RetN.two Tryz.results15 (ResN.rowT (i := 1) (xs := needsL p) rfl rfl hre (flat_need _)) (ResN.v rfl)) (by first | (rw [needsR, if_neg h0]; rfl) | (rw [needsR, if_pos h00, h00])))
end Go.Proofs.YtceflkkgmmcieaaGreatDoor
namespace Go.Proofs.YtceflkkgmmcieaaGreatDoor
open Go.RowKit
set_option linter.unusedVariables false
set_option linter.unusedSimpArgs false
def lastP (p : ProdS) (q : Nat) : ByteArray := if q = 0 then ⟨#[]⟩ else (p.places.getD (q - 1) default).name
theorem lastP_succ (p : ProdS) (q : Nat) : lastP p (q + 1) = (p.places.getD q default).name := by simp [lastP]
theorem placeE_7' {p : ProdS} {i : Nat} (h1 : keyF (p.places.getD i default).name = true) (h2 : keyF (p.places.getD i default).part = true) (hs : sLe (p.places.getD i default).name (lastP p i) = true) : placeE p i = 7 := by
 by_cases hq : i = 0
 ·rw [lastP, if_pos hq, sLe_empty h1] at hs; cases hs
 ·rw [lastP, if_neg hq] at hs; exact placeE_7 h1 h2 (by omega) hs
theorem lastP_ne {p : ProdS} {i : Nat} (hs : sLe (p.places.getD i default).name (lastP p i) = false) : i = 0 ∨ sLe (p.places.getD i default).name (p.places.getD (i - 1) default).name = false := by
 by_cases hq : i = 0
 ·exact .inl hq
 ·rw [lastP, if_neg hq] at hs; exact .inr hs
theorem oin {n a b : Int} {v : Bool} (h : (!(decide (a ≤ n) && decide (n ≤ b))) = v) : outR n a b = v := (outR_in n a b).trans h
set_option maxRecDepth 100000 in
theorem rf_ProductFault {p : ProdS} (hs : SmP p) :
    SpecN Tryz.prog 18 [avProd p] (fun y => y = avI (prodF p)) := by
  refine SpecN.of_VCN Tryz.func18 rfl Tryz.ntmps18 (Nle rfl) fun w A hB => ?_
  have hnew : True := trivial
  refine VC.seq ?_
  have hl := hs.len
  refine VC.region ?_
  refine VO.op rfl (OpE.box rfl hB rfl rfl rfl ?_)
  intro g1
  refine VO.ma rfl rfl rfl rfl ?_
  refine VO.nil ?_
  refine VC.seq ?_
  refine VC.block ?_
  refine VC.sr ?_
  refine VO.val rfl rfl (OpV.fieldAddrO 0 rfl Tryz.underlying28 rfl rfl Tryz.sizeOf9 rfl) ?_
  refine VO.val rfl rfl (OpV.load_own (i := 0) rfl hB Tryz.isAgg9 rfl rfl rfl (fun h => h)) ?_
  refine VO.op rfl (OpE.call rfl hB rfl Tryz.call75 rfl (SpecN.spec (rf_Key (by have := hs.key; omega))) ?_)
  rintro _ rfl
  refine VO.val rfl rfl (OpV.not rfl rfl) ?_
  refine VO.ma rfl rfl rfl rfl ?_
  refine VO.nil ?_
  refine VC.cond rfl (fun k0b => ?_) (fun k0b => ?_)
  · have k0 := k0b
    try simp only [qqT, qqF, qqN, qqM, qqL, qqE] at k0
    refine VC.sr ?_
    refine VO.ma rfl rfl rfl rfl ?_
    refine VO.nil ?_
    refine VC.ret ?_
    exact Exists.intro _ (And.intro (RetN.one Tryz.results18 (ResN.v rfl)) (by rw [prodF_5 (by assumption)]))
  · have k0 := k0b
    try simp only [qqT, qqF, qqN, qqM, qqL, qqE] at k0
    refine VC.sr ?_
    refine VO.val rfl rfl (OpV.fieldAddrO 1 rfl Tryz.underlying28 rfl rfl Tryz.sizeOf3 rfl) ?_
    refine VO.val rfl rfl (OpV.load_own (i := 0) rfl hB Tryz.isAgg3 rfl rfl rfl (fun h => h)) ?_
    refine VO.op rfl (OpE.call rfl hB rfl Tryz.call76 rfl (SpecN.spec (rf_in)) ?_)
    rintro _ rfl
    refine VO.val rfl rfl (OpV.not rfl rfl) ?_
    refine VO.mv rfl rfl rfl rfl ?_
    refine VO.opG rfl rfl rfl rfl (fun aK1b => ?_) (fun aK1b => ?_)
    · replace aK1b : _ = false := aK1b
      have aK1 := aK1b
      try simp only [qqT, qqF, qqN, qqM, qqL, qqE] at aK1
      refine OpE.val (W := NoB) (OpV.fieldAddrO 2 rfl Tryz.underlying28 rfl rfl Tryz.sizeOf3 rfl) rfl ?_
      refine VO.opY rfl rfl rfl rfl aK1b ?_
      refine OpE.val (W := NoB) (OpV.load_own (i := 0) rfl hB Tryz.isAgg3 rfl rfl rfl (fun h => h)) rfl ?_
      refine VO.opY rfl rfl rfl rfl aK1b ?_
      refine OpE.call rfl hB rfl Tryz.call76 rfl (SpecN.spec (rf_in)) ?_
      rintro _ rfl
      refine VO.opY rfl rfl rfl rfl aK1b ?_
      refine OpE.val (W := NoB) (OpV.not rfl rfl) rfl ?_
      refine VO.val rfl rfl (OpV.pickF rfl rfl rfl rfl aK1b) ?_
      refine VO.ma rfl rfl rfl rfl ?_
      refine VO.nil ?_
      refine VC.cond rfl (fun aH2b => ?_) (fun aH2b => ?_)
      · have aH2 := aH2b
        try simp only [qqT, qqF, qqN, qqM, qqL, qqE] at aH2
        refine VC.sr ?_
        refine VO.ma rfl rfl rfl rfl ?_
        refine VO.nil ?_
        refine VC.ret ?_
        exact Exists.intro _ (And.intro (RetN.one Tryz.results18 (ResN.v rfl)) (by first | rw [prodF_1 k0 (or2a (oin (by assumption)))] | rw [prodF_1 k0 (or2b (oin (by assumption)))]))
      · have aH2 := aH2b
        try simp only [qqT, qqF, qqN, qqM, qqL, qqE] at aH2
        refine VC.sr ?_
        refine VO.val rfl rfl (OpV.fieldAddrO 3 rfl Tryz.underlying28 rfl rfl Tryz.sizeOf26 rfl) ?_
        refine VO.val rfl rfl (OpV.load_own (i := 0) rfl hB Tryz.isAgg26 rfl rfl rfl (fun h => h)) ?_
        refine VO.val rfl rfl (OpV.len_im rfl Tryz.underlying26 rfl) ?_
        refine VO.val rfl rfl (OpV.gtr rfl rfl rfl) ?_
        refine VO.ma rfl rfl rfl rfl ?_
        refine VO.nil ?_
        refine VC.cond rfl (fun aH3b => ?_) (fun aH3b => ?_)
        · have aH3 := aH3b
          try simp only [qqT, qqF, qqN, qqM, qqL, qqE] at aH3
          refine VC.sr ?_
          refine VO.ma rfl rfl rfl rfl ?_
          refine VO.nil ?_
          refine VC.ret ?_
          exact Exists.intro _ (And.intro (RetN.one Tryz.results18 (ResN.v rfl)) (by rw [prodF_2 k0 (or2f (oin (by assumption)) (oin (by assumption))) (by omega)]))
        · have aH3 := aH3b
          try simp only [qqT, qqF, qqN, qqM, qqL, qqE] at aH3
          refine VC.skip ?_
          refine VC.sr ?_
          refine VO.ma rfl rfl rfl rfl ?_
          refine VO.nil ?_
          refine VC.seq ?_
          refine VC.sr ?_
          refine VO.val rfl rfl (OpV.fieldAddrO 3 rfl Tryz.underlying28 rfl rfl Tryz.sizeOf26 rfl) ?_
          refine VO.val rfl rfl (OpV.load_own (i := 0) rfl hB Tryz.isAgg26 rfl rfl rfl (fun h => h)) ?_
          refine VO.val rfl rfl (OpV.len_im rfl Tryz.underlying26 rfl) ?_
          refine VO.mv rfl rfl rfl rfl ?_
          refine VO.nil ?_
          refine VC.block ?_
          refine VC.loopK [(1, _), (28, _), (29, _)] ⟨rfl, rfl, rfl, trivial⟩ ({q : Nat // q ≤ p.places.length ∧ ∀ j, j < q → placeE p j = 0}) (fun (iZ : {q : Nat // q ≤ p.places.length ∧ ∀ j, j < q → placeE p j = 0}) => match iZ with | ⟨q, hq, hn⟩ => [(3, avS (lastP p q)), (30, avI (q : Int))]) (fun (iZ : {q : Nat // q ≤ p.places.length ∧ ∀ j, j < q → placeE p j = 0}) => match iZ with | ⟨q, hq, hn⟩ => [boxProd g1 p 28]) (fun (iZ : {q : Nat // q ≤ p.places.length ∧ ∀ j, j < q → placeE p j = 0}) => match iZ with | ⟨q, hq, hn⟩ => 0) (fun (iZ : {q : Nat // q ≤ p.places.length ∧ ∀ j, j < q → placeE p j = 0}) => match iZ with | ⟨q, hq, hn⟩ => p.places.length - q) ⟨0, Nat.zero_le _, fun j hj => absurd hj (Nat.not_lt_zero j)⟩ (Le.mk hB [0] ⟨rfl, rfl, rfl, rfl, rfl, trivial⟩ rfl rfl (Nat.le_refl _)) ?_
          rintro ⟨q, hq, hn⟩
          show VC _ _ _ _ ⟨[(3, avS (lastP p q)), (30, avI (q : Int))] ++ [(1, _), (28, _), (29, _)], [boxProd g1 p 28], 0⟩
          refine VC.sr ?_
          refine VO.val rfl rfl (OpV.lss rfl rfl rfl) ?_
          refine VO.nil ?_
          refine VC.seq ?_
          refine VC.cond rfl (fun aH4b => ?_) (fun aH4b => ?_)
          · have aH4 := aH4b
            try simp only [qqT, qqF, qqN, qqM, qqL, qqE] at aH4
            refine VC.skip ?_
            refine VC.seq ?_
            refine VC.block ?_
            refine VC.sr ?_
            refine VO.val rfl rfl (OpV.indexAddr_E rfl Tryz.underlying26 Tryz.sizeOf50 rfl rfl rfl (by omega)) ?_
            refine VO.val rfl rfl (OpV.loadK_at rfl hB OutW.no Tryz.isAgg50 Tryz.sizeOf50 rfl rfl) ?_
            refine VO.op rfl (OpE.alloc rfl hB rfl Tryz.zeroValue50 rfl ?_)
            intro g5
            refine VO.op rfl (OpE.store (i := 1) rfl hB rfl Tryz.sizeOf50 rfl rfl rfl rfl rfl rfl (Nle rfl) trivial ?_)
            refine VO.nil ?_
            refine VC.seq ?_
            refine VC.block ?_
            refine VC.sr ?_
            refine VO.val rfl rfl (OpV.fieldAddrO 0 rfl Tryz.underlying50 rfl rfl Tryz.sizeOf9 rfl) ?_
            refine VO.val rfl rfl (OpV.load_own (i := 1) rfl hB Tryz.isAgg9 rfl rfl rfl (fun h => h)) ?_
            refine VO.op rfl (OpE.call rfl hB rfl Tryz.call75 rfl (SpecN.spec (rf_Key (by have := hs.name q; omega))) ?_)
            rintro _ rfl
            refine VO.val rfl rfl (OpV.not rfl rfl) ?_
            refine VO.mv rfl rfl rfl rfl ?_
            refine VO.opG rfl rfl rfl rfl (fun aK5b => ?_) (fun aK5b => ?_)
            · replace aK5b : _ = false := aK5b
              have aK5 := aK5b
              try simp only [qqT, qqF, qqN, qqM, qqL, qqE] at aK5
              refine OpE.val (W := NoB) (OpV.fieldAddrO 1 rfl Tryz.underlying50 rfl rfl Tryz.sizeOf9 rfl) rfl ?_
              refine VO.opY rfl rfl rfl rfl aK5b ?_
              refine OpE.val (W := NoB) (OpV.load_own (i := 1) rfl hB Tryz.isAgg9 rfl rfl rfl (fun h => h)) rfl ?_
              refine VO.opY rfl rfl rfl rfl aK5b ?_
              refine OpE.call rfl hB rfl Tryz.call75 rfl (SpecN.spec (rf_Key (by have := hs.part q; omega))) ?_
              rintro _ rfl
              refine VO.opY rfl rfl rfl rfl aK5b ?_
              refine OpE.val (W := NoB) (OpV.not rfl rfl) rfl ?_
              refine VO.val rfl rfl (OpV.pickF rfl rfl rfl rfl aK5b) ?_
              refine VO.ma rfl rfl rfl rfl ?_
              refine VO.nil ?_
              refine VC.cond rfl (fun aH6b => ?_) (fun aH6b => ?_)
              · have aH6 := aH6b
                try simp only [qqT, qqF, qqN, qqM, qqL, qqE] at aH6
                refine VC.sr ?_
                refine VO.ma rfl rfl rfl rfl ?_
                refine VO.nil ?_
                refine VC.ret ?_
                exact Exists.intro _ (And.intro (RetN.one Tryz.results18 (ResN.v rfl)) (by first | rw [prodF_at k0 (or2f (oin (by assumption)) (oin (by assumption))) (by omega) (by omega) hn (placeE_5a (by assumption)) (by decide)] | rw [prodF_at k0 (or2f (oin (by assumption)) (oin (by assumption))) (by omega) (by omega) hn (placeE_5b (by assumption)) (by decide)]))
              · have aH6 := aH6b
                try simp only [qqT, qqF, qqN, qqM, qqL, qqE] at aH6
                refine VC.sr ?_
                refine VO.val rfl rfl (OpV.fieldAddrO 0 rfl Tryz.underlying50 rfl rfl Tryz.sizeOf9 rfl) ?_
                refine VO.val rfl rfl (OpV.load_own (i := 1) rfl hB Tryz.isAgg9 rfl rfl rfl (fun h => h)) ?_
                refine VO.mv rfl rfl rfl rfl ?_
                refine VO.val rfl rfl (OpV.sleq rfl rfl rfl) ?_
                refine VO.ma rfl rfl rfl rfl ?_
                refine VO.nil ?_
                refine VC.cond rfl (fun aH7b => ?_) (fun aH7b => ?_)
                · have aH7 := aH7b
                  try simp only [qqT, qqF, qqN, qqM, qqL, qqE] at aH7
                  refine VC.sr ?_
                  refine VO.ma rfl rfl rfl rfl ?_
                  refine VO.nil ?_
                  refine VC.ret ?_
                  exact Exists.intro _ (And.intro (RetN.one Tryz.results18 (ResN.v rfl)) (by rw [prodF_at k0 (or2f (oin (by assumption)) (oin (by assumption))) (by omega) (by omega) hn (placeE_7' (by assumption) (by assumption) (by assumption)) (by decide)]))
                · have aH7 := aH7b
                  try simp only [qqT, qqF, qqN, qqM, qqL, qqE] at aH7
                  refine VC.sr ?_
                  refine VO.val rfl rfl (OpV.fieldAddrO 2 rfl Tryz.underlying50 rfl rfl Tryz.sizeOf3 rfl) ?_
                  refine VO.val rfl rfl (OpV.load_own (i := 1) rfl hB Tryz.isAgg3 rfl rfl rfl (fun h => h)) ?_
                  refine VO.val rfl rfl (OpV.fieldAddrO 1 rfl Tryz.underlying28 rfl rfl Tryz.sizeOf3 rfl) ?_
                  refine VO.val rfl rfl (OpV.load_own (i := 0) rfl hB Tryz.isAgg3 rfl rfl rfl (fun h => h)) ?_
                  refine VO.op rfl (OpE.call rfl hB rfl Tryz.call76 rfl (SpecN.spec (rf_in)) ?_)
                  rintro _ rfl
                  refine VO.val rfl rfl (OpV.not rfl rfl) ?_
                  refine VO.mv rfl rfl rfl rfl ?_
                  refine VO.opG rfl rfl rfl rfl (fun aK8b => ?_) (fun aK8b => ?_)
                  · replace aK8b : _ = false := aK8b
                    have aK8 := aK8b
                    try simp only [qqT, qqF, qqN, qqM, qqL, qqE] at aK8
                    refine OpE.val (W := NoB) (OpV.fieldAddrO 3 rfl Tryz.underlying50 rfl rfl Tryz.sizeOf3 rfl) rfl ?_
                    refine VO.opY rfl rfl rfl rfl aK8b ?_
                    refine OpE.val (W := NoB) (OpV.load_own (i := 1) rfl hB Tryz.isAgg3 rfl rfl rfl (fun h => h)) rfl ?_
                    refine VO.opY rfl rfl rfl rfl aK8b ?_
                    refine OpE.val (W := NoB) (OpV.fieldAddrO 2 rfl Tryz.underlying28 rfl rfl Tryz.sizeOf3 rfl) rfl ?_
                    refine VO.opY rfl rfl rfl rfl aK8b ?_
                    refine OpE.val (W := NoB) (OpV.load_own (i := 0) rfl hB Tryz.isAgg3 rfl rfl rfl (fun h => h)) rfl ?_
                    refine VO.opY rfl rfl rfl rfl aK8b ?_
                    refine OpE.call rfl hB rfl Tryz.call76 rfl (SpecN.spec (rf_in)) ?_
                    rintro _ rfl
                    refine VO.opY rfl rfl rfl rfl aK8b ?_
                    refine OpE.val (W := NoB) (OpV.not rfl rfl) rfl ?_
                    refine VO.val rfl rfl (OpV.pickF rfl rfl rfl rfl aK8b) ?_
                    refine VO.mv rfl rfl rfl rfl ?_
                    refine VO.opG rfl rfl rfl rfl (fun aK9b => ?_) (fun aK9b => ?_)
                    · replace aK9b : _ = false := aK9b
                      have aK9 := aK9b
                      try simp only [qqT, qqF, qqN, qqM, qqL, qqE] at aK9
                      refine OpE.val (W := NoB) (OpV.fieldAddrO 4 rfl Tryz.underlying50 rfl rfl Tryz.sizeOf3 rfl) rfl ?_
                      refine VO.opY rfl rfl rfl rfl aK9b ?_
                      refine OpE.val (W := NoB) (OpV.load_own (i := 1) rfl hB Tryz.isAgg3 rfl rfl rfl (fun h => h)) rfl ?_
                      refine VO.opY rfl rfl rfl rfl aK9b ?_
                      refine OpE.call rfl hB rfl Tryz.call76 rfl (SpecN.spec (rf_in)) ?_
                      rintro _ rfl
                      refine VO.opY rfl rfl rfl rfl aK9b ?_
                      refine OpE.val (W := NoB) (OpV.not rfl rfl) rfl ?_
                      refine VO.val rfl rfl (OpV.pickF rfl rfl rfl rfl aK9b) ?_
                      refine VO.ma rfl rfl rfl rfl ?_
                      refine VO.nil ?_
                      refine VC.cond rfl (fun aH10b => ?_) (fun aH10b => ?_)
                      · have aH10 := aH10b
                        try simp only [qqT, qqF, qqN, qqM, qqL, qqE] at aH10
                        refine VC.sr ?_
                        refine VO.ma rfl rfl rfl rfl ?_
                        refine VO.nil ?_
                        refine VC.ret ?_
                        exact Exists.intro _ (And.intro (RetN.one Tryz.results18 (ResN.v rfl)) (by first | rw [prodF_at k0 (or2f (oin (by assumption)) (oin (by assumption))) (by omega) (by omega) hn (placeE_1 (by assumption) (by assumption) (lastP_ne (by assumption)) (or3a (oin (by assumption)))) (by decide)] | rw [prodF_at k0 (or2f (oin (by assumption)) (oin (by assumption))) (by omega) (by omega) hn (placeE_1 (by assumption) (by assumption) (lastP_ne (by assumption)) (or3b (oin (by assumption)))) (by decide)] | rw [prodF_at k0 (or2f (oin (by assumption)) (oin (by assumption))) (by omega) (by omega) hn (placeE_1 (by assumption) (by assumption) (lastP_ne (by assumption)) (or3c (oin (by assumption)))) (by decide)]))
                      · have aH10 := aH10b
                        try simp only [qqT, qqF, qqN, qqM, qqL, qqE] at aH10
                        refine VC.skip ?_
                        refine VC.region ?_
                        refine VO.val rfl rfl (OpV.fieldAddrO 0 rfl Tryz.underlying50 rfl rfl Tryz.sizeOf9 rfl) ?_
                        refine VO.val rfl rfl (OpV.load_own (i := 1) rfl hB Tryz.isAgg9 rfl rfl rfl (fun h => h)) ?_
                        refine VO.ma rfl rfl rfl rfl ?_
                        refine VO.nil ?_
                        refine VC.region ?_
                        refine VO.val rfl rfl (OpV.add rfl rfl rfl (by unfold fits; omega)) ?_
                        refine VO.mv rfl rfl rfl rfl ?_
                        refine VO.nil ?_
                        exact Exists.intro (⟨q + 1, by omega, lt_succ_cases hn (placeE_0 (by assumption) (by assumption) (lastP_ne (by assumption)) (or3f (oin (by assumption)) (oin (by assumption)) (oin (by assumption))))⟩) (And.intro (Le.mk hB [0] ⟨(by rw [lastP_succ]; rfl), rfl, rfl, rfl, rfl, trivial⟩ rfl rfl (Nat.le_refl _)) (by first | omega | (show _ < _; omega) | (simp only []; omega)))
                    · replace aK9b : _ = true := aK9b
                      have aK9 := aK9b
                      try simp only [qqT, qqF, qqN, qqM, qqL, qqE] at aK9
                      refine VO.opX rfl rfl rfl rfl aK9b ?_
                      refine VO.opX rfl rfl rfl rfl aK9b ?_
                      refine VO.opX rfl rfl rfl rfl aK9b ?_
                      refine VO.val rfl rfl (OpV.pickT rfl rfl rfl rfl aK9b) ?_
                      refine VO.ma rfl rfl rfl rfl ?_
                      refine VO.nil ?_
                      refine VC.condT rfl rfl ?_
                      refine VC.sr ?_
                      refine VO.ma rfl rfl rfl rfl ?_
                      refine VO.nil ?_
                      refine VC.ret ?_
                      exact Exists.intro _ (And.intro (RetN.one Tryz.results18 (ResN.v rfl)) (by first | rw [prodF_at k0 (or2f (oin (by assumption)) (oin (by assumption))) (by omega) (by omega) hn (placeE_1 (by assumption) (by assumption) (lastP_ne (by assumption)) (or3a (oin (by assumption)))) (by decide)] | rw [prodF_at k0 (or2f (oin (by assumption)) (oin (by assumption))) (by omega) (by omega) hn (placeE_1 (by assumption) (by assumption) (lastP_ne (by assumption)) (or3b (oin (by assumption)))) (by decide)] | rw [prodF_at k0 (or2f (oin (by assumption)) (oin (by assumption))) (by omega) (by omega) hn (placeE_1 (by assumption) (by assumption) (lastP_ne (by assumption)) (or3c (oin (by assumption)))) (by decide)]))
                  · replace aK8b : _ = true := aK8b
                    have aK8 := aK8b
                    try simp only [qqT, qqF, qqN, qqM, qqL, qqE] at aK8
                    refine VO.opX rfl rfl rfl rfl aK8b ?_
                    refine VO.opX rfl rfl rfl rfl aK8b ?_
                    refine VO.opX rfl rfl rfl rfl aK8b ?_
                    refine VO.opX rfl rfl rfl rfl aK8b ?_
                    refine VO.opX rfl rfl rfl rfl aK8b ?_
                    refine VO.val rfl rfl (OpV.pickT rfl rfl rfl rfl aK8b) ?_
                    refine VO.mv rfl rfl rfl rfl ?_
                    refine VO.opX rfl rfl rfl rfl rfl ?_
                    refine VO.opX rfl rfl rfl rfl rfl ?_
                    refine VO.opX rfl rfl rfl rfl rfl ?_
                    refine VO.opX rfl rfl rfl rfl rfl ?_
                    refine VO.val rfl rfl (OpV.pickT rfl rfl rfl rfl rfl) ?_
                    refine VO.ma rfl rfl rfl rfl ?_
                    refine VO.nil ?_
                    refine VC.condT rfl rfl ?_
                    refine VC.sr ?_
                    refine VO.ma rfl rfl rfl rfl ?_
                    refine VO.nil ?_
                    refine VC.ret ?_
                    exact Exists.intro _ (And.intro (RetN.one Tryz.results18 (ResN.v rfl)) (by first | rw [prodF_at k0 (or2f (oin (by assumption)) (oin (by assumption))) (by omega) (by omega) hn (placeE_1 (by assumption) (by assumption) (lastP_ne (by assumption)) (or3a (oin (by assumption)))) (by decide)] | rw [prodF_at k0 (or2f (oin (by assumption)) (oin (by assumption))) (by omega) (by omega) hn (placeE_1 (by assumption) (by assumption) (lastP_ne (by assumption)) (or3b (oin (by assumption)))) (by decide)] | rw [prodF_at k0 (or2f (oin (by assumption)) (oin (by assumption))) (by omega) (by omega) hn (placeE_1 (by assumption) (by assumption) (lastP_ne (by assumption)) (or3c (oin (by assumption)))) (by decide)]))
            · replace aK5b : _ = true := aK5b
              have aK5 := aK5b
              try simp only [qqT, qqF, qqN, qqM, qqL, qqE] at aK5
              refine VO.opX rfl rfl rfl rfl aK5b ?_
              refine VO.opX rfl rfl rfl rfl aK5b ?_
              refine VO.opX rfl rfl rfl rfl aK5b ?_
              refine VO.val rfl rfl (OpV.pickT rfl rfl rfl rfl aK5b) ?_
              refine VO.ma rfl rfl rfl rfl ?_
              refine VO.nil ?_
              refine VC.condT rfl rfl ?_
              refine VC.sr ?_
              refine VO.ma rfl rfl rfl rfl ?_
              refine VO.nil ?_
              refine VC.ret ?_
              exact Exists.intro _ (And.intro (RetN.one Tryz.results18 (ResN.v rfl)) (by first | rw [prodF_at k0 (or2f (oin (by assumption)) (oin (by assumption))) (by omega) (by omega) hn (placeE_5a (by assumption)) (by decide)] | rw [prodF_at k0 (or2f (oin (by assumption)) (oin (by assumption))) (by omega) (by omega) hn (placeE_5b (by assumption)) (by decide)]))
          · have aH4 := aH4b
            try simp only [qqT, qqF, qqN, qqM, qqL, qqE] at aH4
            refine VC.exit ?_
            refine VC.sr ?_
            refine VO.ma rfl rfl rfl rfl ?_
            refine VO.nil ?_
            refine VC.ret ?_
            exact Exists.intro _ (And.intro (RetN.one Tryz.results18 (ResN.v rfl)) (by rw [prodF_ok k0 (or2f (oin (by assumption)) (oin (by assumption))) (by omega) (fun j hj => hn j (by omega))]))
    · replace aK1b : _ = true := aK1b
      have aK1 := aK1b
      try simp only [qqT, qqF, qqN, qqM, qqL, qqE] at aK1
      refine VO.opX rfl rfl rfl rfl aK1b ?_
      refine VO.opX rfl rfl rfl rfl aK1b ?_
      refine VO.opX rfl rfl rfl rfl aK1b ?_
      refine VO.val rfl rfl (OpV.pickT rfl rfl rfl rfl aK1b) ?_
      refine VO.ma rfl rfl rfl rfl ?_
      refine VO.nil ?_
      refine VC.condT rfl rfl ?_
      refine VC.sr ?_
      refine VO.ma rfl rfl rfl rfl ?_
      refine VO.nil ?_
      refine VC.ret ?_
      exact Exists.intro _ (And.intro (RetN.one Tryz.results18 (ResN.v rfl)) (by first | rw [prodF_1 k0 (or2a (oin (by assumption)))] | rw [prodF_1 k0 (or2b (oin (by assumption)))]))
end Go.Proofs.YtceflkkgmmcieaaGreatDoor
namespace Go.Proofs.YtceflkkgmmcieaaGreatDoor
open Go.RowKit
set_option linter.unusedVariables false
set_option linter.unusedSimpArgs false
theorem flat_ip (xs : List IPair) : FlatA (rowL xs) := flat_rowL (fun x j hj => by
 match j, hj with
 | 0, _ => exact ⟨_, rfl⟩
 | 1, _ => exact ⟨_, rfl⟩) xs
set_option maxRecDepth 100000 in
theorem panel_panelFault {n : PanS} (hl : n.slots.length ≤ 1000000) :
  SpecN Tryz.prog 85 [avPan n] (fun y => y = avI (panF n)) := by
 refine SpecN.of_VCN Tryz.func85 rfl Tryz.ntmps85 (Nle rfl) fun w A hB => ?_
 have hnew : True := trivial
 refine VC.sr ?_
 refine VO.op rfl (OpE.box rfl hB rfl rfl rfl ?_)
 intro g1
 refine VO.ma rfl rfl rfl rfl ?_
 refine VO.nil ?_
 refine VC.seq ?_
 refine VC.sr ?_
 refine VO.val rfl rfl (OpV.fieldAddrO 0 rfl Tryz.underlying32 rfl rfl Tryz.sizeOf3 rfl) ?_
 refine VO.val rfl rfl (OpV.load_own (i := 0) rfl hB Tryz.isAgg3 rfl rfl rfl (fun h => h)) ?_
 refine VO.op rfl (OpE.call rfl hB rfl Tryz.call83 rfl (SpecN.spec (panel_isSize)) ?_)
 rintro _ rfl
 refine VO.val rfl rfl (OpV.not rfl rfl) ?_
 refine VO.mv rfl rfl rfl rfl ?_
 refine VO.opG rfl rfl rfl rfl (fun aK1b => ?_) (fun aK1b => ?_)
 ·replace aK1b : _ = false := aK1b
  have aK1 := aK1b
  try simp only [qqT, qqF, qqN, qqM, qqL, qqE] at aK1
  refine OpE.val (W := NoB) (OpV.fieldAddrO 1 rfl Tryz.underlying32 rfl rfl Tryz.sizeOf3 rfl) rfl ?_
  refine VO.opY rfl rfl rfl rfl aK1b ?_
  refine OpE.val (W := NoB) (OpV.load_own (i := 0) rfl hB Tryz.isAgg3 rfl rfl rfl (fun h => h)) rfl ?_
  refine VO.opY rfl rfl rfl rfl aK1b ?_
  refine OpE.call rfl hB rfl Tryz.call83 rfl (SpecN.spec (panel_isSize)) ?_
  rintro _ rfl
  refine VO.opY rfl rfl rfl rfl aK1b ?_
  refine OpE.val (W := NoB) (OpV.not rfl rfl) rfl ?_
  refine VO.val rfl rfl (OpV.pickF rfl rfl rfl rfl aK1b) ?_
  refine VO.nil ?_
  refine VC.cond rfl (fun aH2b => ?_) (fun aH2b => ?_)
  ·have aH2 := aH2b
   try simp only [qqT, qqF, qqN, qqM, qqL, qqE] at aH2
   refine VC.sr ?_
   refine VO.ma rfl rfl rfl rfl ?_
   refine VO.nil ?_
   refine VC.ret ?_
   exact Exists.intro _ (And.intro (RetN.one Tryz.results85 (ResN.v rfl)) (by first | rw [panF_1 (or2a (by assumption))] | rw [panF_1 (or2b (by assumption))]))
  ·have aH2 := aH2b
   try simp only [qqT, qqF, qqN, qqM, qqL, qqE] at aH2
   refine VC.skip ?_
   refine VC.seq ?_
   refine VC.sr ?_
   refine VO.val rfl rfl (OpV.fieldAddrO 2 rfl Tryz.underlying32 rfl rfl Tryz.sizeOf30 rfl) ?_
   refine VO.val rfl rfl (OpV.load_own (i := 0) rfl hB Tryz.isAgg30 rfl rfl rfl (fun h => h)) ?_
   refine VO.val rfl rfl (OpV.len_im rfl Tryz.underlying30 rfl) ?_
   refine VO.val rfl rfl (OpV.gtr rfl rfl rfl) ?_
   refine VO.nil ?_
   refine VC.cond rfl (fun aH3b => ?_) (fun aH3b => ?_)
   ·have aH3 := aH3b
    try simp only [qqT, qqF, qqN, qqM, qqL, qqE] at aH3
    refine VC.sr ?_
    refine VO.ma rfl rfl rfl rfl ?_
    refine VO.nil ?_
    refine VC.ret ?_
    exact Exists.intro _ (And.intro (RetN.one Tryz.results85 (ResN.v rfl)) (by rw [panF_2 (or2f (by assumption) (by assumption)) (by omega)]))
   ·have aH3 := aH3b
    try simp only [qqT, qqF, qqN, qqM, qqL, qqE] at aH3
    refine VC.skip ?_
    refine VC.seq ?_
    refine VC.sr ?_
    refine VO.val rfl rfl (OpV.fieldAddrO 2 rfl Tryz.underlying32 rfl rfl Tryz.sizeOf30 rfl) ?_
    refine VO.val rfl rfl (OpV.load_own (i := 0) rfl hB Tryz.isAgg30 rfl rfl rfl (fun h => h)) ?_
    refine VO.val rfl rfl (OpV.len_im rfl Tryz.underlying30 rfl) ?_
    refine VO.mv rfl rfl rfl rfl ?_
    refine VO.nil ?_
    refine VC.block ?_
    refine VC.loopK [(20, _), (21, _)] ⟨rfl, rfl, trivial⟩ ({q : Nat // q ≤ n.slots.length ∧ ∀ j, j < q → slotB (n.slots.getD j default) = false}) (fun (iZ : {q : Nat // q ≤ n.slots.length ∧ ∀ j, j < q → slotB (n.slots.getD j default) = false}) => match iZ with | ⟨q, hq, hn⟩ => [(22, avI (q : Int))]) (fun (iZ : {q : Nat // q ≤ n.slots.length ∧ ∀ j, j < q → slotB (n.slots.getD j default) = false}) => match iZ with | ⟨q, hq, hn⟩ => []) (fun (iZ : {q : Nat // q ≤ n.slots.length ∧ ∀ j, j < q → slotB (n.slots.getD j default) = false}) => match iZ with | ⟨q, hq, hn⟩ => 0) (fun (iZ : {q : Nat // q ≤ n.slots.length ∧ ∀ j, j < q → slotB (n.slots.getD j default) = false}) => match iZ with | ⟨q, hq, hn⟩ => n.slots.length - q) ⟨0, Nat.zero_le _, fun j hj => absurd hj (Nat.not_lt_zero j)⟩ (Le.mk hB [] ⟨rfl, rfl, rfl, trivial⟩ rfl rfl (Nat.le_refl _)) ?_
    rintro ⟨q, hq, hn⟩
    show VC _ _ _ _ ⟨[(22, avI (q : Int))] ++ [(20, _), (21, _)], [], 0⟩
    refine VC.sr ?_
    refine VO.val rfl rfl (OpV.lss rfl rfl rfl) ?_
    refine VO.nil ?_
    refine VC.seq ?_
    refine VC.cond rfl (fun aH4b => ?_) (fun aH4b => ?_)
    ·have aH4 := aH4b
     try simp only [qqT, qqF, qqN, qqM, qqL, qqE] at aH4
     refine VC.skip ?_
     refine VC.seq ?_
     refine VC.block ?_
     refine VC.sr ?_
     refine VO.val rfl rfl (OpV.indexAddr_E rfl Tryz.underlying30 Tryz.sizeOf94 rfl rfl rfl (by omega)) ?_
     refine VO.val rfl rfl (OpV.loadK_at rfl hB OutW.no Tryz.isAgg94 Tryz.sizeOf94 rfl rfl) ?_
     refine VO.op rfl (OpE.alloc rfl hB rfl Tryz.zeroValue94 rfl ?_)
     intro g4
     refine VO.op rfl (OpE.store (i := 0) rfl hB rfl Tryz.sizeOf94 rfl rfl rfl rfl rfl rfl (Nle rfl) trivial ?_)
     refine VO.nil ?_
     refine VC.sr ?_
     refine VO.val rfl rfl (OpV.fieldAddrO 0 rfl Tryz.underlying94 rfl rfl Tryz.sizeOf3 rfl) ?_
     refine VO.val rfl rfl (OpV.load_own (i := 0) rfl hB Tryz.isAgg3 rfl rfl rfl (fun h => h)) ?_
     refine VO.op rfl (OpE.call rfl hB rfl Tryz.call131 rfl (SpecN.spec (kit_Outside)) ?_)
     rintro _ rfl
     refine VO.mv rfl rfl rfl rfl ?_
     refine VO.opG rfl rfl rfl rfl (fun aK5b => ?_) (fun aK5b => ?_)
     ·replace aK5b : _ = false := aK5b
      have aK5 := aK5b
      try simp only [qqT, qqF, qqN, qqM, qqL, qqE] at aK5
      refine OpE.val (W := NoB) (OpV.fieldAddrO 1 rfl Tryz.underlying94 rfl rfl Tryz.sizeOf3 rfl) rfl ?_
      refine VO.opY rfl rfl rfl rfl aK5b ?_
      refine OpE.val (W := NoB) (OpV.load_own (i := 0) rfl hB Tryz.isAgg3 rfl rfl rfl (fun h => h)) rfl ?_
      refine VO.opY rfl rfl rfl rfl aK5b ?_
      refine OpE.call rfl hB rfl Tryz.call131 rfl (SpecN.spec (kit_Outside)) ?_
      rintro _ rfl
      refine VO.val rfl rfl (OpV.pickF rfl rfl rfl rfl aK5b) ?_
      refine VO.mv rfl rfl rfl rfl ?_
      refine VO.opG rfl rfl rfl rfl (fun aK6b => ?_) (fun aK6b => ?_)
      ·replace aK6b : _ = false := aK6b
       have aK6 := aK6b
       try simp only [qqT, qqF, qqN, qqM, qqL, qqE] at aK6
       refine OpE.val (W := NoB) (OpV.fieldAddrO 2 rfl Tryz.underlying94 rfl rfl Tryz.sizeOf3 rfl) rfl ?_
       refine VO.opY rfl rfl rfl rfl aK6b ?_
       refine OpE.val (W := NoB) (OpV.load_own (i := 0) rfl hB Tryz.isAgg3 rfl rfl rfl (fun h => h)) rfl ?_
       refine VO.opY rfl rfl rfl rfl aK6b ?_
       refine OpE.call rfl hB rfl Tryz.call131 rfl (SpecN.spec (kit_Outside)) ?_
       rintro _ rfl
       refine VO.val rfl rfl (OpV.pickF rfl rfl rfl rfl aK6b) ?_
       refine VO.nil ?_
       refine VC.cond rfl (fun aH7b => ?_) (fun aH7b => ?_)
       ·have aH7 := aH7b
        try simp only [qqT, qqF, qqN, qqM, qqL, qqE] at aH7
        refine VC.sr ?_
        refine VO.ma rfl rfl rfl rfl ?_
        refine VO.nil ?_
        refine VC.ret ?_
        exact Exists.intro _ (And.intro (RetN.one Tryz.results85 (ResN.v rfl)) (by first | rw [panF_3 (q := q) (or2f (by assumption) (by assumption)) (by omega) (by omega) (or3a (by assumption))] | rw [panF_3 (q := q) (or2f (by assumption) (by assumption)) (by omega) (by omega) (or3b (by assumption))] | rw [panF_3 (q := q) (or2f (by assumption) (by assumption)) (by omega) (by omega) (or3c (by assumption))]))
       ·have aH7 := aH7b
        try simp only [qqT, qqF, qqN, qqM, qqL, qqE] at aH7
        refine VC.skip ?_
        refine VC.region ?_
        refine VO.val rfl rfl (OpV.add rfl rfl rfl (by unfold fits; omega)) ?_
        refine VO.mv rfl rfl rfl rfl ?_
        refine VO.nil ?_
        exact Exists.intro (⟨q + 1, by omega, lt_succ_cases hn (or3f (by assumption) (by assumption) (by assumption))⟩) (And.intro (Le.mk hB [] ⟨rfl, rfl, rfl, trivial⟩ rfl rfl (Nat.le_refl _)) (by first | omega | (show _ < _; omega) | (simp only []; omega)))
      ·replace aK6b : _ = true := aK6b
       have aK6 := aK6b
       try simp only [qqT, qqF, qqN, qqM, qqL, qqE] at aK6
       refine VO.opX rfl rfl rfl rfl aK6b ?_
       refine VO.opX rfl rfl rfl rfl aK6b ?_
       refine VO.val rfl rfl (OpV.pickT rfl rfl rfl rfl aK6b) ?_
       refine VO.nil ?_
       refine VC.condT rfl rfl ?_
       refine VC.sr ?_
       refine VO.ma rfl rfl rfl rfl ?_
       refine VO.nil ?_
       refine VC.ret ?_
       exact Exists.intro _ (And.intro (RetN.one Tryz.results85 (ResN.v rfl)) (by first | rw [panF_3 (q := q) (or2f (by assumption) (by assumption)) (by omega) (by omega) (or3a (by assumption))] | rw [panF_3 (q := q) (or2f (by assumption) (by assumption)) (by omega) (by omega) (or3b (by assumption))] | rw [panF_3 (q := q) (or2f (by assumption) (by assumption)) (by omega) (by omega) (or3c (by assumption))]))
     ·replace aK5b : _ = true := aK5b
      have aK5 := aK5b
      try simp only [qqT, qqF, qqN, qqM, qqL, qqE] at aK5
      refine VO.opX rfl rfl rfl rfl aK5b ?_
      refine VO.opX rfl rfl rfl rfl aK5b ?_
      refine VO.val rfl rfl (OpV.pickT rfl rfl rfl rfl aK5b) ?_
      refine VO.mv rfl rfl rfl rfl ?_
      refine VO.opX rfl rfl rfl rfl rfl ?_
      refine VO.opX rfl rfl rfl rfl rfl ?_
      refine VO.opX rfl rfl rfl rfl rfl ?_
      refine VO.val rfl rfl (OpV.pickT rfl rfl rfl rfl rfl) ?_
      refine VO.nil ?_
      refine VC.condT rfl rfl ?_
      refine VC.sr ?_
      refine VO.ma rfl rfl rfl rfl ?_
      refine VO.nil ?_
      refine VC.ret ?_
      exact Exists.intro _ (And.intro (RetN.one Tryz.results85 (ResN.v rfl)) (by first | rw [panF_3 (q := q) (or2f (by assumption) (by assumption)) (by omega) (by omega) (or3a (by assumption))] | rw [panF_3 (q := q) (or2f (by assumption) (by assumption)) (by omega) (by omega) (or3b (by assumption))] | rw [panF_3 (q := q) (or2f (by assumption) (by assumption)) (by omega) (by omega) (or3c (by assumption))]))
    ·have aH4 := aH4b
     try simp only [qqT, qqF, qqN, qqM, qqL, qqE] at aH4
     refine VC.exit ?_
     refine VC.sr ?_
     refine VO.ma rfl rfl rfl rfl ?_
     refine VO.nil ?_
     refine VC.ret ?_
     exact Exists.intro _ (And.intro (RetN.one Tryz.results85 (ResN.v rfl)) (by rw [panF_0 (or2f (by assumption) (by assumption)) (by omega) (fun j hj => hn j (by omega))]))
 ·replace aK1b : _ = true := aK1b
  have aK1 := aK1b
  try simp only [qqT, qqF, qqN, qqM, qqL, qqE] at aK1
  refine VO.opX rfl rfl rfl rfl aK1b ?_
  refine VO.opX rfl rfl rfl rfl aK1b ?_
  refine VO.opX rfl rfl rfl rfl aK1b ?_
  refine VO.val rfl rfl (OpV.pickT rfl rfl rfl rfl aK1b) ?_
  refine VO.nil ?_
  refine VC.condT rfl rfl ?_
  refine VC.sr ?_
  refine VO.ma rfl rfl rfl rfl ?_
  refine VO.nil ?_
  refine VC.ret ?_
  exact Exists.intro _ (And.intro (RetN.one Tryz.results85 (ResN.v rfl)) (by first | rw [panF_1 (or2a (by assumption))] | rw [panF_1 (or2b (by assumption))]))
set_option maxRecDepth 100000 in
theorem rf_panelFault {n : PanS} (hl : n.slots.length ≤ 1000000) :
  SpecN Tryz.prog 77 [avPan n] (fun y => y = avI (panF n)) := by
 refine SpecN.of_VCN Tryz.func77 rfl Tryz.ntmps77 (Nle rfl) fun w A hB => ?_
 have hnew : True := trivial
 refine VC.sr ?_
 refine VO.op rfl (OpE.box rfl hB rfl rfl rfl ?_)
 intro g1
 refine VO.ma rfl rfl rfl rfl ?_
 refine VO.nil ?_
 refine VC.seq ?_
 refine VC.block ?_
 refine VC.sr ?_
 refine VO.val rfl rfl (OpV.fieldAddrO 0 rfl Tryz.underlying32 rfl rfl Tryz.sizeOf3 rfl) ?_
 refine VO.val rfl rfl (OpV.load_own (i := 0) rfl hB Tryz.isAgg3 rfl rfl rfl (fun h => h)) ?_
 refine VO.op rfl (OpE.call rfl hB rfl Tryz.call76 rfl (SpecN.spec (rf_in)) ?_)
 rintro _ rfl
 refine VO.val rfl rfl (OpV.not rfl rfl) ?_
 refine VO.mv rfl rfl rfl rfl ?_
 refine VO.opG rfl rfl rfl rfl (fun aK1b => ?_) (fun aK1b => ?_)
 ·replace aK1b : _ = false := aK1b
  have aK1 := aK1b
  try simp only [qqT, qqF, qqN, qqM, qqL, qqE] at aK1
  refine OpE.val (W := NoB) (OpV.fieldAddrO 1 rfl Tryz.underlying32 rfl rfl Tryz.sizeOf3 rfl) rfl ?_
  refine VO.opY rfl rfl rfl rfl aK1b ?_
  refine OpE.val (W := NoB) (OpV.load_own (i := 0) rfl hB Tryz.isAgg3 rfl rfl rfl (fun h => h)) rfl ?_
  refine VO.opY rfl rfl rfl rfl aK1b ?_
  refine OpE.call rfl hB rfl Tryz.call76 rfl (SpecN.spec (rf_in)) ?_
  rintro _ rfl
  refine VO.opY rfl rfl rfl rfl aK1b ?_
  refine OpE.val (W := NoB) (OpV.not rfl rfl) rfl ?_
  refine VO.val rfl rfl (OpV.pickF rfl rfl rfl rfl aK1b) ?_
  refine VO.ma rfl rfl rfl rfl ?_
  refine VO.nil ?_
  refine VC.cond rfl (fun aH2b => ?_) (fun aH2b => ?_)
  ·have aH2 := aH2b
   try simp only [qqT, qqF, qqN, qqM, qqL, qqE] at aH2
   refine VC.sr ?_
   refine VO.ma rfl rfl rfl rfl ?_
   refine VO.nil ?_
   refine VC.ret ?_
   exact Exists.intro _ (And.intro (RetN.one Tryz.results77 (ResN.v rfl)) (by first | rw [panF_1 (or2a (oin (by assumption)))] | rw [panF_1 (or2b (oin (by assumption)))]))
  ·have aH2 := aH2b
   try simp only [qqT, qqF, qqN, qqM, qqL, qqE] at aH2
   refine VC.sr ?_
   refine VO.val rfl rfl (OpV.fieldAddrO 2 rfl Tryz.underlying32 rfl rfl Tryz.sizeOf30 rfl) ?_
   refine VO.val rfl rfl (OpV.load_own (i := 0) rfl hB Tryz.isAgg30 rfl rfl rfl (fun h => h)) ?_
   refine VO.val rfl rfl (OpV.len_im rfl Tryz.underlying30 rfl) ?_
   refine VO.val rfl rfl (OpV.gtr rfl rfl rfl) ?_
   refine VO.ma rfl rfl rfl rfl ?_
   refine VO.nil ?_
   refine VC.cond rfl (fun aH3b => ?_) (fun aH3b => ?_)
   ·have aH3 := aH3b
    try simp only [qqT, qqF, qqN, qqM, qqL, qqE] at aH3
    refine VC.sr ?_
    refine VO.ma rfl rfl rfl rfl ?_
    refine VO.nil ?_
    refine VC.ret ?_
    exact Exists.intro _ (And.intro (RetN.one Tryz.results77 (ResN.v rfl)) (by rw [panF_2 (or2f (oin (by assumption)) (oin (by assumption))) (by omega)]))
   ·have aH3 := aH3b
    try simp only [qqT, qqF, qqN, qqM, qqL, qqE] at aH3
    refine VC.skip ?_
    refine VC.seq ?_
    refine VC.sr ?_
    refine VO.val rfl rfl (OpV.fieldAddrO 2 rfl Tryz.underlying32 rfl rfl Tryz.sizeOf30 rfl) ?_
    refine VO.val rfl rfl (OpV.load_own (i := 0) rfl hB Tryz.isAgg30 rfl rfl rfl (fun h => h)) ?_
    refine VO.val rfl rfl (OpV.len_im rfl Tryz.underlying30 rfl) ?_
    refine VO.mv rfl rfl rfl rfl ?_
    refine VO.nil ?_
    refine VC.block ?_
    refine VC.loopK [(22, _), (23, _)] ⟨rfl, rfl, trivial⟩ ({q : Nat // q ≤ n.slots.length ∧ ∀ j, j < q → slotB (n.slots.getD j default) = false}) (fun (iZ : {q : Nat // q ≤ n.slots.length ∧ ∀ j, j < q → slotB (n.slots.getD j default) = false}) => match iZ with | ⟨q, hq, hn⟩ => [(24, avI (q : Int))]) (fun (iZ : {q : Nat // q ≤ n.slots.length ∧ ∀ j, j < q → slotB (n.slots.getD j default) = false}) => match iZ with | ⟨q, hq, hn⟩ => []) (fun (iZ : {q : Nat // q ≤ n.slots.length ∧ ∀ j, j < q → slotB (n.slots.getD j default) = false}) => match iZ with | ⟨q, hq, hn⟩ => 0) (fun (iZ : {q : Nat // q ≤ n.slots.length ∧ ∀ j, j < q → slotB (n.slots.getD j default) = false}) => match iZ with | ⟨q, hq, hn⟩ => n.slots.length - q) ⟨0, Nat.zero_le _, fun j hj => absurd hj (Nat.not_lt_zero j)⟩ (Le.mk hB [] ⟨rfl, rfl, rfl, trivial⟩ rfl rfl (Nat.le_refl _)) ?_
    rintro ⟨q, hq, hn⟩
    show VC _ _ _ _ ⟨[(24, avI (q : Int))] ++ [(22, _), (23, _)], [], 0⟩
    refine VC.sr ?_
    refine VO.val rfl rfl (OpV.lss rfl rfl rfl) ?_
    refine VO.nil ?_
    refine VC.seq ?_
    refine VC.cond rfl (fun aH4b => ?_) (fun aH4b => ?_)
    ·have aH4 := aH4b
     try simp only [qqT, qqF, qqN, qqM, qqL, qqE] at aH4
     refine VC.skip ?_
     refine VC.seq ?_
     refine VC.block ?_
     refine VC.sr ?_
     refine VO.val rfl rfl (OpV.indexAddr_E rfl Tryz.underlying30 Tryz.sizeOf94 rfl rfl rfl (by omega)) ?_
     refine VO.val rfl rfl (OpV.loadK_at rfl hB OutW.no Tryz.isAgg94 Tryz.sizeOf94 rfl rfl) ?_
     refine VO.op rfl (OpE.alloc rfl hB rfl Tryz.zeroValue94 rfl ?_)
     intro g4
     refine VO.op rfl (OpE.store (i := 0) rfl hB rfl Tryz.sizeOf94 rfl rfl rfl rfl rfl rfl (Nle rfl) trivial ?_)
     refine VO.nil ?_
     refine VC.sr ?_
     refine VO.val rfl rfl (OpV.fieldAddrO 0 rfl Tryz.underlying94 rfl rfl Tryz.sizeOf3 rfl) ?_
     refine VO.val rfl rfl (OpV.load_own (i := 0) rfl hB Tryz.isAgg3 rfl rfl rfl (fun h => h)) ?_
     refine VO.op rfl (OpE.call rfl hB rfl Tryz.call76 rfl (SpecN.spec (rf_in)) ?_)
     rintro _ rfl
     refine VO.val rfl rfl (OpV.not rfl rfl) ?_
     refine VO.mv rfl rfl rfl rfl ?_
     refine VO.opG rfl rfl rfl rfl (fun aK5b => ?_) (fun aK5b => ?_)
     ·replace aK5b : _ = false := aK5b
      have aK5 := aK5b
      try simp only [qqT, qqF, qqN, qqM, qqL, qqE] at aK5
      refine OpE.val (W := NoB) (OpV.fieldAddrO 1 rfl Tryz.underlying94 rfl rfl Tryz.sizeOf3 rfl) rfl ?_
      refine VO.opY rfl rfl rfl rfl aK5b ?_
      refine OpE.val (W := NoB) (OpV.load_own (i := 0) rfl hB Tryz.isAgg3 rfl rfl rfl (fun h => h)) rfl ?_
      refine VO.opY rfl rfl rfl rfl aK5b ?_
      refine OpE.call rfl hB rfl Tryz.call76 rfl (SpecN.spec (rf_in)) ?_
      rintro _ rfl
      refine VO.opY rfl rfl rfl rfl aK5b ?_
      refine OpE.val (W := NoB) (OpV.not rfl rfl) rfl ?_
      refine VO.val rfl rfl (OpV.pickF rfl rfl rfl rfl aK5b) ?_
      refine VO.mv rfl rfl rfl rfl ?_
      refine VO.opG rfl rfl rfl rfl (fun aK6b => ?_) (fun aK6b => ?_)
      ·replace aK6b : _ = false := aK6b
       have aK6 := aK6b
       try simp only [qqT, qqF, qqN, qqM, qqL, qqE] at aK6
       refine OpE.val (W := NoB) (OpV.fieldAddrO 2 rfl Tryz.underlying94 rfl rfl Tryz.sizeOf3 rfl) rfl ?_
       refine VO.opY rfl rfl rfl rfl aK6b ?_
       refine OpE.val (W := NoB) (OpV.load_own (i := 0) rfl hB Tryz.isAgg3 rfl rfl rfl (fun h => h)) rfl ?_
       refine VO.opY rfl rfl rfl rfl aK6b ?_
       refine OpE.call rfl hB rfl Tryz.call76 rfl (SpecN.spec (rf_in)) ?_
       rintro _ rfl
       refine VO.opY rfl rfl rfl rfl aK6b ?_
       refine OpE.val (W := NoB) (OpV.not rfl rfl) rfl ?_
       refine VO.val rfl rfl (OpV.pickF rfl rfl rfl rfl aK6b) ?_
       refine VO.nil ?_
       refine VC.cond rfl (fun aH7b => ?_) (fun aH7b => ?_)
       ·have aH7 := aH7b
        try simp only [qqT, qqF, qqN, qqM, qqL, qqE] at aH7
        refine VC.sr ?_
        refine VO.ma rfl rfl rfl rfl ?_
        refine VO.nil ?_
        refine VC.ret ?_
        exact Exists.intro _ (And.intro (RetN.one Tryz.results77 (ResN.v rfl)) (by first | rw [panF_3 (q := q) (or2f (oin (by assumption)) (oin (by assumption))) (by omega) (by omega) (or3a (oin (by assumption)))] | rw [panF_3 (q := q) (or2f (oin (by assumption)) (oin (by assumption))) (by omega) (by omega) (or3b (oin (by assumption)))] | rw [panF_3 (q := q) (or2f (oin (by assumption)) (oin (by assumption))) (by omega) (by omega) (or3c (oin (by assumption)))]))
       ·have aH7 := aH7b
        try simp only [qqT, qqF, qqN, qqM, qqL, qqE] at aH7
        refine VC.skip ?_
        refine VC.region ?_
        refine VO.val rfl rfl (OpV.add rfl rfl rfl (by unfold fits; omega)) ?_
        refine VO.mv rfl rfl rfl rfl ?_
        refine VO.nil ?_
        exact Exists.intro (⟨q + 1, by omega, lt_succ_cases hn (or3f (oin (by assumption)) (oin (by assumption)) (oin (by assumption)))⟩) (And.intro (Le.mk hB [] ⟨rfl, rfl, rfl, trivial⟩ rfl rfl (Nat.le_refl _)) (by first | omega | (show _ < _; omega) | (simp only []; omega)))
      ·replace aK6b : _ = true := aK6b
       have aK6 := aK6b
       try simp only [qqT, qqF, qqN, qqM, qqL, qqE] at aK6
       refine VO.opX rfl rfl rfl rfl aK6b ?_
       refine VO.opX rfl rfl rfl rfl aK6b ?_
       refine VO.opX rfl rfl rfl rfl aK6b ?_
       refine VO.val rfl rfl (OpV.pickT rfl rfl rfl rfl aK6b) ?_
       refine VO.nil ?_
       refine VC.condT rfl rfl ?_
       refine VC.sr ?_
       refine VO.ma rfl rfl rfl rfl ?_
       refine VO.nil ?_
       refine VC.ret ?_
       exact Exists.intro _ (And.intro (RetN.one Tryz.results77 (ResN.v rfl)) (by first | rw [panF_3 (q := q) (or2f (oin (by assumption)) (oin (by assumption))) (by omega) (by omega) (or3a (oin (by assumption)))] | rw [panF_3 (q := q) (or2f (oin (by assumption)) (oin (by assumption))) (by omega) (by omega) (or3b (oin (by assumption)))] | rw [panF_3 (q := q) (or2f (oin (by assumption)) (oin (by assumption))) (by omega) (by omega) (or3c (oin (by assumption)))]))
     ·replace aK5b : _ = true := aK5b
      have aK5 := aK5b
      try simp only [qqT, qqF, qqN, qqM, qqL, qqE] at aK5
      refine VO.opX rfl rfl rfl rfl aK5b ?_
      refine VO.opX rfl rfl rfl rfl aK5b ?_
      refine VO.opX rfl rfl rfl rfl aK5b ?_
      refine VO.val rfl rfl (OpV.pickT rfl rfl rfl rfl aK5b) ?_
      refine VO.mv rfl rfl rfl rfl ?_
      refine VO.opX rfl rfl rfl rfl rfl ?_
      refine VO.opX rfl rfl rfl rfl rfl ?_
      refine VO.opX rfl rfl rfl rfl rfl ?_
      refine VO.opX rfl rfl rfl rfl rfl ?_
      refine VO.val rfl rfl (OpV.pickT rfl rfl rfl rfl rfl) ?_
      refine VO.nil ?_
      refine VC.condT rfl rfl ?_
      refine VC.sr ?_
      refine VO.ma rfl rfl rfl rfl ?_
      refine VO.nil ?_
      refine VC.ret ?_
      exact Exists.intro _ (And.intro (RetN.one Tryz.results77 (ResN.v rfl)) (by first | rw [panF_3 (q := q) (or2f (oin (by assumption)) (oin (by assumption))) (by omega) (by omega) (or3a (oin (by assumption)))] | rw [panF_3 (q := q) (or2f (oin (by assumption)) (oin (by assumption))) (by omega) (by omega) (or3b (oin (by assumption)))] | rw [panF_3 (q := q) (or2f (oin (by assumption)) (oin (by assumption))) (by omega) (by omega) (or3c (oin (by assumption)))]))
    ·have aH4 := aH4b
     try simp only [qqT, qqF, qqN, qqM, qqL, qqE] at aH4
     refine VC.exit ?_
     refine VC.sr ?_
     refine VO.ma rfl rfl rfl rfl ?_
     refine VO.nil ?_
     refine VC.ret ?_
     exact Exists.intro _ (And.intro (RetN.one Tryz.results77 (ResN.v rfl)) (by rw [panF_0 (or2f (oin (by assumption)) (oin (by assumption))) (by omega) (fun j hj => hn j (by omega))]))
 ·replace aK1b : _ = true := aK1b
  have aK1 := aK1b
  try simp only [qqT, qqF, qqN, qqM, qqL, qqE] at aK1
  refine VO.opX rfl rfl rfl rfl aK1b ?_
  refine VO.opX rfl rfl rfl rfl aK1b ?_
  refine VO.opX rfl rfl rfl rfl aK1b ?_
  refine VO.val rfl rfl (OpV.pickT rfl rfl rfl rfl aK1b) ?_
  refine VO.ma rfl rfl rfl rfl ?_
  refine VO.nil ?_
  refine VC.condT rfl rfl ?_
  refine VC.sr ?_
  refine VO.ma rfl rfl rfl rfl ?_
  refine VO.nil ?_
  refine VC.ret ?_
  exact Exists.intro _ (And.intro (RetN.one Tryz.results77 (ResN.v rfl)) (by first | rw [panF_1 (or2a (oin (by assumption)))] | rw [panF_1 (or2b (oin (by assumption)))]))
set_option maxRecDepth 100000 in
theorem panel_CheckPanel {p : ProdS} {n : PanS} (hs : SmP p) (hl : n.slots.length ≤ 1000000) :
  SpecN Tryz.prog 27 [avProd p, avPan n] (fun y => y = avI (panelF p n)) := by
 refine SpecN.of_VCN Tryz.func27 rfl Tryz.ntmps27 (Nle rfl) fun w A hB => ?_
 have hnew : True := trivial
 refine VC.sr ?_
 refine VO.op rfl (OpE.box rfl hB rfl rfl rfl ?_)
 intro g2
 refine VO.op rfl (OpE.box rfl hB rfl rfl rfl ?_)
 intro g3
 refine VO.ma rfl rfl rfl rfl ?_
 refine VO.nil ?_
 refine VC.seq ?_
 refine VC.sr ?_
 refine VO.val rfl rfl (OpV.loadK_own (i := 0) rfl hB Tryz.isAgg28 Tryz.sizeOf28 rfl rfl rfl (fun h => h)) ?_
 refine VO.op rfl (OpE.call rfl hB rfl Tryz.call26 rfl (SpecN.spec (panel_CheckProduct hs)) ?_)
 rintro _ rfl
 refine VO.ma rfl rfl rfl rfl ?_
 refine VO.nil ?_
 refine VC.sr ?_
 refine VO.mv rfl rfl rfl rfl ?_
 refine VO.val rfl rfl (OpV.neq rfl rfl rfl) ?_
 refine VO.nil ?_
 refine VC.cond rfl (fun h0b => ?_) (fun h0b => ?_)
 ·have h0 := h0b
  try simp only [qqT, qqF, qqN, qqM, qqL, qqE] at h0
  refine VC.sr ?_
  refine VO.mv rfl rfl rfl rfl ?_
  refine VO.ma rfl rfl rfl rfl ?_
  refine VO.nil ?_
  refine VC.ret ?_
  exact Exists.intro _ (And.intro (RetN.one Tryz.results27 (ResN.v rfl)) (by first | rw [panelF, if_pos h0] | rw [panelF, if_neg h0]))
 ·have h0 := h0b
  try simp only [qqT, qqF, qqN, qqM, qqL, qqE] at h0
  refine VC.skip ?_
  refine VC.sr ?_
  refine VO.val rfl rfl (OpV.loadK_own (i := 1) rfl hB Tryz.isAgg32 Tryz.sizeOf32 rfl rfl rfl (fun h => h)) ?_
  refine VO.op rfl (OpE.call rfl hB rfl Tryz.call85 rfl (SpecN.spec (panel_panelFault hl)) ?_)
  rintro _ rfl
  refine VO.ma rfl rfl rfl rfl ?_
  refine VO.nil ?_
  refine VC.ret ?_
  exact Exists.intro _ (And.intro (RetN.one Tryz.results27 (ResN.v rfl)) (by first | rw [panelF, if_pos h0] | rw [panelF, if_neg h0]))
set_option maxRecDepth 100000 in
theorem rf_PanelFault {p : ProdS} {n : PanS} (hs : SmP p) (hl : n.slots.length ≤ 1000000) :
  SpecN Tryz.prog 19 [avProd p, avPan n] (fun y => y = avI (panelF p n)) := by
 refine SpecN.of_VCN Tryz.func19 rfl Tryz.ntmps19 (Nle rfl) fun w A hB => ?_
 have hnew : True := trivial
 refine VC.sr ?_
 refine VO.op rfl (OpE.box rfl hB rfl rfl rfl ?_)
 intro g2
 refine VO.op rfl (OpE.box rfl hB rfl rfl rfl ?_)
 intro g3
 refine VO.ma rfl rfl rfl rfl ?_
 refine VO.nil ?_
 refine VC.seq ?_
 refine VC.sr ?_
 refine VO.val rfl rfl (OpV.loadK_own (i := 0) rfl hB Tryz.isAgg28 Tryz.sizeOf28 rfl rfl rfl (fun h => h)) ?_
 refine VO.op rfl (OpE.call rfl hB rfl Tryz.call18 rfl (SpecN.spec (rf_ProductFault hs)) ?_)
 rintro _ rfl
 refine VO.ma rfl rfl rfl rfl ?_
 refine VO.nil ?_
 refine VC.sr ?_
 refine VO.mv rfl rfl rfl rfl ?_
 refine VO.val rfl rfl (OpV.neq rfl rfl rfl) ?_
 refine VO.nil ?_
 refine VC.cond rfl (fun h0b => ?_) (fun h0b => ?_)
 ·have h0 := h0b
  try simp only [qqT, qqF, qqN, qqM, qqL, qqE] at h0
  refine VC.sr ?_
  refine VO.mv rfl rfl rfl rfl ?_
  refine VO.ma rfl rfl rfl rfl ?_
  refine VO.nil ?_
  refine VC.ret ?_
  exact Exists.intro _ (And.intro (RetN.one Tryz.results19 (ResN.v rfl)) (by first | rw [panelF, if_pos h0] | rw [panelF, if_neg h0]))
 ·have h0 := h0b
  try simp only [qqT, qqF, qqN, qqM, qqL, qqE] at h0
  refine VC.skip ?_
  refine VC.sr ?_
  refine VO.val rfl rfl (OpV.loadK_own (i := 1) rfl hB Tryz.isAgg32 Tryz.sizeOf32 rfl rfl rfl (fun h => h)) ?_
  refine VO.op rfl (OpE.call rfl hB rfl Tryz.call77 rfl (SpecN.spec (rf_panelFault hl)) ?_)
  rintro _ rfl
  refine VO.ma rfl rfl rfl rfl ?_
  refine VO.nil ?_
  refine VC.ret ?_
  exact Exists.intro _ (And.intro (RetN.one Tryz.results19 (ResN.v rfl)) (by first | rw [panelF, if_pos h0] | rw [panelF, if_neg h0]))
set_option maxRecDepth 100000 in
theorem panel_size {p : ProdS} {q : Int} (hq : 0 ≤ q ∧ q ≤ 3) :
  SpecN Tryz.prog 100 [avProd p, avI q] (fun y => y = .tup [avI (szW p q), avI (szH p q)]) := by
 refine SpecN.of_VCN Tryz.func100 rfl Tryz.ntmps100 (Nle rfl) fun w A hB => ?_
 have hnew : True := trivial
 refine VC.sr ?_
 refine VO.op rfl (OpE.box rfl hB rfl rfl rfl ?_)
 intro g2
 refine VO.ma rfl rfl rfl rfl ?_
 refine VO.ma rfl rfl rfl rfl ?_
 refine VO.nil ?_
 refine VC.seq ?_
 refine VC.sr ?_
 refine VO.mv rfl rfl rfl rfl ?_
 refine VO.val rfl rfl (OpV.rem rfl rfl rfl (by omega) (by have := tmod2 hq; unfold fits; omega)) ?_
 refine VO.val rfl rfl (OpV.eql rfl rfl rfl) ?_
 refine VO.nil ?_
 refine VC.cond rfl (fun h0b => ?_) (fun h0b => ?_)
 ·have h0 := h0b
  try simp only [qqT, qqF, qqN, qqM, qqL, qqE] at h0
  refine VC.seq ?_
  refine VC.draw (fun _ => NoB) hB (by kernel_rfl) ?_
  refine VA.take (i := 0) rfl (by kernel_rfl) (by kernel_rfl) (by kernel_rfl) rfl rfl (OpV.fieldAddrO 2 rfl Tryz.underlying28 rfl rfl Tryz.sizeOf3 rfl) ?_
  refine VA.take (i := 1) rfl (by kernel_rfl) (by kernel_rfl) (by kernel_rfl) rfl rfl (OpV.load_own (i := 0) rfl hB Tryz.isAgg3 rfl rfl rfl Wi.not0) ?_
  refine VA.take (i := 2) rfl (by kernel_rfl) (by kernel_rfl) (by kernel_rfl) rfl rfl (OpV.fieldAddrO 1 rfl Tryz.underlying28 rfl rfl Tryz.sizeOf3 rfl) ?_
  refine VA.take (i := 3) rfl (by kernel_rfl) (by kernel_rfl) (by kernel_rfl) rfl rfl (OpV.load_own (i := 0) rfl hB Tryz.isAgg3 rfl rfl rfl Wi.not0) ?_
  refine VA.take (i := 4) rfl (by kernel_rfl) (by kernel_rfl) (by kernel_rfl) rfl rfl (OpV.move (.inr rfl) rfl) ?_
  refine VA.take (i := 5) rfl (by kernel_rfl) (by kernel_rfl) (by kernel_rfl) rfl rfl (OpV.move (.inr rfl) rfl) ?_
  refine VA.done (by kernel_rfl) ?_
  refine VC.ret ?_
  exact Exists.intro _ (And.intro (RetN.two Tryz.results100 (ResN.v rfl) (ResN.v rfl)) (by first | (rw [szW, szH, if_pos h0, if_pos h0]) | (rw [szW, szH, if_neg h0, if_neg h0])))
 ·have h0 := h0b
  try simp only [qqT, qqF, qqN, qqM, qqL, qqE] at h0
  refine VC.skip ?_
  refine VC.seq ?_
  refine VC.draw (fun _ => NoB) hB (by kernel_rfl) ?_
  refine VA.take (i := 0) rfl (by kernel_rfl) (by kernel_rfl) (by kernel_rfl) rfl rfl (OpV.fieldAddrO 1 rfl Tryz.underlying28 rfl rfl Tryz.sizeOf3 rfl) ?_
  refine VA.take (i := 1) rfl (by kernel_rfl) (by kernel_rfl) (by kernel_rfl) rfl rfl (OpV.load_own (i := 0) rfl hB Tryz.isAgg3 rfl rfl rfl Wi.not0) ?_
  refine VA.take (i := 2) rfl (by kernel_rfl) (by kernel_rfl) (by kernel_rfl) rfl rfl (OpV.fieldAddrO 2 rfl Tryz.underlying28 rfl rfl Tryz.sizeOf3 rfl) ?_
  refine VA.take (i := 3) rfl (by kernel_rfl) (by kernel_rfl) (by kernel_rfl) rfl rfl (OpV.load_own (i := 0) rfl hB Tryz.isAgg3 rfl rfl rfl Wi.not0) ?_
  refine VA.take (i := 4) rfl (by kernel_rfl) (by kernel_rfl) (by kernel_rfl) rfl rfl (OpV.move (.inr rfl) rfl) ?_
  refine VA.take (i := 5) rfl (by kernel_rfl) (by kernel_rfl) (by kernel_rfl) rfl rfl (OpV.move (.inr rfl) rfl) ?_
  refine VA.done (by kernel_rfl) ?_
  refine VC.ret ?_
  exact Exists.intro _ (And.intro (RetN.two Tryz.results100 (ResN.v rfl) (ResN.v rfl)) (by first | (rw [szW, szH, if_pos h0, if_pos h0]) | (rw [szW, szH, if_neg h0, if_neg h0])))
theorem szW_bd {p : ProdS} {q : Int} (hw : 1 ≤ p.wide ∧ p.wide ≤ 500000) (hh : 1 ≤ p.high ∧ p.high ≤ 500000) : (1 ≤ szW p q ∧ szW p q ≤ 500000) ∧ 1 ≤ szH p q ∧ szH p q ≤ 500000 := by
 unfold szW szH; split <;> omega
theorem outsR_no {p : ProdS} {n : PanS} (h : panelF p n ≠ 0) : outsR p n = [] := if_neg h
theorem ovsR_no {p : ProdS} {n : PanS} (h : panelF p n ≠ 0) : ovsR p n = [] := if_neg h
theorem nums_t {α : Type} [Inhabited α] {f : α → Bool} {l : List α} {q : Nat} (h : f (l.getD q default) = true) : numsL f l (q + 1) = numsL f l q ++ [(q : Int)] := by rw [numsL_succ, if_pos h]
theorem nums_f {α : Type} [Inhabited α] {f : α → Bool} {l : List α} {q : Nat} (h : f (l.getD q default) = false) : numsL f l (q + 1) = numsL f l q := by rw [numsL_succ, if_neg (by rw [h]; simp), List.append_nil]
theorem out_1 {p : ProdS} {n : PanS} {s : SlotS} (h : decide (s.x + szW p s.quarter > n.wide) = true) : outO p n s = true := or2a h
theorem out_2 {p : ProdS} {n : PanS} {s : SlotS} (h : decide (s.y + szH p s.quarter > n.high) = true) : outO p n s = true := or2b h
theorem out_3 {p : ProdS} {n : PanS} {s : SlotS} (h : decide (s.x + szW p s.quarter > n.wide) = false) (h' : decide (s.y + szH p s.quarter > n.high) = false) : outO p n s = false := or2f h h'
set_option maxRecDepth 100000 in
set_option maxHeartbeats 4000000 in
theorem panel_Outside {p : ProdS} {n : PanS} (hs : SmP p) (hl : n.slots.length ≤ 1000000) :
  SpecN Tryz.prog 48 [avProd p, avPan n] (fun y => y = .tup [avInts (outsR p n), avI (panelF p n)]) := by
 refine SpecN.of_VCN Tryz.func48 rfl Tryz.ntmps48 (Nle rfl) fun w A hB => ?_
 have hnew : True := trivial
 refine VC.sr ?_
 refine VO.op rfl (OpE.box rfl hB rfl rfl rfl ?_)
 intro g2
 refine VO.op rfl (OpE.box rfl hB rfl rfl rfl ?_)
 intro g3
 refine VO.ma rfl rfl rfl rfl ?_
 refine VO.ma rfl rfl rfl rfl ?_
 refine VO.nil ?_
 refine VC.seq ?_
 refine VC.sr ?_
 refine VO.val rfl rfl (OpV.loadK_own (i := 0) rfl hB Tryz.isAgg28 Tryz.sizeOf28 rfl rfl rfl (fun h => h)) ?_
 refine VO.val rfl rfl (OpV.loadK_own (i := 1) rfl hB Tryz.isAgg32 Tryz.sizeOf32 rfl rfl rfl (fun h => h)) ?_
 refine VO.op rfl (OpE.call rfl hB rfl Tryz.call27 rfl (SpecN.spec (panel_CheckPanel hs hl)) ?_)
 rintro _ rfl
 refine VO.ma rfl rfl rfl rfl ?_
 refine VO.nil ?_
 refine VC.sr ?_
 refine VO.mv rfl rfl rfl rfl ?_
 refine VO.val rfl rfl (OpV.neq rfl rfl rfl) ?_
 refine VO.nil ?_
 refine VC.cond rfl (fun h0b => ?_) (fun h0b => ?_)
 ·have h0 := h0b
  try simp only [qqT, qqF, qqN, qqM, qqL, qqE] at h0
  refine VC.sr ?_
  refine VO.mv rfl rfl rfl rfl ?_
  refine VO.ma rfl rfl rfl rfl ?_
  refine VO.ma rfl rfl rfl rfl ?_
  refine VO.nil ?_
  refine VC.ret ?_
  exact Exists.intro _ (And.intro (RetN.two Tryz.results48 (ResN.nilI rfl) (ResN.v rfl)) (by rw [outsR_no h0]))
 ·have h0 := h0b
  try simp only [qqT, qqF, qqN, qqM, qqL, qqE] at h0
  have h00 : panelF p n = 0 := by omega
  have hz := panelF_0 h00
  have hok := prodOk hz.1
  have hpn := panOk hz.2
  have hw := hok.wide
  have hh := hok.high
  have hlen := hpn.len
  refine VC.skip ?_
  refine VC.sr ?_
  refine VO.ma rfl rfl rfl rfl ?_
  refine VO.nil ?_
  refine VC.seq ?_
  refine VC.sr ?_
  refine VO.val rfl rfl (OpV.fieldAddrO 2 rfl Tryz.underlying32 rfl rfl Tryz.sizeOf30 rfl) ?_
  refine VO.val rfl rfl (OpV.load_own (i := 1) rfl hB Tryz.isAgg30 rfl rfl rfl (fun h => h)) ?_
  refine VO.val rfl rfl (OpV.len_im rfl Tryz.underlying30 rfl) ?_
  refine VO.mv rfl rfl rfl rfl ?_
  refine VO.nil ?_
  refine VC.block ?_
  refine VC.le _ (Le.nilRow 1 3) ?_
  refine VC.loopK [(2, _), (3, _), (19, _), (20, _)] ⟨rfl, rfl, rfl, rfl, trivial⟩ ({z : Value × Nat // z.2 ≤ n.slots.length}) (fun (iZ : {z : Value × Nat // z.2 ≤ n.slots.length}) => match iZ with | ⟨⟨u, q⟩, hq⟩ => [(7, .v u), (21, avI (q : Int))]) (fun (iZ : {z : Value × Nat // z.2 ≤ n.slots.length}) => match iZ with | ⟨⟨u, q⟩, hq⟩ => [boxProd g2 p 28, boxPan g3 n 32, .row u (numsL (outO p n) n.slots q).length 1 (intsL (numsL (outO p n) n.slots q)) 3]) (fun (iZ : {z : Value × Nat // z.2 ≤ n.slots.length}) => match iZ with | ⟨⟨u, q⟩, hq⟩ => 0) (fun (iZ : {z : Value × Nat // z.2 ≤ n.slots.length}) => match iZ with | ⟨⟨u, q⟩, hq⟩ => n.slots.length - q) ⟨(.slice none 0 0, 0), Nat.zero_le _⟩ (Le.mk hB [0, 1, 2] ⟨rfl, rfl, rfl, rfl, rfl, rfl, trivial⟩ rfl rfl (Nat.le_refl _)) ?_
  rintro ⟨⟨u, q⟩, hq⟩
  show VC _ _ _ _ ⟨[(7, .v u), (21, avI (q : Int))] ++ [(2, _), (3, _), (19, _), (20, _)], [boxProd g2 p 28, boxPan g3 n 32, .row u (numsL (outO p n) n.slots q).length 1 (intsL (numsL (outO p n) n.slots q)) 3], 0⟩
  simp only at hq
  have hnl := numsL_len (outO p n) n.slots q
  refine VC.sr ?_
  refine VO.val rfl rfl (OpV.lss rfl rfl rfl) ?_
  refine VO.nil ?_
  refine VC.seq ?_
  refine VC.cond rfl (fun aH1b => ?_) (fun aH1b => ?_)
  ·have aH1 := aH1b
   try simp only [qqT, qqF, qqN, qqM, qqL, qqE] at aH1
   refine VC.skip ?_
   refine VC.seq ?_
   refine VC.block ?_
   refine VC.seq ?_
   have hsl := hpn.all q (by omega)
   have hsz := szW_bd (q := (n.slots.getD q default).quarter) hw hh
   refine VC.region ?_
   refine VO.mv rfl rfl rfl rfl ?_
   refine VO.val rfl rfl (OpV.indexAddr_E rfl Tryz.underlying30 Tryz.sizeOf94 rfl rfl rfl (by omega)) ?_
   refine VO.val rfl rfl (OpV.loadK_at rfl hB OutW.no Tryz.isAgg94 Tryz.sizeOf94 rfl rfl) ?_
   refine VO.op rfl (OpE.alloc rfl hB rfl Tryz.zeroValue94 rfl ?_)
   intro g9
   refine VO.ma rfl rfl rfl rfl ?_
   refine VO.op rfl (OpE.store (i := 3) rfl hB rfl Tryz.sizeOf94 rfl rfl rfl rfl rfl rfl (Nle rfl) trivial ?_)
   refine VO.nil ?_
   refine VC.sr ?_
   refine VO.val rfl rfl (OpV.loadK_own (i := 0) rfl hB Tryz.isAgg28 Tryz.sizeOf28 rfl rfl rfl (fun h => h)) ?_
   refine VO.val rfl rfl (OpV.fieldAddrO 2 rfl Tryz.underlying94 rfl rfl Tryz.sizeOf3 rfl) ?_
   refine VO.val rfl rfl (OpV.load_own (i := 3) rfl hB Tryz.isAgg3 rfl rfl rfl (fun h => h)) ?_
   refine VO.op rfl (OpE.call rfl hB rfl Tryz.call100 rfl (SpecN.spec (panel_size hsl.2.2)) ?_)
   rintro _ rfl
   refine VO.mv rfl rfl rfl rfl ?_
   refine VO.val rfl rfl (OpV.extract rfl rfl rfl) ?_
   refine VO.val rfl rfl (OpV.extract rfl rfl rfl) ?_
   refine VO.ma rfl rfl rfl rfl ?_
   refine VO.ma rfl rfl rfl rfl ?_
   refine VO.nil ?_
   refine VC.sr ?_
   refine VO.val rfl rfl (OpV.fieldAddrO 0 rfl Tryz.underlying94 rfl rfl Tryz.sizeOf3 rfl) ?_
   refine VO.val rfl rfl (OpV.load_own (i := 3) rfl hB Tryz.isAgg3 rfl rfl rfl (fun h => h)) ?_
   refine VO.mv rfl rfl rfl rfl ?_
   refine VO.val rfl rfl (OpV.add rfl rfl rfl (by unfold fits; omega)) ?_
   refine VO.val rfl rfl (OpV.fieldAddrO 0 rfl Tryz.underlying32 rfl rfl Tryz.sizeOf3 rfl) ?_
   refine VO.val rfl rfl (OpV.load_own (i := 1) rfl hB Tryz.isAgg3 rfl rfl rfl (fun h => h)) ?_
   refine VO.val rfl rfl (OpV.gtr rfl rfl rfl) ?_
   refine VO.mv rfl rfl rfl rfl ?_
   refine VO.opG rfl rfl rfl rfl (fun aK2b => ?_) (fun aK2b => ?_)
   ·replace aK2b : _ = false := aK2b
    have aK2 := aK2b
    try simp only [qqT, qqF, qqN, qqM, qqL, qqE] at aK2
    refine OpE.val (W := NoB) (OpV.fieldAddrO 1 rfl Tryz.underlying94 rfl rfl Tryz.sizeOf3 rfl) rfl ?_
    refine VO.opY rfl rfl rfl rfl aK2b ?_
    refine OpE.val (W := NoB) (OpV.load_own (i := 3) rfl hB Tryz.isAgg3 rfl rfl rfl (fun h => h)) rfl ?_
    refine VO.opY rfl rfl rfl rfl aK2b ?_
    refine OpE.val (W := NoB) (OpV.move (.inl rfl) rfl) rfl ?_
    refine VO.opY rfl rfl rfl rfl aK2b ?_
    refine OpE.val (W := NoB) (OpV.add rfl rfl rfl (by unfold fits; omega)) rfl ?_
    refine VO.opY rfl rfl rfl rfl aK2b ?_
    refine OpE.val (W := NoB) (OpV.fieldAddrO 1 rfl Tryz.underlying32 rfl rfl Tryz.sizeOf3 rfl) rfl ?_
    refine VO.opY rfl rfl rfl rfl aK2b ?_
    refine OpE.val (W := NoB) (OpV.load_own (i := 1) rfl hB Tryz.isAgg3 rfl rfl rfl (fun h => h)) rfl ?_
    refine VO.opY rfl rfl rfl rfl aK2b ?_
    refine OpE.val (W := NoB) (OpV.gtr rfl rfl rfl) rfl ?_
    refine VO.val rfl rfl (OpV.pickF rfl rfl rfl rfl aK2b) ?_
    refine VO.nil ?_
    refine VC.cond rfl (fun aH3b => ?_) (fun aH3b => ?_)
    ·have aH3 := aH3b
     try simp only [qqT, qqF, qqN, qqM, qqL, qqE] at aH3
     refine VC.region ?_
     refine VO.mv rfl rfl rfl rfl ?_
     refine VO.mv rfl rfl rfl rfl ?_
     refine VO.op rfl (OpE.buildSlice (zc := #[.int .i64 0]) rfl hB rfl Tryz.underlying22 Tryz.sizeOf3 Tryz.zeroValue3 (by decide) (by decide) (by kernel_rfl) rfl rfl ?_)
     refine VO.op rfl (OpE.append1 (i := 2) rfl hB rfl Tryz.underlying22 (infoOf Tryz.t3 1 (by kernel_rfl) rfl rfl) rfl (by decide) (by decide) rfl rfl rfl rfl (intsL_snoc _ _) (by omega) (fun _ _ => trivial) ?_)
     intro u2
     refine VO.ma rfl rfl rfl rfl ?_
     refine VO.nil ?_
     refine VC.region ?_
     refine VO.val rfl rfl (OpV.add rfl rfl rfl (by unfold fits; omega)) ?_
     refine VO.mv rfl rfl rfl rfl ?_
     refine VO.nil ?_
     exact Exists.intro (⟨(u2, q + 1), by show q + 1 ≤ _; omega⟩) (And.intro (Le.mk hB [0, 1, 2] ⟨rfl, rfl, rfl, rfl, rfl, rfl, trivial⟩ rfl (by dsimp only; first | (rw [nums_t (by first | exact out_1 (by assumption) | exact out_2 (by assumption)), List.length_append]; rfl) | (rw [nums_f (out_3 (by assumption) (by assumption))]; rfl)) (Nat.le_refl _)) (by first | omega | (show _ < _; omega) | (simp only []; omega)))
    ·have aH3 := aH3b
     try simp only [qqT, qqF, qqN, qqM, qqL, qqE] at aH3
     refine VC.skip ?_
     refine VC.region ?_
     refine VO.val rfl rfl (OpV.add rfl rfl rfl (by unfold fits; omega)) ?_
     refine VO.mv rfl rfl rfl rfl ?_
     refine VO.nil ?_
     exact Exists.intro (⟨(u, q + 1), by show q + 1 ≤ _; omega⟩) (And.intro (Le.mk hB [0, 1, 2] ⟨rfl, rfl, rfl, rfl, rfl, rfl, trivial⟩ rfl (by dsimp only; first | (rw [nums_t (by first | exact out_1 (by assumption) | exact out_2 (by assumption)), List.length_append]; rfl) | (rw [nums_f (out_3 (by assumption) (by assumption))]; rfl)) (Nat.le_refl _)) (by first | omega | (show _ < _; omega) | (simp only []; omega)))
   ·replace aK2b : _ = true := aK2b
    have aK2 := aK2b
    try simp only [qqT, qqF, qqN, qqM, qqL, qqE] at aK2
    refine VO.opX rfl rfl rfl rfl aK2b ?_
    refine VO.opX rfl rfl rfl rfl aK2b ?_
    refine VO.opX rfl rfl rfl rfl aK2b ?_
    refine VO.opX rfl rfl rfl rfl aK2b ?_
    refine VO.opX rfl rfl rfl rfl aK2b ?_
    refine VO.opX rfl rfl rfl rfl aK2b ?_
    refine VO.val rfl rfl (OpV.pickT rfl rfl rfl rfl aK2b) ?_
    refine VO.nil ?_
    refine VC.condT rfl rfl ?_
    refine VC.region ?_
    refine VO.mv rfl rfl rfl rfl ?_
    refine VO.mv rfl rfl rfl rfl ?_
    refine VO.op rfl (OpE.buildSlice (zc := #[.int .i64 0]) rfl hB rfl Tryz.underlying22 Tryz.sizeOf3 Tryz.zeroValue3 (by decide) (by decide) (by kernel_rfl) rfl rfl ?_)
    refine VO.op rfl (OpE.append1 (i := 2) rfl hB rfl Tryz.underlying22 (infoOf Tryz.t3 1 (by kernel_rfl) rfl rfl) rfl (by decide) (by decide) rfl rfl rfl rfl (intsL_snoc _ _) (by omega) (fun _ _ => trivial) ?_)
    intro u2
    refine VO.ma rfl rfl rfl rfl ?_
    refine VO.nil ?_
    refine VC.region ?_
    refine VO.val rfl rfl (OpV.add rfl rfl rfl (by unfold fits; omega)) ?_
    refine VO.mv rfl rfl rfl rfl ?_
    refine VO.nil ?_
    exact Exists.intro (⟨(u2, q + 1), by show q + 1 ≤ _; omega⟩) (And.intro (Le.mk hB [0, 1, 2] ⟨rfl, rfl, rfl, rfl, rfl, rfl, trivial⟩ rfl (by dsimp only; first | (rw [nums_t (by first | exact out_1 (by assumption) | exact out_2 (by assumption)), List.length_append]; rfl) | (rw [nums_f (out_3 (by assumption) (by assumption))]; rfl)) (Nat.le_refl _)) (by first | omega | (show _ < _; omega) | (simp only []; omega)))
  ·have aH1 := aH1b
   try simp only [qqT, qqF, qqN, qqM, qqL, qqE] at aH1
   refine VC.exit ?_
   refine VC.seq ?_
   have hqe : q = n.slots.length := by omega
   rw [hqe]
   refine VC.region ?_
   refine VO.mv rfl rfl rfl rfl ?_
   refine VO.ma rfl rfl rfl rfl ?_
   refine VO.ma rfl rfl rfl rfl ?_
   refine VO.nil ?_
   refine VC.ret ?_
   exact Exists.intro _ (And.intro (RetN.two Tryz.results48 (ResN.rowI (i := 2) rfl rfl rfl) (ResN.v rfl)) (by rw [outsR, if_pos h00, h00, outL]))
end Go.Proofs.YtceflkkgmmcieaaGreatDoor
namespace Go.Proofs.YtceflkkgmmcieaaGreatDoor
open Go.RowKit
set_option linter.unusedVariables false
set_option linter.unusedSimpArgs false
theorem nil_prod {w : World} {Z : Nat → Prop} {u : Value} {a : ByteArray} {b c : Int} (h : Rep w Z (.agg [avS a, avI b, avI c, .v (.slice none 0 0)]) u) : Rep w Z (avProd ⟨a, b, c, []⟩) u := by
 cases h with
 | agg cs us hl hr =>
  refine .agg _ us hl fun j hj => ?_
  match j, hj with
  | 0, _ => exact hr 0 (by simp)
  | 1, _ => exact hr 1 (by simp)
  | 2, _ => exact hr 2 (by simp)
  | 3, _ =>
   have := hr 3 (by simp)
   show Rep w Z (.im 0 5 _) _
   rw [this.eq_v]; exact .nil _ _
theorem nil_panel {w : World} {Z : Nat → Prop} {u : Value} {a b : Int} (h : Rep w Z (.agg [avI a, avI b, .v (.slice none 0 0)]) u) : Rep w Z (avPan ⟨a, b, []⟩) u := by
 cases h with
 | agg cs us hl hr =>
  refine .agg _ us hl fun j hj => ?_
  match j, hj with
  | 0, _ => exact hr 0 (by simp)
  | 1, _ => exact hr 1 (by simp)
  | 2, _ =>
   have := hr 2 (by simp)
   show Rep w Z (.im 0 4 _) _
   rw [this.eq_v]; exact .nil _ _
def plainP : ProdS := ⟨⟨#[112]⟩, 10, 10, []⟩
theorem plainP_sm : SmP plainP := ⟨by decide, by decide, fun i => by show (([] : List PlaceS).getD i default).name.size ≤ _; simp; decide, fun i => by show (([] : List PlaceS).getD i default).part.size ≤ _; simp; decide⟩
theorem plainP_ok : prodF plainP = 0 := by decide +kernel
set_option maxRecDepth 100000 in
set_option maxHeartbeats 8000000 in
theorem rightProduct_T {p : Nat} {L : List Int}  :
  SpecT Tryz.prog (TT p L) (fun b => b = p) 38 [sp p] 300 (fun y => ∃ p : ProdS, (SmP p ∧ p.places.length ≤ 5 ∧ prodF p = 0) ∧ y = avProd p) := by
 refine SpecT.of_VC Tryz.func38 rfl Tryz.ntmps38 (Nle rfl) (low := (fun b => b ≤ p)) (fun w A k h => h.ok) fun w A k hk hB => ?_
 have hnew : True := trivial
 refine VC.sr ?_
 refine VO.op rfl (OpE.alloc rfl hB rfl Tryz.zeroValue28 rfl ?_)
 intro g2
 refine VO.nil ?_
 refine VC.seq ?_
 refine VC.sr ?_
 refine VO.mv rfl rfl rfl rfl ?_
 refine VO.nil ?_
 refine VC.block ?_
 refine VC.loopK [(0, _), (2, _)] ⟨rfl, rfl, trivial⟩ ({q : Nat // q ≤ 6}) (fun (iZ : {q : Nat // q ≤ 6}) => match iZ with | ⟨q, hq⟩ => [(4, avI (q : Int))]) (fun (iZ : {q : Nat // q ≤ 6}) => match iZ with | ⟨q, hq⟩ => [bA g2]) (fun (iZ : {q : Nat // q ≤ 6}) => match iZ with | ⟨q, hq⟩ => k + 50 * q) (fun (iZ : {q : Nat // q ≤ 6}) => match iZ with | ⟨q, hq⟩ => 6 - q) ⟨0, Nat.zero_le _⟩ (Le.mk hB [0] ⟨rfl, rfl, rfl, trivial⟩ rfl rfl (show k ≤ k + 50 * 0 by omega)) ?_
 rintro ⟨q, hq⟩
 show VC _ _ _ _ ⟨[(4, avI (q : Int))] ++ [(0, _), (2, _)], [bA g2], k + 50 * q⟩
 refine VC.sr ?_
 refine VO.val rfl rfl (OpV.lss rfl rfl rfl) ?_
 refine VO.nil ?_
 refine VC.seq ?_
 refine VC.cond rfl (fun aH1b => ?_) (fun aH1b => ?_)
 ·have aH1 := aH1b
  try simp only [qqT, qqF, qqN, qqM, qqL, qqE] at aH1
  refine VC.skip ?_
  refine VC.seq ?_
  refine VC.block ?_
  refine VC.sr ?_
  refine VO.mv rfl rfl rfl rfl ?_
  refine VO.op rfl (OpE.callT' (k + 50 * q) rfl rfl hB rfl Tryz.call11 rfl (aProduct_T) (by omega) ?_)
  rintro _ ⟨pr, hp, rfl⟩
  refine VO.op rfl (OpE.alloc rfl hB rfl Tryz.zeroValue28 rfl ?_)
  intro g3
  refine VO.op rfl (OpE.store (i := 1) rfl hB rfl Tryz.sizeOf28 rfl rfl rfl rfl rfl rfl (Nle rfl) trivial ?_)
  refine VO.nil ?_
  refine VC.sr ?_
  refine VO.val rfl rfl (OpV.loadK_own (i := 1) rfl hB Tryz.isAgg28 Tryz.sizeOf28 rfl rfl rfl (fun h => h)) ?_
  refine VO.op rfl (OpE.call rfl hB rfl Tryz.call18 rfl (SpecN.spec (rf_ProductFault hp.1)) ?_)
  rintro _ rfl
  refine VO.val rfl rfl (OpV.eql rfl rfl rfl) ?_
  refine VO.nil ?_
  refine VC.cond rfl (fun h1b => ?_) (fun h1b => ?_)
  ·have h1 := h1b
   try simp only [qqT, qqF, qqN, qqM, qqL, qqE] at h1
   refine VC.sr ?_
   refine VO.val rfl rfl (OpV.loadK_own (i := 1) rfl hB Tryz.isAgg28 Tryz.sizeOf28 rfl rfl rfl (fun h => h)) ?_
   refine VO.op rfl (OpE.store (i := 0) rfl hB rfl Tryz.sizeOf28 rfl rfl rfl rfl rfl rfl (Nle rfl) trivial ?_)
   refine VO.nil ?_
   refine VC.ret ?_
   exact Exists.intro _ (And.intro (RetV.one Tryz.results38 ((by first | exact ResV.cellK (i := 0) Tryz.isAgg28 Tryz.sizeOf28 rfl rfl rfl | exact ResV.cellK (i := 1) Tryz.isAgg28 Tryz.sizeOf28 rfl rfl rfl))) (And.intro (⟨pr, ⟨hp.1, hp.2, h1⟩, rfl⟩) ((show k + 50 * q + 50 ≤ k + 300 by omega))))
  ·have h1 := h1b
   try simp only [qqT, qqF, qqN, qqM, qqL, qqE] at h1
   refine VC.skip ?_
   refine VC.region ?_
   refine VO.val rfl rfl (OpV.add rfl rfl rfl (by unfold fits; omega)) ?_
   refine VO.mv rfl rfl rfl rfl ?_
   refine VO.nil ?_
   exact Exists.intro (⟨q + 1, by omega⟩) (And.intro (Le.mk hB [0] ⟨rfl, rfl, rfl, trivial⟩ rfl rfl (show k + 50 * q + 50 ≤ k + 50 * (q + 1) by omega)) (by first | omega | (show _ < _; omega) | (simp only []; omega)))
 ·have aH1 := aH1b
  try simp only [qqT, qqF, qqN, qqM, qqL, qqE] at aH1
  refine VC.exit ?_
  refine VC.sr ?_
  refine VO.val rfl rfl (OpV.build (pls := #[(0, 1), (1, 1), (2, 1), (3, 1)]) rfl Tryz.zeroValue28 Tryz.underlying28 (fun w => by kernel_rfl) rfl rfl) ?_
  refine VO.le _ (Le.recast (t := 13) (y := avProd plainP) rfl (fun w Z u h => nil_prod h)) ?_
  refine VO.op rfl (OpE.store (i := 0) rfl hB rfl Tryz.sizeOf28 rfl rfl rfl rfl rfl rfl (Nle rfl) trivial ?_)
  refine VO.nil ?_
  refine VC.ret ?_
  exact Exists.intro _ (And.intro (RetV.one Tryz.results38 ((by first | exact ResV.cellK (i := 0) Tryz.isAgg28 Tryz.sizeOf28 rfl rfl rfl))) (And.intro (⟨plainP, ⟨plainP_sm, by decide, plainP_ok⟩, rfl⟩) ((show k + 50 * q ≤ k + 300 by omega))))
set_option maxRecDepth 100000 in
set_option maxHeartbeats 8000000 in
theorem rightPanel_T {p : Nat} {L : List Int} {pr : ProdS} (hs : SmP pr) (h0 : prodF pr = 0) :
  SpecT Tryz.prog (TT p L) (fun b => b = p) 47 [sp p, avProd pr] 240 (fun y => ∃ n : PanS, (n.slots.length ≤ 5 ∧ panelF pr n = 0) ∧ y = avPan n) := by
 refine SpecT.of_VC Tryz.func47 rfl Tryz.ntmps47 (Nle rfl) (low := (fun b => b ≤ p)) (fun w A k h => h.ok) fun w A k hk hB => ?_
 have hnew : True := trivial
 refine VC.sr ?_
 refine VO.op rfl (OpE.box rfl hB rfl rfl rfl ?_)
 intro g3
 refine VO.op rfl (OpE.alloc rfl hB rfl Tryz.zeroValue32 rfl ?_)
 intro g4
 refine VO.nil ?_
 refine VC.seq ?_
 refine VC.sr ?_
 refine VO.mv rfl rfl rfl rfl ?_
 refine VO.nil ?_
 refine VC.block ?_
 refine VC.loopK [(0, _), (3, _), (4, _)] ⟨rfl, rfl, rfl, trivial⟩ ({q : Nat // q ≤ 6}) (fun (iZ : {q : Nat // q ≤ 6}) => match iZ with | ⟨q, hq⟩ => [(6, avI (q : Int))]) (fun (iZ : {q : Nat // q ≤ 6}) => match iZ with | ⟨q, hq⟩ => [boxProd g3 pr 28, bB g4]) (fun (iZ : {q : Nat // q ≤ 6}) => match iZ with | ⟨q, hq⟩ => k + 40 * q) (fun (iZ : {q : Nat // q ≤ 6}) => match iZ with | ⟨q, hq⟩ => 6 - q) ⟨0, Nat.zero_le _⟩ (Le.mk hB [0, 1] ⟨rfl, rfl, rfl, rfl, trivial⟩ rfl rfl (show k ≤ k + 40 * 0 by omega)) ?_
 rintro ⟨q, hq⟩
 show VC _ _ _ _ ⟨[(6, avI (q : Int))] ++ [(0, _), (3, _), (4, _)], [boxProd g3 pr 28, bB g4], k + 40 * q⟩
 refine VC.sr ?_
 refine VO.val rfl rfl (OpV.lss rfl rfl rfl) ?_
 refine VO.nil ?_
 refine VC.seq ?_
 refine VC.cond rfl (fun aH1b => ?_) (fun aH1b => ?_)
 ·have aH1 := aH1b
  try simp only [qqT, qqF, qqN, qqM, qqL, qqE] at aH1
  refine VC.skip ?_
  refine VC.seq ?_
  refine VC.block ?_
  refine VC.sr ?_
  refine VO.mv rfl rfl rfl rfl ?_
  refine VO.val rfl rfl (OpV.loadK_own (i := 0) rfl hB Tryz.isAgg28 Tryz.sizeOf28 rfl rfl rfl (fun h => h)) ?_
  refine VO.op rfl (OpE.callT' (k + 40 * q) rfl rfl hB rfl Tryz.call12 rfl (aPanel_T) (by omega) ?_)
  rintro _ ⟨n, hn, rfl⟩
  refine VO.op rfl (OpE.alloc rfl hB rfl Tryz.zeroValue32 rfl ?_)
  intro g5
  refine VO.op rfl (OpE.store (i := 2) rfl hB rfl Tryz.sizeOf32 rfl rfl rfl rfl rfl rfl (Nle rfl) trivial ?_)
  refine VO.nil ?_
  refine VC.sr ?_
  refine VO.val rfl rfl (OpV.loadK_own (i := 0) rfl hB Tryz.isAgg28 Tryz.sizeOf28 rfl rfl rfl (fun h => h)) ?_
  refine VO.val rfl rfl (OpV.loadK_own (i := 2) rfl hB Tryz.isAgg32 Tryz.sizeOf32 rfl rfl rfl (fun h => h)) ?_
  refine VO.op rfl (OpE.call rfl hB rfl Tryz.call19 rfl (SpecN.spec (rf_PanelFault hs (by omega))) ?_)
  rintro _ rfl
  refine VO.val rfl rfl (OpV.eql rfl rfl rfl) ?_
  refine VO.nil ?_
  refine VC.cond rfl (fun h1b => ?_) (fun h1b => ?_)
  ·have h1 := h1b
   try simp only [qqT, qqF, qqN, qqM, qqL, qqE] at h1
   refine VC.sr ?_
   refine VO.val rfl rfl (OpV.loadK_own (i := 2) rfl hB Tryz.isAgg32 Tryz.sizeOf32 rfl rfl rfl (fun h => h)) ?_
   refine VO.op rfl (OpE.store (i := 1) rfl hB rfl Tryz.sizeOf32 rfl rfl rfl rfl rfl rfl (Nle rfl) trivial ?_)
   refine VO.nil ?_
   refine VC.ret ?_
   exact Exists.intro _ (And.intro (RetV.one Tryz.results47 ((by first | exact ResV.cellK (i := 0) Tryz.isAgg32 Tryz.sizeOf32 rfl rfl rfl | exact ResV.cellK (i := 1) Tryz.isAgg32 Tryz.sizeOf32 rfl rfl rfl | exact ResV.cellK (i := 2) Tryz.isAgg32 Tryz.sizeOf32 rfl rfl rfl))) (And.intro (⟨n, ⟨hn, h1⟩, rfl⟩) ((show k + 40 * q + 40 ≤ k + 240 by omega))))
  ·have h1 := h1b
   try simp only [qqT, qqF, qqN, qqM, qqL, qqE] at h1
   refine VC.skip ?_
   refine VC.region ?_
   refine VO.val rfl rfl (OpV.add rfl rfl rfl (by unfold fits; omega)) ?_
   refine VO.mv rfl rfl rfl rfl ?_
   refine VO.nil ?_
   exact Exists.intro (⟨q + 1, by omega⟩) (And.intro (Le.mk hB [0, 1] ⟨rfl, rfl, rfl, rfl, trivial⟩ rfl rfl (show k + 40 * q + 40 ≤ k + 40 * (q + 1) by omega)) (by first | omega | (show _ < _; omega) | (simp only []; omega)))
 ·have aH1 := aH1b
  try simp only [qqT, qqF, qqN, qqM, qqL, qqE] at aH1
  refine VC.exit ?_
  refine VC.sr ?_
  refine VO.val rfl rfl (OpV.build (pls := #[(0, 1), (1, 1), (2, 1)]) rfl Tryz.zeroValue32 Tryz.underlying32 (fun w => by kernel_rfl) rfl rfl) ?_
  refine VO.le _ (Le.recast (t := 17) (y := avPan ⟨10, 10, []⟩) rfl (fun w Z u h => nil_panel h)) ?_
  refine VO.op rfl (OpE.store (i := 1) rfl hB rfl Tryz.sizeOf32 rfl rfl rfl rfl rfl rfl (Nle rfl) trivial ?_)
  refine VO.nil ?_
  refine VC.ret ?_
  exact Exists.intro _ (And.intro (RetV.one Tryz.results47 ((by first | exact ResV.cellK (i := 0) Tryz.isAgg32 Tryz.sizeOf32 rfl rfl rfl | exact ResV.cellK (i := 1) Tryz.isAgg32 Tryz.sizeOf32 rfl rfl rfl))) (And.intro (⟨⟨10, 10, []⟩, ⟨by decide, by rw [panelF, if_neg (by rw [h0]; simp)]; decide⟩, rfl⟩) ((show k + 40 * q ≤ k + 240 by omega))))
end Go.Proofs.YtceflkkgmmcieaaGreatDoor
namespace Go.Proofs.YtceflkkgmmcieaaGreatDoor
open Go.RowKit
set_option linter.unusedVariables false
set_option linter.unusedSimpArgs false

theorem bl_irr : ∀ x : List UInt8, Op.bytesLess x x = false
 | [] => rfl
 | a :: x => by
  rw [Op.bytesLess, bl_irr x]
  have : ¬ a < a := by rw [UInt8.lt_iff_toNat_lt]; omega
  simp [this]
theorem bl_trans : ∀ {x y z : List UInt8}, Op.bytesLess x y = true → Op.bytesLess y z = true → Op.bytesLess x z = true
 | _, [], _, h, _ => by simp [Op.bytesLess] at h
 | _, _ :: _, [], _, h => by simp [Op.bytesLess] at h
 | [], _ :: _, _ :: _, _, _ => rfl
 | a :: x, b :: y, c :: z, h1, h2 => by
  simp only [Op.bytesLess, Bool.or_eq_true, decide_eq_true_eq, Bool.and_eq_true, beq_iff_eq, UInt8.lt_iff_toNat_lt] at h1 h2 ⊢
  rcases h1 with h1 | ⟨rfl, h1⟩
  ·rcases h2 with h2 | ⟨rfl, h2⟩
   ·exact .inl (by omega)
   ·exact .inl h1
  ·rcases h2 with h2 | ⟨rfl, h2⟩
   ·exact .inl h2
   ·exact .inr ⟨rfl, bl_trans h1 h2⟩
theorem bl_total : ∀ {x y : List UInt8}, Op.bytesLess x y = false → x ≠ y → Op.bytesLess y x = true
 | [], [], _, h => absurd rfl h
 | _ :: _, [], _, _ => rfl
 | [], _ :: _, h, _ => by simp [Op.bytesLess] at h
 | a :: x, b :: y, h, hne => by
  simp only [Op.bytesLess, Bool.or_eq_false_iff, decide_eq_false_iff_not, Bool.and_eq_false_iff, beq_eq_false_iff_ne, UInt8.lt_iff_toNat_lt, Bool.or_eq_true, decide_eq_true_eq, Bool.and_eq_true, beq_iff_eq] at h ⊢
  by_cases hab : a = b
  ·subst hab
   have h2 : Op.bytesLess x y = false := by rcases h.2 with h2 | h2; exact absurd rfl h2; exact h2
   exact .inr ⟨rfl, bl_total h2 fun e => hne (by rw [e])⟩
  ·left
   have : a.toNat ≠ b.toNat := fun e => hab (UInt8.toNat_inj.1 e)
   omega
theorem sLt_irr (p : ByteArray) : sLt p p = false := bl_irr _
theorem sLt_trans {p q r : ByteArray} (h1 : sLt p q = true) (h2 : sLt q r = true) : sLt p r = true := bl_trans h1 h2
theorem sLt_of_not {p q : ByteArray} (h : sLe p q = false) : sLt q p = true := by
 unfold sLe at h
 rw [Bool.or_eq_false_iff] at h
 refine bl_total h.1 fun e => ?_
 have : sEq p q = true := by unfold sEq; rw [e]; simp
 rw [this] at h; cases h.2
theorem sEq_refl (p : ByteArray) : sEq p p = true := sEq_eq.2 rfl
def SortS (l : List ByteArray) : Prop := ∀ a b, a < b → b < l.length → sLt (l.getD a ByteArray.empty) (l.getD b ByteArray.empty) = true
section
variable {xs : List ByteArray} {v : ByteArray} {i : Nat}
end

end Go.Proofs.YtceflkkgmmcieaaGreatDoor
namespace Go.Proofs.YtceflkkgmmcieaaGreatDoor
open Go.RowKit
set_option linter.unusedVariables false
set_option linter.unusedSimpArgs false
def cmpB (a b : ByteArray) : Int := Lib.compareBytes a.data.toList b.data.toList
theorem strings_Compare_S {a b : ByteArray} : SpecN Tryz.prog 123 [avS a, avS b] (fun y => y = avI (cmpB a b)) := by
 intro w us ha
 rw [argsV2 ha]
 refine (Tryz.strings_Compare a b w).mono ?_
 rintro e w' ⟨rfl, rfl⟩
 exact ⟨_, _, rfl, rfl, .v _, Chg.refl _ _, trivial⟩
theorem cmp_lt : ∀ x y : List UInt8, decide (Lib.compareBytes x y < 0) = Op.bytesLess x y
 | [], [] => rfl
 | [], _ :: _ => rfl
 | _ :: _, [] => rfl
 | a :: x, b :: y => by
  unfold Lib.compareBytes Op.bytesLess
  have ih := cmp_lt x y
  by_cases h1 : a < b
  ·simp [h1]
  ·by_cases h2 : b < a
   ·simp [h1, h2]
    intro e; subst e; exact absurd h2 (UInt8.lt_irrefl _)
   ·have e : a = b := UInt8.le_antisymm (UInt8.not_lt.1 h2) (UInt8.not_lt.1 h1)
    subst e
    simp [UInt8.lt_irrefl]
    simpa using ih
theorem cmpB_lt (a b : ByteArray) : decide (cmpB a b < 0) = sLt a b := by
 unfold sLt
 rw [Lib.toList_data, Lib.toList_data]
 exact cmp_lt _ _
theorem cmp_eq : ∀ {x y : List UInt8}, Lib.compareBytes x y = 0 ↔ x = y
 | [], [] => by simp [Lib.compareBytes]
 | [], _ :: _ => by simp [Lib.compareBytes]
 | _ :: _, [] => by simp [Lib.compareBytes]
 | a :: x, b :: y => by
  unfold Lib.compareBytes
  by_cases h1 : a < b
  ·simp [h1]
   intro e; subst e; exact absurd h1 (UInt8.lt_irrefl _)
  ·by_cases h2 : b < a
   ·simp [h1, h2]
    intro e; subst e; exact absurd h2 (UInt8.lt_irrefl _)
   ·have e : a = b := UInt8.le_antisymm (UInt8.not_lt.1 h2) (UInt8.not_lt.1 h1)
    subst e
    simp [UInt8.lt_irrefl, cmp_eq]
theorem cmpB_eq {a b : ByteArray} : cmpB a b = 0 ↔ a = b := by
 unfold cmpB
 rw [cmp_eq]
 constructor
 ·intro h
  cases a; cases b
  simpa using h
 ·intro h; rw [h]
theorem sLt_total {a b : ByteArray} (h : sLt a b = false) (hne : a ≠ b) : sLt b a = true := by
 unfold sLt at h ⊢
 rw [Lib.toList_data, Lib.toList_data] at h ⊢
 exact bl_total h fun e => hne (by cases a; cases b; simpa using e)
section
variable {α : Type} {k : α → ByteArray}
end
end Go.Proofs.YtceflkkgmmcieaaGreatDoor
namespace Go.Proofs.YtceflkkgmmcieaaGreatDoor
open Go.RowKit
set_option linter.unusedVariables false
set_option linter.unusedSimpArgs false
abbrev kv2 : ByteArray × ByteArray → Value := fun k => .agg #[.string k.1, .string k.2]
theorem sEq_dec (a b : ByteArray) : sEq a b = decide (a = b) := by
 by_cases h : a = b
 ·rw [decide_eq_true h]; exact sEq_eq.2 h
 ·rw [decide_eq_false h]
  cases e : sEq a b with
  | false => rfl
  | true => exact absurd (sEq_eq.1 e) h
section
variable {P : Program} {kt : TypeId} {f1 f2 : Field} (hu : P.underlying kt = some (.struct (P.fieldsOf kt))) (hs : P.stoodInHeld kt = false) (hf : P.fieldsOf kt = #[f1, f2]) (h1 : P.underlying f1.type = some .string) (h2 : P.underlying f2.type = some .string)
 (a1 : ∀ w, (isAgg f1.type).run P w = .ok false w) (a2 : ∀ w, (isAgg f2.type).run P w = .ok false w) (o1 : f1.offset = 0) (o2 : f2.offset = 1) (n1 : f1.name ≠ "_") (n2 : f2.name ≠ "_")
include hu hs hf h1 h2 a1 a2 o1 o2 n1 n2
theorem key2_eq (k k' : ByteArray × ByteArray) (w : World) : (Op.equal kt (kv2 k) (kv2 k')).run P w = .ok (decide (k = k')) w := by
 have hE : EqFs P 0 (P.fieldsOf kt).toList [avS k.1, avS k.2] [avS k'.1, avS k'.2] (sEq k.1 k'.1 && (sEq k.2 k'.2 && true)) := by
  rw [hf]
  exact EqFs.str h1 a1 o1 n1 (EqFs.str h2 a2 o2 n2 (EqFs.nil _))
 have rep : ∀ q : ByteArray × ByteArray, Rep w (fun _ => True) (.agg [avS q.1, avS q.2]) (kv2 q) := fun q => .agg _ _ rfl fun j hj => by
  match j, hj with
  | 0, _ => exact .v _
  | 1, _ => exact .v _
 obtain ⟨us, vs, e1, e2, e3⟩ := agg_eq hu hs hE (rep k) (rep k')
 have := e3 w
 have e4 : (sEq k.1 k'.1 && (sEq k.2 k'.2 && true)) = decide (k = k') := by
  rw [sEq_dec, sEq_dec, Bool.and_true]
  obtain ⟨a, b⟩ := k
  obtain ⟨c, d⟩ := k'
  simp [Prod.mk.injEq]
 rw [e4] at this
 exact this
theorem asking2 {α : Type} : ∀ (l : List ((ByteArray × ByteArray) × α)) (c : List MapEntry) (k : ByteArray × ByteArray) (w : World) (i : Nat), c.length = l.length → (∀ j (h : j < l.length), ∃ e, c[j]? = some e ∧ e.key = kv2 (l[j]).1) →
  (Instr.findAsking kt (kv2 k) c i).run P w = .ok (if mpos l k < l.length then (c[mpos l k]?).map fun e => (i + mpos l k, e.val) else none) w
 | [], c, k, w, i, hl, h => by
  have : c = [] := List.eq_nil_of_length_eq_zero (by simpa using hl)
  subst this; rfl
 | p :: r, [], k, w, i, hl, h => by simp at hl
 | p :: r, e :: c, k, w, i, hl, h => by
  obtain ⟨e0, g1, g2⟩ := h 0 (by simp)
  simp at g1 g2
  subst g1
  have hq := key2_eq hu hs hf h1 h2 a1 a2 o1 o2 n1 n2 k p.1 w
  simp only [Instr.findAsking, Sem.run_bind, g2, hq, Result.andThen_ok]
  by_cases ek : k = p.1
  ·simp [mpos, ek]
  ·simp only [ek, decide_false, Bool.false_eq_true, if_false]
   rw [asking2 r c k w (i + 1) (by simpa using hl) (fun j hj => h (j + 1) (Nat.succ_lt_succ hj))]
   simp only [mpos, if_neg ek, List.length_cons, Nat.add_lt_add_iff_right, List.getElem?_cons_succ]
   rw [show i + 1 + mpos r k = i + (mpos r k + 1) by omega]
omit hs in
theorem check2 (e : Bool) (n : Nat) (k : ByteArray × ByteArray) (w : World) : (Instr.checkKey e (n + 1 + 1) kt (kv2 k)).run P w = .ok () w := by
 have q1 : ∀ s w, (Instr.checkKey e (n + 1) f1.type (.string s)).run P w = .ok () w := fun s w => by
  rw [Instr.checkKey]; simp only [Sem.run_bind, run_underlying h1, Result.andThen_ok, Sem.run_pure]
 have q2 : ∀ s w, (Instr.checkKey e (n + 1) f2.type (.string s)).run P w = .ok () w := fun s w => by
  rw [Instr.checkKey]; simp only [Sem.run_bind, run_underlying h2, Result.andThen_ok, Sem.run_pure]
 have hu' := hu
 rw [hf] at hu'
 rw [Instr.checkKey]
 simp only [kv2, Sem.run_bind, run_underlying hu', Result.andThen_ok]
 simp [n1, n2, o1, o2, part, a1, a2, q1, q2]
theorem KeyOk.str2 : KeyOk P kt kv2 where
 check e k w := by
  rw [show (10000 : Nat) = 9998 + 1 + 1 from rfl]
  exact check2 hu hf h1 h2 a1 a2 o1 o2 n1 n2 e 9998 k w
 find l c k w hl h := by
  have hu' := hu
  rw [hf] at hu'
  cases c with
  | nil =>
   have : l = [] := List.eq_nil_of_length_eq_zero (by simpa using hl.symm)
   subst this
   simp [Instr.findKey, run_underlying hu', Instr.findNow, mpos]
  | cons e c =>
   have := asking2 hu hs hf h1 h2 a1 a2 o1 o2 n1 n2 l (e :: c) k w 0 hl h
   simp only [Nat.zero_add] at this
   simp only [Instr.findKey, Sem.run_bind, run_underlying hu', Result.andThen_ok, Instr.findNow, Instr.sameNow]
   exact this
 stay k w := by
  have : Instr.sameBits 10000 (kv2 k) (kv2 k) = true := by
   rw [show (10000 : Nat) = 9999 + 1 from rfl]
   simp [kv2, Instr.sameBits]
  simp [Instr.keyThatStays, this]
end
end Go.Proofs.YtceflkkgmmcieaaGreatDoor
namespace Go.Proofs.YtceflkkgmmcieaaGreatDoor
set_option linter.unusedVariables false
set_option linter.unusedSimpArgs false
def lowK {α : Type} (key : α → ByteArray) (l : List α) (k : ByteArray) : Nat := (l.takeWhile fun x => sLt (key x) k).length
theorem lowK_le {α : Type} {key : α → ByteArray} {l : List α} {k : ByteArray} : lowK key l k ≤ l.length := by
 unfold lowK
 exact (List.takeWhile_sublist _).length_le
section
variable {α : Type} [Inhabited α] (key : α → ByteArray) (l : List α) (k : ByteArray)
def RiseK : Prop := ∀ j, 0 < j → j < l.length → sLe (key (l.getD j default)) (key (l.getD (j - 1) default)) = false
variable {key l k}
theorem takeWhile_at {p : α → Bool} : ∀ (l : List α) (j : Nat), j < (l.takeWhile p).length → p (l.getD j default) = true
 | [], j, h => by simp at h
 | x :: l, j, h => by
  rw [List.takeWhile_cons] at h
  split at h
  ·rename_i hx
   cases j with
   | zero => simpa using hx
   | succ j => simpa using takeWhile_at l j (by simpa using h)
  ·simp at h
theorem takeWhile_end {p : α → Bool} : ∀ (l : List α), (l.takeWhile p).length < l.length → p (l.getD (l.takeWhile p).length default) = false
 | [], h => by simp at h
 | x :: l, h => by
  rw [List.takeWhile_cons] at h ⊢
  split
  ·rename_i hx
   rw [if_pos hx] at h
   simpa using takeWhile_end l (by simpa using h)
  ·rename_i hx
   simpa using hx
theorem lowK_lt {j : Nat} (h : j < lowK key l k) : sLt (key (l.getD j default)) k = true := takeWhile_at (p := fun x => sLt (key x) k) l j h
theorem rise_step {a b : ByteArray} (h : sLe b a = false) : sLt a b = true := by
 unfold sLe at h
 rw [Bool.or_eq_false_iff] at h
 exact sLt_total h.1 fun e => by rw [e, sEq_eq.2 rfl] at h; cases h.2
theorem rise_lt (hr : RiseK key l) : ∀ (i j : Nat), i < j → j < l.length → sLt (key (l.getD i default)) (key (l.getD j default)) = true
 | i, 0, h, _ => by omega
 | i, j + 1, h, hl => by
  have h1 := rise_step (hr (j + 1) (by omega) hl)
  rw [Nat.add_sub_cancel] at h1
  by_cases e : i = j
  ·subst e; exact h1
  ·exact sLt_trans (rise_lt hr i j (by omega) (by omega)) h1
theorem lowK_ge (hr : RiseK key l) {j : Nat} (h : lowK key l k ≤ j) (hj : j < l.length) : sLt (key (l.getD j default)) k = false := by
 have h0 : sLt (key (l.getD (lowK key l k) default)) k = false := takeWhile_end (p := fun x => sLt (key x) k) l (Nat.lt_of_le_of_lt h hj)
 by_cases e : j = lowK key l k
 ·rw [e]; exact h0
 ·have h1 := rise_lt hr (lowK key l k) j (by omega) hj
  cases h2 : sLt (key (l.getD j default)) k with
  | false => rfl
  | true => rw [sLt_trans h1 h2] at h0; cases h0
theorem lowK_any (hr : RiseK key l) : (decide (lowK key l k < l.length) && sEq (key (l.getD (lowK key l k) default)) k) = l.any fun x => sEq (key x) k := by
 cases hb : l.any (fun x => sEq (key x) k) with
 | true =>
  obtain ⟨x, hx, he⟩ := List.any_eq_true.1 hb
  obtain ⟨j, hj, rfl⟩ := List.getElem_of_mem hx
  have hd : l.getD j default = l[j] := by rw [List.getD_eq_getElem?_getD, List.getElem?_eq_getElem hj]; rfl
  have he' : key (l.getD j default) = k := by rw [hd]; exact sEq_eq.1 he
  have h1 : lowK key l k ≤ j := by
   rcases Nat.lt_or_ge j (lowK key l k) with h | h
   ·have := lowK_lt h; rw [he', sLt_irr] at this; cases this
   ·exact h
  have h2 : lowK key l k = j := by
   by_cases e : lowK key l k = j
   ·exact e
   ·have := rise_lt hr (lowK key l k) j (by omega) hj
    rw [he'] at this
    have := lowK_ge hr (k := k) (Nat.le_refl _) (by omega)
    simp_all
  rw [h2, he', decide_eq_true hj, sEq_eq.2 rfl]; rfl
 | false =>
  cases hc : (decide (lowK key l k < l.length) && sEq (key (l.getD (lowK key l k) default)) k) with
  | false => rfl
  | true =>
   rw [Bool.and_eq_true, decide_eq_true_eq] at hc
   rw [List.any_eq_false] at hb
   have := hb _ (List.getElem_mem hc.1)
   have hc1 := hc.1
   have hd : l.getD (lowK key l k) default = l[lowK key l k]'hc1 := by rw [List.getD_eq_getElem?_getD, List.getElem?_eq_getElem hc1]; rfl
   have hc2 := hc.2
   rw [hd] at hc2
   exact absurd hc2 this
theorem find_first {p : α → Bool} : ∀ (l : List α) (j : Nat), j < l.length → p (l.getD j default) = true → (∀ i, i < j → p (l.getD i default) = false) → (l.find? p).getD default = l.getD j default
 | [], j, h, _, _ => by simp at h
 | x :: l, 0, _, h, _ => by simp at h; simp [h]
 | x :: l, j + 1, hj, h, hn => by
  have h0 := hn 0 (by omega)
  simp at h0
  simp only [List.find?_cons, h0]
  rw [find_first l j (by simpa using hj) (by simpa using h) (fun i hi => by simpa using hn (i + 1) (by omega))]
  simp
theorem lowK_find (hr : RiseK key l) (h1 : lowK key l k < l.length) (h2 : sEq (key (l.getD (lowK key l k) default)) k = true) : (l.find? fun x => sEq (key x) k).getD default = l.getD (lowK key l k) default :=
 find_first l _ h1 h2 fun i hi => by
  have := lowK_lt hi
  cases e : sEq (key (l.getD i default)) k with
  | false => rfl
  | true => rw [sEq_eq.1 e, sLt_irr] at this; cases this
theorem find_none' {p : α → Bool} {l : List α} (h : l.any p = false) : (l.find? p).getD default = default := by
 rw [List.find?_eq_none.2 fun x hx => by rw [List.any_eq_false] at h; exact h x hx]; rfl
theorem lowK_cmp (hr : RiseK key l) : (∀ j, j < lowK key l k → cmpB (key (l.getD j default)) k < 0) ∧ (∀ j, lowK key l k ≤ j → j < l.length → 0 ≤ cmpB (key (l.getD j default)) k) := by
 refine ⟨fun j hj => ?_, fun j hj hl => ?_⟩
 ·have := lowK_lt hj
  rw [← cmpB_lt, decide_eq_true_eq] at this; exact this
 ·have := lowK_ge hr hj hl
  rw [← cmpB_lt, decide_eq_false_iff_not] at this; omega
theorem cmp_zero (a b : ByteArray) : decide (cmpB a b = 0) = sEq a b := by
 rw [sEq_dec]
 by_cases h : a = b
 ·rw [decide_eq_true h, decide_eq_true (cmpB_eq.2 h)]
 ·rw [decide_eq_false h, decide_eq_false fun e => h (cmpB_eq.1 e)]
end
theorem bsf_lo {f : Nat → Int} {s0 n h : Nat} (hhi : ∀ j, s0 ≤ j → j < n → 0 ≤ f j) (hn : h < n) (hc : f h < 0) : h + 1 ≤ s0 := by
 rcases Nat.lt_or_ge h s0 with h1 | h1
 ·exact h1
 ·have := hhi h h1 hn; omega
theorem bsf_hi {f : Nat → Int} {s0 h : Nat} (hlo : ∀ j, j < s0 → f j < 0) (hc : 0 ≤ f h) : s0 ≤ h := by
 rcases Nat.lt_or_ge h s0 with h1 | h1
 ·have := hlo h h1; omega
 ·exact h1
end Go.Proofs.YtceflkkgmmcieaaGreatDoor
namespace Go.Proofs.YtceflkkgmmcieaaGreatDoor
open Go.RowKit
set_option linter.unusedVariables false
set_option linter.unusedSimpArgs false
structure SpotS where
 slot : Int
 name : ByteArray
 x : Int
 y : Int
 quarter : Int
instance : Inhabited SpotS := ⟨⟨0, ByteArray.empty, 0, 0, 0⟩⟩
instance : Sxc SpotS where
 k := 5
 pos := by decide
 cell m j := match j with
  | 0 => avI m.slot
  | 1 => avS m.name
  | 2 => avI m.x
  | 3 => avI m.y
  | 4 => avI m.quarter
  | _ => .any
abbrev avSpot (x : SpotS) : AV := .agg [avI x.slot, avS x.name, avI x.x, avI x.y, avI x.quarter]
abbrev avPl (x : PlaceS) : AV := .agg [avS x.name, avS x.part, avI x.x, avI x.y, avI x.quarter]
def spotS (p : ProdS) (i : Int) (s : SlotS) (c : PlaceS) : SpotS := ⟨i, c.name, s.x + plX p s.quarter c.x c.y, s.y + plY p s.quarter c.x c.y, Int.tmod (s.quarter + c.quarter) 4⟩
def spotF (p : ProdS) (n : PanS) (i : Nat) (c : PlaceS) : SpotS := spotS p (i : Int) (n.slots.getD i default) c
def spotQ (p : ProdS) (n : PanS) (q : Nat) : List SpotS := (List.range q).flatMap fun i => if (n.slots.getD i default).skip = true then [] else p.places.map (spotF p n i)
def spotsR (p : ProdS) (n : PanS) : List SpotS := if panelF p n = 0 then spotQ p n n.slots.length else []
theorem spotQ_skip {p : ProdS} {n : PanS} {q : Nat} (h : (n.slots.getD q default).skip = true) : spotQ p n (q + 1) = spotQ p n q := by
 rw [spotQ, List.range_succ, List.flatMap_append]
 simp only [List.flatMap_cons, List.flatMap_nil, if_pos h, List.append_nil]
 rfl
theorem spotQ_some {p : ProdS} {n : PanS} {q : Nat} (h : (n.slots.getD q default).skip = false) : spotQ p n (q + 1) = spotQ p n q ++ p.places.map (spotF p n q) := by
 rw [spotQ, List.range_succ, List.flatMap_append]
 simp only [List.flatMap_cons, List.flatMap_nil, if_neg (show ¬ (n.slots.getD q default).skip = true by rw [h]; simp), List.append_nil]
 rfl
theorem place_snoc {α : Type} {l : List PlaceS} {q : Nat} (f : PlaceS → α) (h : q < l.length) : (l.take (q + 1)).map f = (l.take q).map f ++ [f (l.getD q default)] := by
 rw [List.take_add_one, List.map_append, List.getD_eq_getElem?_getD, List.getElem?_eq_getElem h]; rfl
def boardN (n : PanS) (q : Nat) : Nat := ((n.slots.take q).filter fun s => !s.skip).length
theorem boardN_le (n : PanS) (q : Nat) : boardN n q ≤ q := by
 unfold boardN
 have := List.length_filter_le (fun s : SlotS => !s.skip) (n.slots.take q)
 rw [List.length_take] at this
 omega
theorem boardN_succ {n : PanS} {q : Nat} (h : q < n.slots.length) : boardN n (q + 1) = boardN n q + if (n.slots.getD q default).skip = true then 0 else 1 := by
 unfold boardN
 rw [List.take_add_one, List.getElem?_eq_getElem h, List.filter_append, List.length_append]
 have : n.slots.getD q default = n.slots[q] := by rw [List.getD_eq_getElem?_getD, List.getElem?_eq_getElem h]; rfl
 rw [this]
 cases hs : n.slots[q].skip <;> simp [hs]
theorem spotQ_len {p : ProdS} {n : PanS} : ∀ q, q ≤ n.slots.length → (spotQ p n q).length = boardN n q * p.places.length
 | 0, _ => by simp [spotQ, boardN]
 | q + 1, h => by
  rw [boardN_succ (by omega)]
  cases hs : (n.slots.getD q default).skip with
  | true => rw [spotQ_skip hs, spotQ_len q (by omega)]; simp
  | false => rw [spotQ_some hs, List.length_append, spotQ_len q (by omega), List.length_map]; simp [Nat.add_mul]
theorem spotQ_bd {p : ProdS} {n : PanS} {q : Nat} (h : q ≤ n.slots.length) (hn : n.slots.length ≤ 100) (hp : p.places.length ≤ 1000) : (spotQ p n q).length ≤ 100000 := by
 rw [spotQ_len q h]
 have := boardN_le n q
 exact Nat.le_trans (Nat.mul_le_mul (show boardN n q ≤ 100 by omega) hp) (by decide)
theorem spotQ_mem {p : ProdS} {n : PanS} {q : Nat} {y : SpotS} (h : y ∈ spotQ p n q) : ∃ i j, i < q ∧ (n.slots.getD i default).skip = false ∧ j < p.places.length ∧ y = spotF p n i (p.places.getD j default) := by
 rw [spotQ, List.mem_flatMap] at h
 obtain ⟨i, hi, hy⟩ := h
 rw [List.mem_range] at hi
 split at hy
 ·cases hy
 ·rename_i hs
  obtain ⟨c, hc, rfl⟩ := List.mem_map.1 hy
  obtain ⟨j, hj, rfl⟩ := List.getElem_of_mem hc
  exact ⟨i, j, hi, by simpa using hs, hj, by rw [List.getD_eq_getElem?_getD, List.getElem?_eq_getElem hj]; rfl⟩
theorem plX_bd {p : ProdS} {q x y : Int} (hw : 1 ≤ p.wide ∧ p.wide ≤ 500000) (hh : 1 ≤ p.high ∧ p.high ≤ 500000) (hx : 0 ≤ x ∧ x ≤ p.wide) (hy : 0 ≤ y ∧ y ≤ p.high) : (0 ≤ plX p q x y ∧ plX p q x y ≤ 500000) ∧ 0 ≤ plY p q x y ∧ plY p q x y ≤ 500000 := by
 unfold plX plY
 repeat' split
 all_goals omega
end Go.Proofs.YtceflkkgmmcieaaGreatDoor
namespace Go.Proofs.YtceflkkgmmcieaaGreatDoor
open Go.RowKit
set_option linter.unusedVariables false
set_option linter.unusedSimpArgs false
section
variable {P : Program} {B : Bs} {s : St'} {o : Oper} {K : St' → Prop} {V : Nat → Nat → Prop} {ops : Array Oper} {Q : Exit → St' → Prop} {n N : Nat} {L : Array Bool}
def VN (P : Program) (B : Bs) (V : Nat → Nat → Prop) (ops : Array Oper) (Q : Exit → St' → Prop) (n : Nat) (L : Array Bool) (s : St') (N : Nat) : Prop :=
 ∀ a w, R B s a w → w.heap.size = N → wpAnyE P .any ops (fun a w => ∃ s, Q .normal s ∧ R B s a w) (fun j => Ew B (V j)) n L a w
def VM (P : Program) (B : Bs) (V : Nat → Nat → Prop) (ops : Array Oper) (Q : Exit → St' → Prop) (n : Nat) (L : Array Bool) (s : St') (N : Nat) : Prop :=
 ∀ a w, R B s a w → N ≤ w.heap.size → wpAnyE P .any ops (fun a w => ∃ s, Q .normal s ∧ R B s a w) (fun j => Ew B (V j)) n L a w
def OpVN (P : Program) (B : Bs) (W : Nat → Prop) (s : St') (o : Oper) (x : AV) (N : Nat) : Prop :=
 ∀ a w, R B s a w → w.heap.size = N → ∃ v, (∀ w', Chg (fun b => B.str b ∨ W b) w w' → (execOp a.eval o).run P w' = .ok (.value v) w') ∧ Rep w (Zn B s.hp w) x v
theorem OpVN.of {W : Nat → Prop} {x : AV} (h : OpV P B W s o x) : OpVN P B W s o x N := fun a w hr _ => h a w hr
theorem new_keep {W : Nat → Prop} (hB : B.Ok) {a : Act} {w w' : World} (hr : R B s a w) (hW : ∀ b, W b → w.heap.size ≤ b) (hc : Chg (fun b => B.str b ∨ W b) w w') {b : Nat} (hZ : Zn B s.hp w b) : w'.heap[b]? = w.heap[b]? := by
 refine hc.block b hZ.1 ?_
 rintro (h | h)
 ·obtain ⟨h1, h2⟩ := hB.str b h
  exact (hZ.2.2 (hB.low b h1)).2 h
 ·exact absurd hZ.1 (Nat.not_lt.2 (hW b h))
theorem OpVN.loadK_at {W : Nat → Prop} {x : Operand} {t m k : Nat} {F : Nat → AV} (ho : o.op = .load t x) (hB : B.Ok) (hW : ∀ b, W b → N ≤ b) (hag : ∀ w, (isAgg t).run P w = .ok true w) (hsz : ∀ w, (sizeOf t).run P w = .ok k w) (hx : evO s x = some (.at_ m F)) (hm : Nat.ble k m = true) : OpVN P B W s o (.agg (tab k F)) N := by
 intro a w hr hN
 have := hr.ev hx
 generalize hv : a.eval x = u at this
 have hm' := Nat.le_of_ble_eq_true hm
 cases this with
 | at_ m f' b off c e u hZ hb hc hr' =>
  refine ⟨.agg ((List.range k).map u).toArray, fun w' hcw => ?_, .agg _ _ (by simp [tab_len]) fun j hj => ?_⟩
  ·have hb' := (new_keep hB hr (fun b h => hN ▸ hW b h) hcw hZ).trans hb
   have hcell : ∀ j v, ((List.range k).map u)[j]? = some v → w'.cell? ((⟨b, off, none⟩ : Addr).add j) = some v := by
    intro j v hj
    simp only [List.getElem?_map, Option.map_eq_some_iff] at hj
    obtain ⟨q, hq, rfl⟩ := hj
    obtain ⟨hlt, hq'⟩ := List.getElem?_eq_some_iff.1 hq
    simp at hlt hq'
    subst hq'
    rw [Addr.add_lit]
    simpa [World.cell?, hb'] using hc j (by omega)
   have hl := run_loadCells_list (P := P) w' ⟨b, off, none⟩ _ hcell
   simp only [List.length_map, List.length_range] at hl
   simp only [execOp, ho, hv, Instr.loadAt, Instr.sureAddr, loadVar, hag, hsz, hl, Sem.run_bind, Sem.run_pure, Result.andThen_ok, if_true]
  ·rw [tab_len] at hj
   rw [tab_get]
   simp [hj]
   exact hr' j (by omega)
theorem VN.take {i : Nat} {x : AV} (hi : ops[i]? = some o) (hs : Region.noSelect ops = true) (hf : Region.free .any ops L i = true) (hr : (Region.ready .any ops L).contains i = true) (hg : o.guard = none) (hd : okd B.nt o.dst = true)
  (hv : OpVN P B (Wi V ops i) s o x N) (h : VN P B V ops Q n (L.setIfInBounds i true) (s.put o.dst x) N) : VN P B V ops Q (n + 1) L s N := fun a w hR hN => by
 obtain ⟨v, h1, h2⟩ := hv a w hR hN
 exact wpAnyE_first (F := Ew B (Wi V ops i)) Ew.tr Ew.rf (fun x => Ew.rf x) Wi.of hi (Region.noSelect_spec hs) n L a w (Region.free_spec hi hf) (by simpa using hr) (.inl ⟨by simp [Region.wanted, hg], h1⟩) (h _ _ (hR.put _ hd _ _ h2) hN)
theorem VM.take {i : Nat} {x : AV} (hi : ops[i]? = some o) (hs : Region.noSelect ops = true) (hf : Region.free .any ops L i = true) (hr : (Region.ready .any ops L).contains i = true) (hg : o.guard = none) (hd : okd B.nt o.dst = true)
  (hv : OpV P B (Wi V ops i) s o x) (h : VM P B V ops Q n (L.setIfInBounds i true) (s.put o.dst x) N) : VM P B V ops Q (n + 1) L s N := fun a w hR hN => by
 obtain ⟨v, h1, h2⟩ := hv a w hR
 exact wpAnyE_first (F := Ew B (Wi V ops i)) Ew.tr Ew.rf (fun x => Ew.rf x) Wi.of hi (Region.noSelect_spec hs) n L a w (Region.free_spec hi hf) (by simpa using hr) (.inl ⟨by simp [Region.wanted, hg], h1⟩) (h _ _ (hR.put _ hd _ _ h2) hN)
theorem VM.done (hr : Region.ready .any ops L = []) (h : Q .normal s) : VM P B V ops Q n L s N := fun a w hR _ => by
 cases n with
 | zero => exact ⟨hr, s, h, hR⟩
 | succ n => exact ⟨fun _ => ⟨s, h, hR⟩, by rw [hr]; simp⟩
def OpM (P : Program) (B : Bs) (W : Nat → Prop) (s : St') (o : Oper) (K : St' → Prop) (N : Nat) : Prop :=
 ∀ a w, R B s a w → N ≤ w.heap.size → ∀ (next : Act → World → Prop) (Qx : Exit → Act → World → Prop), (∀ s' a' w', K s' → R B s' a' w' → Ew B W w w' → next a' w') → o.wp P a w next Qx
theorem OpM.of {W : Nat → Prop} (h : OpE P B W s o K) : OpM P B W s o K N := fun a w hr _ => h a w hr
theorem OpM.alloc {W : Nat → Prop} {e : TypeId} {z : Value} {cs : List AV} (ho : o.op = .alloc e) (hB : B.Ok) (hd : okd B.nt o.dst = true) (hz : ∀ w, (zeroValue e).run P w = .ok z w) (hcs : cellsOf (.v z) = cs)
  (hK : ∀ g, N ≤ g → K ((St'.mk s.sl (s.hp ++ [.box g ⟨cs, e, cs.length⟩]) s.k).put o.dst (.v (.pointer (some ⟨g, 0, none⟩))))) : OpM P B W s o K N := by
 subst hcs
 intro a w hr hN next Qx hn
 have h1 := hr.newBox hB _ e _ (Rep.cells (.v z) rfl)
 unfold Oper.wp
 simp only [execOp, ho, Instr.alloc, newVar, newRow, Sem.run_bind, hz, run_newObj_alloc, Result.andThen_ok, Sem.run_pure]
 exact hn _ _ _ (hK _ hN) (h1.put _ hd _ _ (.v _)) (.ofN ((Chg.refl _ _).alloc _))
def EachM (P : Program) (B : Bs) (V : Nat → Nat → Prop) (ops : Array Oper) (Q : Exit → St' → Prop) (n : Nat) (L : Array Bool) (s : St') (N : Nat) : List Nat → Prop
 | [] => True
 | i :: r => (∃ o, ops[i]? = some o ∧ o.guard = none ∧ OpM P B (V i) s o (fun s' => VM P B V ops Q n (L.setIfInBounds i true) s' N) N) ∧ EachM P B V ops Q n L s N r
theorem VM.all {rs : List Nat} (hr : Region.ready .any ops L = rs) (hne : rs ≠ []) (h : EachM P B V ops Q n L s N rs) : VM P B V ops Q (n + 1) L s N := fun a w hR hN => by
 refine ⟨fun h0 => absurd (hr ▸ h0) hne, fun i hi => ?_⟩
 rw [hr] at hi
 have key : ∀ rs, EachM P B V ops Q n L s N rs → i ∈ rs → ∃ o, ops[i]? = some o ∧ o.guard = none ∧ OpM P B (V i) s o (fun s' => VM P B V ops Q n (L.setIfInBounds i true) s' N) N := by
  intro rs
  induction rs with
  | nil => intro _ h; simp at h
  | cons j r ih =>
   intro h hi
   rcases List.mem_cons.1 hi with rfl | hi
   ·exact h.1
   ·exact ih h.2 hi
 obtain ⟨o, ho, hg, hop⟩ := key rs h hi
 unfold wpOp
 simp only [ho]
 have hwant : Region.wanted o (yielded ops a.tmps) = true := by simp [Region.wanted, hg]
 rw [if_pos hwant]
 exact .inl (hop a w hR hN _ _ fun s' a' w' k1 k2 k3 => ⟨k3, k1 a' w' k2 (Nat.le_trans hN k3.size)⟩)
theorem VM.le {s' : St'} (h : Le B s s') (k : VM P B V ops Q n L s' N) : VM P B V ops Q n L s N := fun a w hr => k a w (h a w hr)
end
end Go.Proofs.YtceflkkgmmcieaaGreatDoor
namespace Go.Proofs.YtceflkkgmmcieaaGreatDoor
open Go.RowKit
set_option linter.unusedVariables false
set_option linter.unusedSimpArgs false
theorem flat_spot (xs : List SpotS) : FlatA (rowL xs) := flat_rowL (fun x j hj => by
 match j, hj with
 | 0, _ => exact ⟨_, rfl⟩
 | 1, _ => exact ⟨_, rfl⟩
 | 2, _ => exact ⟨_, rfl⟩
 | 3, _ => exact ⟨_, rfl⟩
 | 4, _ => exact ⟨_, rfl⟩) xs
set_option maxRecDepth 100000 in
theorem panel_turned {p : ProdS} {q cx cy : Int} (hw : 1 ≤ p.wide ∧ p.wide ≤ 500000) (hh : 1 ≤ p.high ∧ p.high ≤ 500000) (hq : 0 ≤ q ∧ q ≤ 3) (hx : 0 ≤ cx ∧ cx ≤ p.wide) (hy : 0 ≤ cy ∧ cy ≤ p.high) :
  SpecN Tryz.prog 124 [avProd p, avI q, avI cx, avI cy] (fun y => y = .tup [avI (plX p q cx cy), avI (plY p q cx cy)]) := by
 refine SpecN.of_VCN Tryz.func124 rfl Tryz.ntmps124 (Nle rfl) fun w A hB => ?_
 have hnew : True := trivial
 refine VC.sr ?_
 refine VO.op rfl (OpE.box rfl hB rfl rfl rfl ?_)
 intro g4
 refine VO.ma rfl rfl rfl rfl ?_
 refine VO.ma rfl rfl rfl rfl ?_
 refine VO.nil ?_
 refine VC.seq ?_
 refine VC.sr ?_
 refine VO.mv rfl rfl rfl rfl ?_
 refine VO.nil ?_
 refine VC.block ?_
 refine VC.sr ?_
 refine VO.val rfl rfl (OpV.eql rfl rfl rfl) ?_
 refine VO.ma rfl rfl rfl rfl ?_
 refine VO.nil ?_
 refine VC.cond rfl (fun h0b => ?_) (fun h0b => ?_)
 ·have h0 := h0b
  try simp only [qqT, qqF, qqN, qqM, qqL, qqE] at h0
  refine VC.sr ?_
  refine VO.val rfl rfl (OpV.fieldAddrO 2 rfl Tryz.underlying28 rfl rfl Tryz.sizeOf3 rfl) ?_
  refine VO.val rfl rfl (OpV.load_own (i := 0) rfl hB Tryz.isAgg3 rfl rfl rfl (fun h => h)) ?_
  refine VO.mv rfl rfl rfl rfl ?_
  refine VO.val rfl rfl (OpV.sub rfl rfl rfl (by unfold fits; omega)) ?_
  refine VO.mv rfl rfl rfl rfl ?_
  refine VO.ma rfl rfl rfl rfl ?_
  refine VO.ma rfl rfl rfl rfl ?_
  refine VO.nil ?_
  refine VC.ret ?_
  exact Exists.intro _ (And.intro (RetN.two Tryz.results124 (ResN.v rfl) (ResN.v rfl)) (by rw [h0]; rfl))
 ·have h0 := h0b
  try simp only [qqT, qqF, qqN, qqM, qqL, qqE] at h0
  refine VC.sr ?_
  refine VO.val rfl rfl (OpV.eql rfl rfl rfl) ?_
  refine VO.ma rfl rfl rfl rfl ?_
  refine VO.nil ?_
  refine VC.cond rfl (fun h1b => ?_) (fun h1b => ?_)
  ·have h1 := h1b
   try simp only [qqT, qqF, qqN, qqM, qqL, qqE] at h1
   refine VC.seq ?_
   refine VC.draw (fun _ => NoB) hB (by kernel_rfl) ?_
   refine VA.take (i := 0) rfl (by kernel_rfl) (by kernel_rfl) (by kernel_rfl) rfl rfl (OpV.fieldAddrO 1 rfl Tryz.underlying28 rfl rfl Tryz.sizeOf3 rfl) ?_
   refine VA.take (i := 1) rfl (by kernel_rfl) (by kernel_rfl) (by kernel_rfl) rfl rfl (OpV.load_own (i := 0) rfl hB Tryz.isAgg3 rfl rfl rfl Wi.not0) ?_
   refine VA.take (i := 2) rfl (by kernel_rfl) (by kernel_rfl) (by kernel_rfl) rfl rfl (OpV.move (.inl rfl) rfl) ?_
   refine VA.take (i := 3) rfl (by kernel_rfl) (by kernel_rfl) (by kernel_rfl) rfl rfl (OpV.sub rfl rfl rfl (by unfold fits; omega)) ?_
   refine VA.take (i := 4) rfl (by kernel_rfl) (by kernel_rfl) (by kernel_rfl) rfl rfl (OpV.fieldAddrO 2 rfl Tryz.underlying28 rfl rfl Tryz.sizeOf3 rfl) ?_
   refine VA.take (i := 5) rfl (by kernel_rfl) (by kernel_rfl) (by kernel_rfl) rfl rfl (OpV.load_own (i := 0) rfl hB Tryz.isAgg3 rfl rfl rfl Wi.not0) ?_
   refine VA.take (i := 6) rfl (by kernel_rfl) (by kernel_rfl) (by kernel_rfl) rfl rfl (OpV.move (.inl rfl) rfl) ?_
   refine VA.take (i := 7) rfl (by kernel_rfl) (by kernel_rfl) (by kernel_rfl) rfl rfl (OpV.sub rfl rfl rfl (by unfold fits; omega)) ?_
   refine VA.take (i := 8) rfl (by kernel_rfl) (by kernel_rfl) (by kernel_rfl) rfl rfl (OpV.move (.inr rfl) rfl) ?_
   refine VA.take (i := 9) rfl (by kernel_rfl) (by kernel_rfl) (by kernel_rfl) rfl rfl (OpV.move (.inr rfl) rfl) ?_
   refine VA.done (by kernel_rfl) ?_
   refine VC.ret ?_
   exact Exists.intro _ (And.intro (RetN.two Tryz.results124 (ResN.v rfl) (ResN.v rfl)) (by rw [h1]; rfl))
  ·have h1 := h1b
   try simp only [qqT, qqF, qqN, qqM, qqL, qqE] at h1
   refine VC.sr ?_
   refine VO.val rfl rfl (OpV.eql rfl rfl rfl) ?_
   refine VO.ma rfl rfl rfl rfl ?_
   refine VO.nil ?_
   refine VC.cond rfl (fun h2b => ?_) (fun h2b => ?_)
   ·have h2 := h2b
    try simp only [qqT, qqF, qqN, qqM, qqL, qqE] at h2
    refine VC.seq ?_
    refine VC.draw (fun _ => NoB) hB (by kernel_rfl) ?_
    refine VA.take (i := 0) rfl (by kernel_rfl) (by kernel_rfl) (by kernel_rfl) rfl rfl (OpV.move (.inl rfl) rfl) ?_
    refine VA.take (i := 1) rfl (by kernel_rfl) (by kernel_rfl) (by kernel_rfl) rfl rfl (OpV.fieldAddrO 1 rfl Tryz.underlying28 rfl rfl Tryz.sizeOf3 rfl) ?_
    refine VA.take (i := 2) rfl (by kernel_rfl) (by kernel_rfl) (by kernel_rfl) rfl rfl (OpV.load_own (i := 0) rfl hB Tryz.isAgg3 rfl rfl rfl Wi.not0) ?_
    refine VA.take (i := 3) rfl (by kernel_rfl) (by kernel_rfl) (by kernel_rfl) rfl rfl (OpV.move (.inl rfl) rfl) ?_
    refine VA.take (i := 4) rfl (by kernel_rfl) (by kernel_rfl) (by kernel_rfl) rfl rfl (OpV.sub rfl rfl rfl (by unfold fits; omega)) ?_
    refine VA.take (i := 5) rfl (by kernel_rfl) (by kernel_rfl) (by kernel_rfl) rfl rfl (OpV.move (.inr rfl) rfl) ?_
    refine VA.take (i := 6) rfl (by kernel_rfl) (by kernel_rfl) (by kernel_rfl) rfl rfl (OpV.move (.inr rfl) rfl) ?_
    refine VA.done (by kernel_rfl) ?_
    refine VC.ret ?_
    exact Exists.intro _ (And.intro (RetN.two Tryz.results124 (ResN.v rfl) (ResN.v rfl)) (by rw [h2]; rfl))
   ·have h2 := h2b
    try simp only [qqT, qqF, qqN, qqM, qqL, qqE] at h2
    refine VC.skip ?_
    refine VC.sr ?_
    refine VO.mv rfl rfl rfl rfl ?_
    refine VO.mv rfl rfl rfl rfl ?_
    refine VO.ma rfl rfl rfl rfl ?_
    refine VO.ma rfl rfl rfl rfl ?_
    refine VO.nil ?_
    refine VC.ret ?_
    exact Exists.intro _ (And.intro (RetN.two Tryz.results124 (ResN.v rfl) (ResN.v rfl)) (by rw [show q = 0 by omega]; rfl))
set_option maxRecDepth 100000 in
set_option maxHeartbeats 2000000 in
theorem panel_spot {p : ProdS} {n : PanS} {i : Nat} {c : PlaceS} (hw : 1 ≤ p.wide ∧ p.wide ≤ 500000) (hh : 1 ≤ p.high ∧ p.high ≤ 500000) (hi : i < n.slots.length) (hs : (0 ≤ (n.slots.getD i default).x ∧ (n.slots.getD i default).x ≤ 500000) ∧ (0 ≤ (n.slots.getD i default).y ∧ (n.slots.getD i default).y ≤ 500000) ∧ 0 ≤ (n.slots.getD i default).quarter ∧ (n.slots.getD i default).quarter ≤ 3) (hc : (0 ≤ c.x ∧ c.x ≤ p.wide) ∧ (0 ≤ c.y ∧ c.y ≤ p.high) ∧ 0 ≤ c.quarter ∧ c.quarter ≤ 3) :
  SpecN Tryz.prog 74 [avProd p, avPan n, avI (i : Int), avPl c] (fun y => y = avSpot (spotF p n i c)) := by
 refine SpecN.of_VCN Tryz.func74 rfl Tryz.ntmps74 (Nle rfl) fun w A hB => ?_
 have hnew : True := trivial
 refine VC.seq ?_
 have hb := plX_bd (q := (n.slots.getD i default).quarter) hw hh hc.1 hc.2.1
 have h4 := Int.tmod_eq_emod_of_nonneg (a := (n.slots.getD i default).quarter + c.quarter) (b := 4) (by omega)
 refine VC.region ?_
 refine VO.op rfl (OpE.box rfl hB rfl rfl rfl ?_)
 intro g4
 refine VO.op rfl (OpE.box rfl hB rfl rfl rfl ?_)
 intro g5
 refine VO.op rfl (OpE.box rfl hB rfl rfl rfl ?_)
 intro g7
 refine VO.op rfl (OpE.alloc rfl hB rfl Tryz.zeroValue41 rfl ?_)
 intro g8
 refine VO.nil ?_
 refine VC.sr ?_
 refine VO.val rfl rfl (OpV.fieldAddrO 2 rfl Tryz.underlying32 rfl rfl Tryz.sizeOf30 rfl) ?_
 refine VO.val rfl rfl (OpV.load_own (i := 1) rfl hB Tryz.isAgg30 rfl rfl rfl (fun h => h)) ?_
 refine VO.mv rfl rfl rfl rfl ?_
 refine VO.val rfl rfl (OpV.indexAddr_E rfl Tryz.underlying30 Tryz.sizeOf94 rfl rfl rfl (by omega)) ?_
 refine VO.val rfl rfl (OpV.loadK_at rfl hB OutW.no Tryz.isAgg94 Tryz.sizeOf94 rfl rfl) ?_
 refine VO.op rfl (OpE.alloc rfl hB rfl Tryz.zeroValue94 rfl ?_)
 intro g9
 refine VO.op rfl (OpE.store (i := 4) rfl hB rfl Tryz.sizeOf94 rfl rfl rfl rfl rfl rfl (Nle rfl) trivial ?_)
 refine VO.nil ?_
 refine VC.sr ?_
 refine VO.val rfl rfl (OpV.loadK_own (i := 0) rfl hB Tryz.isAgg28 Tryz.sizeOf28 rfl rfl rfl (fun h => h)) ?_
 refine VO.val rfl rfl (OpV.fieldAddrO 2 rfl Tryz.underlying94 rfl rfl Tryz.sizeOf3 rfl) ?_
 refine VO.val rfl rfl (OpV.load_own (i := 4) rfl hB Tryz.isAgg3 rfl rfl rfl (fun h => h)) ?_
 refine VO.val rfl rfl (OpV.fieldAddrO 2 rfl Tryz.underlying50 rfl rfl Tryz.sizeOf3 rfl) ?_
 refine VO.val rfl rfl (OpV.load_own (i := 2) rfl hB Tryz.isAgg3 rfl rfl rfl (fun h => h)) ?_
 refine VO.val rfl rfl (OpV.fieldAddrO 3 rfl Tryz.underlying50 rfl rfl Tryz.sizeOf3 rfl) ?_
 refine VO.val rfl rfl (OpV.load_own (i := 2) rfl hB Tryz.isAgg3 rfl rfl rfl (fun h => h)) ?_
 refine VO.op rfl (OpE.call rfl hB rfl Tryz.call124 rfl (SpecN.spec (panel_turned hw hh hs.2.2 hc.1 hc.2.1)) ?_)
 rintro _ rfl
 refine VO.mv rfl rfl rfl rfl ?_
 refine VO.val rfl rfl (OpV.extract rfl rfl rfl) ?_
 refine VO.val rfl rfl (OpV.extract rfl rfl rfl) ?_
 refine VO.ma rfl rfl rfl rfl ?_
 refine VO.ma rfl rfl rfl rfl ?_
 refine VO.nil ?_
 refine VC.sr ?_
 refine VO.mv rfl rfl rfl rfl ?_
 refine VO.val rfl rfl (OpV.fieldAddrO 0 rfl Tryz.underlying50 rfl rfl Tryz.sizeOf9 rfl) ?_
 refine VO.val rfl rfl (OpV.load_own (i := 2) rfl hB Tryz.isAgg9 rfl rfl rfl (fun h => h)) ?_
 refine VO.val rfl rfl (OpV.fieldAddrO 0 rfl Tryz.underlying94 rfl rfl Tryz.sizeOf3 rfl) ?_
 refine VO.val rfl rfl (OpV.load_own (i := 4) rfl hB Tryz.isAgg3 rfl rfl rfl (fun h => h)) ?_
 refine VO.mv rfl rfl rfl rfl ?_
 refine VO.val rfl rfl (OpV.add rfl rfl rfl (by unfold fits; omega)) ?_
 refine VO.val rfl rfl (OpV.fieldAddrO 1 rfl Tryz.underlying94 rfl rfl Tryz.sizeOf3 rfl) ?_
 refine VO.val rfl rfl (OpV.load_own (i := 4) rfl hB Tryz.isAgg3 rfl rfl rfl (fun h => h)) ?_
 refine VO.mv rfl rfl rfl rfl ?_
 refine VO.val rfl rfl (OpV.add rfl rfl rfl (by unfold fits; omega)) ?_
 refine VO.val rfl rfl (OpV.fieldAddrO 2 rfl Tryz.underlying94 rfl rfl Tryz.sizeOf3 rfl) ?_
 refine VO.val rfl rfl (OpV.load_own (i := 4) rfl hB Tryz.isAgg3 rfl rfl rfl (fun h => h)) ?_
 refine VO.val rfl rfl (OpV.fieldAddrO 4 rfl Tryz.underlying50 rfl rfl Tryz.sizeOf3 rfl) ?_
 refine VO.val rfl rfl (OpV.load_own (i := 2) rfl hB Tryz.isAgg3 rfl rfl rfl (fun h => h)) ?_
 refine VO.val rfl rfl (OpV.add rfl rfl rfl (by unfold fits; omega)) ?_
 refine VO.val rfl rfl (OpV.rem rfl rfl rfl (by omega) (by unfold fits; omega)) ?_
 refine VO.val rfl rfl (OpV.build (pls := #[(0, 1), (1, 1), (2, 1), (3, 1), (4, 1)]) rfl Tryz.zeroValue41 Tryz.underlying41 (fun w => by kernel_rfl) rfl rfl) ?_
 refine VO.op rfl (OpE.store (i := 3) rfl hB rfl Tryz.sizeOf41 rfl rfl rfl rfl rfl rfl (Nle rfl) trivial ?_)
 refine VO.nil ?_
 refine VC.ret ?_
 exact Exists.intro _ (And.intro (RetN.one Tryz.results74 ((by first | exact ResN.cellF (i := 0) Tryz.isAgg41 Tryz.sizeOf41 rfl rfl rfl (flat_ofB rfl) | exact ResN.cellF (i := 1) Tryz.isAgg41 Tryz.sizeOf41 rfl rfl rfl (flat_ofB rfl) | exact ResN.cellF (i := 2) Tryz.isAgg41 Tryz.sizeOf41 rfl rfl rfl (flat_ofB rfl) | exact ResN.cellF (i := 3) Tryz.isAgg41 Tryz.sizeOf41 rfl rfl rfl (flat_ofB rfl) | exact ResN.cellF (i := 4) Tryz.isAgg41 Tryz.sizeOf41 rfl rfl rfl (flat_ofB rfl)))) (rfl))
set_option maxRecDepth 100000 in
set_option maxHeartbeats 4000000 in
theorem panel_Spots {p : ProdS} {n : PanS} (hs : SmP p) (hl : n.slots.length ≤ 1000000) :
  SpecN Tryz.prog 17 [avProd p, avPan n] (fun y => y = .tup [avL (spotsR p n), avI (panelF p n)]) := by
 refine SpecN.of_VCN Tryz.func17 rfl Tryz.ntmps17 (Nle rfl) fun w A hB => ?_
 have hnew : True := trivial
 refine VC.seq ?_
 have hpl := hs.len
 refine VC.region ?_
 refine VO.op rfl (OpE.box rfl hB rfl rfl rfl ?_)
 intro g2
 refine VO.op rfl (OpE.box rfl hB rfl rfl rfl ?_)
 intro g3
 refine VO.ma rfl rfl rfl rfl ?_
 refine VO.ma rfl rfl rfl rfl ?_
 refine VO.nil ?_
 refine VC.seq ?_
 refine VC.sr ?_
 refine VO.val rfl rfl (OpV.loadK_own (i := 0) rfl hB Tryz.isAgg28 Tryz.sizeOf28 rfl rfl rfl (fun h => h)) ?_
 refine VO.val rfl rfl (OpV.loadK_own (i := 1) rfl hB Tryz.isAgg32 Tryz.sizeOf32 rfl rfl rfl (fun h => h)) ?_
 refine VO.op rfl (OpE.call rfl hB rfl Tryz.call27 rfl (SpecN.spec (panel_CheckPanel hs hl)) ?_)
 rintro _ rfl
 refine VO.ma rfl rfl rfl rfl ?_
 refine VO.nil ?_
 refine VC.sr ?_
 refine VO.mv rfl rfl rfl rfl ?_
 refine VO.val rfl rfl (OpV.neq rfl rfl rfl) ?_
 refine VO.nil ?_
 refine VC.cond rfl (fun h0b => ?_) (fun h0b => ?_)
 ·have h0 := h0b
  try simp only [qqT, qqF, qqN, qqM, qqL, qqE] at h0
  refine VC.sr ?_
  refine VO.mv rfl rfl rfl rfl ?_
  refine VO.ma rfl rfl rfl rfl ?_
  refine VO.ma rfl rfl rfl rfl ?_
  refine VO.nil ?_
  refine VC.ret ?_
  exact Exists.intro _ (And.intro (RetN.two Tryz.results17 (ResN.nilE rfl) (ResN.v rfl)) (by rw [spotsR, if_neg h0]; rfl))
 ·have h0 := h0b
  try simp only [qqT, qqF, qqN, qqM, qqL, qqE] at h0
  have h00 : panelF p n = 0 := by omega
  have hz := panelF_0 h00
  have hok := prodOk hz.1
  have hpn := panOk hz.2
  have hp1 := hok.len
  have hn1 := hpn.len
  refine VC.skip ?_
  refine VC.sr ?_
  refine VO.ma rfl rfl rfl rfl ?_
  refine VO.nil ?_
  refine VC.seq ?_
  refine VC.sr ?_
  refine VO.val rfl rfl (OpV.fieldAddrO 2 rfl Tryz.underlying32 rfl rfl Tryz.sizeOf30 rfl) ?_
  refine VO.val rfl rfl (OpV.load_own (i := 1) rfl hB Tryz.isAgg30 rfl rfl rfl (fun h => h)) ?_
  refine VO.val rfl rfl (OpV.len_im rfl Tryz.underlying30 rfl) ?_
  refine VO.mv rfl rfl rfl rfl ?_
  refine VO.nil ?_
  refine VC.block ?_
  refine VC.le _ (Le.nilRow 5 41) ?_
  refine VC.loopK [(2, _), (3, _), (19, _), (20, _)] ⟨rfl, rfl, rfl, rfl, trivial⟩ ({z : Value × Nat // z.2 ≤ n.slots.length}) (fun (iZ : {z : Value × Nat // z.2 ≤ n.slots.length}) => match iZ with | ⟨⟨u, q⟩, hq⟩ => [(7, .v u), (21, avI (q : Int))]) (fun (iZ : {z : Value × Nat // z.2 ≤ n.slots.length}) => match iZ with | ⟨⟨u, q⟩, hq⟩ => [boxProd g2 p 28, boxPan g3 n 32, .row u (spotQ p n q).length 5 (rowL (spotQ p n q)) 41]) (fun (iZ : {z : Value × Nat // z.2 ≤ n.slots.length}) => match iZ with | ⟨⟨u, q⟩, hq⟩ => 0) (fun (iZ : {z : Value × Nat // z.2 ≤ n.slots.length}) => match iZ with | ⟨⟨u, q⟩, hq⟩ => n.slots.length - q) ⟨(.slice none 0 0, 0), Nat.zero_le _⟩ (Le.mk hB [0, 1, 2] ⟨rfl, rfl, rfl, rfl, rfl, rfl, trivial⟩ rfl rfl (Nat.le_refl _)) ?_
  rintro ⟨⟨u, q⟩, hq⟩
  show VC _ _ _ _ ⟨[(7, .v u), (21, avI (q : Int))] ++ [(2, _), (3, _), (19, _), (20, _)], [boxProd g2 p 28, boxPan g3 n 32, .row u (spotQ p n q).length 5 (rowL (spotQ p n q)) 41], 0⟩
  simp only at hq
  have hbd := spotQ_bd (p := p) (n := n) (q := q) hq hn1 hp1
  refine VC.sr ?_
  refine VO.val rfl rfl (OpV.lss rfl rfl rfl) ?_
  refine VO.nil ?_
  refine VC.seq ?_
  refine VC.cond rfl (fun aH1b => ?_) (fun aH1b => ?_)
  ·have aH1 := aH1b
   try simp only [qqT, qqF, qqN, qqM, qqL, qqE] at aH1
   refine VC.skip ?_
   refine VC.seq ?_
   refine VC.block ?_
   refine VC.sr ?_
   refine VO.mv rfl rfl rfl rfl ?_
   refine VO.val rfl rfl (OpV.indexAddr_E rfl Tryz.underlying30 Tryz.sizeOf94 rfl rfl rfl (by omega)) ?_
   refine VO.val rfl rfl (OpV.loadK_at rfl hB OutW.no Tryz.isAgg94 Tryz.sizeOf94 rfl rfl) ?_
   refine VO.op rfl (OpE.alloc rfl hB rfl Tryz.zeroValue94 rfl ?_)
   intro g9
   refine VO.ma rfl rfl rfl rfl ?_
   refine VO.op rfl (OpE.store (i := 3) rfl hB rfl Tryz.sizeOf94 rfl rfl rfl rfl rfl rfl (Nle rfl) trivial ?_)
   refine VO.nil ?_
   refine VC.seq ?_
   refine VC.sr ?_
   refine VO.val rfl rfl (OpV.fieldAddrO 3 rfl Tryz.underlying94 rfl rfl Tryz.sizeOf4 rfl) ?_
   refine VO.val rfl rfl (OpV.load_own (i := 3) rfl hB Tryz.isAgg4 rfl rfl rfl (fun h => h)) ?_
   refine VO.nil ?_
   refine VC.cond rfl (fun h2b => ?_) (fun h2b => ?_)
   ·have h2 := h2b
    try simp only [qqT, qqF, qqN, qqM, qqL, qqE] at h2
    refine VC.exit ?_
    refine VC.region ?_
    refine VO.val rfl rfl (OpV.add rfl rfl rfl (by unfold fits; omega)) ?_
    refine VO.mv rfl rfl rfl rfl ?_
    refine VO.nil ?_
    exact Exists.intro (⟨(u, q + 1), by show q + 1 ≤ _; omega⟩) (And.intro (Le.mk hB [0, 1, 2] ⟨rfl, rfl, rfl, rfl, rfl, rfl, trivial⟩ rfl (by dsimp only; first | (rw [spotQ_skip h2]; rfl) | (rw [spotQ_some h2, List.length_append, List.length_map]; rfl)) (Nat.le_refl _)) (by first | omega | (show _ < _; omega) | (simp only []; omega)))
   ·have h2 := h2b
    try simp only [qqT, qqF, qqN, qqM, qqL, qqE] at h2
    refine VC.skip ?_
    refine VC.sr ?_
    refine VO.val rfl rfl (OpV.fieldAddrO 3 rfl Tryz.underlying28 rfl rfl Tryz.sizeOf26 rfl) ?_
    refine VO.val rfl rfl (OpV.load_own (i := 0) rfl hB Tryz.isAgg26 rfl rfl rfl (fun h => h)) ?_
    refine VO.val rfl rfl (OpV.len_im rfl Tryz.underlying26 rfl) ?_
    refine VO.mv rfl rfl rfl rfl ?_
    refine VO.nil ?_
    refine VC.block ?_
    refine VC.loopK [(2, _), (3, _), (8, _), (19, _), (20, _), (21, _), (29, _), (30, _)] ⟨rfl, rfl, rfl, rfl, rfl, rfl, rfl, rfl, trivial⟩ ({z : Value × Nat // z.2 ≤ p.places.length}) (fun (iZ : {z : Value × Nat // z.2 ≤ p.places.length}) => match iZ with | ⟨⟨u, r⟩, hr⟩ => [(7, .v u), (31, avI (r : Int))]) (fun (iZ : {z : Value × Nat // z.2 ≤ p.places.length}) => match iZ with | ⟨⟨u, r⟩, hr⟩ => [boxProd g2 p 28, boxPan g3 n 32, .row u ((spotQ p n q).length + r) 5 (rowL (spotQ p n q ++ (p.places.take r).map (spotF p n q))) 41]) (fun (iZ : {z : Value × Nat // z.2 ≤ p.places.length}) => match iZ with | ⟨⟨u, r⟩, hr⟩ => 0) (fun (iZ : {z : Value × Nat // z.2 ≤ p.places.length}) => match iZ with | ⟨⟨u, r⟩, hr⟩ => p.places.length - r) ⟨(u, 0), Nat.zero_le _⟩ (Le.mk hB [0, 1, 2] ⟨rfl, rfl, rfl, rfl, rfl, rfl, rfl, rfl, rfl, rfl, trivial⟩ rfl (by dsimp only; rw [List.take_zero, List.map_nil, List.append_nil, Nat.add_zero]; rfl) (Nat.le_refl _)) ?_
    rintro ⟨⟨u, r⟩, hr⟩
    show VC _ _ _ _ ⟨[(7, .v u), (31, avI (r : Int))] ++ [(2, _), (3, _), (8, _), (19, _), (20, _), (21, _), (29, _), (30, _)], [boxProd g2 p 28, boxPan g3 n 32, .row u ((spotQ p n q).length + r) 5 (rowL (spotQ p n q ++ (p.places.take r).map (spotF p n q))) 41], 0⟩
    simp only at hr
    refine VC.sr ?_
    refine VO.val rfl rfl (OpV.lss rfl rfl rfl) ?_
    refine VO.nil ?_
    refine VC.seq ?_
    refine VC.cond rfl (fun aH2b => ?_) (fun aH2b => ?_)
    ·have aH2 := aH2b
     try simp only [qqT, qqF, qqN, qqM, qqL, qqE] at aH2
     refine VC.skip ?_
     refine VC.seq ?_
     refine VC.block ?_
     refine VC.sr ?_
     refine VO.val rfl rfl (OpV.indexAddr_E rfl Tryz.underlying26 Tryz.sizeOf50 rfl rfl rfl (by omega)) ?_
     refine VO.val rfl rfl (OpV.loadK_at rfl hB OutW.no Tryz.isAgg50 Tryz.sizeOf50 rfl rfl) ?_
     refine VO.op rfl (OpE.alloc rfl hB rfl Tryz.zeroValue50 rfl ?_)
     intro g11
     refine VO.op rfl (OpE.store (i := 3) rfl hB rfl Tryz.sizeOf50 rfl rfl rfl rfl rfl rfl (Nle rfl) trivial ?_)
     refine VO.nil ?_
     refine VC.region ?_
     refine VO.mv rfl rfl rfl rfl ?_
     refine VO.val rfl rfl (OpV.loadK_own (i := 0) rfl hB Tryz.isAgg28 Tryz.sizeOf28 rfl rfl rfl (fun h => h)) ?_
     refine VO.val rfl rfl (OpV.loadK_own (i := 1) rfl hB Tryz.isAgg32 Tryz.sizeOf32 rfl rfl rfl (fun h => h)) ?_
     refine VO.mv rfl rfl rfl rfl ?_
     refine VO.val rfl rfl (OpV.loadK_own (i := 3) rfl hB Tryz.isAgg50 Tryz.sizeOf50 rfl rfl rfl (fun h => h)) ?_
     refine VO.op rfl (OpE.call rfl hB rfl Tryz.call74 rfl (SpecN.spec (panel_spot (i := q) (c := p.places.getD r default) hok.wide hok.high (by omega) (hpn.all q (by omega)) (placeE_zero (hok.all r (by omega))))) ?_)
     rintro _ rfl
     refine VO.op rfl (OpE.buildSlice (zc := #[.int .i64 0, .string ⟨#[]⟩, .int .i64 0, .int .i64 0, .int .i64 0]) rfl hB rfl Tryz.underlying44 Tryz.sizeOf41 Tryz.zeroValue41 (by decide) (by decide) (by kernel_rfl) rfl rfl ?_)
     refine VO.op rfl (OpE.append1 (i := 2) rfl hB rfl Tryz.underlying44 (infoOf Tryz.t41 5 (by kernel_rfl) rfl rfl) rfl (by decide) (by decide) rfl rfl rfl rfl (rowL_snoc _ (spotF p n q (p.places.getD r default))) (by omega) (fun _ _ => trivial) ?_)
     intro u42
     refine VO.ma rfl rfl rfl rfl ?_
     refine VO.nil ?_
     refine VC.region ?_
     refine VO.val rfl rfl (OpV.add rfl rfl rfl (by unfold fits; omega)) ?_
     refine VO.mv rfl rfl rfl rfl ?_
     refine VO.nil ?_
     exact Exists.intro (⟨(u42, r + 1), by show r + 1 ≤ _; omega⟩) (And.intro (Le.mk hB [0, 1, 2] ⟨rfl, rfl, rfl, rfl, rfl, rfl, rfl, rfl, rfl, rfl, trivial⟩ rfl (by dsimp only; rw [place_snoc _ (show r < p.places.length by omega), ← List.append_assoc, ← Nat.add_assoc]; rfl) (Nat.le_refl _)) (by first | omega | (show _ < _; omega) | (simp only []; omega)))
    ·have aH2 := aH2b
     try simp only [qqT, qqF, qqN, qqM, qqL, qqE] at aH2
     obtain rfl : r = p.places.length := by omega
     have hre : p.places.take p.places.length = p.places := List.take_length
     rw [hre]
     refine VC.exit ?_
     refine VC.region ?_
     refine VO.val rfl rfl (OpV.add rfl rfl rfl (by unfold fits; omega)) ?_
     refine VO.mv rfl rfl rfl rfl ?_
     refine VO.nil ?_
     exact Exists.intro (⟨(u, q + 1), by show q + 1 ≤ _; omega⟩) (And.intro (Le.mk hB [0, 1, 2] ⟨rfl, rfl, rfl, rfl, rfl, rfl, trivial⟩ rfl (by dsimp only; first | (rw [spotQ_skip h2]; rfl) | (rw [spotQ_some h2, List.length_append, List.length_map]; rfl)) (Nat.le_refl _)) (by first | omega | (show _ < _; omega) | (simp only []; omega)))
  ·have aH1 := aH1b
   try simp only [qqT, qqF, qqN, qqM, qqL, qqE] at aH1
   refine VC.exit ?_
   refine VC.sr ?_
   refine VO.mv rfl rfl rfl rfl ?_
   refine VO.ma rfl rfl rfl rfl ?_
   refine VO.ma rfl rfl rfl rfl ?_
   refine VO.nil ?_
   refine VC.ret ?_
   exact Exists.intro _ (And.intro (RetN.two Tryz.results17 (ResN.rowT (i := 2) rfl rfl rfl (flat_spot _)) (ResN.v rfl)) (by rw [spotsR, if_pos h00, h00, show q = n.slots.length by omega]))
end Go.Proofs.YtceflkkgmmcieaaGreatDoor
namespace Go.Proofs.YtceflkkgmmcieaaGreatDoor
open Go.RowKit
set_option linter.unusedVariables false
set_option linter.unusedSimpArgs false

structure PaceS where
 product : ByteArray
 cycle : Int
 needs : List NeedS
instance : Inhabited PaceS := ⟨⟨ByteArray.empty, 0, []⟩⟩
instance : Sxc PaceS where
 k := 3
 pos := by decide
 cell m j := match j with
  | 0 => avS m.product
  | 1 => avI m.cycle
  | 2 => avL m.needs
  | _ => .any
structure OrdrS where
 key : ByteArray
 product : ByteArray
 count : Int
 ready : Int
 due : Int
instance : Inhabited OrdrS := ⟨⟨ByteArray.empty, ByteArray.empty, 0, 0, 0⟩⟩
instance : Sxc OrdrS where
 k := 5
 pos := by decide
 cell m j := match j with
  | 0 => avS m.key
  | 1 => avS m.product
  | 2 => avI m.count
  | 3 => avI m.ready
  | 4 => avI m.due
  | _ => .any
structure WinS where
 fr : Int
 to : Int
instance : Inhabited WinS := ⟨⟨0, 0⟩⟩
instance : Sxc WinS where
 k := 2
 pos := by decide
 cell m j := match j with
  | 0 => avI m.fr
  | 1 => avI m.to
  | _ => .any
abbrev avPc (x : PaceS) : AV := .agg [avS x.product, avI x.cycle, avL x.needs]
structure SmPc (p : List PaceS) : Prop where
 len : p.length ≤ 1000000
 prod : ∀ i, (p.getD i default).product.size ≤ 1000000
 nlen : ∀ i, (p.getD i default).needs.length ≤ 1000000
 nkey : ∀ i j, ((p.getD i default).needs.getD j default).key.size ≤ 1000000
structure SmOr (o : List OrdrS) : Prop where
 len : o.length ≤ 1000000
 key : ∀ i, (o.getD i default).key.size ≤ 1000000
 prod : ∀ i, (o.getD i default).product.size ≤ 1000000
def paceE (p : List PaceS) (i : Nat) : Int :=
 if keyF (p.getD i default).product = false then 5
 else if (decide (0 < i) && sLe (p.getD i default).product (p.getD (i - 1) default).product) = true then 7
 else if outR (p.getD i default).cycle 1 10000000 = true then 1
 else needsF (p.getD i default).needs 1 1000
def paceF (p : List PaceS) : Int := if 200 < p.length then 2 else firstE (paceE p) p.length
def ordrE (o : List OrdrS) (i : Nat) : Int :=
 if (keyF (o.getD i default).key && keyF (o.getD i default).product) = false then 5
 else if (outR (o.getD i default).count 1 100000 || (outR (o.getD i default).ready 0 345686399999 || outR (o.getD i default).due 0 345686399999)) = true then 1
 else if (decide (0 < i) && sLe (o.getD i default).key (o.getD (i - 1) default).key) = true then 7
 else 0
def ordrF (o : List OrdrS) : Int := if 200 < o.length then 2 else firstE (ordrE o) o.length
section
variable {p : List PaceS} {i : Nat}
theorem paceE_5 (h : keyF (p.getD i default).product = false) : paceE p i = 5 := by rw [paceE, if_pos h]
theorem paceE_7 (h : keyF (p.getD i default).product = true) (hi : 0 < i) (hs : sLe (p.getD i default).product (p.getD (i - 1) default).product = true) : paceE p i = 7 := by
 rw [paceE, if_neg (by rw [h]; simp), if_pos (by rw [hs, decide_eq_true hi]; rfl)]
theorem paceE_x (h : keyF (p.getD i default).product = true) (hs : i = 0 ∨ sLe (p.getD i default).product (p.getD (i - 1) default).product = false) :
  paceE p i = if outR (p.getD i default).cycle 1 10000000 = true then 1 else needsF (p.getD i default).needs 1 1000 := by
 rw [paceE, if_neg (by rw [h]; simp), if_neg]
 rcases hs with rfl | hs
 ·simp
 ·rw [hs]; simp
theorem paceE_1 (h : keyF (p.getD i default).product = true) (hs : i = 0 ∨ sLe (p.getD i default).product (p.getD (i - 1) default).product = false) (ho : outR (p.getD i default).cycle 1 10000000 = true) : paceE p i = 1 := by rw [paceE_x h hs, if_pos ho]
theorem paceE_n (h : keyF (p.getD i default).product = true) (hs : i = 0 ∨ sLe (p.getD i default).product (p.getD (i - 1) default).product = false) (ho : outR (p.getD i default).cycle 1 10000000 = false) : paceE p i = needsF (p.getD i default).needs 1 1000 := by rw [paceE_x h hs, if_neg (by rw [ho]; simp)]
theorem paceF_2 (h : 200 < p.length) : paceF p = 2 := by rw [paceF, if_pos h]
theorem paceF_at (h : p.length ≤ 200) {q : Nat} (hq : q < p.length) (hn : ∀ j, j < q → paceE p j = 0) {e : Int} (he : paceE p q = e) (h0 : e ≠ 0) : paceF p = e := by
 rw [paceF, if_neg (by omega), firstE_found hn (by rw [he]; exact h0) hq, he]
theorem paceF_ok (h : p.length ≤ 200) (hn : ∀ j, j < p.length → paceE p j = 0) : paceF p = 0 := by rw [paceF, if_neg (by omega), firstE_none hn]
end
section
variable {o : List OrdrS} {i : Nat}
theorem ordrE_5a (h : keyF (o.getD i default).key = false) : ordrE o i = 5 := by rw [ordrE, if_pos (by rw [h]; rfl)]
theorem ordrE_5b (h : keyF (o.getD i default).product = false) : ordrE o i = 5 := by rw [ordrE, if_pos (by rw [h, Bool.and_false])]
theorem ordrE_1 (h1 : keyF (o.getD i default).key = true) (h2 : keyF (o.getD i default).product = true) (ho : (outR (o.getD i default).count 1 100000 || (outR (o.getD i default).ready 0 345686399999 || outR (o.getD i default).due 0 345686399999)) = true) : ordrE o i = 1 := by
 rw [ordrE, if_neg (by rw [h1, h2]; simp), if_pos ho]
theorem ordrE_7 (h1 : keyF (o.getD i default).key = true) (h2 : keyF (o.getD i default).product = true) (ho : (outR (o.getD i default).count 1 100000 || (outR (o.getD i default).ready 0 345686399999 || outR (o.getD i default).due 0 345686399999)) = false) (hi : 0 < i) (hs : sLe (o.getD i default).key (o.getD (i - 1) default).key = true) : ordrE o i = 7 := by
 rw [ordrE, if_neg (by rw [h1, h2]; simp), if_neg (by rw [ho]; simp), if_pos (by rw [hs, decide_eq_true hi]; rfl)]
theorem ordrE_0 (h1 : keyF (o.getD i default).key = true) (h2 : keyF (o.getD i default).product = true) (ho : (outR (o.getD i default).count 1 100000 || (outR (o.getD i default).ready 0 345686399999 || outR (o.getD i default).due 0 345686399999)) = false) (hs : i = 0 ∨ sLe (o.getD i default).key (o.getD (i - 1) default).key = false) : ordrE o i = 0 := by
 rw [ordrE, if_neg (by rw [h1, h2]; simp), if_neg (by rw [ho]; simp), if_neg]
 rcases hs with rfl | hs
 ·simp
 ·rw [hs]; simp
theorem ordrF_2 (h : 200 < o.length) : ordrF o = 2 := by rw [ordrF, if_pos h]
theorem ordrF_at (h : o.length ≤ 200) {q : Nat} (hq : q < o.length) (hn : ∀ j, j < q → ordrE o j = 0) {e : Int} (he : ordrE o q = e) (h0 : e ≠ 0) : ordrF o = e := by
 rw [ordrF, if_neg (by omega), firstE_found hn (by rw [he]; exact h0) hq, he]
theorem ordrF_ok (h : o.length ≤ 200) (hn : ∀ j, j < o.length → ordrE o j = 0) : ordrF o = 0 := by rw [ordrF, if_neg (by omega), firstE_none hn]
end
def hasP (p : List PaceS) (k : ByteArray) : Bool := p.any fun x => sEq x.product k
def paceO (p : List PaceS) (k : ByteArray) : PaceS := (p.find? fun x => sEq x.product k).getD default
def bothF (p : List PaceS) (o : List OrdrS) : Int :=
 if paceF p ≠ 0 then paceF p else if ordrF o ≠ 0 then ordrF o else if o.all (fun x => hasP p x.product) = true then 0 else 8
theorem bothF_1 {p : List PaceS} {o : List OrdrS} (h : paceF p ≠ 0) : bothF p o = paceF p := by rw [bothF, if_pos h]
theorem bothF_2 {p : List PaceS} {o : List OrdrS} (h : paceF p = 0) (h2 : ordrF o ≠ 0) : bothF p o = ordrF o := by rw [bothF, if_neg (by omega), if_pos h2]
theorem bothF_3 {p : List PaceS} {o : List OrdrS} (h : paceF p = 0) (h2 : ordrF o = 0) : bothF p o = if o.all (fun x => hasP p x.product) = true then 0 else 8 := by rw [bothF, if_neg (by omega), if_neg (by omega)]
theorem bothF_0 {p : List PaceS} {o : List OrdrS} (h : bothF p o = 0) : paceF p = 0 ∧ ordrF o = 0 ∧ o.all (fun x => hasP p x.product) = true := by
 unfold bothF at h
 split at h
 ·contradiction
 ·split at h
  ·contradiction
  ·split at h
   ·rename_i h1 h2 h3; exact ⟨by simpa using h1, by simpa using h2, h3⟩
   ·cases h
structure PacesOk (p : List PaceS) : Prop where
 len : p.length ≤ 200
 all : ∀ j, j < p.length → paceE p j = 0
theorem pacesOk {p : List PaceS} (h : paceF p = 0) : PacesOk p := by
 unfold paceF at h
 split at h
 ·cases h
 ·exact ⟨by omega, firstE_zero h⟩
structure OrdrsOk (o : List OrdrS) : Prop where
 len : o.length ≤ 200
 all : ∀ j, j < o.length → ordrE o j = 0
theorem ordrsOk {o : List OrdrS} (h : ordrF o = 0) : OrdrsOk o := by
 unfold ordrF at h
 split at h
 ·cases h
 ·exact ⟨by omega, firstE_zero h⟩
theorem paceE_zero {p : List PaceS} {i : Nat} (h : paceE p i = 0) : keyF (p.getD i default).product = true ∧ (0 < i → sLe (p.getD i default).product (p.getD (i - 1) default).product = false) ∧ (1 ≤ (p.getD i default).cycle ∧ (p.getD i default).cycle ≤ 10000000) ∧ needsF (p.getD i default).needs 1 1000 = 0 := by
 unfold paceE at h
 split at h
 ·cases h
 ·rename_i h1
  split at h
  ·cases h
  ·rename_i h2
   split at h
   ·cases h
   ·rename_i h3
    refine ⟨by simpa using h1, fun hi => ?_, ?_, h⟩
    ·rw [decide_eq_true hi, Bool.true_and] at h2
     simpa using h2
    ·simp only [outR, Bool.or_eq_true, decide_eq_true_eq, not_or] at h3
     omega
theorem ordrE_zero {o : List OrdrS} {i : Nat} (h : ordrE o i = 0) : (keyF (o.getD i default).key = true ∧ keyF (o.getD i default).product = true) ∧ (0 < i → sLe (o.getD i default).key (o.getD (i - 1) default).key = false) ∧ (1 ≤ (o.getD i default).count ∧ (o.getD i default).count ≤ 100000) ∧ (0 ≤ (o.getD i default).ready ∧ (o.getD i default).ready ≤ 345686399999) ∧ (0 ≤ (o.getD i default).due ∧ (o.getD i default).due ≤ 345686399999) := by
 unfold ordrE at h
 split at h
 ·cases h
 ·rename_i h1
  split at h
  ·cases h
  ·rename_i h2
   split at h
   ·cases h
   ·rename_i h3
    have h1' : (keyF (o.getD i default).key && keyF (o.getD i default).product) = true := by simpa using h1
    rw [Bool.and_eq_true] at h1'
    simp only [outR, Bool.or_eq_true, decide_eq_true_eq, not_or] at h2
    refine ⟨h1', fun hi => ?_, by omega, by omega, by omega⟩
    rw [decide_eq_true hi, Bool.true_and] at h3
    simpa using h3
def chgN (a b : List NeedS) (q : Nat) : Nat := ((b.take q).filter fun x => !(a.any fun y => sEq y.key x.key)).length
theorem chgN_le (a b : List NeedS) (q : Nat) : chgN a b q ≤ b.length := by
 unfold chgN
 have := List.length_filter_le (fun x => !(a.any fun y => sEq y.key x.key)) (b.take q)
 rw [List.length_take] at this
 omega
theorem chgN_t {a b : List NeedS} {q : Nat} (h : q < b.length) (hx : a.any (fun y => sEq y.key (b.getD q default).key) = false) : chgN a b (q + 1) = chgN a b q + 1 := by
 unfold chgN
 rw [List.take_add_one, List.getElem?_eq_getElem h, List.filter_append, List.length_append]
 have : b.getD q default = b[q] := by rw [List.getD_eq_getElem?_getD, List.getElem?_eq_getElem h]; rfl
 rw [this] at hx
 simp [hx]
theorem chgN_f {a b : List NeedS} {q : Nat} (h : q < b.length) (hx : a.any (fun y => sEq y.key (b.getD q default).key) = true) : chgN a b (q + 1) = chgN a b q := by
 unfold chgN
 rw [List.take_add_one, List.getElem?_eq_getElem h, List.filter_append, List.length_append]
 have : b.getD q default = b[q] := by rw [List.getD_eq_getElem?_getD, List.getElem?_eq_getElem h]; rfl
 rw [this] at hx
 simp [hx]
def chgI (a b : PaceS) (each : Int) : Int := each * (chgN a.needs b.needs b.needs.length : Int)
def schF (n : Nat) (l : List Int) : Int := if l.length = n ∧ l.Nodup ∧ (∀ x ∈ l, 0 ≤ x ∧ x < n) then 0 else 3
def startF (start each : Int) : Int := if (outR start 0 345686399999 || outR each 0 10000000) = true then 1 else 0
def scheF (p : List PaceS) (o : List OrdrS) (l : List Int) (start each : Int) : Int :=
 if bothF p o ≠ 0 then bothF p o else if schF o.length l ≠ 0 then schF o.length l else startF start each
def longO (p : List PaceS) (x : OrdrS) : Int := (paceO p x.product).cycle * x.count
def turnO (p : List PaceS) (each : Int) (x y : OrdrS) : Int := chgI (paceO p x.product) (paceO p y.product) each
structure ResS where
 late : Int
 many : Int
 en : Int
section
variable (p : List PaceS) (o : List OrdrS) (l : List Int) (start each : Int)
abbrev orA (i : Int) : OrdrS := o.getD i.toNat default
def endP : Nat → Int
 | 0 => max start (orA o (l.getD 0 0)).ready + longO p (orA o (l.getD 0 0))
 | q + 1 => max (endP q + turnO p each (orA o (l.getD q 0)) (orA o (l.getD (q + 1) 0))) (orA o (l.getD (q + 1) 0)).ready + longO p (orA o (l.getD (q + 1) 0))
def fromP : Nat → Int
 | 0 => max start (orA o (l.getD 0 0)).ready
 | q + 1 => max (endP p o l start each q + turnO p each (orA o (l.getD q 0)) (orA o (l.getD (q + 1) 0))) (orA o (l.getD (q + 1) 0)).ready
def winP (q : Nat) : WinS := ⟨fromP p o l start each q, endP p o l start each q⟩
theorem endP_from (q : Nat) : endP p o l start each q = fromP p o l start each q + longO p (orA o (l.getD q 0)) := by cases q <;> rfl
def resP : Nat → ResS
 | 0 => ⟨0, 0, start⟩
 | q + 1 => if (orA o (l.getD q 0)).due < endP p o l start each q
   then ⟨(resP q).late + (endP p o l start each q - (orA o (l.getD q 0)).due), (resP q).many + 1, endP p o l start each q⟩
   else ⟨(resP q).late, (resP q).many, endP p o l start each q⟩
theorem resP_en (q : Nat) : (resP p o l start each (q + 1)).en = endP p o l start each q := by rw [resP]; split <;> rfl
def timesQ : Nat → List WinS
 | 0 => List.replicate o.length default
 | q + 1 => (timesQ q).set (l.getD q 0).toNat (winP p o l start each q)
theorem timesQ_len (q : Nat) : (timesQ p o l start each q).length = o.length := by
 induction q with
 | zero => simp [timesQ]
 | succ q ih => simp [timesQ, ih]
end
end Go.Proofs.YtceflkkgmmcieaaGreatDoor
namespace Go.Proofs.YtceflkkgmmcieaaGreatDoor
open Go.RowKit
set_option linter.unusedVariables false
set_option linter.unusedSimpArgs false
structure Ord (n : Nat) (o : List Int) : Prop where
 nd : o.Nodup
 lt : ∀ x ∈ o, 0 ≤ x ∧ x < n
theorem Ord.nil (n : Nat) : Ord n [] := ⟨List.nodup_nil, fun x h => by simp at h⟩
theorem Ord.snoc {n : Nat} {o : List Int} (h : Ord n o) {q : Nat} (hq : q < n) (hn : (q : Int) ∉ o) : Ord n (o ++ [(q : Int)]) := by
 refine ⟨?_, fun x hx => ?_⟩
 ·rw [List.nodup_append]
  exact ⟨h.nd, by simp, fun a ha b hb => by simp at hb; subst hb; exact fun e => hn (e ▸ ha)⟩
 ·rcases List.mem_append.1 hx with hx | hx
  ·exact h.lt x hx
  ·simp at hx; subst hx; omega
section
variable {τ : Type} (n : Nat) (step : τ → List Int → τ)
def ext : Nat → List Int → τ → τ
 | 0, o, s => step s o
 | d + 1, o, s => (List.range n).foldl (fun (s : τ) (i : Nat) => if (i : Int) ∈ o then s else ext d (o ++ [(i : Int)]) s) s
variable {n step}
end
def usedL (n : Nat) (o : List Int) : List AV := (List.range n).map fun (i : Nat) => avB (decide ((i : Int) ∈ o))
theorem usedL_len (n : Nat) (o : List Int) : (usedL n o).length = n := by simp [usedL]
theorem usedL_get {n : Nat} {o : List Int} {q : Nat} (h : q < n) : (usedL n o)[q]? = some (avB (decide ((q : Int) ∈ o))) := by simp [usedL, h]
theorem usedL_nil (n : Nat) : usedL n [] = List.replicate n (avB false) := by
 apply List.ext_getElem (by simp [usedL])
 intro i h1 h2
 simp [usedL]
theorem usedL_set {n : Nat} {o : List Int} {q : Nat} (h : q < n) : (usedL n o).set q (avB true) = usedL n (o ++ [(q : Int)]) := by
 apply List.ext_getElem (by simp [usedL])
 intro i h1 h2
 rw [List.getElem_set]
 by_cases e : q = i
 ·subst e; simp [usedL]
 ·rw [if_neg e]
  have : ¬ ((i : Int) = (q : Int)) := by omega
  simp [usedL, this]
theorem usedL_make {n m : Nat} (hm : m = n) : (madeCells (Value.bool false).cells (m * 1)).toList.map AV.v = usedL n [] := by
 subst hm
 rw [usedL_nil, Nat.mul_one, show (Value.bool false).cells = #[.bool false] from rfl, toList_madeCells_one]
 simp
end Go.Proofs.YtceflkkgmmcieaaGreatDoor
namespace Go.Proofs.YtceflkkgmmcieaaGreatDoor
open Go.RowKit
set_option linter.unusedVariables false
set_option linter.unusedSimpArgs false
theorem pace_rise {p : List PaceS} (h : PacesOk p) : RiseK PaceS.product p := fun j h0 hj => (paceE_zero (h.all j hj)).2.1 h0
theorem needsF_lenP {l : List NeedS} {lo hi : Int} (h : needsF l lo hi = 0) : l.length ≤ 1000 := by
 unfold needsF at h
 split at h
 ·cases h
 ·omega
theorem paceO_in {p : List PaceS} {k : ByteArray} (h : hasP p k = true) : ∃ j, j < p.length ∧ paceO p k = p.getD j default := by
 unfold hasP at h
 cases hf : p.find? (fun x => sEq x.product k) with
 | none => rw [List.find?_eq_none] at hf; obtain ⟨x, hx, he⟩ := List.any_eq_true.1 h; exact absurd he (hf x hx)
 | some x =>
  obtain ⟨j, hj, e⟩ := List.getElem_of_mem (List.mem_of_find?_eq_some hf)
  refine ⟨j, hj, ?_⟩
  rw [paceO, hf, List.getD_eq_getElem?_getD, List.getElem?_eq_getElem hj, e]
theorem paceO_ok {p : List PaceS} (hp : PacesOk p) {k : ByteArray} (h : hasP p k = true) : (1 ≤ (paceO p k).cycle ∧ (paceO p k).cycle ≤ 10000000) ∧ (paceO p k).needs.length ≤ 1000 := by
 obtain ⟨j, hj, e⟩ := paceO_in h
 rw [e]
 have := paceE_zero (hp.all j hj)
 exact ⟨this.2.2.1, needsF_lenP this.2.2.2⟩
theorem paceO_sm {p : List PaceS} (hp : SmPc p) (k : ByteArray) : (paceO p k).needs.length ≤ 1000000 ∧ ∀ j, ((paceO p k).needs.getD j default).key.size ≤ 1000000 := by
 by_cases h : hasP p k = true
 ·obtain ⟨j, _, e⟩ := paceO_in h
  rw [e]; exact ⟨hp.nlen j, hp.nkey j⟩
 ·have : paceO p k = default := by
   unfold paceO
   exact find_none' (by simpa [hasP] using h)
  rw [this]
  exact ⟨by simp [default], fun j => by simp [default]⟩
theorem mul_bd {a b A B : Int} (h0 : 0 ≤ a) (h1 : a ≤ A) (h2 : 0 ≤ b) (h3 : b ≤ B) : 0 ≤ a * b ∧ a * b ≤ A * B :=
 ⟨Int.mul_nonneg h0 h2, Int.le_trans (Int.mul_le_mul_of_nonneg_right h1 h2) (Int.mul_le_mul_of_nonneg_left h3 (Int.le_trans h0 h1))⟩
structure SchOk (p : List PaceS) (o : List OrdrS) (l : List Int) (start each : Int) : Prop where
 pok : PacesOk p
 ook : OrdrsOk o
 has : ∀ j, j < o.length → hasP p (o.getD j default).product = true
 len : l.length = o.length
 ord : Ord o.length l
 st : 0 ≤ start ∧ start ≤ 345686399999
 ea : 0 ≤ each ∧ each ≤ 10000000
theorem bothF_has {p : List PaceS} {o : List OrdrS} (h : bothF p o = 0) : ∀ j, j < o.length → hasP p (o.getD j default).product = true := fun j hj => by
 have := List.all_eq_true.1 (bothF_0 h).2.2 (o[j]) (List.getElem_mem hj)
 rwa [List.getD_eq_getElem?_getD, List.getElem?_eq_getElem hj]
theorem schF_0 {n : Nat} {l : List Int} (h : schF n l = 0) : l.length = n ∧ Ord n l := by
 unfold schF at h
 split at h
 ·rename_i h1; exact ⟨h1.1, h1.2.1, h1.2.2⟩
 ·cases h
theorem startF_0 {s e : Int} (h : startF s e = 0) : (0 ≤ s ∧ s ≤ 345686399999) ∧ (0 ≤ e ∧ e ≤ 10000000) := by
 unfold startF at h
 split at h
 ·cases h
 ·rename_i h1
  simp only [outR, Bool.or_eq_true, decide_eq_true_eq, not_or] at h1
  omega
theorem schOk {p : List PaceS} {o : List OrdrS} {l : List Int} {s e : Int} (h : scheF p o l s e = 0) : SchOk p o l s e := by
 unfold scheF at h
 split at h
 ·contradiction
 ·split at h
  ·contradiction
  ·rename_i h1 h2
   have h1' : bothF p o = 0 := by simpa using h1
   have h2' : schF o.length l = 0 := by simpa using h2
   have h3 := bothF_0 h1'
   have h4 := startF_0 h
   exact ⟨pacesOk h3.1, ordrsOk h3.2.1, bothF_has h1', (schF_0 h2').1, (schF_0 h2').2, h4.1, h4.2⟩
section
variable {p : List PaceS} {o : List OrdrS} {l : List Int} {start each : Int} (h : SchOk p o l start each)
include h
theorem SchOk.at_ {q : Nat} (hq : q < l.length) : 0 ≤ l.getD q 0 ∧ (l.getD q 0).toNat < o.length := by
 have := h.ord.lt (l[q]) (List.getElem_mem hq)
 rw [List.getD_eq_getElem?_getD, List.getElem?_eq_getElem hq]
 simp only [Option.getD_some]
 omega
theorem SchOk.long {i : Nat} (hi : i < o.length) : 0 ≤ longO p (o.getD i default) ∧ longO p (o.getD i default) ≤ 1000000000000 := by
 have h1 := (paceO_ok h.pok (h.has i hi)).1
 have h2 := (ordrE_zero (h.ook.all i hi)).2.2.1
 have := mul_bd (by omega : 0 ≤ (paceO p (o.getD i default).product).cycle) h1.2 (by omega : 0 ≤ (o.getD i default).count) h2.2
 unfold longO
 omega
theorem SchOk.turn {i j : Nat} (hj : j < o.length) : 0 ≤ turnO p each (o.getD i default) (o.getD j default) ∧ turnO p each (o.getD i default) (o.getD j default) ≤ 10000000000 := by
 have h1 := (paceO_ok h.pok (h.has j hj)).2
 have h2 := chgN_le (paceO p (o.getD i default).product).needs (paceO p (o.getD j default).product).needs (paceO p (o.getD j default).product).needs.length
 have := mul_bd h.ea.1 h.ea.2 (by omega : (0 : Int) ≤ (chgN (paceO p (o.getD i default).product).needs (paceO p (o.getD j default).product).needs (paceO p (o.getD j default).product).needs.length : Int)) (by omega : _ ≤ (1000 : Int))
 unfold turnO chgI
 omega
theorem SchOk.bd : ∀ q, q < l.length → (0 ≤ fromP p o l start each q ∧ fromP p o l start each q ≤ endP p o l start each q) ∧ endP p o l start each q ≤ 345686400000 + (q + 1) * 1010000000000
 | 0, hq => by
  have h1 := h.at_ hq
  have h2 := h.long h1.2
  have h3 := (ordrE_zero (h.ook.all _ h1.2)).2.2.2.1
  have h4 := h.st
  simp only [fromP, endP, orA]
  omega
 | q + 1, hq => by
  have h1 := h.at_ hq
  have h2 := h.long h1.2
  have h3 := (ordrE_zero (h.ook.all _ h1.2)).2.2.2.1
  have h5 := SchOk.bd q (by omega)
  have h6 := h.turn (i := (l.getD q 0).toNat) h1.2
  simp only [fromP, endP, orA]
  omega
theorem SchOk.res : ∀ q, q ≤ l.length → (0 ≤ (resP p o l start each q).late ∧ (resP p o l start each q).late ≤ q * 300000000000000) ∧ (0 ≤ (resP p o l start each q).many ∧ (resP p o l start each q).many ≤ q) ∧ (0 ≤ (resP p o l start each q).en ∧ (resP p o l start each q).en ≤ 300000000000000)
 | 0, hq => by
  have h4 := h.st
  simp only [resP]
  omega
 | q + 1, hq => by
  have h1 := h.at_ (q := q) (by omega)
  have h3 := (ordrE_zero (h.ook.all _ h1.2)).2.2.2.2
  have h5 := h.bd q (by omega)
  have h6 := SchOk.res q (by omega)
  have h7 := h.ook.len
  have h8 := h.len
  simp only [resP, orA]
  split
  ·rename_i hd
   simp only
   omega
  ·simp only
   omega
end
def schC (p : List PaceS) (o : List OrdrS) (each : Int) : Nat → AV
 | 0 => avL o
 | 1 => avInts (o.map (longO p))
 | _ => avM (o.map fun x => o.map (turnO p each x))
def schAV (p : List PaceS) (o : List OrdrS) (l : List Int) (start each : Int) : AV := if scheF p o l start each = 0 then .at_ 3 (schC p o each) else .v (.pointer none)
def timesR (p : List PaceS) (o : List OrdrS) (l : List Int) (start each : Int) : List WinS := if scheF p o l start each = 0 then timesQ p o l start each l.length else []
theorem scheF_1 {p : List PaceS} {o : List OrdrS} {l : List Int} {s e : Int} (h : bothF p o ≠ 0) : scheF p o l s e = bothF p o := by rw [scheF, if_pos h]
theorem scheF_2 {p : List PaceS} {o : List OrdrS} {l : List Int} {s e : Int} (h : bothF p o = 0) (h2 : schF o.length l ≠ 0) : scheF p o l s e = schF o.length l := by rw [scheF, if_neg (by omega), if_pos h2]
theorem scheF_3 {p : List PaceS} {o : List OrdrS} {l : List Int} {s e : Int} (h : bothF p o = 0) (h2 : schF o.length l = 0) : scheF p o l s e = startF s e := by rw [scheF, if_neg (by omega), if_neg (by omega)]
theorem schAV_no {p : List PaceS} {o : List OrdrS} {l : List Int} {s e : Int} (h : scheF p o l s e ≠ 0) : schAV p o l s e = .v (.pointer none) := by rw [schAV, if_neg h]
theorem schAV_ok {p : List PaceS} {o : List OrdrS} {l : List Int} {s e : Int} (h : scheF p o l s e = 0) : schAV p o l s e = .at_ 3 (schC p o e) := by rw [schAV, if_pos h]
theorem resP_t {p : List PaceS} {o : List OrdrS} {l : List Int} {s e : Int} {q : Nat} (h : (orA o (l.getD q 0)).due < endP p o l s e q) : resP p o l s e (q + 1) = ⟨(resP p o l s e q).late + (endP p o l s e q - (orA o (l.getD q 0)).due), (resP p o l s e q).many + 1, endP p o l s e q⟩ := by rw [resP, if_pos h]
theorem resP_f {p : List PaceS} {o : List OrdrS} {l : List Int} {s e : Int} {q : Nat} (h : ¬ (orA o (l.getD q 0)).due < endP p o l s e q) : resP p o l s e (q + 1) = ⟨(resP p o l s e q).late, (resP p o l s e q).many, endP p o l s e q⟩ := by rw [resP, if_neg h]
theorem map_getD {α β : Type} (f : α → β) {l : List α} {i : Nat} (h : i < l.length) (d : α) (e : β) : (l.map f).getD i e = f (l.getD i d) := by
 simp [List.getD_eq_getElem?_getD, h]
def runA {τ : Type} (step : τ → Int → WinS → τ) (p : List PaceS) (o : List OrdrS) (l : List Int) (start each : Int) (a : τ) : Nat → τ
 | 0 => a
 | q + 1 => step (runA step p o l start each a q) (l.getD q 0) (winP p o l start each q)
theorem runA_times (p : List PaceS) (o : List OrdrS) (l : List Int) (start each : Int) : ∀ q, runA (fun (a : List WinS) i w => a.set i.toNat w) p o l start each (List.replicate o.length default) q = timesQ p o l start each q
 | 0 => rfl
 | q + 1 => by rw [runA, runA_times p o l start each q]; rfl
def DoesW (n : Nat) {τ : Type} (K : τ → List Ent → Prop) (step : τ → Int → WinS → τ) (P : Program) (F : FuncId) (caps : Array Value) : Prop :=
 ∀ (i : Int) (w : WinS) (a : τ) (h : List Ent), 0 ≤ i → i.toNat < n → K a h →
  SpecH P F ([avI i, .agg [avI w.fr, avI w.to]] ++ caps.toList.map .v) h (fun y hp' => K (step a i w) hp')
theorem map_snoc {α β : Type} {l : List α} {q : Nat} (f : α → β) (h : q < l.length) (d : α) : (l.take (q + 1)).map f = (l.take q).map f ++ [f (l.getD q d)] := by
 rw [List.take_add_one, List.map_append, List.getD_eq_getElem?_getD, List.getElem?_eq_getElem h]; rfl
theorem Ord.take {n : Nat} {l : List Int} {q : Nat} (h : Ord n (l.take q)) (hq : q < l.length) (h0 : 0 ≤ l.getD q 0) (h1 : (l.getD q 0).toNat < n) (h2 : l.getD q 0 ∉ l.take q) : Ord n (l.take (q + 1)) := by
 have := h.snoc h1 (by rwa [Int.toNat_of_nonneg h0])
 rw [Int.toNat_of_nonneg h0] at this
 rw [List.take_add_one, List.getElem?_eq_getElem hq]
 rwa [List.getD_eq_getElem?_getD, List.getElem?_eq_getElem hq] at this
theorem schF_len {n : Nat} {l : List Int} (h : l.length ≠ n) : schF n l = 3 := by rw [schF, if_neg fun e => h e.1]
theorem schF_out {n : Nat} {l : List Int} {q : Nat} (hq : q < l.length) (h : l.getD q 0 < 0 ∨ (n : Int) ≤ l.getD q 0) : schF n l = 3 := by
 rw [schF, if_neg fun e => ?_]
 have := e.2.2 (l[q]) (List.getElem_mem hq)
 rw [List.getD_eq_getElem?_getD, List.getElem?_eq_getElem hq] at h
 simp only [Option.getD_some] at h
 omega
theorem schF_twice {n : Nat} {l : List Int} {q : Nat} (hq : q < l.length) (h : l.getD q 0 ∈ l.take q) : schF n l = 3 := by
 rw [schF, if_neg fun e => ?_]
 rw [List.getD_eq_getElem?_getD, List.getElem?_eq_getElem hq] at h
 simp only [Option.getD_some] at h
 obtain ⟨i, hi, he⟩ := List.getElem_of_mem h
 simp at hi
 rw [List.getElem_take] at he
 have := List.pairwise_iff_getElem.1 e.2.1 i q (by omega) hq (by omega)
 exact this he
theorem schF_ok {n : Nat} {l : List Int} (hl : l.length = n) (h : Ord n l) : schF n l = 0 := by rw [schF, if_pos ⟨hl, h.nd, h.lt⟩]
theorem usedL_take {n : Nat} {l : List Int} {q : Nat} (hq : q < l.length) (h0 : 0 ≤ l.getD q 0) (h1 : (l.getD q 0).toNat < n) : (usedL n (l.take q)).set (l.getD q 0).toNat (avB true) = usedL n (l.take (q + 1)) := by
 rw [usedL_set h1, Int.toNat_of_nonneg h0, List.take_add_one, List.getElem?_eq_getElem hq]
 rw [List.getD_eq_getElem?_getD, List.getElem?_eq_getElem hq]
 rfl
end Go.Proofs.YtceflkkgmmcieaaGreatDoor
namespace Go.Proofs.YtceflkkgmmcieaaGreatDoor
open Go.RowKit
set_option linter.unusedVariables false
set_option linter.unusedSimpArgs false
set_option maxRecDepth 100000 in
theorem slices_Index_str {xs : List ByteArray} {v : ByteArray} (hl : xs.length ≤ 1000000000) :
  SpecN Tryz.prog 99 [avStrs xs, avS v] (fun y => y = avI (fidx (fun x => sEq v x) xs)) := by
 refine SpecN.of_VCN Tryz.func99 rfl Tryz.ntmps99 (Nle rfl) fun w A hB => ?_
 have hnew : True := trivial
 refine VC.sr ?_
 refine VO.ma rfl rfl rfl rfl ?_
 refine VO.nil ?_
 refine VC.seq ?_
 refine VC.sr ?_
 refine VO.mv rfl rfl rfl rfl ?_
 refine VO.val rfl rfl (OpV.len_im rfl Tryz.underlying81 rfl) ?_
 refine VO.mv rfl rfl rfl rfl ?_
 refine VO.nil ?_
 refine VC.block ?_
 refine VC.loopK [] trivial ({q : Nat // q ≤ xs.length ∧ ∀ j, j < q → sEq v (xs.getD j ByteArray.empty) = false}) (fun (iZ : {q : Nat // q ≤ xs.length ∧ ∀ j, j < q → sEq v (xs.getD j ByteArray.empty) = false}) => match iZ with | ⟨q, hq, hn⟩ => [(0, avStrs xs), (1, avS v), (6, avStrs xs), (7, avI xs.length), (8, avI (q : Int))]) (fun (iZ : {q : Nat // q ≤ xs.length ∧ ∀ j, j < q → sEq v (xs.getD j ByteArray.empty) = false}) => match iZ with | ⟨q, hq, hn⟩ => []) (fun (iZ : {q : Nat // q ≤ xs.length ∧ ∀ j, j < q → sEq v (xs.getD j ByteArray.empty) = false}) => match iZ with | ⟨q, hq, hn⟩ => 0) (fun (iZ : {q : Nat // q ≤ xs.length ∧ ∀ j, j < q → sEq v (xs.getD j ByteArray.empty) = false}) => match iZ with | ⟨q, hq, hn⟩ => xs.length - q) ⟨0, Nat.zero_le _, fun j hj => absurd hj (Nat.not_lt_zero j)⟩ (Le.mk hB [] ⟨rfl, rfl, rfl, rfl, rfl, trivial⟩ rfl rfl (Nat.le_refl _)) ?_
 rintro ⟨q, hq, hn⟩
 show VC _ _ _ _ ⟨[(0, avStrs xs), (1, avS v), (6, avStrs xs), (7, avI xs.length), (8, avI (q : Int))] ++ [], [], 0⟩
 refine VC.sr ?_
 refine VO.val rfl rfl (OpV.lss rfl rfl rfl) ?_
 refine VO.nil ?_
 refine VC.seq ?_
 refine VC.cond rfl (fun aH1b => ?_) (fun aH1b => ?_)
 ·have aH1 := aH1b
  try simp only [qqT, qqF, qqN, qqM, qqL, qqE] at aH1
  refine VC.skip ?_
  refine VC.seq ?_
  refine VC.block ?_
  refine VC.sr ?_
  refine VO.mv rfl rfl rfl rfl ?_
  refine VO.ma rfl rfl rfl rfl ?_
  refine VO.nil ?_
  refine VC.sr ?_
  refine VO.mv rfl rfl rfl rfl ?_
  refine VO.mv rfl rfl rfl rfl ?_
  refine VO.mv rfl rfl rfl rfl ?_
  refine VO.val rfl rfl (OpV.indexAddr_1 rfl Tryz.underlying81 Tryz.sizeOf9 rfl rfl rfl (by omega)) ?_
  refine VO.val rfl rfl (OpV.load_at rfl hB OutW.no Tryz.isAgg9 rfl rfl) ?_
  refine VO.val rfl rfl (OpV.seql rfl rfl rfl) ?_
  refine VO.nil ?_
  refine VC.cond rfl (fun aH2b => ?_) (fun aH2b => ?_)
  ·have aH2 := aH2b
   try simp only [qqT, qqF, qqN, qqM, qqL, qqE] at aH2
   refine VC.sr ?_
   refine VO.mv rfl rfl rfl rfl ?_
   refine VO.ma rfl rfl rfl rfl ?_
   refine VO.nil ?_
   refine VC.ret ?_
   exact Exists.intro _ (And.intro (RetN.one Tryz.results99 (ResN.v rfl)) (by first | (rw [fidx_found (d := ByteArray.empty) (q := q) (by omega) hn (by assumption)]) | (rw [fidx_none (d := ByteArray.empty) (fun j hj => hn j (by omega))])))
  ·have aH2 := aH2b
   try simp only [qqT, qqF, qqN, qqM, qqL, qqE] at aH2
   refine VC.skip ?_
   refine VC.region ?_
   refine VO.val rfl rfl (OpV.add rfl rfl rfl (by unfold fits; omega)) ?_
   refine VO.mv rfl rfl rfl rfl ?_
   refine VO.nil ?_
   exact Exists.intro (⟨q + 1, by omega, lt_succ_cases hn (by assumption)⟩) (And.intro (Le.mk hB [] ⟨rfl, rfl, rfl, rfl, rfl, trivial⟩ rfl rfl (Nat.le_refl _)) (by first | omega | (show _ < _; omega) | (simp only []; omega)))
 ·have aH1 := aH1b
  try simp only [qqT, qqF, qqN, qqM, qqL, qqE] at aH1
  refine VC.exit ?_
  refine VC.sr ?_
  refine VO.ma rfl rfl rfl rfl ?_
  refine VO.nil ?_
  refine VC.ret ?_
  exact Exists.intro _ (And.intro (RetN.one Tryz.results99 (ResN.v rfl)) (by first | (rw [fidx_found (d := ByteArray.empty) (q := q) (by omega) hn (by assumption)]) | (rw [fidx_none (d := ByteArray.empty) (fun j hj => hn j (by omega))])))
set_option maxRecDepth 100000 in
theorem slices_Contains_str {xs : List ByteArray} {v : ByteArray} (hl : xs.length ≤ 1000000000) :
  SpecN Tryz.prog 46 [avStrs xs, avS v] (fun y => y = avB (xs.any fun x => sEq v x)) := by
 refine SpecN.of_VCN Tryz.func46 rfl Tryz.ntmps46 (Nle rfl) fun w A hB => ?_
 have hnew : True := trivial
 refine VC.sr ?_
 refine VO.ma rfl rfl rfl rfl ?_
 refine VO.nil ?_
 refine VC.sr ?_
 refine VO.mv rfl rfl rfl rfl ?_
 refine VO.mv rfl rfl rfl rfl ?_
 refine VO.op rfl (OpE.call rfl hB rfl Tryz.call99 rfl (SpecN.spec ((slices_Index_str (by omega)))) ?_)
 rintro _ rfl
 refine VO.val rfl rfl (OpV.geq rfl rfl rfl) ?_
 refine VO.ma rfl rfl rfl rfl ?_
 refine VO.nil ?_
 refine VC.ret ?_
 exact Exists.intro _ (And.intro (RetN.one Tryz.results46 (ResN.v rfl)) (by rw [← fidx_any]))
set_option maxRecDepth 100000 in
theorem slices_Equal_int {xs ys : List Int} (hl : xs.length ≤ 1000000000) (hl' : ys.length ≤ 1000000000) :
  SpecN Tryz.prog 52 [avInts xs, avInts ys] (fun y => y = avB (decide (xs = ys))) := by
 refine SpecN.of_VCN Tryz.func52 rfl Tryz.ntmps52 (Nle rfl) fun w A hB => ?_
 have hnew : True := trivial
 refine VC.sr ?_
 refine VO.ma rfl rfl rfl rfl ?_
 refine VO.nil ?_
 refine VC.seq ?_
 refine VC.sr ?_
 refine VO.mv rfl rfl rfl rfl ?_
 refine VO.val rfl rfl (OpV.len_im rfl Tryz.underlying22 rfl) ?_
 refine VO.mv rfl rfl rfl rfl ?_
 refine VO.val rfl rfl (OpV.len_im rfl Tryz.underlying22 rfl) ?_
 refine VO.val rfl rfl (OpV.neq rfl rfl rfl) ?_
 refine VO.nil ?_
 refine VC.cond rfl (fun aH1b => ?_) (fun aH1b => ?_)
 ·have aH1 := aH1b
  try simp only [qqT, qqF, qqN, qqM, qqL, qqE] at aH1
  refine VC.sr ?_
  refine VO.ma rfl rfl rfl rfl ?_
  refine VO.nil ?_
  refine VC.ret ?_
  exact Exists.intro _ (And.intro (RetN.one Tryz.results52 (ResN.v rfl)) (by first | rw [eqL_len (by omega)] | rw [eqL_ne (q := q) (by omega)] | rw [eqL_all (by omega) hn (by omega)]))
 ·have aH1 := aH1b
  try simp only [qqT, qqF, qqN, qqM, qqL, qqE] at aH1
  refine VC.skip ?_
  refine VC.seq ?_
  refine VC.sr ?_
  refine VO.mv rfl rfl rfl rfl ?_
  refine VO.val rfl rfl (OpV.len_im rfl Tryz.underlying22 rfl) ?_
  refine VO.mv rfl rfl rfl rfl ?_
  refine VO.nil ?_
  refine VC.block ?_
  refine VC.loopK [] trivial ({q : Nat // q ≤ xs.length ∧ ∀ j, j < q → xs.getD j 0 = ys.getD j 0}) (fun (iZ : {q : Nat // q ≤ xs.length ∧ ∀ j, j < q → xs.getD j 0 = ys.getD j 0}) => match iZ with | ⟨q, hq, hn⟩ => [(0, avInts xs), (1, avInts ys), (12, avI xs.length), (13, avI (q : Int))]) (fun (iZ : {q : Nat // q ≤ xs.length ∧ ∀ j, j < q → xs.getD j 0 = ys.getD j 0}) => match iZ with | ⟨q, hq, hn⟩ => []) (fun (iZ : {q : Nat // q ≤ xs.length ∧ ∀ j, j < q → xs.getD j 0 = ys.getD j 0}) => match iZ with | ⟨q, hq, hn⟩ => 0) (fun (iZ : {q : Nat // q ≤ xs.length ∧ ∀ j, j < q → xs.getD j 0 = ys.getD j 0}) => match iZ with | ⟨q, hq, hn⟩ => xs.length - q) ⟨0, Nat.zero_le _, fun j hj => absurd hj (Nat.not_lt_zero j)⟩ (Le.mk hB [] ⟨rfl, rfl, rfl, rfl, trivial⟩ rfl rfl (Nat.le_refl _)) ?_
  rintro ⟨q, hq, hn⟩
  show VC _ _ _ _ ⟨[(0, avInts xs), (1, avInts ys), (12, avI xs.length), (13, avI (q : Int))] ++ [], [], 0⟩
  refine VC.sr ?_
  refine VO.val rfl rfl (OpV.lss rfl rfl rfl) ?_
  refine VO.nil ?_
  refine VC.seq ?_
  refine VC.cond rfl (fun aH2b => ?_) (fun aH2b => ?_)
  ·have aH2 := aH2b
   try simp only [qqT, qqF, qqN, qqM, qqL, qqE] at aH2
   refine VC.skip ?_
   refine VC.seq ?_
   refine VC.block ?_
   refine VC.sr ?_
   refine VO.mv rfl rfl rfl rfl ?_
   refine VO.ma rfl rfl rfl rfl ?_
   refine VO.nil ?_
   refine VC.seq ?_
   refine VC.draw (fun _ => NoB) hB (by kernel_rfl) ?_
   refine VA.take (i := 0) rfl (by kernel_rfl) (by kernel_rfl) (by kernel_rfl) rfl rfl (OpV.move (.inl rfl) rfl) ?_
   refine VA.take (i := 1) rfl (by kernel_rfl) (by kernel_rfl) (by kernel_rfl) rfl rfl (OpV.move (.inl rfl) rfl) ?_
   refine VA.take (i := 2) rfl (by kernel_rfl) (by kernel_rfl) (by kernel_rfl) rfl rfl (OpV.indexAddr_1 rfl Tryz.underlying22 Tryz.sizeOf3 rfl rfl rfl (by omega)) ?_
   refine VA.take (i := 3) rfl (by kernel_rfl) (by kernel_rfl) (by kernel_rfl) rfl rfl (OpV.load_at rfl hB OutW.wi0 Tryz.isAgg3 rfl rfl) ?_
   refine VA.take (i := 4) rfl (by kernel_rfl) (by kernel_rfl) (by kernel_rfl) rfl rfl (OpV.move (.inl rfl) rfl) ?_
   refine VA.take (i := 5) rfl (by kernel_rfl) (by kernel_rfl) (by kernel_rfl) rfl rfl (OpV.move (.inl rfl) rfl) ?_
   refine VA.take (i := 6) rfl (by kernel_rfl) (by kernel_rfl) (by kernel_rfl) rfl rfl (OpV.indexAddr_1 rfl Tryz.underlying22 Tryz.sizeOf3 rfl rfl rfl (by omega)) ?_
   refine VA.take (i := 7) rfl (by kernel_rfl) (by kernel_rfl) (by kernel_rfl) rfl rfl (OpV.load_at rfl hB OutW.wi0 Tryz.isAgg3 rfl rfl) ?_
   refine VA.take (i := 8) rfl (by kernel_rfl) (by kernel_rfl) (by kernel_rfl) rfl rfl (OpV.neq rfl rfl rfl) ?_
   refine VA.done (by kernel_rfl) ?_
   refine VC.cond rfl (fun aH3b => ?_) (fun aH3b => ?_)
   ·have aH3 := aH3b
    try simp only [qqT, qqF, qqN, qqM, qqL, qqE] at aH3
    refine VC.sr ?_
    refine VO.ma rfl rfl rfl rfl ?_
    refine VO.nil ?_
    refine VC.ret ?_
    exact Exists.intro _ (And.intro (RetN.one Tryz.results52 (ResN.v rfl)) (by first | rw [eqL_len (by omega)] | rw [eqL_ne (q := q) (by omega)] | rw [eqL_all (by omega) hn (by omega)]))
   ·have aH3 := aH3b
    try simp only [qqT, qqF, qqN, qqM, qqL, qqE] at aH3
    refine VC.skip ?_
    refine VC.region ?_
    refine VO.val rfl rfl (OpV.add rfl rfl rfl (by unfold fits; omega)) ?_
    refine VO.mv rfl rfl rfl rfl ?_
    refine VO.nil ?_
    exact Exists.intro (⟨q + 1, by omega, lt_succ_cases hn (by omega)⟩) (And.intro (Le.mk hB [] ⟨rfl, rfl, rfl, rfl, trivial⟩ rfl rfl (Nat.le_refl _)) (by first | omega | (show _ < _; omega) | (simp only []; omega)))
  ·have aH2 := aH2b
   try simp only [qqT, qqF, qqN, qqM, qqL, qqE] at aH2
   refine VC.exit ?_
   refine VC.sr ?_
   refine VO.ma rfl rfl rfl rfl ?_
   refine VO.nil ?_
   refine VC.ret ?_
   exact Exists.intro _ (And.intro (RetN.one Tryz.results52 (ResN.v rfl)) (by first | rw [eqL_len (by omega)] | rw [eqL_ne (q := q) (by omega)] | rw [eqL_all (by omega) hn (by omega)]))
end Go.Proofs.YtceflkkgmmcieaaGreatDoor
namespace Go.Proofs.YtceflkkgmmcieaaGreatDoor
open Go.RowKit
set_option linter.unusedVariables false
set_option linter.unusedSimpArgs false

set_option maxRecDepth 100000 in
theorem line_NeedsFault {l : List NeedS} {lo hi : Int} (hl : l.length ≤ 1000000000) (hb : ∀ i, (l.getD i default).key.size ≤ 1000000000) :
  SpecN Tryz.prog 281 [avL l, avI lo, avI hi] (fun y => y = avI (needsF l lo hi)) := by
 refine SpecN.of_VCN Tryz.func281 rfl Tryz.ntmps281 (Nle rfl) fun w A hB => ?_
 have hnew : True := trivial
 refine VC.sr ?_
 refine VO.ma rfl rfl rfl rfl ?_
 refine VO.nil ?_
 refine VC.seq ?_
 refine VC.sr ?_
 refine VO.mv rfl rfl rfl rfl ?_
 refine VO.val rfl rfl (OpV.len_im rfl Tryz.underlying36 rfl) ?_
 refine VO.val rfl rfl (OpV.gtr rfl rfl rfl) ?_
 refine VO.nil ?_
 refine VC.cond rfl (fun aH1b => ?_) (fun aH1b => ?_)
 ·have aH1 := aH1b
  try simp only [qqT, qqF, qqN, qqM, qqL, qqE] at aH1
  refine VC.sr ?_
  refine VO.ma rfl rfl rfl rfl ?_
  refine VO.nil ?_
  refine VC.ret ?_
  exact Exists.intro _ (And.intro (RetN.one Tryz.results281 (ResN.v rfl)) (by rw [needsF_big (by omega)]))
 ·have aH1 := aH1b
  try simp only [qqT, qqF, qqN, qqM, qqL, qqE] at aH1
  refine VC.skip ?_
  refine VC.seq ?_
  refine VC.sr ?_
  refine VO.mv rfl rfl rfl rfl ?_
  refine VO.val rfl rfl (OpV.len_im rfl Tryz.underlying36 rfl) ?_
  refine VO.mv rfl rfl rfl rfl ?_
  refine VO.nil ?_
  refine VC.block ?_
  refine VC.loopK [] trivial ({q : Nat // q ≤ l.length ∧ ∀ j, j < q → needE l lo hi j = 0}) (fun (iZ : {q : Nat // q ≤ l.length ∧ ∀ j, j < q → needE l lo hi j = 0}) => match iZ with | ⟨q, hq, hn⟩ => [(0, avL l), (1, avI lo), (2, avI hi), (12, avL l), (13, avI l.length), (14, avI (q : Int))]) (fun (iZ : {q : Nat // q ≤ l.length ∧ ∀ j, j < q → needE l lo hi j = 0}) => match iZ with | ⟨q, hq, hn⟩ => []) (fun (iZ : {q : Nat // q ≤ l.length ∧ ∀ j, j < q → needE l lo hi j = 0}) => match iZ with | ⟨q, hq, hn⟩ => 0) (fun (iZ : {q : Nat // q ≤ l.length ∧ ∀ j, j < q → needE l lo hi j = 0}) => match iZ with | ⟨q, hq, hn⟩ => l.length - q) ⟨0, Nat.zero_le _, fun j hj => absurd hj (Nat.not_lt_zero j)⟩ (Le.mk hB [] ⟨rfl, rfl, rfl, rfl, rfl, rfl, trivial⟩ rfl rfl (Nat.le_refl _)) ?_
  rintro ⟨q, hq, hn⟩
  show VC _ _ _ _ ⟨[(0, avL l), (1, avI lo), (2, avI hi), (12, avL l), (13, avI l.length), (14, avI (q : Int))] ++ [], [], 0⟩
  refine VC.sr ?_
  refine VO.val rfl rfl (OpV.lss rfl rfl rfl) ?_
  refine VO.nil ?_
  refine VC.seq ?_
  refine VC.cond rfl (fun aH2b => ?_) (fun aH2b => ?_)
  ·have aH2 := aH2b
   try simp only [qqT, qqF, qqN, qqM, qqL, qqE] at aH2
   refine VC.skip ?_
   refine VC.seq ?_
   refine VC.block ?_
   refine VC.sr ?_
   refine VO.mv rfl rfl rfl rfl ?_
   refine VO.val rfl rfl (OpV.indexAddr_E rfl Tryz.underlying36 Tryz.sizeOf60 rfl rfl rfl (by omega)) ?_
   refine VO.val rfl rfl (OpV.loadK_at rfl hB OutW.no Tryz.isAgg60 Tryz.sizeOf60 rfl rfl) ?_
   refine VO.op rfl (OpE.alloc rfl hB rfl Tryz.zeroValue60 rfl ?_)
   intro g8
   refine VO.ma rfl rfl rfl rfl ?_
   refine VO.op rfl (OpE.store (i := 0) rfl hB rfl Tryz.sizeOf60 rfl rfl rfl rfl rfl rfl (Nle rfl) trivial ?_)
   refine VO.nil ?_
   refine VC.block ?_
   refine VC.sr ?_
   refine VO.val rfl rfl (OpV.fieldAddrO 0 rfl Tryz.underlying60 rfl rfl Tryz.sizeOf9 rfl) ?_
   refine VO.val rfl rfl (OpV.load_own (i := 0) rfl hB Tryz.isAgg9 rfl rfl rfl (fun h => h)) ?_
   refine VO.op rfl (OpE.call rfl hB rfl Tryz.call82 rfl (SpecN.spec (kit_IsKey (hb _))) ?_)
   rintro _ rfl
   refine VO.val rfl rfl (OpV.not rfl rfl) ?_
   refine VO.ma rfl rfl rfl rfl ?_
   refine VO.nil ?_
   refine VC.cond rfl (fun hkb => ?_) (fun hkb => ?_)
   ·have hk := hkb
    try simp only [qqT, qqF, qqN, qqM, qqL, qqE] at hk
    refine VC.sr ?_
    refine VO.ma rfl rfl rfl rfl ?_
    refine VO.nil ?_
    refine VC.ret ?_
    exact Exists.intro _ (And.intro (RetN.one Tryz.results281 (ResN.v rfl)) (by rw [needsF_at (by omega) (by omega) hn (needE_5 hk) (by decide)]))
   ·have hk := hkb
    try simp only [qqT, qqF, qqN, qqM, qqL, qqE] at hk
    refine VC.seq ?_
    refine VC.draw (fun _ => NoB) hB (by kernel_rfl) ?_
    refine VA.take (i := 0) rfl (by kernel_rfl) (by kernel_rfl) (by kernel_rfl) rfl rfl (OpV.move (.inl rfl) rfl) ?_
    refine VA.take (i := 1) rfl (by kernel_rfl) (by kernel_rfl) (by kernel_rfl) rfl rfl (OpV.gtr rfl rfl rfl) ?_
    refine VA.take (i := 2) rfl (by kernel_rfl) (by kernel_rfl) (by kernel_rfl) rfl rfl (OpV.move (.inl rfl) rfl) ?_
    refine VA.split (t := 27) rfl (fun aK3b => ?_) (fun aK3b => ?_)
    ·have aK3 := aK3b
     try simp only [qqT, qqF, qqN, qqM, qqL, qqE] at aK3
     refine VA.takeY (i := 3) rfl (by kernel_rfl) (by kernel_rfl) (by kernel_rfl) rfl rfl rfl rfl aK3b (OpV.fieldAddrO 0 rfl Tryz.underlying60 rfl rfl Tryz.sizeOf9 rfl) ?_
     refine VA.takeY (i := 4) rfl (by kernel_rfl) (by kernel_rfl) (by kernel_rfl) rfl rfl rfl rfl aK3b (OpV.load_own (i := 0) rfl hB Tryz.isAgg9 rfl rfl rfl Wi.not0) ?_
     refine VA.takeY (i := 5) rfl (by kernel_rfl) (by kernel_rfl) (by kernel_rfl) rfl rfl rfl rfl aK3b (OpV.move (.inl rfl) rfl) ?_
     refine VA.takeY (i := 6) rfl (by kernel_rfl) (by kernel_rfl) (by kernel_rfl) rfl rfl rfl rfl aK3b (OpV.move (.inl rfl) rfl) ?_
     refine VA.takeY (i := 7) rfl (by kernel_rfl) (by kernel_rfl) (by kernel_rfl) rfl rfl rfl rfl aK3b (OpV.sub rfl rfl rfl (by unfold fits; omega)) ?_
     refine VA.takeY (i := 8) rfl (by kernel_rfl) (by kernel_rfl) (by kernel_rfl) rfl rfl rfl rfl aK3b (OpV.indexAddr_E rfl Tryz.underlying36 Tryz.sizeOf60 rfl rfl (show ((q : Int) - 1) = ((q - 1 : Nat) : Int) by omega) (by omega)) ?_
     refine VA.takeY (i := 9) rfl (by kernel_rfl) (by kernel_rfl) (by kernel_rfl) rfl rfl rfl rfl aK3b (OpV.fieldAddr_atO 0 rfl Tryz.underlying60 rfl rfl Tryz.sizeOf9 rfl rfl) ?_
     refine VA.takeY (i := 10) rfl (by kernel_rfl) (by kernel_rfl) (by kernel_rfl) rfl rfl rfl rfl aK3b (OpV.load_at rfl hB OutW.wi0 Tryz.isAgg9 rfl rfl) ?_
     refine VA.takeY (i := 11) rfl (by kernel_rfl) (by kernel_rfl) (by kernel_rfl) rfl rfl rfl rfl aK3b (OpV.sleq rfl rfl rfl) ?_
     refine VA.take (i := 12) rfl (by kernel_rfl) (by kernel_rfl) (by kernel_rfl) rfl rfl (OpV.pickT rfl rfl rfl rfl aK3b) ?_
     refine VA.take (i := 13) rfl (by kernel_rfl) (by kernel_rfl) (by kernel_rfl) rfl rfl (OpV.move (.inr rfl) rfl) ?_
     refine VA.done (by kernel_rfl) ?_
     refine VC.cond rfl (fun hsb => ?_) (fun hsb => ?_)
     ·have hs := hsb
      try simp only [qqT, qqF, qqN, qqM, qqL, qqE] at hs
      refine VC.sr ?_
      refine VO.ma rfl rfl rfl rfl ?_
      refine VO.nil ?_
      refine VC.ret ?_
      exact Exists.intro _ (And.intro (RetN.one Tryz.results281 (ResN.v rfl)) (by rw [needsF_at (by omega) (by omega) hn (needE_7 hk (by omega) hs) (by decide)]))
     ·have hs := hsb
      try simp only [qqT, qqF, qqN, qqM, qqL, qqE] at hs
      refine VC.sr ?_
      refine VO.val rfl rfl (OpV.fieldAddrO 1 rfl Tryz.underlying60 rfl rfl Tryz.sizeOf3 rfl) ?_
      refine VO.val rfl rfl (OpV.load_own (i := 0) rfl hB Tryz.isAgg3 rfl rfl rfl (fun h => h)) ?_
      refine VO.mv rfl rfl rfl rfl ?_
      refine VO.mv rfl rfl rfl rfl ?_
      refine VO.op rfl (OpE.call rfl hB rfl Tryz.call131 rfl (SpecN.spec (kit_Outside)) ?_)
      rintro _ rfl
      refine VO.ma rfl rfl rfl rfl ?_
      refine VO.nil ?_
      refine VC.cond rfl (fun hob => ?_) (fun hob => ?_)
      ·have ho := hob
       try simp only [qqT, qqF, qqN, qqM, qqL, qqE] at ho
       refine VC.sr ?_
       refine VO.ma rfl rfl rfl rfl ?_
       refine VO.nil ?_
       refine VC.ret ?_
       exact Exists.intro _ (And.intro (RetN.one Tryz.results281 (ResN.v rfl)) (by first | rw [needsF_at (by omega) (by omega) hn (needE_1 hk (.inr hs) ho) (by decide)] | rw [needsF_at (by omega) (by omega) hn (needE_1 hk (.inl (by omega)) ho) (by decide)]))
      ·have ho := hob
       try simp only [qqT, qqF, qqN, qqM, qqL, qqE] at ho
       refine VC.skip ?_
       refine VC.region ?_
       refine VO.val rfl rfl (OpV.add rfl rfl rfl (by unfold fits; omega)) ?_
       refine VO.mv rfl rfl rfl rfl ?_
       refine VO.nil ?_
       exact Exists.intro (⟨q + 1, by omega, lt_succ_cases hn (needE_0 hk (.inr hs) ho)⟩) (And.intro (Le.mk hB [] ⟨rfl, rfl, rfl, rfl, rfl, rfl, trivial⟩ rfl rfl (Nat.le_refl _)) (by first | omega | (show _ < _; omega) | (simp only []; omega)))
    ·have aK3 := aK3b
     try simp only [qqT, qqF, qqN, qqM, qqL, qqE] at aK3
     refine VA.takeX (i := 3) rfl (by kernel_rfl) (by kernel_rfl) (by kernel_rfl) rfl rfl rfl rfl aK3b ?_
     refine VA.takeX (i := 4) rfl (by kernel_rfl) (by kernel_rfl) (by kernel_rfl) rfl rfl rfl rfl aK3b ?_
     refine VA.takeX (i := 5) rfl (by kernel_rfl) (by kernel_rfl) (by kernel_rfl) rfl rfl rfl rfl aK3b ?_
     refine VA.takeX (i := 6) rfl (by kernel_rfl) (by kernel_rfl) (by kernel_rfl) rfl rfl rfl rfl aK3b ?_
     refine VA.takeX (i := 7) rfl (by kernel_rfl) (by kernel_rfl) (by kernel_rfl) rfl rfl rfl rfl aK3b ?_
     refine VA.takeX (i := 8) rfl (by kernel_rfl) (by kernel_rfl) (by kernel_rfl) rfl rfl rfl rfl aK3b ?_
     refine VA.takeX (i := 9) rfl (by kernel_rfl) (by kernel_rfl) (by kernel_rfl) rfl rfl rfl rfl aK3b ?_
     refine VA.takeX (i := 10) rfl (by kernel_rfl) (by kernel_rfl) (by kernel_rfl) rfl rfl rfl rfl aK3b ?_
     refine VA.takeX (i := 11) rfl (by kernel_rfl) (by kernel_rfl) (by kernel_rfl) rfl rfl rfl rfl aK3b ?_
     refine VA.take (i := 12) rfl (by kernel_rfl) (by kernel_rfl) (by kernel_rfl) rfl rfl (OpV.pickF rfl rfl rfl rfl aK3b) ?_
     refine VA.take (i := 13) rfl (by kernel_rfl) (by kernel_rfl) (by kernel_rfl) rfl rfl (OpV.move (.inr rfl) rfl) ?_
     refine VA.done (by kernel_rfl) ?_
     refine VC.condF rfl rfl ?_
     refine VC.sr ?_
     refine VO.val rfl rfl (OpV.fieldAddrO 1 rfl Tryz.underlying60 rfl rfl Tryz.sizeOf3 rfl) ?_
     refine VO.val rfl rfl (OpV.load_own (i := 0) rfl hB Tryz.isAgg3 rfl rfl rfl (fun h => h)) ?_
     refine VO.mv rfl rfl rfl rfl ?_
     refine VO.mv rfl rfl rfl rfl ?_
     refine VO.op rfl (OpE.call rfl hB rfl Tryz.call131 rfl (SpecN.spec (kit_Outside)) ?_)
     rintro _ rfl
     refine VO.ma rfl rfl rfl rfl ?_
     refine VO.nil ?_
     refine VC.cond rfl (fun hob => ?_) (fun hob => ?_)
     ·have ho := hob
      try simp only [qqT, qqF, qqN, qqM, qqL, qqE] at ho
      refine VC.sr ?_
      refine VO.ma rfl rfl rfl rfl ?_
      refine VO.nil ?_
      refine VC.ret ?_
      exact Exists.intro _ (And.intro (RetN.one Tryz.results281 (ResN.v rfl)) (by first | rw [needsF_at (by omega) (by omega) hn (needE_1 hk (.inr hs) ho) (by decide)] | rw [needsF_at (by omega) (by omega) hn (needE_1 hk (.inl (by omega)) ho) (by decide)]))
     ·have ho := hob
      try simp only [qqT, qqF, qqN, qqM, qqL, qqE] at ho
      refine VC.skip ?_
      refine VC.region ?_
      refine VO.val rfl rfl (OpV.add rfl rfl rfl (by unfold fits; omega)) ?_
      refine VO.mv rfl rfl rfl rfl ?_
      refine VO.nil ?_
      exact Exists.intro (⟨q + 1, by omega, lt_succ_cases hn (needE_0 hk (.inl (by omega)) ho)⟩) (And.intro (Le.mk hB [] ⟨rfl, rfl, rfl, rfl, rfl, rfl, trivial⟩ rfl rfl (Nat.le_refl _)) (by first | omega | (show _ < _; omega) | (simp only []; omega)))
  ·have aH2 := aH2b
   try simp only [qqT, qqF, qqN, qqM, qqL, qqE] at aH2
   refine VC.exit ?_
   refine VC.sr ?_
   refine VO.ma rfl rfl rfl rfl ?_
   refine VO.nil ?_
   refine VC.ret ?_
   exact Exists.intro _ (And.intro (RetN.one Tryz.results281 (ResN.v rfl)) (by rw [needsF_ok (by omega) (fun j hj => hn j (by omega))]))
set_option maxRecDepth 100000 in
theorem line_CheckNeeds {l : List NeedS} (hl : l.length ≤ 1000000000) (hb : ∀ i, (l.getD i default).key.size ≤ 1000000000) :
  SpecN Tryz.prog 252 [avL l] (fun y => y = avI (needsF l 1 1000)) := by
 refine SpecN.of_VCN Tryz.func252 rfl Tryz.ntmps252 (Nle rfl) fun w A hB => ?_
 have hnew : True := trivial
 refine VC.sr ?_
 refine VO.ma rfl rfl rfl rfl ?_
 refine VO.nil ?_
 refine VC.sr ?_
 refine VO.mv rfl rfl rfl rfl ?_
 refine VO.op rfl (OpE.call rfl hB rfl Tryz.call281 rfl (SpecN.spec (line_NeedsFault hl hb)) ?_)
 rintro _ rfl
 refine VO.ma rfl rfl rfl rfl ?_
 refine VO.nil ?_
 refine VC.ret ?_
 exact Exists.intro _ (And.intro (RetN.one Tryz.results252 (ResN.v rfl)) (rfl))









end Go.Proofs.YtceflkkgmmcieaaGreatDoor
namespace Go.Proofs.YtceflkkgmmcieaaGreatDoor
open Go.RowKit
set_option linter.unusedVariables false
set_option linter.unusedSimpArgs false
def errsF (xs : List Int) : Int := match xs.find? (fun x => decide (x ≠ 0)) with | some x => x | none => 0
theorem errsF_at {xs : List Int} {q : Nat} (hq : q < xs.length) (hn : ∀ j, j < q → xs.getD j 0 = 0) (h : xs.getD q 0 ≠ 0) : errsF xs = xs.getD q 0 := by
 induction xs generalizing q with
 | nil => simp at hq
 | cons x r ih =>
  cases q with
  | zero => simp at h; simp [errsF, h]
  | succ q =>
   have h0 := hn 0 (by omega)
   simp at h0
   have := ih (q := q) (by simpa using hq) (fun j hj => by simpa using hn (j + 1) (by omega)) (by simpa using h)
   simpa [errsF, h0] using this
theorem errsF_none {xs : List Int} (hn : ∀ j, j < xs.length → xs.getD j 0 = 0) : errsF xs = 0 := by
 induction xs with
 | nil => rfl
 | cons x r ih =>
  have h0 := hn 0 (by simp)
  simp at h0
  have := ih (fun j hj => by simpa using hn (j + 1) (by simpa using hj))
  simpa [errsF, h0] using this
theorem Le.lits {B : Bs} {s : St'} {t n : Nat} {xs : List Int} (hn : n = xs.length) (ht : look s.sl t = some (.im n 1 fun j => (intsL xs).getD j .any)) : Le B s ⟨(t, avInts xs) :: s.sl, s.hp, s.k⟩ := Le.recast ht fun w Z u h => Rep.ints hn h
end Go.Proofs.YtceflkkgmmcieaaGreatDoor
namespace Go.Proofs.YtceflkkgmmcieaaGreatDoor
open Go.RowKit
set_option linter.unusedVariables false
set_option linter.unusedSimpArgs false

structure LookS where
 board : ByteArray
 name : ByteArray
 at_ : Int
 verdict : Int
 bad : Bool
 machine : ByteArray
 nozzle : ByteArray
 reel : ByteArray
instance : Inhabited LookS := ⟨⟨ByteArray.empty, ByteArray.empty, 0, 0, false, ByteArray.empty, ByteArray.empty, ByteArray.empty⟩⟩
instance : Sxc LookS where
 k := 8
 pos := by decide
 cell m j := match j with
  | 0 => avS m.board
  | 1 => avS m.name
  | 2 => avI m.at_
  | 3 => avI m.verdict
  | 4 => avB m.bad
  | 5 => avS m.machine
  | 6 => avS m.nozzle
  | 7 => avS m.reel
  | _ => .any
abbrev avLk (x : LookS) : AV := .agg [avS x.board, avS x.name, avI x.at_, avI x.verdict, avB x.bad, avS x.machine, avS x.nozzle, avS x.reel]
structure SmLk (l : List LookS) : Prop where
 len : l.length ≤ 1000000
 board : ∀ i, (l.getD i default).board.size ≤ 1000000
 name : ∀ i, (l.getD i default).name.size ≤ 1000000
 machine : ∀ i, (l.getD i default).machine.size ≤ 1000000
 nozzle : ∀ i, (l.getD i default).nozzle.size ≤ 1000000
 reel : ∀ i, (l.getD i default).reel.size ≤ 1000000
def cmpI (a b : Int) : Int := if a < b then -1 else if b < a then 1 else 0
def cmpLk (a b : LookS) : Int := errsF [cmpI a.at_ b.at_, cmpB a.board b.board, cmpB a.name b.name]
def lkStrs (x : LookS) : List ByteArray := [x.board, x.name, x.machine, x.nozzle, x.reel]
def lookE (l : List LookS) (i : Nat) : Int :=
 if (lkStrs (l.getD i default)).all keyF = false then 5
 else if outR (l.getD i default).at_ 0 345686399999 = true then 1
 else if outR (l.getD i default).verdict 1 5 = true then 4
 else if (decide (0 < i) && decide (0 ≤ cmpLk (l.getD (i - 1) default) (l.getD i default))) = true then 7
 else 0
def sameT (o x : LookS) : Bool := sEq o.board x.board && sEq o.name x.name
def twE (l : List LookS) (i : Nat) : Int := if (l.take i).any (fun o => sameT o (l.getD i default)) = true then 6 else 0
def lookF (l : List LookS) : Int :=
 if 5000 < l.length then 2
 else if firstE (lookE l) l.length ≠ 0 then firstE (lookE l) l.length
 else firstE (twE l) l.length
section
variable {l : List LookS} {i : Nat}
theorem lookE_5 (h : (lkStrs (l.getD i default)).all keyF = false) : lookE l i = 5 := by rw [lookE, if_pos h]
theorem lookE_1 (h : (lkStrs (l.getD i default)).all keyF = true) (h1 : outR (l.getD i default).at_ 0 345686399999 = true) : lookE l i = 1 := by rw [lookE, if_neg (by rw [h]; simp), if_pos h1]
theorem lookE_4 (h : (lkStrs (l.getD i default)).all keyF = true) (h1 : outR (l.getD i default).at_ 0 345686399999 = false) (h2 : outR (l.getD i default).verdict 1 5 = true) : lookE l i = 4 := by rw [lookE, if_neg (by rw [h]; simp), if_neg (by rw [h1]; simp), if_pos h2]
theorem lookE_7 (h : (lkStrs (l.getD i default)).all keyF = true) (h1 : outR (l.getD i default).at_ 0 345686399999 = false) (h2 : outR (l.getD i default).verdict 1 5 = false) (hi : 0 < i) (h3 : 0 ≤ cmpLk (l.getD (i - 1) default) (l.getD i default)) : lookE l i = 7 := by
 rw [lookE, if_neg (by rw [h]; simp), if_neg (by rw [h1]; simp), if_neg (by rw [h2]; simp), if_pos (by rw [decide_eq_true hi, decide_eq_true h3]; rfl)]
theorem lookE_0 (h : (lkStrs (l.getD i default)).all keyF = true) (h1 : outR (l.getD i default).at_ 0 345686399999 = false) (h2 : outR (l.getD i default).verdict 1 5 = false) (h3 : i = 0 ∨ cmpLk (l.getD (i - 1) default) (l.getD i default) < 0) : lookE l i = 0 := by
 rw [lookE, if_neg (by rw [h]; simp), if_neg (by rw [h1]; simp), if_neg (by rw [h2]; simp), if_neg]
 rcases h3 with rfl | h3
 ·simp
 ·rw [decide_eq_false (show ¬ 0 ≤ cmpLk (l.getD (i - 1) default) (l.getD i default) by omega)]; simp
theorem lookF_2 (h : 5000 < l.length) : lookF l = 2 := by rw [lookF, if_pos h]
theorem lookF_at (h : l.length ≤ 5000) {q : Nat} (hq : q < l.length) (hn : ∀ j, j < q → lookE l j = 0) (he : lookE l q ≠ 0) : lookF l = lookE l q := by
 have := firstE_found hn he hq
 rw [lookF, if_neg (by omega), this, if_pos he]
theorem lookF_tw (h : l.length ≤ 5000) (h0 : ∀ j, j < l.length → lookE l j = 0) {q : Nat} (hq : q < l.length) (hn : ∀ j, j < q → twE l j = 0) (he : twE l q ≠ 0) : lookF l = twE l q := by
 have := firstE_found hn he hq
 rw [lookF, if_neg (by omega), firstE_none h0, if_neg (by simp), this]
theorem lookF_ok (h : l.length ≤ 5000) (h0 : ∀ j, j < l.length → lookE l j = 0) (hn : ∀ j, j < l.length → twE l j = 0) : lookF l = 0 := by
 rw [lookF, if_neg (by omega), firstE_none h0, if_neg (by simp), firstE_none hn]
end
def seenL (l : List LookS) : List ((ByteArray × ByteArray) × Bool) := l.map fun x => ((x.board, x.name), true)
theorem seenL_get (l : List LookS) (x : LookS) : mgetD (seenL l) (x.board, x.name) false = l.any fun o => sameT o x := by
 induction l with
 | nil => rfl
 | cons o l ih =>
  show mgetD (((o.board, o.name), true) :: seenL l) _ _ = _
  simp only [List.any_cons]
  rw [← ih]
  by_cases e : (x.board, x.name) = (o.board, o.name)
  ·have h1 : sameT o x = true := by
    have h2 := Prod.mk.inj e
    unfold sameT
    rw [h2.1, h2.2, sEq_eq.2 rfl, sEq_eq.2 rfl]; rfl
   rw [h1, mgetD, mget, if_pos e]; rfl
  ·have h1 : sameT o x = false := by
    cases hs : sameT o x with
    | false => rfl
    | true =>
     unfold sameT at hs
     rw [Bool.and_eq_true] at hs
     exact absurd (by rw [sEq_eq.1 hs.1, sEq_eq.1 hs.2]) e
   rw [h1, Bool.false_or, mgetD, mget, if_neg e]; rfl
theorem seenL_new {l : List LookS} {x : LookS} (h : l.any (fun o => sameT o x) = false) : mput (seenL l) (x.board, x.name) true = seenL (l ++ [x]) := by
 have hn : mpos (seenL l) (x.board, x.name) = (seenL l).length := by
  have hle := mpos_le (seenL l) (x.board, x.name)
  by_cases hlt : mpos (seenL l) (x.board, x.name) < (seenL l).length
  ·exfalso
   have hk := mpos_key (seenL l) (x.board, x.name) hlt
   have hl : mpos (seenL l) (x.board, x.name) < l.length := by simpa [seenL] using hlt
   rw [List.any_eq_false] at h
   have := h _ (List.getElem_mem hl)
   apply this
   simp only [seenL, List.getElem_map] at hk
   have h2 := Prod.mk.inj hk
   unfold sameT
   simp only [seenL] at h2 ⊢
   rw [h2.1, h2.2, sEq_eq.2 rfl, sEq_eq.2 rfl]; rfl
  ·omega
 rw [mput_new _ _ _ hn]
 simp [seenL]
def badN (l : List LookS) : Nat := (l.filter fun x => x.bad).length
theorem badN_le (l : List LookS) : badN l ≤ l.length := List.length_filter_le _ _
theorem badN_take {l : List LookS} {q : Nat} (h : q < l.length) : badN (l.take (q + 1)) = badN (l.take q) + if (l.getD q default).bad = true then 1 else 0 := by
 rw [List.take_add_one, List.getElem?_eq_getElem h]
 have : l.getD q default = l[q] := by rw [List.getD_eq_getElem?_getD, List.getElem?_eq_getElem h]; rfl
 rw [this]
 unfold badN
 rw [List.filter_append, List.length_append]
 cases hb : l[q].bad <;> simp [hb]
theorem twE_6 {l : List LookS} {i : Nat} (h : (l.take i).any (fun o => sameT o (l.getD i default)) = true) : twE l i = 6 := by rw [twE, if_pos h]
theorem twE_0 {l : List LookS} {i : Nat} (h : (l.take i).any (fun o => sameT o (l.getD i default)) = false) : twE l i = 0 := by rw [twE, if_neg (by rw [h]; simp)]
theorem lk_sz {l : List LookS} (h : SmLk l) (i q : Nat) : ((lkStrs (l.getD i default)).getD q ByteArray.empty).size ≤ 1000000 := by
 match q with
 | 0 => exact h.board i
 | 1 => exact h.name i
 | 2 => exact h.machine i
 | 3 => exact h.nozzle i
 | 4 => exact h.reel i
 | q + 5 => simp [lkStrs]
def millE (l : List LookS) : Int := if lookF l ≠ 0 then lookF l else if l.length = 0 then 8 else 0
def millN (l : List LookS) : Nat × Nat := if millE l = 0 then (badN l * 1000000 / Nat.gcd (badN l * 1000000) l.length, l.length / Nat.gcd (badN l * 1000000) l.length) else (0, 0)
theorem millE_1 {l : List LookS} (h : lookF l ≠ 0) : millE l = lookF l := by rw [millE, if_pos h]
theorem millE_8 {l : List LookS} (h : lookF l = 0) (h0 : l.length = 0) : millE l = 8 := by rw [millE, if_neg (by omega), if_pos h0]
theorem millE_0 {l : List LookS} (h : lookF l = 0) (h0 : l.length ≠ 0) : millE l = 0 := by rw [millE, if_neg (by omega), if_neg h0]
end Go.Proofs.YtceflkkgmmcieaaGreatDoor
namespace Go.Proofs.YtceflkkgmmcieaaGreatDoor
open Go.RowKit
set_option linter.unusedVariables false
set_option linter.unusedSimpArgs false
theorem tdiv_bd {a b M : Int} (ha : -M ≤ a ∧ a ≤ M) : -M ≤ a.tdiv b ∧ a.tdiv b ≤ M := by
 have h := Int.natAbs_tdiv_le_natAbs a b
 omega
theorem tmod_bd {a b M : Int} (ha : -M ≤ a ∧ a ≤ M) : -M ≤ a.tmod b ∧ a.tmod b ≤ M := by
 have h : (a.tmod b).natAbs ≤ a.natAbs := by rw [Int.natAbs_tmod]; exact Nat.mod_le _ _
 omega
set_option maxRecDepth 100000 in
theorem kit_Lowest {a b : Nat} (ha : a ≤ 4000000000000000000) (hb : b ≤ 4000000000000000000) (h0 : 0 < b) :
  SpecN Tryz.prog 95 [avI (a : Int), avI (b : Int)] (fun y => y = .agg [avI ((a / Nat.gcd a b : Nat) : Int), avI ((b / Nat.gcd a b : Nat) : Int)]) := by
 refine SpecN.of_VCN Tryz.func95 rfl Tryz.ntmps95 (Nle rfl) fun w A hB => ?_
 have hnew : True := trivial
 refine VC.sr ?_
 refine VO.op rfl (OpE.alloc rfl hB rfl Tryz.zeroValue72 rfl ?_)
 intro g4
 refine VO.nil ?_
 refine VC.sr ?_
 refine VO.mv rfl rfl rfl rfl ?_
 refine VO.mv rfl rfl rfl rfl ?_
 refine VO.ma rfl rfl rfl rfl ?_
 refine VO.ma rfl rfl rfl rfl ?_
 refine VO.nil ?_
 refine VC.seq ?_
 refine VC.block ?_
 refine VC.loopK [(0, _), (1, _), (4, _)] ⟨rfl, rfl, rfl, trivial⟩ ({z : Nat × Nat // Nat.gcd z.1 z.2 = Nat.gcd a b ∧ z.1 ≤ 4000000000000000000 ∧ z.2 ≤ 4000000000000000000}) (fun (iZ : {z : Nat × Nat // Nat.gcd z.1 z.2 = Nat.gcd a b ∧ z.1 ≤ 4000000000000000000 ∧ z.2 ≤ 4000000000000000000}) => match iZ with | ⟨⟨x, y⟩, hg, hx, hy⟩ => [(5, avI (x : Int)), (6, avI (y : Int))]) (fun (iZ : {z : Nat × Nat // Nat.gcd z.1 z.2 = Nat.gcd a b ∧ z.1 ≤ 4000000000000000000 ∧ z.2 ≤ 4000000000000000000}) => match iZ with | ⟨⟨x, y⟩, hg, hx, hy⟩ => [.box g4 ⟨[avI 0, avI 0], 72, 2⟩]) (fun (iZ : {z : Nat × Nat // Nat.gcd z.1 z.2 = Nat.gcd a b ∧ z.1 ≤ 4000000000000000000 ∧ z.2 ≤ 4000000000000000000}) => match iZ with | ⟨⟨x, y⟩, hg, hx, hy⟩ => 0) (fun (iZ : {z : Nat × Nat // Nat.gcd z.1 z.2 = Nat.gcd a b ∧ z.1 ≤ 4000000000000000000 ∧ z.2 ≤ 4000000000000000000}) => match iZ with | ⟨⟨x, y⟩, hg, hx, hy⟩ => y) ⟨(a, b), rfl, ha, hb⟩ (Le.mk hB [0] ⟨rfl, rfl, rfl, rfl, rfl, trivial⟩ rfl rfl (Nat.le_refl _)) ?_
 rintro ⟨⟨x, y⟩, hg, hx, hy⟩
 show VC _ _ _ _ ⟨[(5, avI (x : Int)), (6, avI (y : Int))] ++ [(0, _), (1, _), (4, _)], [.box g4 ⟨[avI 0, avI 0], 72, 2⟩], 0⟩
 simp only at hg hx hy
 refine VC.seq ?_
 refine VC.sr ?_
 refine VO.mv rfl rfl rfl rfl ?_
 refine VO.val rfl rfl (OpV.neq rfl rfl rfl) ?_
 refine VO.nil ?_
 refine VC.cond rfl (fun h1b => ?_) (fun h1b => ?_)
 ·have h1 := h1b
  try simp only [qqT, qqF, qqN, qqM, qqL, qqE] at h1
  refine VC.skip ?_
  refine VC.block ?_
  refine VC.draw (fun _ => NoB) hB (by kernel_rfl) ?_
  refine VA.take (i := 0) rfl (by kernel_rfl) (by kernel_rfl) (by kernel_rfl) rfl rfl (OpV.move (.inl rfl) rfl) ?_
  refine VA.take (i := 1) rfl (by kernel_rfl) (by kernel_rfl) (by kernel_rfl) rfl rfl (OpV.move (.inl rfl) rfl) ?_
  refine VA.take (i := 2) rfl (by kernel_rfl) (by kernel_rfl) (by kernel_rfl) rfl rfl (OpV.move (.inl rfl) rfl) ?_
  refine VA.take (i := 3) rfl (by kernel_rfl) (by kernel_rfl) (by kernel_rfl) rfl rfl (OpV.rem rfl rfl rfl (by omega) (by have h2 := tmod_bd (a := (x : Int)) (b := (y : Int)) (M := 4000000000000000000) (by omega); unfold fits; omega)) ?_
  refine VA.take (i := 4) rfl (by kernel_rfl) (by kernel_rfl) (by kernel_rfl) rfl rfl (OpV.move (.inr rfl) rfl) ?_
  refine VA.take (i := 5) rfl (by kernel_rfl) (by kernel_rfl) (by kernel_rfl) rfl rfl (OpV.move (.inr rfl) rfl) ?_
  refine VA.done (by kernel_rfl) ?_
  have hmd := Nat.mod_lt x (by omega : y > 0)
  exact Exists.intro (⟨(y, x % y), by show Nat.gcd y (x % y) = _; rw [← hg, Nat.gcd_comm y, ← Nat.gcd_rec, Nat.gcd_comm], hy, by have := Nat.mod_lt x (by omega : y > 0); show x % y ≤ _; omega⟩) (And.intro (Le.mk hB [0] ⟨rfl, rfl, rfl, rfl, rfl, trivial⟩ rfl rfl (Nat.le_refl _)) (by first | omega | (show _ < _; omega) | (simp only []; omega)))
 ·have h1 := h1b
  try simp only [qqT, qqF, qqN, qqM, qqL, qqE] at h1
  obtain rfl : y = 0 := by omega
  rw [Nat.gcd_zero_right] at hg
  have hx0 := Nat.gcd_pos_of_pos_right a h0
  subst hg
  refine VC.exit ?_
  refine VC.seq ?_
  refine VC.draw (fun j b => j = 7 ∧ b = g4) hB (by kernel_rfl) ?_
  refine VA.take (i := 0) rfl (by kernel_rfl) (by kernel_rfl) (by kernel_rfl) rfl rfl (OpV.move (.inl rfl) rfl) ?_
  refine VA.take (i := 1) rfl (by kernel_rfl) (by kernel_rfl) (by kernel_rfl) rfl rfl (OpV.move (.inl rfl) rfl) ?_
  refine VA.take (i := 2) rfl (by kernel_rfl) (by kernel_rfl) (by kernel_rfl) rfl rfl (OpV.quo rfl rfl rfl (by omega) (by have h1 := tdiv_bd (a := (a : Int)) (b := (Nat.gcd a b : Int)) (M := 4000000000000000000) (by omega); have h2 := tdiv_bd (a := (b : Int)) (b := (Nat.gcd a b : Int)) (M := 4000000000000000000) (by omega); unfold fits; omega)) ?_
  refine VA.take (i := 3) rfl (by kernel_rfl) (by kernel_rfl) (by kernel_rfl) rfl rfl (OpV.move (.inl rfl) rfl) ?_
  refine VA.take (i := 4) rfl (by kernel_rfl) (by kernel_rfl) (by kernel_rfl) rfl rfl (OpV.move (.inl rfl) rfl) ?_
  refine VA.take (i := 5) rfl (by kernel_rfl) (by kernel_rfl) (by kernel_rfl) rfl rfl (OpV.quo rfl rfl rfl (by omega) (by have h1 := tdiv_bd (a := (a : Int)) (b := (Nat.gcd a b : Int)) (M := 4000000000000000000) (by omega); have h2 := tdiv_bd (a := (b : Int)) (b := (Nat.gcd a b : Int)) (M := 4000000000000000000) (by omega); unfold fits; omega)) ?_
  refine VA.take (i := 6) rfl (by kernel_rfl) (by kernel_rfl) (by kernel_rfl) rfl rfl (OpV.build (pls := #[(0, 1), (1, 1)]) rfl Tryz.zeroValue72 Tryz.underlying72 (fun w => by kernel_rfl) rfl rfl) ?_
  refine VA.all (rs := [7]) (by kernel_rfl) (by decide) ?_
  refine ⟨⟨_, rfl, .inl rfl, ?_⟩, trivial⟩
  refine OpE.store (i := 0) rfl hB rfl Tryz.sizeOf72 rfl rfl rfl rfl rfl rfl (Nle rfl) (by first | exact ⟨rfl, rfl⟩ | exact .inl ⟨rfl, rfl⟩ | exact .inr ⟨rfl, rfl⟩ | exact ⟨rfl, trivial⟩ | exact .inl ⟨rfl, trivial⟩ | exact .inr ⟨rfl, trivial⟩ | exact ⟨by decide, rfl⟩) ?_
  refine VA.done (by kernel_rfl) ?_
  refine VC.ret ?_
  exact Exists.intro _ (And.intro (RetN.one Tryz.results95 ((by first | exact ResN.cellF (i := 0) Tryz.isAgg72 Tryz.sizeOf72 rfl rfl rfl (flat_ofB rfl)))) (rfl))


end Go.Proofs.YtceflkkgmmcieaaGreatDoor
namespace Go.Proofs.YtceflkkgmmcieaaGreatDoor
open Go.RowKit
set_option linter.unusedVariables false
set_option linter.unusedSimpArgs false
abbrev eBl : Bool → AV := fun b => avB b
abbrev boxLk (g : Nat) (x : LookS) (ty : TypeId) : Ent := .box g ⟨[avS x.board, avS x.name, avI x.at_, avI x.verdict, avB x.bad, avS x.machine, avS x.nozzle, avS x.reel], ty, 8⟩
theorem Le.litsS {B : Bs} {s : St'} {t n : Nat} {xs : List ByteArray} (hn : n = xs.length) (ht : look s.sl t = some (.im n 1 fun j => (strsL xs).getD j .any)) : Le B s ⟨(t, avStrs xs) :: s.sl, s.hp, s.k⟩ := Le.recast ht fun w Z u h => Rep.strs hn h
set_option maxRecDepth 100000 in
theorem cmp_isNaN_int {a : Int}  :
  SpecN Tryz.prog 280 [avI a] (fun y => y = avB false) := by
 refine SpecN.of_VCN Tryz.func280 rfl Tryz.ntmps280 (Nle rfl) fun w A hB => ?_
 have hnew : True := trivial
 refine VC.sr ?_
 refine VO.ma rfl rfl rfl rfl ?_
 refine VO.nil ?_
 refine VC.sr ?_
 refine VO.mv rfl rfl rfl rfl ?_
 refine VO.mv rfl rfl rfl rfl ?_
 refine VO.val rfl rfl (OpV.neq rfl rfl rfl) ?_
 refine VO.ma rfl rfl rfl rfl ?_
 refine VO.nil ?_
 refine VC.ret ?_
 exact Exists.intro _ (And.intro (RetN.one Tryz.results280 (ResN.v rfl)) (by simp))
set_option maxRecDepth 100000 in
theorem cmp_Compare_int {a b : Int}  :
  SpecN Tryz.prog 251 [avI a, avI b] (fun y => y = avI (cmpI a b)) := by
 refine SpecN.of_VCN Tryz.func251 rfl Tryz.ntmps251 (Nle rfl) fun w A hB => ?_
 have hnew : True := trivial
 refine VC.sr ?_
 refine VO.ma rfl rfl rfl rfl ?_
 refine VO.nil ?_
 refine VC.sr ?_
 refine VO.mv rfl rfl rfl rfl ?_
 refine VO.op rfl (OpE.call rfl hB rfl Tryz.call280 rfl (SpecN.spec (cmp_isNaN_int)) ?_)
 rintro _ rfl
 refine VO.ma rfl rfl rfl rfl ?_
 refine VO.nil ?_
 refine VC.sr ?_
 refine VO.mv rfl rfl rfl rfl ?_
 refine VO.op rfl (OpE.call rfl hB rfl Tryz.call280 rfl (SpecN.spec (cmp_isNaN_int)) ?_)
 rintro _ rfl
 refine VO.ma rfl rfl rfl rfl ?_
 refine VO.nil ?_
 refine VC.seq ?_
 refine VC.sr ?_
 refine VO.mv rfl rfl rfl rfl ?_
 refine VO.nil ?_
 refine VC.condF rfl rfl ?_
 refine VC.skip ?_
 refine VC.seq ?_
 refine VC.sr ?_
 refine VO.mv rfl rfl rfl rfl ?_
 refine VO.nil ?_
 refine VC.condF rfl rfl ?_
 refine VC.skip ?_
 refine VC.seq ?_
 refine VC.sr ?_
 refine VO.mv rfl rfl rfl rfl ?_
 refine VO.mv rfl rfl rfl rfl ?_
 refine VO.val rfl rfl (OpV.lss rfl rfl rfl) ?_
 refine VO.nil ?_
 refine VC.cond rfl (fun aH1b => ?_) (fun aH1b => ?_)
 ·have aH1 := aH1b
  try simp only [qqT, qqF, qqN, qqM, qqL, qqE] at aH1
  refine VC.sr ?_
  refine VO.ma rfl rfl rfl rfl ?_
  refine VO.nil ?_
  refine VC.ret ?_
  exact Exists.intro _ (And.intro (RetN.one Tryz.results251 (ResN.v rfl)) (by rw [cmpI, if_pos (by assumption)]))
 ·have aH1 := aH1b
  try simp only [qqT, qqF, qqN, qqM, qqL, qqE] at aH1
  refine VC.skip ?_
  refine VC.seq ?_
  refine VC.sr ?_
  refine VO.mv rfl rfl rfl rfl ?_
  refine VO.mv rfl rfl rfl rfl ?_
  refine VO.val rfl rfl (OpV.gtr rfl rfl rfl) ?_
  refine VO.nil ?_
  refine VC.cond rfl (fun aH2b => ?_) (fun aH2b => ?_)
  ·have aH2 := aH2b
   try simp only [qqT, qqF, qqN, qqM, qqL, qqE] at aH2
   refine VC.sr ?_
   refine VO.ma rfl rfl rfl rfl ?_
   refine VO.nil ?_
   refine VC.ret ?_
   exact Exists.intro _ (And.intro (RetN.one Tryz.results251 (ResN.v rfl)) (by rw [cmpI, if_neg (by omega), if_pos (by assumption)]))
  ·have aH2 := aH2b
   try simp only [qqT, qqF, qqN, qqM, qqL, qqE] at aH2
   refine VC.skip ?_
   refine VC.sr ?_
   refine VO.ma rfl rfl rfl rfl ?_
   refine VO.nil ?_
   refine VC.ret ?_
   exact Exists.intro _ (And.intro (RetN.one Tryz.results251 (ResN.v rfl)) (by rw [cmpI, if_neg (by omega), if_neg (by omega)]))
set_option maxRecDepth 100000 in
theorem cmp_Or_int {xs : List Int} (hl : xs.length ≤ 1000000000) :
  SpecN Tryz.prog 250 [avInts xs] (fun y => y = avI (errsF xs)) := by
 refine SpecN.of_VCN Tryz.func250 rfl Tryz.ntmps250 (Nle rfl) fun w A hB => ?_
 have hnew : True := trivial
 refine VC.sr ?_
 refine VO.ma rfl rfl rfl rfl ?_
 refine VO.nil ?_
 refine VC.sr ?_
 refine VO.ma rfl rfl rfl rfl ?_
 refine VO.nil ?_
 refine VC.seq ?_
 refine VC.sr ?_
 refine VO.mv rfl rfl rfl rfl ?_
 refine VO.val rfl rfl (OpV.len_im rfl Tryz.underlying22 rfl) ?_
 refine VO.mv rfl rfl rfl rfl ?_
 refine VO.nil ?_
 refine VC.block ?_
 refine VC.loopK [(3, _), (6, _), (7, _)] ⟨rfl, rfl, rfl, trivial⟩ ({q : Nat // q ≤ xs.length ∧ ∀ j, j < q → xs.getD j 0 = 0}) (fun (iZ : {q : Nat // q ≤ xs.length ∧ ∀ j, j < q → xs.getD j 0 = 0}) => match iZ with | ⟨q, hq, hn⟩ => [(8, avI (q : Int))]) (fun (iZ : {q : Nat // q ≤ xs.length ∧ ∀ j, j < q → xs.getD j 0 = 0}) => match iZ with | ⟨q, hq, hn⟩ => []) (fun (iZ : {q : Nat // q ≤ xs.length ∧ ∀ j, j < q → xs.getD j 0 = 0}) => match iZ with | ⟨q, hq, hn⟩ => 0) (fun (iZ : {q : Nat // q ≤ xs.length ∧ ∀ j, j < q → xs.getD j 0 = 0}) => match iZ with | ⟨q, hq, hn⟩ => xs.length - q) ⟨0, Nat.zero_le _, fun j hj => absurd hj (Nat.not_lt_zero j)⟩ (Le.mk hB [] ⟨rfl, rfl, rfl, rfl, trivial⟩ rfl rfl (Nat.le_refl _)) ?_
 rintro ⟨q, hq, hn⟩
 show VC _ _ _ _ ⟨[(8, avI (q : Int))] ++ [(3, _), (6, _), (7, _)], [], 0⟩
 refine VC.sr ?_
 refine VO.val rfl rfl (OpV.lss rfl rfl rfl) ?_
 refine VO.nil ?_
 refine VC.seq ?_
 refine VC.cond rfl (fun aH1b => ?_) (fun aH1b => ?_)
 ·have aH1 := aH1b
  try simp only [qqT, qqF, qqN, qqM, qqL, qqE] at aH1
  refine VC.skip ?_
  refine VC.seq ?_
  refine VC.block ?_
  refine VC.sr ?_
  refine VO.val rfl rfl (OpV.indexAddr_1 rfl Tryz.underlying22 Tryz.sizeOf3 rfl rfl rfl (by omega)) ?_
  refine VO.val rfl rfl (OpV.load_at rfl hB OutW.no Tryz.isAgg3 rfl rfl) ?_
  refine VO.ma rfl rfl rfl rfl ?_
  refine VO.nil ?_
  refine VC.sr ?_
  refine VO.mv rfl rfl rfl rfl ?_
  refine VO.mv rfl rfl rfl rfl ?_
  refine VO.val rfl rfl (OpV.neq rfl rfl rfl) ?_
  refine VO.nil ?_
  refine VC.cond rfl (fun h1b => ?_) (fun h1b => ?_)
  ·have h1 := h1b
   try simp only [qqT, qqF, qqN, qqM, qqL, qqE] at h1
   refine VC.sr ?_
   refine VO.mv rfl rfl rfl rfl ?_
   refine VO.ma rfl rfl rfl rfl ?_
   refine VO.nil ?_
   refine VC.ret ?_
   exact Exists.intro _ (And.intro (RetN.one Tryz.results250 (ResN.v rfl)) (by rw [errsF_at (q := q) (by omega) hn h1]))
  ·have h1 := h1b
   try simp only [qqT, qqF, qqN, qqM, qqL, qqE] at h1
   refine VC.skip ?_
   refine VC.region ?_
   refine VO.val rfl rfl (OpV.add rfl rfl rfl (by unfold fits; omega)) ?_
   refine VO.mv rfl rfl rfl rfl ?_
   refine VO.nil ?_
   exact Exists.intro (⟨q + 1, by omega, lt_succ_cases hn ((by omega))⟩) (And.intro (Le.mk hB [] ⟨rfl, rfl, rfl, rfl, trivial⟩ rfl rfl (Nat.le_refl _)) (by first | omega | (show _ < _; omega) | (simp only []; omega)))
 ·have aH1 := aH1b
  try simp only [qqT, qqF, qqN, qqM, qqL, qqE] at aH1
  refine VC.exit ?_
  refine VC.sr ?_
  refine VO.mv rfl rfl rfl rfl ?_
  refine VO.ma rfl rfl rfl rfl ?_
  refine VO.nil ?_
  refine VC.ret ?_
  exact Exists.intro _ (And.intro (RetN.one Tryz.results250 (ResN.v rfl)) (by rw [errsF_none (fun j hj => hn j (by omega))]))
set_option maxRecDepth 100000 in
theorem inspect_compare {a b : LookS}  :
  SpecN Tryz.prog 218 [avLk a, avLk b] (fun y => y = avI (cmpLk a b)) := by
 refine SpecN.of_VCN Tryz.func218 rfl Tryz.ntmps218 (Nle rfl) fun w A hB => ?_
 have hnew : True := trivial
 refine VC.sr ?_
 refine VO.op rfl (OpE.box rfl hB rfl rfl rfl ?_)
 intro g2
 refine VO.op rfl (OpE.box rfl hB rfl rfl rfl ?_)
 intro g3
 refine VO.ma rfl rfl rfl rfl ?_
 refine VO.nil ?_
 refine VC.seq ?_
 refine VC.draw (fun _ => NoB) hB (by kernel_rfl) ?_
 refine VA.take (i := 0) rfl (by kernel_rfl) (by kernel_rfl) (by kernel_rfl) rfl rfl (OpV.fieldAddrO 2 rfl Tryz.underlying151 rfl rfl Tryz.sizeOf3 rfl) ?_
 refine VA.take (i := 1) rfl (by kernel_rfl) (by kernel_rfl) (by kernel_rfl) rfl rfl (OpV.load_own (i := 0) rfl hB Tryz.isAgg3 rfl rfl rfl Wi.not0) ?_
 refine VA.take (i := 2) rfl (by kernel_rfl) (by kernel_rfl) (by kernel_rfl) rfl rfl (OpV.fieldAddrO 2 rfl Tryz.underlying151 rfl rfl Tryz.sizeOf3 rfl) ?_
 refine VA.take (i := 3) rfl (by kernel_rfl) (by kernel_rfl) (by kernel_rfl) rfl rfl (OpV.load_own (i := 1) rfl hB Tryz.isAgg3 rfl rfl rfl Wi.not0) ?_
 refine VA.take (i := 5) rfl (by kernel_rfl) (by kernel_rfl) (by kernel_rfl) rfl rfl (OpV.fieldAddrO 0 rfl Tryz.underlying151 rfl rfl Tryz.sizeOf9 rfl) ?_
 refine VA.take (i := 6) rfl (by kernel_rfl) (by kernel_rfl) (by kernel_rfl) rfl rfl (OpV.load_own (i := 0) rfl hB Tryz.isAgg9 rfl rfl rfl Wi.not0) ?_
 refine VA.take (i := 7) rfl (by kernel_rfl) (by kernel_rfl) (by kernel_rfl) rfl rfl (OpV.fieldAddrO 0 rfl Tryz.underlying151 rfl rfl Tryz.sizeOf9 rfl) ?_
 refine VA.take (i := 8) rfl (by kernel_rfl) (by kernel_rfl) (by kernel_rfl) rfl rfl (OpV.load_own (i := 1) rfl hB Tryz.isAgg9 rfl rfl rfl Wi.not0) ?_
 refine VA.take (i := 10) rfl (by kernel_rfl) (by kernel_rfl) (by kernel_rfl) rfl rfl (OpV.fieldAddrO 1 rfl Tryz.underlying151 rfl rfl Tryz.sizeOf9 rfl) ?_
 refine VA.take (i := 11) rfl (by kernel_rfl) (by kernel_rfl) (by kernel_rfl) rfl rfl (OpV.load_own (i := 0) rfl hB Tryz.isAgg9 rfl rfl rfl Wi.not0) ?_
 refine VA.take (i := 12) rfl (by kernel_rfl) (by kernel_rfl) (by kernel_rfl) rfl rfl (OpV.fieldAddrO 1 rfl Tryz.underlying151 rfl rfl Tryz.sizeOf9 rfl) ?_
 refine VA.take (i := 13) rfl (by kernel_rfl) (by kernel_rfl) (by kernel_rfl) rfl rfl (OpV.load_own (i := 1) rfl hB Tryz.isAgg9 rfl rfl rfl Wi.not0) ?_
 refine VA.all (rs := [4]) (by kernel_rfl) (by decide) ?_
 refine ⟨⟨_, rfl, .inl rfl, ?_⟩, trivial⟩
 refine OpE.call rfl hB rfl Tryz.call251 rfl (SpecN.spec (cmp_Compare_int)) ?_
 rintro _ rfl
 refine VA.all (rs := [9]) (by kernel_rfl) (by decide) ?_
 refine ⟨⟨_, rfl, .inl rfl, ?_⟩, trivial⟩
 refine OpE.call rfl hB rfl Tryz.call123 rfl (SpecN.spec (strings_Compare_S)) ?_
 rintro _ rfl
 refine VA.all (rs := [14]) (by kernel_rfl) (by decide) ?_
 refine ⟨⟨_, rfl, .inl rfl, ?_⟩, trivial⟩
 refine OpE.call rfl hB rfl Tryz.call123 rfl (SpecN.spec (strings_Compare_S)) ?_
 rintro _ rfl
 refine VA.all (rs := [15]) (by kernel_rfl) (by decide) ?_
 refine ⟨⟨_, rfl, .inl rfl, ?_⟩, trivial⟩
 refine OpE.buildSlice (zc := #[.int .i64 0, .int .i64 0, .int .i64 0]) rfl hB rfl Tryz.underlying22 Tryz.sizeOf3 Tryz.zeroValue3 (by decide) (by decide) (by kernel_rfl) rfl rfl ?_
 refine VA.le _ (Le.lits (t := 20) (xs := [cmpI a.at_ b.at_, cmpB a.board b.board, cmpB a.name b.name]) rfl rfl) ?_
 refine VA.all (rs := [16]) (by kernel_rfl) (by decide) ?_
 refine ⟨⟨_, rfl, .inl rfl, ?_⟩, trivial⟩
 refine OpE.call rfl hB rfl Tryz.call250 rfl (SpecN.spec (cmp_Or_int (by simp))) ?_
 rintro _ rfl
 refine VA.take (i := 17) rfl (by kernel_rfl) (by kernel_rfl) (by kernel_rfl) rfl rfl (OpV.move (.inr rfl) rfl) ?_
 refine VA.done (by kernel_rfl) ?_
 refine VC.ret ?_
 exact Exists.intro _ (And.intro (RetN.one Tryz.results218 (ResN.v rfl)) (rfl))
set_option maxRecDepth 100000 in
theorem kit_IsMoment {n : Int}  :
  SpecN Tryz.prog 217 [avI n] (fun y => y = avB (!outR n 0 345686399999)) := by
 refine SpecN.of_VCN Tryz.func217 rfl Tryz.ntmps217 (Nle rfl) fun w A hB => ?_
 have hnew : True := trivial
 refine VC.sr ?_
 refine VO.ma rfl rfl rfl rfl ?_
 refine VO.nil ?_
 refine VC.sr ?_
 refine VO.mv rfl rfl rfl rfl ?_
 refine VO.op rfl (OpE.call rfl hB rfl Tryz.call131 rfl (SpecN.spec (kit_Outside)) ?_)
 rintro _ rfl
 refine VO.val rfl rfl (OpV.not rfl rfl) ?_
 refine VO.ma rfl rfl rfl rfl ?_
 refine VO.nil ?_
 refine VC.ret ?_
 exact Exists.intro _ (And.intro (RetN.one Tryz.results217 (ResN.v rfl)) (rfl))
set_option maxRecDepth 100000 in
set_option maxHeartbeats 4000000 in
theorem inspect_lookFault {l : List LookS} {i : Nat} (hs : SmLk l) (hi : i < l.length) :
  SpecN Tryz.prog 173 [avL l, avI (i : Int)] (fun y => y = avI (lookE l i)) := by
 refine SpecN.of_VCN Tryz.func173 rfl Tryz.ntmps173 (Nle rfl) fun w A hB => ?_
 have hnew : True := trivial
 refine VC.seq ?_
 have hl := hs.len
 have h5 : (lkStrs (l.getD i default)).length = 5 := rfl
 refine VC.region ?_
 refine VO.ma rfl rfl rfl rfl ?_
 refine VO.nil ?_
 refine VC.sr ?_
 refine VO.mv rfl rfl rfl rfl ?_
 refine VO.mv rfl rfl rfl rfl ?_
 refine VO.val rfl rfl (OpV.indexAddr_E rfl Tryz.underlying152 Tryz.sizeOf151 rfl rfl rfl (by omega)) ?_
 refine VO.val rfl rfl (OpV.loadK_at rfl hB OutW.no Tryz.isAgg151 Tryz.sizeOf151 rfl rfl) ?_
 refine VO.op rfl (OpE.alloc rfl hB rfl Tryz.zeroValue151 rfl ?_)
 intro g5
 refine VO.op rfl (OpE.store (i := 0) rfl hB rfl Tryz.sizeOf151 rfl rfl rfl rfl rfl rfl (Nle rfl) trivial ?_)
 refine VO.nil ?_
 refine VC.seq ?_
 refine VC.sr ?_
 refine VO.val rfl rfl (OpV.fieldAddrO 0 rfl Tryz.underlying151 rfl rfl Tryz.sizeOf9 rfl) ?_
 refine VO.val rfl rfl (OpV.load_own (i := 0) rfl hB Tryz.isAgg9 rfl rfl rfl (fun h => h)) ?_
 refine VO.val rfl rfl (OpV.fieldAddrO 1 rfl Tryz.underlying151 rfl rfl Tryz.sizeOf9 rfl) ?_
 refine VO.val rfl rfl (OpV.load_own (i := 0) rfl hB Tryz.isAgg9 rfl rfl rfl (fun h => h)) ?_
 refine VO.val rfl rfl (OpV.fieldAddrO 5 rfl Tryz.underlying151 rfl rfl Tryz.sizeOf9 rfl) ?_
 refine VO.val rfl rfl (OpV.load_own (i := 0) rfl hB Tryz.isAgg9 rfl rfl rfl (fun h => h)) ?_
 refine VO.val rfl rfl (OpV.fieldAddrO 6 rfl Tryz.underlying151 rfl rfl Tryz.sizeOf9 rfl) ?_
 refine VO.val rfl rfl (OpV.load_own (i := 0) rfl hB Tryz.isAgg9 rfl rfl rfl (fun h => h)) ?_
 refine VO.val rfl rfl (OpV.fieldAddrO 7 rfl Tryz.underlying151 rfl rfl Tryz.sizeOf9 rfl) ?_
 refine VO.val rfl rfl (OpV.load_own (i := 0) rfl hB Tryz.isAgg9 rfl rfl rfl (fun h => h)) ?_
 refine VO.op rfl (OpE.buildSlice (zc := #[.string ⟨#[]⟩, .string ⟨#[]⟩, .string ⟨#[]⟩, .string ⟨#[]⟩, .string ⟨#[]⟩]) rfl hB rfl Tryz.underlying81 Tryz.sizeOf9 Tryz.zeroValue9 (by decide) (by decide) (by kernel_rfl) rfl rfl ?_)
 refine VO.le _ (Le.litsS (t := 22) (xs := lkStrs (l.getD i default)) rfl rfl) ?_
 refine VO.val rfl rfl (OpV.len_im rfl Tryz.underlying81 rfl) ?_
 refine VO.mv rfl rfl rfl rfl ?_
 refine VO.nil ?_
 refine VC.block ?_
 refine VC.loopK [(0, _), (1, _), (5, _), (22, _), (23, _)] ⟨rfl, rfl, rfl, rfl, rfl, trivial⟩ ({q : Nat // q ≤ 5 ∧ ∀ j, j < q → keyF ((lkStrs (l.getD i default)).getD j ByteArray.empty) = true}) (fun (iZ : {q : Nat // q ≤ 5 ∧ ∀ j, j < q → keyF ((lkStrs (l.getD i default)).getD j ByteArray.empty) = true}) => match iZ with | ⟨q, hq, hn⟩ => [(24, avI (q : Int))]) (fun (iZ : {q : Nat // q ≤ 5 ∧ ∀ j, j < q → keyF ((lkStrs (l.getD i default)).getD j ByteArray.empty) = true}) => match iZ with | ⟨q, hq, hn⟩ => [boxLk g5 (l.getD i default) 151]) (fun (iZ : {q : Nat // q ≤ 5 ∧ ∀ j, j < q → keyF ((lkStrs (l.getD i default)).getD j ByteArray.empty) = true}) => match iZ with | ⟨q, hq, hn⟩ => 0) (fun (iZ : {q : Nat // q ≤ 5 ∧ ∀ j, j < q → keyF ((lkStrs (l.getD i default)).getD j ByteArray.empty) = true}) => match iZ with | ⟨q, hq, hn⟩ => 5 - q) ⟨0, Nat.zero_le _, fun j hj => absurd hj (Nat.not_lt_zero j)⟩ (Le.mk hB [0] ⟨rfl, rfl, rfl, rfl, rfl, rfl, trivial⟩ rfl rfl (Nat.le_refl _)) ?_
 rintro ⟨q, hq, hn⟩
 show VC _ _ _ _ ⟨[(24, avI (q : Int))] ++ [(0, _), (1, _), (5, _), (22, _), (23, _)], [boxLk g5 (l.getD i default) 151], 0⟩
 refine VC.sr ?_
 refine VO.val rfl rfl (OpV.lss rfl rfl rfl) ?_
 refine VO.nil ?_
 refine VC.seq ?_
 refine VC.cond rfl (fun aH1b => ?_) (fun aH1b => ?_)
 ·have aH1 := aH1b
  try simp only [qqT, qqF, qqN, qqM, qqL, qqE] at aH1
  refine VC.skip ?_
  refine VC.seq ?_
  refine VC.block ?_
  refine VC.sr ?_
  refine VO.val rfl rfl (OpV.indexAddr_1 rfl Tryz.underlying81 Tryz.sizeOf9 rfl rfl rfl (by omega)) ?_
  refine VO.val rfl rfl (OpV.load_at rfl hB OutW.no Tryz.isAgg9 rfl rfl) ?_
  refine VO.ma rfl rfl rfl rfl ?_
  refine VO.nil ?_
  refine VC.sr ?_
  refine VO.mv rfl rfl rfl rfl ?_
  refine VO.op rfl (OpE.call rfl hB rfl Tryz.call82 rfl (SpecN.spec (kit_IsKey (by have := lk_sz hs i q; omega))) ?_)
  rintro _ rfl
  refine VO.val rfl rfl (OpV.not rfl rfl) ?_
  refine VO.nil ?_
  refine VC.cond rfl (fun h1b => ?_) (fun h1b => ?_)
  ·have h1 := h1b
   try simp only [qqT, qqF, qqN, qqM, qqL, qqE] at h1
   refine VC.sr ?_
   refine VO.ma rfl rfl rfl rfl ?_
   refine VO.nil ?_
   refine VC.ret ?_
   exact Exists.intro _ (And.intro (RetN.one Tryz.results173 (ResN.v rfl)) (by rw [lookE_5 (all_no (d := ByteArray.empty) (q := q) (by show q < 5; omega) (by assumption))]))
  ·have h1 := h1b
   try simp only [qqT, qqF, qqN, qqM, qqL, qqE] at h1
   refine VC.skip ?_
   refine VC.region ?_
   refine VO.val rfl rfl (OpV.add rfl rfl rfl (by unfold fits; omega)) ?_
   refine VO.mv rfl rfl rfl rfl ?_
   refine VO.nil ?_
   exact Exists.intro (⟨q + 1, by omega, lt_succ_cases hn ((by assumption))⟩) (And.intro (Le.mk hB [0] ⟨rfl, rfl, rfl, rfl, rfl, rfl, trivial⟩ rfl rfl (Nat.le_refl _)) (by first | omega | (show _ < _; omega) | (simp only []; omega)))
 ·have aH1 := aH1b
  try simp only [qqT, qqF, qqN, qqM, qqL, qqE] at aH1
  have hk : (lkStrs (l.getD i default)).all keyF = true := all_yes (d := ByteArray.empty) (fun j hj => hn j (by simp [lkStrs] at hj; omega))
  refine VC.exit ?_
  refine VC.seq ?_
  refine VC.block ?_
  refine VC.sr ?_
  refine VO.val rfl rfl (OpV.fieldAddrO 2 rfl Tryz.underlying151 rfl rfl Tryz.sizeOf3 rfl) ?_
  refine VO.val rfl rfl (OpV.load_own (i := 0) rfl hB Tryz.isAgg3 rfl rfl rfl (fun h => h)) ?_
  refine VO.op rfl (OpE.call rfl hB rfl Tryz.call217 rfl (SpecN.spec (kit_IsMoment)) ?_)
  rintro _ rfl
  refine VO.val rfl rfl (OpV.not rfl rfl) ?_
  refine VO.ma rfl rfl rfl rfl ?_
  refine VO.nil ?_
  refine VC.cond rfl (fun h2b => ?_) (fun h2b => ?_)
  ·have h2 := h2b
   try simp only [qqT, qqF, qqN, qqM, qqL, qqE] at h2
   refine VC.sr ?_
   refine VO.ma rfl rfl rfl rfl ?_
   refine VO.nil ?_
   refine VC.ret ?_
   exact Exists.intro _ (And.intro (RetN.one Tryz.results173 (ResN.v rfl)) (by rw [lookE_1 hk h2]))
  ·have h2 := h2b
   try simp only [qqT, qqF, qqN, qqM, qqL, qqE] at h2
   refine VC.sr ?_
   refine VO.val rfl rfl (OpV.fieldAddrO 3 rfl Tryz.underlying151 rfl rfl Tryz.sizeOf3 rfl) ?_
   refine VO.val rfl rfl (OpV.load_own (i := 0) rfl hB Tryz.isAgg3 rfl rfl rfl (fun h => h)) ?_
   refine VO.op rfl (OpE.call rfl hB rfl Tryz.call131 rfl (SpecN.spec (kit_Outside)) ?_)
   rintro _ rfl
   refine VO.ma rfl rfl rfl rfl ?_
   refine VO.nil ?_
   refine VC.cond rfl (fun h3b => ?_) (fun h3b => ?_)
   ·have h3 := h3b
    try simp only [qqT, qqF, qqN, qqM, qqL, qqE] at h3
    refine VC.sr ?_
    refine VO.ma rfl rfl rfl rfl ?_
    refine VO.nil ?_
    refine VC.ret ?_
    exact Exists.intro _ (And.intro (RetN.one Tryz.results173 (ResN.v rfl)) (by rw [lookE_4 hk h2 h3]))
   ·have h3 := h3b
    try simp only [qqT, qqF, qqN, qqM, qqL, qqE] at h3
    refine VC.seq ?_
    refine VC.draw (fun _ => NoB) hB (by kernel_rfl) ?_
    refine VA.take (i := 0) rfl (by kernel_rfl) (by kernel_rfl) (by kernel_rfl) rfl rfl (OpV.move (.inl rfl) rfl) ?_
    refine VA.take (i := 1) rfl (by kernel_rfl) (by kernel_rfl) (by kernel_rfl) rfl rfl (OpV.gtr rfl rfl rfl) ?_
    refine VA.take (i := 2) rfl (by kernel_rfl) (by kernel_rfl) (by kernel_rfl) rfl rfl (OpV.move (.inl rfl) rfl) ?_
    refine VA.split (t := 44) rfl (fun aK2b => ?_) (fun aK2b => ?_)
    ·have aK2 := aK2b
     try simp only [qqT, qqF, qqN, qqM, qqL, qqE] at aK2
     refine VA.takeY (i := 3) rfl (by kernel_rfl) (by kernel_rfl) (by kernel_rfl) rfl rfl rfl rfl aK2b (OpV.move (.inl rfl) rfl) ?_
     refine VA.takeY (i := 4) rfl (by kernel_rfl) (by kernel_rfl) (by kernel_rfl) rfl rfl rfl rfl aK2b (OpV.move (.inl rfl) rfl) ?_
     refine VA.takeY (i := 5) rfl (by kernel_rfl) (by kernel_rfl) (by kernel_rfl) rfl rfl rfl rfl aK2b (OpV.sub rfl rfl rfl (by unfold fits; omega)) ?_
     refine VA.takeY (i := 6) rfl (by kernel_rfl) (by kernel_rfl) (by kernel_rfl) rfl rfl rfl rfl aK2b (OpV.indexAddr_E rfl Tryz.underlying152 Tryz.sizeOf151 rfl rfl (show ((i : Int) - 1) = ((i - 1 : Nat) : Int) by omega) (by omega)) ?_
     refine VA.takeY (i := 7) rfl (by kernel_rfl) (by kernel_rfl) (by kernel_rfl) rfl rfl rfl rfl aK2b (OpV.loadK_at rfl hB OutW.wi0 Tryz.isAgg151 Tryz.sizeOf151 rfl rfl) ?_
     refine VA.takeY (i := 8) rfl (by kernel_rfl) (by kernel_rfl) (by kernel_rfl) rfl rfl rfl rfl aK2b (OpV.loadK_own (i := 0) rfl hB Tryz.isAgg151 Tryz.sizeOf151 rfl rfl rfl Wi.not0) ?_
     refine VA.all (rs := [9]) (by kernel_rfl) (by decide) ?_
     refine ⟨⟨_, rfl, .inr ⟨_, _, _, rfl, rfl, (look_k rfl aK2b)⟩, ?_⟩, trivial⟩
     refine OpE.call rfl hB rfl Tryz.call218 rfl (SpecN.spec (inspect_compare (a := l.getD (i - 1) default) (b := l.getD i default))) ?_
     rintro _ rfl
     refine VA.takeY (i := 10) rfl (by kernel_rfl) (by kernel_rfl) (by kernel_rfl) rfl rfl rfl rfl aK2b (OpV.geq rfl rfl rfl) ?_
     refine VA.take (i := 11) rfl (by kernel_rfl) (by kernel_rfl) (by kernel_rfl) rfl rfl (OpV.pickT rfl rfl rfl rfl aK2b) ?_
     refine VA.take (i := 12) rfl (by kernel_rfl) (by kernel_rfl) (by kernel_rfl) rfl rfl (OpV.move (.inr rfl) rfl) ?_
     refine VA.done (by kernel_rfl) ?_
     refine VC.cond rfl (fun h4b => ?_) (fun h4b => ?_)
     ·have h4 := h4b
      try simp only [qqT, qqF, qqN, qqM, qqL, qqE] at h4
      refine VC.sr ?_
      refine VO.ma rfl rfl rfl rfl ?_
      refine VO.nil ?_
      refine VC.ret ?_
      exact Exists.intro _ (And.intro (RetN.one Tryz.results173 (ResN.v rfl)) (by rw [lookE_7 hk h2 h3 (by omega) h4]))
     ·have h4 := h4b
      try simp only [qqT, qqF, qqN, qqM, qqL, qqE] at h4
      refine VC.skip ?_
      refine VC.sr ?_
      refine VO.ma rfl rfl rfl rfl ?_
      refine VO.nil ?_
      refine VC.ret ?_
      exact Exists.intro _ (And.intro (RetN.one Tryz.results173 (ResN.v rfl)) (by first | rw [lookE_0 hk h2 h3 (.inr (by omega))] | rw [lookE_0 hk h2 h3 (.inl (by omega))]))
    ·have aK2 := aK2b
     try simp only [qqT, qqF, qqN, qqM, qqL, qqE] at aK2
     refine VA.takeX (i := 3) rfl (by kernel_rfl) (by kernel_rfl) (by kernel_rfl) rfl rfl rfl rfl aK2b ?_
     refine VA.takeX (i := 4) rfl (by kernel_rfl) (by kernel_rfl) (by kernel_rfl) rfl rfl rfl rfl aK2b ?_
     refine VA.takeX (i := 5) rfl (by kernel_rfl) (by kernel_rfl) (by kernel_rfl) rfl rfl rfl rfl aK2b ?_
     refine VA.takeX (i := 6) rfl (by kernel_rfl) (by kernel_rfl) (by kernel_rfl) rfl rfl rfl rfl aK2b ?_
     refine VA.takeX (i := 7) rfl (by kernel_rfl) (by kernel_rfl) (by kernel_rfl) rfl rfl rfl rfl aK2b ?_
     refine VA.takeX (i := 8) rfl (by kernel_rfl) (by kernel_rfl) (by kernel_rfl) rfl rfl rfl rfl aK2b ?_
     refine VA.takeX (i := 9) rfl (by kernel_rfl) (by kernel_rfl) (by kernel_rfl) rfl rfl rfl rfl aK2b ?_
     refine VA.takeX (i := 10) rfl (by kernel_rfl) (by kernel_rfl) (by kernel_rfl) rfl rfl rfl rfl aK2b ?_
     refine VA.take (i := 11) rfl (by kernel_rfl) (by kernel_rfl) (by kernel_rfl) rfl rfl (OpV.pickF rfl rfl rfl rfl aK2b) ?_
     refine VA.take (i := 12) rfl (by kernel_rfl) (by kernel_rfl) (by kernel_rfl) rfl rfl (OpV.move (.inr rfl) rfl) ?_
     refine VA.done (by kernel_rfl) ?_
     refine VC.condF rfl rfl ?_
     refine VC.skip ?_
     refine VC.sr ?_
     refine VO.ma rfl rfl rfl rfl ?_
     refine VO.nil ?_
     refine VC.ret ?_
     exact Exists.intro _ (And.intro (RetN.one Tryz.results173 (ResN.v rfl)) (by first | rw [lookE_0 hk h2 h3 (.inr (by omega))] | rw [lookE_0 hk h2 h3 (.inl (by omega))]))
theorem seen_get (l : List LookS) (q : Nat) : mgetD (seenL (l.take q)) ((l.getD q default).board, (l.getD q default).name) false = (l.take q).any fun o => sameT o (l.getD q default) := seenL_get _ _
theorem seen_take {l : List LookS} {q : Nat} (h : q < l.length) (hx : (l.take q).any (fun o => sameT o (l.getD q default)) = false) : mput (seenL (l.take q)) ((l.getD q default).board, (l.getD q default).name) true = seenL (l.take (q + 1)) := by
 rw [seenL_new hx]
 rw [List.take_add_one, List.getD_eq_getElem?_getD, List.getElem?_eq_getElem h]; rfl
set_option maxRecDepth 100000 in
theorem plK : KeyOk Tryz.prog 265 kv2 := KeyOk.str2 Tryz.underlying265 (by kernel_rfl) (rfl : Tryz.prog.fieldsOf 265 = #[_, _]) Tryz.underlying9 Tryz.underlying9 Tryz.isAgg9 Tryz.isAgg9 rfl rfl (by decide) (by decide)
set_option maxRecDepth 100000 in
set_option maxHeartbeats 4000000 in
theorem inspect_CheckLooks {l : List LookS} (hs : SmLk l) :
  SpecN Tryz.prog 136 [avL l] (fun y => y = avI (lookF l)) := by
 refine SpecN.of_VCN Tryz.func136 rfl Tryz.ntmps136 (Nle rfl) fun w A hB => ?_
 have hnew : True := trivial
 refine VC.seq ?_
 have hl := hs.len
 refine VC.region ?_
 refine VO.ma rfl rfl rfl rfl ?_
 refine VO.nil ?_
 refine VC.seq ?_
 refine VC.sr ?_
 refine VO.mv rfl rfl rfl rfl ?_
 refine VO.val rfl rfl (OpV.len_im rfl Tryz.underlying152 rfl) ?_
 refine VO.val rfl rfl (OpV.gtr rfl rfl rfl) ?_
 refine VO.nil ?_
 refine VC.cond rfl (fun h0b => ?_) (fun h0b => ?_)
 ·have h0 := h0b
  try simp only [qqT, qqF, qqN, qqM, qqL, qqE] at h0
  refine VC.sr ?_
  refine VO.ma rfl rfl rfl rfl ?_
  refine VO.nil ?_
  refine VC.ret ?_
  exact Exists.intro _ (And.intro (RetN.one Tryz.results136 (ResN.v rfl)) (by rw [lookF_2 (by omega)]))
 ·have h0 := h0b
  try simp only [qqT, qqF, qqN, qqM, qqL, qqE] at h0
  refine VC.skip ?_
  refine VC.seq ?_
  refine VC.sr ?_
  refine VO.mv rfl rfl rfl rfl ?_
  refine VO.val rfl rfl (OpV.len_im rfl Tryz.underlying152 rfl) ?_
  refine VO.mv rfl rfl rfl rfl ?_
  refine VO.nil ?_
  refine VC.block ?_
  refine VC.loopK [(0, _), (13, _)] ⟨rfl, rfl, trivial⟩ ({q : Nat // q ≤ l.length ∧ ∀ j, j < q → lookE l j = 0}) (fun (iZ : {q : Nat // q ≤ l.length ∧ ∀ j, j < q → lookE l j = 0}) => match iZ with | ⟨q, hq, hn⟩ => [(14, avI (q : Int))]) (fun (iZ : {q : Nat // q ≤ l.length ∧ ∀ j, j < q → lookE l j = 0}) => match iZ with | ⟨q, hq, hn⟩ => []) (fun (iZ : {q : Nat // q ≤ l.length ∧ ∀ j, j < q → lookE l j = 0}) => match iZ with | ⟨q, hq, hn⟩ => 0) (fun (iZ : {q : Nat // q ≤ l.length ∧ ∀ j, j < q → lookE l j = 0}) => match iZ with | ⟨q, hq, hn⟩ => l.length - q) ⟨0, Nat.zero_le _, fun j hj => absurd hj (Nat.not_lt_zero j)⟩ (Le.mk hB [] ⟨rfl, rfl, rfl, trivial⟩ rfl rfl (Nat.le_refl _)) ?_
  rintro ⟨q, hq, hn⟩
  show VC _ _ _ _ ⟨[(14, avI (q : Int))] ++ [(0, _), (13, _)], [], 0⟩
  refine VC.sr ?_
  refine VO.val rfl rfl (OpV.lss rfl rfl rfl) ?_
  refine VO.nil ?_
  refine VC.seq ?_
  refine VC.cond rfl (fun aH1b => ?_) (fun aH1b => ?_)
  ·have aH1 := aH1b
   try simp only [qqT, qqF, qqN, qqM, qqL, qqE] at aH1
   refine VC.skip ?_
   refine VC.seq ?_
   refine VC.block ?_
   refine VC.sr ?_
   refine VO.mv rfl rfl rfl rfl ?_
   refine VO.ma rfl rfl rfl rfl ?_
   refine VO.nil ?_
   refine VC.sr ?_
   refine VO.mv rfl rfl rfl rfl ?_
   refine VO.mv rfl rfl rfl rfl ?_
   refine VO.op rfl (OpE.call rfl hB rfl Tryz.call173 rfl (SpecN.spec (inspect_lookFault hs (by omega))) ?_)
   rintro _ rfl
   refine VO.ma rfl rfl rfl rfl ?_
   refine VO.nil ?_
   refine VC.sr ?_
   refine VO.mv rfl rfl rfl rfl ?_
   refine VO.val rfl rfl (OpV.neq rfl rfl rfl) ?_
   refine VO.nil ?_
   refine VC.cond rfl (fun h2b => ?_) (fun h2b => ?_)
   ·have h2 := h2b
    try simp only [qqT, qqF, qqN, qqM, qqL, qqE] at h2
    refine VC.sr ?_
    refine VO.mv rfl rfl rfl rfl ?_
    refine VO.ma rfl rfl rfl rfl ?_
    refine VO.nil ?_
    refine VC.ret ?_
    exact Exists.intro _ (And.intro (RetN.one Tryz.results136 (ResN.v rfl)) (by rw [lookF_at (by omega) (by omega) hn h2]))
   ·have h2 := h2b
    try simp only [qqT, qqF, qqN, qqM, qqL, qqE] at h2
    refine VC.skip ?_
    refine VC.region ?_
    refine VO.val rfl rfl (OpV.add rfl rfl rfl (by unfold fits; omega)) ?_
    refine VO.mv rfl rfl rfl rfl ?_
    refine VO.nil ?_
    exact Exists.intro (⟨q + 1, by omega, lt_succ_cases hn ((by omega))⟩) (And.intro (Le.mk hB [] ⟨rfl, rfl, rfl, trivial⟩ rfl rfl (Nat.le_refl _)) (by first | omega | (show _ < _; omega) | (simp only []; omega)))
  ·have aH1 := aH1b
   try simp only [qqT, qqF, qqN, qqM, qqL, qqE] at aH1
   refine VC.exit ?_
   refine VC.seq ?_
   have hl0 : ∀ j, j < l.length → lookE l j = 0 := fun j hj => hn j (by omega)
   refine VC.region ?_
   refine VO.op rfl (OpE.makeMap (kv2) (eBl) rfl hB rfl ?_)
   intro g24
   refine VO.ma rfl rfl rfl rfl ?_
   refine VO.nil ?_
   refine VC.seq ?_
   refine VC.sr ?_
   refine VO.mv rfl rfl rfl rfl ?_
   refine VO.val rfl rfl (OpV.len_im rfl Tryz.underlying152 rfl) ?_
   refine VO.mv rfl rfl rfl rfl ?_
   refine VO.nil ?_
   refine VC.block ?_
   refine VC.loopK [(5, _), (25, _), (26, _)] ⟨rfl, rfl, rfl, trivial⟩ ({r : Nat // r ≤ l.length ∧ ∀ j, j < r → twE l j = 0}) (fun (iZ : {r : Nat // r ≤ l.length ∧ ∀ j, j < r → twE l j = 0}) => match iZ with | ⟨r, hq1, hn1⟩ => [(27, avI (r : Int))]) (fun (iZ : {r : Nat // r ≤ l.length ∧ ∀ j, j < r → twE l j = 0}) => match iZ with | ⟨r, hq1, hn1⟩ => [mapE kv2 g24 eBl (seenL (l.take r))]) (fun (iZ : {r : Nat // r ≤ l.length ∧ ∀ j, j < r → twE l j = 0}) => match iZ with | ⟨r, hq1, hn1⟩ => 0) (fun (iZ : {r : Nat // r ≤ l.length ∧ ∀ j, j < r → twE l j = 0}) => match iZ with | ⟨r, hq1, hn1⟩ => l.length - r) ⟨0, Nat.zero_le _, fun j hj => absurd hj (Nat.not_lt_zero j)⟩ (Le.mk hB [0] ⟨rfl, rfl, rfl, rfl, trivial⟩ rfl rfl (Nat.le_refl _)) ?_
   rintro ⟨r, hq1, hn1⟩
   show VC _ _ _ _ ⟨[(27, avI (r : Int))] ++ [(5, _), (25, _), (26, _)], [mapE kv2 g24 eBl (seenL (l.take r))], 0⟩
   refine VC.sr ?_
   refine VO.val rfl rfl (OpV.lss rfl rfl rfl) ?_
   refine VO.nil ?_
   refine VC.seq ?_
   refine VC.cond rfl (fun aH2b => ?_) (fun aH2b => ?_)
   ·have aH2 := aH2b
    try simp only [qqT, qqF, qqN, qqM, qqL, qqE] at aH2
    refine VC.skip ?_
    refine VC.seq ?_
    refine VC.block ?_
    refine VC.sr ?_
    refine VO.val rfl rfl (OpV.indexAddr_E rfl Tryz.underlying152 Tryz.sizeOf151 rfl rfl rfl (by omega)) ?_
    refine VO.val rfl rfl (OpV.loadK_at rfl hB OutW.no Tryz.isAgg151 Tryz.sizeOf151 rfl rfl) ?_
    refine VO.op rfl (OpE.alloc rfl hB rfl Tryz.zeroValue151 rfl ?_)
    intro g7
    refine VO.op rfl (OpE.store (i := 1) rfl hB rfl Tryz.sizeOf151 rfl rfl rfl rfl rfl rfl (Nle rfl) trivial ?_)
    refine VO.nil ?_
    refine VC.sr ?_
    refine VO.val rfl rfl (OpV.fieldAddrO 0 rfl Tryz.underlying151 rfl rfl Tryz.sizeOf9 rfl) ?_
    refine VO.val rfl rfl (OpV.load_own (i := 1) rfl hB Tryz.isAgg9 rfl rfl rfl (fun h => h)) ?_
    refine VO.val rfl rfl (OpV.fieldAddrO 1 rfl Tryz.underlying151 rfl rfl Tryz.sizeOf9 rfl) ?_
    refine VO.val rfl rfl (OpV.load_own (i := 1) rfl hB Tryz.isAgg9 rfl rfl rfl (fun h => h)) ?_
    refine VO.val rfl rfl (OpV.build (pls := #[(0, 1), (1, 1)]) rfl Tryz.zeroValue265 Tryz.underlying265 (fun w => by kernel_rfl) rfl rfl) ?_
    refine VO.op rfl (OpE.alloc rfl hB rfl Tryz.zeroValue265 rfl ?_)
    intro g8
    refine VO.op rfl (OpE.store (i := 2) rfl hB rfl Tryz.sizeOf265 rfl rfl rfl rfl rfl rfl (Nle rfl) trivial ?_)
    refine VO.nil ?_
    refine VC.seq ?_
    refine VC.sr ?_
    refine VO.mv rfl rfl rfl rfl ?_
    refine VO.val rfl rfl (OpV.loadK_own (i := 2) rfl hB Tryz.isAgg265 Tryz.sizeOf265 rfl rfl rfl (fun h => h)) ?_
    refine VO.val rfl rfl (OpV.lookup_own (i := 0) (k := ((l.getD r default).board, (l.getD r default).name)) rfl hB Tryz.underlying263 plK Tryz.zeroValue4 rfl (KeyE.agg2 rfl) rfl (fun h => h)) ?_
    refine VO.le _ (Le.recast (t := 38) (y := avB ((l.take r).any fun o => sameT o (l.getD r default))) rfl (fun w Z u h => by rw [← seen_get]; unfold mgetD; revert h; cases mget (seenL (l.take r)) ((l.getD r default).board, (l.getD r default).name) <;> exact id)) ?_
    refine VO.nil ?_
    refine VC.cond rfl (fun htb => ?_) (fun htb => ?_)
    ·have ht := htb
     try simp only [qqT, qqF, qqN, qqM, qqL, qqE] at ht
     refine VC.sr ?_
     refine VO.ma rfl rfl rfl rfl ?_
     refine VO.nil ?_
     refine VC.ret ?_
     exact Exists.intro _ (And.intro (RetN.one Tryz.results136 (ResN.v rfl)) (by rw [lookF_tw (by omega) hl0 (by omega) hn1 (by rw [twE_6 ht]; decide), twE_6 ht]))
    ·have ht := htb
     try simp only [qqT, qqF, qqN, qqM, qqL, qqE] at ht
     refine VC.skip ?_
     refine VC.region ?_
     refine VO.mv rfl rfl rfl rfl ?_
     refine VO.val rfl rfl (OpV.loadK_own (i := 2) rfl hB Tryz.isAgg265 Tryz.sizeOf265 rfl rfl rfl (fun h => h)) ?_
     refine VO.op rfl (OpE.mapUpdate (i := 0) (k := ((l.getD r default).board, (l.getD r default).name)) (xx := true) rfl hB rfl Tryz.underlying263 plK rfl (KeyE.agg2 rfl) rfl rfl trivial ?_)
     refine VO.nil ?_
     refine VC.region ?_
     refine VO.val rfl rfl (OpV.add rfl rfl rfl (by unfold fits; omega)) ?_
     refine VO.mv rfl rfl rfl rfl ?_
     refine VO.nil ?_
     exact Exists.intro (⟨r + 1, by omega, lt_succ_cases hn1 ((twE_0 ht))⟩) (And.intro (Le.mk hB [0] ⟨rfl, rfl, rfl, rfl, trivial⟩ rfl (by dsimp only; rw [seen_take (by omega) ht]; rfl) (Nat.le_refl _)) (by first | omega | (show _ < _; omega) | (simp only []; omega)))
   ·have aH2 := aH2b
    try simp only [qqT, qqF, qqN, qqM, qqL, qqE] at aH2
    refine VC.exit ?_
    refine VC.sr ?_
    refine VO.ma rfl rfl rfl rfl ?_
    refine VO.nil ?_
    refine VC.ret ?_
    exact Exists.intro _ (And.intro (RetN.one Tryz.results136 (ResN.v rfl)) (by rw [lookF_ok (by omega) hl0 (fun j hj => hn1 j (by omega))]))
set_option maxRecDepth 100000 in
theorem share_add {g a b : Nat} {x : LookS} (ha : a ≤ 1000000000) (hb : b ≤ 1000000000) :
  SpecH Tryz.prog 174 [.v (.pointer (some ⟨g, 0, none⟩)), avLk x] [.box g ⟨[avI (b : Int), avI (a : Int)], 223, 2⟩] (fun y hp' => y = .tup [] ∧ hp' = [.box g ⟨[avI ((b + if x.bad = true then 1 else 0 : Nat) : Int), avI ((a + 1 : Nat) : Int)], 223, 2⟩]) := by
 refine SpecH.of_VC Tryz.func174 rfl Tryz.ntmps174 (Nle rfl) fun w A hB => ?_
 have hnew : True := trivial
 refine VC.sr ?_
 refine VO.op rfl (OpE.box rfl hB rfl rfl rfl ?_)
 intro g3
 refine VO.nil ?_
 refine VC.sr ?_
 refine VO.mv rfl rfl rfl rfl ?_
 refine VO.val rfl rfl (OpV.nilCheck rfl rfl) ?_
 refine VO.val rfl rfl (OpV.fieldAddrO 1 rfl Tryz.underlying223 rfl rfl Tryz.sizeOf3 rfl) ?_
 refine VO.val rfl rfl (OpV.load_own (i := 0) rfl hB Tryz.isAgg3 rfl rfl rfl (fun h => h)) ?_
 refine VO.val rfl rfl (OpV.add rfl rfl rfl (by unfold fits; omega)) ?_
 refine VO.val rfl rfl (OpV.nilCheck rfl rfl) ?_
 refine VO.val rfl rfl (OpV.fieldAddrO 1 rfl Tryz.underlying223 rfl rfl Tryz.sizeOf3 rfl) ?_
 refine VO.op rfl (OpE.store (i := 0) rfl hB rfl Tryz.sizeOf3 rfl rfl rfl rfl rfl rfl (Nle rfl) trivial ?_)
 refine VO.nil ?_
 refine VC.sr ?_
 refine VO.val rfl rfl (OpV.fieldAddrO 4 rfl Tryz.underlying151 rfl rfl Tryz.sizeOf4 rfl) ?_
 refine VO.val rfl rfl (OpV.load_own (i := 1) rfl hB Tryz.isAgg4 rfl rfl rfl (fun h => h)) ?_
 refine VO.nil ?_
 refine VC.cond rfl (fun h0b => ?_) (fun h0b => ?_)
 ·have h0 := h0b
  try simp only [qqT, qqF, qqN, qqM, qqL, qqE] at h0
  refine VC.le _ (Le.pickH [0] rfl rfl) ?_
  refine VC.region ?_
  refine VO.mv rfl rfl rfl rfl ?_
  refine VO.val rfl rfl (OpV.nilCheck rfl rfl) ?_
  refine VO.val rfl rfl (OpV.fieldAddrO 0 rfl Tryz.underlying223 rfl rfl Tryz.sizeOf3 rfl) ?_
  refine VO.val rfl rfl (OpV.load_own (i := 0) rfl hB Tryz.isAgg3 rfl rfl rfl (fun h => h)) ?_
  refine VO.val rfl rfl (OpV.add rfl rfl rfl (by unfold fits; omega)) ?_
  refine VO.val rfl rfl (OpV.nilCheck rfl rfl) ?_
  refine VO.val rfl rfl (OpV.fieldAddrO 0 rfl Tryz.underlying223 rfl rfl Tryz.sizeOf3 rfl) ?_
  refine VO.op rfl (OpE.store (i := 0) rfl hB rfl Tryz.sizeOf3 rfl rfl rfl rfl rfl rfl (Nle rfl) trivial ?_)
  refine VO.nil ?_
  exact Exists.intro _ (And.intro (RetV.none Tryz.results174) (by first | exact ⟨rfl, by rw [if_pos h0]; rfl⟩ | exact ⟨rfl, by rw [if_neg (by rw [h0]; simp)]; rfl⟩))
 ·have h0 := h0b
  try simp only [qqT, qqF, qqN, qqM, qqL, qqE] at h0
  refine VC.le _ (Le.pickH [0] rfl rfl) ?_
  refine VC.skip ?_
  exact Exists.intro _ (And.intro (RetV.none Tryz.results174) (by first | exact ⟨rfl, by rw [if_pos h0]; rfl⟩ | exact ⟨rfl, by rw [if_neg (by rw [h0]; simp)]; rfl⟩))
set_option maxRecDepth 100000 in
theorem inspect_shareOf {l : List LookS} (hl : l.length ≤ 1000000) :
  SpecN Tryz.prog 137 [avL l] (fun y => y = .agg [avI (badN l : Int), avI (l.length : Int)]) := by
 refine SpecN.of_VCN Tryz.func137 rfl Tryz.ntmps137 (Nle rfl) fun w A hB => ?_
 have hnew : True := trivial
 refine VC.sr ?_
 refine VO.op rfl (OpE.alloc rfl hB rfl Tryz.zeroValue223 rfl ?_)
 intro g2
 refine VO.nil ?_
 refine VC.sr ?_
 refine VO.op rfl (OpE.alloc rfl hB rfl Tryz.zeroValue223 rfl ?_)
 intro g3
 refine VO.nil ?_
 refine VC.seq ?_
 refine VC.sr ?_
 refine VO.mv rfl rfl rfl rfl ?_
 refine VO.val rfl rfl (OpV.len_im rfl Tryz.underlying152 rfl) ?_
 refine VO.mv rfl rfl rfl rfl ?_
 refine VO.nil ?_
 refine VC.block ?_
 refine VC.loopK [(2, _), (3, _), (6, _), (7, _)] ⟨rfl, rfl, rfl, rfl, trivial⟩ ({q : Nat // q ≤ l.length}) (fun (iZ : {q : Nat // q ≤ l.length}) => match iZ with | ⟨q, hq⟩ => [(8, avI (q : Int))]) (fun (iZ : {q : Nat // q ≤ l.length}) => match iZ with | ⟨q, hq⟩ => [.box g2 ⟨[avI 0, avI 0], 223, 2⟩, .box g3 ⟨[avI (badN (l.take q) : Int), avI (q : Int)], 223, 2⟩]) (fun (iZ : {q : Nat // q ≤ l.length}) => match iZ with | ⟨q, hq⟩ => 0) (fun (iZ : {q : Nat // q ≤ l.length}) => match iZ with | ⟨q, hq⟩ => l.length - q) ⟨0, Nat.zero_le _⟩ (Le.mk hB [0, 1] ⟨rfl, rfl, rfl, rfl, rfl, trivial⟩ rfl rfl (Nat.le_refl _)) ?_
 rintro ⟨q, hq⟩
 show VC _ _ _ _ ⟨[(8, avI (q : Int))] ++ [(2, _), (3, _), (6, _), (7, _)], [.box g2 ⟨[avI 0, avI 0], 223, 2⟩, .box g3 ⟨[avI (badN (l.take q) : Int), avI (q : Int)], 223, 2⟩], 0⟩
 refine VC.sr ?_
 refine VO.val rfl rfl (OpV.lss rfl rfl rfl) ?_
 refine VO.nil ?_
 refine VC.seq ?_
 refine VC.cond rfl (fun aH1b => ?_) (fun aH1b => ?_)
 ·have aH1 := aH1b
  try simp only [qqT, qqF, qqN, qqM, qqL, qqE] at aH1
  refine VC.skip ?_
  refine VC.seq ?_
  refine VC.block ?_
  refine VC.sr ?_
  refine VO.val rfl rfl (OpV.indexAddr_E rfl Tryz.underlying152 Tryz.sizeOf151 rfl rfl rfl (by omega)) ?_
  refine VO.val rfl rfl (OpV.loadK_at rfl hB OutW.no Tryz.isAgg151 Tryz.sizeOf151 rfl rfl) ?_
  refine VO.op rfl (OpE.alloc rfl hB rfl Tryz.zeroValue151 rfl ?_)
  intro g5
  refine VO.op rfl (OpE.store (i := 2) rfl hB rfl Tryz.sizeOf151 rfl rfl rfl rfl rfl rfl (Nle rfl) trivial ?_)
  refine VO.nil ?_
  refine VC.region ?_
  refine VO.val rfl rfl (OpV.loadK_own (i := 2) rfl hB Tryz.isAgg151 Tryz.sizeOf151 rfl rfl rfl (fun h => h)) ?_
  have hbn := badN_le (l.take q)
  have hbl := List.length_take_le q l
  refine VO.op rfl (OpE.callH (rest := [_, _]) rfl hB rfl Tryz.call174 rfl rfl (share_add (x := l.getD q default) (a := q) (b := badN (l.take q)) (by omega) (by omega)) (List.Perm.swap _ _ _) (fun _ _ => trivial) ?_)
  rintro _ _ ⟨rfl, rfl⟩
  refine VO.nil ?_
  refine VC.region ?_
  refine VO.val rfl rfl (OpV.add rfl rfl rfl (by unfold fits; omega)) ?_
  refine VO.mv rfl rfl rfl rfl ?_
  refine VO.nil ?_
  exact Exists.intro (⟨q + 1, by omega⟩) (And.intro (Le.pick hB [1, 0] ⟨rfl, rfl, rfl, rfl, rfl, trivial⟩ rfl (by dsimp only; rw [badN_take (by omega)]; rfl) (Nat.le_refl _)) (by first | omega | (show _ < _; omega) | (simp only []; omega)))
 ·have aH1 := aH1b
  try simp only [qqT, qqF, qqN, qqM, qqL, qqE] at aH1
  refine VC.exit ?_
  refine VC.seq ?_
  have hqe : l.take q = l := List.take_of_length_le (by omega)
  have hql : q = l.length := by omega
  rw [hqe, hql]
  refine VC.region ?_
  refine VO.val rfl rfl (OpV.loadK_own (i := 1) rfl hB Tryz.isAgg223 Tryz.sizeOf223 rfl rfl rfl (fun h => h)) ?_
  refine VO.op rfl (OpE.store (i := 0) rfl hB rfl Tryz.sizeOf223 rfl rfl rfl rfl rfl rfl (Nle rfl) trivial ?_)
  refine VO.nil ?_
  refine VC.ret ?_
  exact Exists.intro _ (And.intro (RetN.one Tryz.results137 ((by first | exact ResN.cellF (i := 0) Tryz.isAgg223 Tryz.sizeOf223 rfl rfl rfl (flat_ofB rfl) | exact ResN.cellF (i := 1) Tryz.isAgg223 Tryz.sizeOf223 rfl rfl rfl (flat_ofB rfl)))) (rfl))
set_option maxRecDepth 100000 in
theorem inspect_Million {l : List LookS} (hs : SmLk l) :
  SpecN Tryz.prog 88 [avL l] (fun y => y = .tup [.agg [avI ((millN l).1 : Int), avI ((millN l).2 : Int)], avI (millE l)]) := by
 refine SpecN.of_VCN Tryz.func88 rfl Tryz.ntmps88 (Nle rfl) fun w A hB => ?_
 have hnew : True := trivial
 refine VC.sr ?_
 refine VO.op rfl (OpE.alloc rfl hB rfl Tryz.zeroValue72 rfl ?_)
 intro g2
 refine VO.ma rfl rfl rfl rfl ?_
 refine VO.nil ?_
 refine VC.seq ?_
 refine VC.sr ?_
 refine VO.mv rfl rfl rfl rfl ?_
 refine VO.op rfl (OpE.call rfl hB rfl Tryz.call136 rfl (SpecN.spec (inspect_CheckLooks hs)) ?_)
 rintro _ rfl
 refine VO.ma rfl rfl rfl rfl ?_
 refine VO.nil ?_
 refine VC.sr ?_
 refine VO.mv rfl rfl rfl rfl ?_
 refine VO.val rfl rfl (OpV.neq rfl rfl rfl) ?_
 refine VO.nil ?_
 refine VC.cond rfl (fun h0b => ?_) (fun h0b => ?_)
 ·have h0 := h0b
  try simp only [qqT, qqF, qqN, qqM, qqL, qqE] at h0
  refine VC.sr ?_
  refine VO.val rfl rfl (OpV.build (pls := #[(0, 1), (1, 1)]) rfl Tryz.zeroValue72 Tryz.underlying72 (fun w => by kernel_rfl) rfl rfl) ?_
  refine VO.mv rfl rfl rfl rfl ?_
  refine VO.op rfl (OpE.store (i := 0) rfl hB rfl Tryz.sizeOf72 rfl rfl rfl rfl rfl rfl (Nle rfl) trivial ?_)
  refine VO.ma rfl rfl rfl rfl ?_
  refine VO.nil ?_
  refine VC.ret ?_
  exact Exists.intro _ (And.intro (RetN.two Tryz.results88 ((by first | exact ResN.cellF (i := 0) Tryz.isAgg72 Tryz.sizeOf72 rfl rfl rfl (flat_ofB rfl))) (ResN.v rfl)) (by rw [millN, if_neg (by rw [millE_1 h0]; exact h0), millE_1 h0]; rfl))
 ·have h0 := h0b
  try simp only [qqT, qqF, qqN, qqM, qqL, qqE] at h0
  refine VC.skip ?_
  refine VC.seq ?_
  refine VC.sr ?_
  refine VO.mv rfl rfl rfl rfl ?_
  refine VO.val rfl rfl (OpV.len_im rfl Tryz.underlying152 rfl) ?_
  refine VO.val rfl rfl (OpV.eql rfl rfl rfl) ?_
  refine VO.nil ?_
  refine VC.cond rfl (fun h1b => ?_) (fun h1b => ?_)
  ·have h1 := h1b
   try simp only [qqT, qqF, qqN, qqM, qqL, qqE] at h1
   refine VC.sr ?_
   refine VO.val rfl rfl (OpV.build (pls := #[(0, 1), (1, 1)]) rfl Tryz.zeroValue72 Tryz.underlying72 (fun w => by kernel_rfl) rfl rfl) ?_
   refine VO.op rfl (OpE.store (i := 0) rfl hB rfl Tryz.sizeOf72 rfl rfl rfl rfl rfl rfl (Nle rfl) trivial ?_)
   refine VO.ma rfl rfl rfl rfl ?_
   refine VO.nil ?_
   refine VC.ret ?_
   exact Exists.intro _ (And.intro (RetN.two Tryz.results88 ((by first | exact ResN.cellF (i := 0) Tryz.isAgg72 Tryz.sizeOf72 rfl rfl rfl (flat_ofB rfl))) (ResN.v rfl)) (by rw [millN, if_neg (by rw [millE_8 (by omega) (by omega)]; decide), millE_8 (by omega) (by omega)]; rfl))
  ·have h1 := h1b
   try simp only [qqT, qqF, qqN, qqM, qqL, qqE] at h1
   refine VC.skip ?_
   refine VC.sr ?_
   refine VO.mv rfl rfl rfl rfl ?_
   refine VO.op rfl (OpE.call rfl hB rfl Tryz.call137 rfl (SpecN.spec (inspect_shareOf hs.len)) ?_)
   rintro _ rfl
   refine VO.op rfl (OpE.alloc rfl hB rfl Tryz.zeroValue223 rfl ?_)
   intro g5
   refine VO.op rfl (OpE.store (i := 1) rfl hB rfl Tryz.sizeOf223 rfl rfl rfl rfl rfl rfl (Nle rfl) trivial ?_)
   refine VO.nil ?_
   refine VC.sr ?_
   refine VO.val rfl rfl (OpV.fieldAddrO 0 rfl Tryz.underlying223 rfl rfl Tryz.sizeOf3 rfl) ?_
   refine VO.val rfl rfl (OpV.load_own (i := 1) rfl hB Tryz.isAgg3 rfl rfl rfl (fun h => h)) ?_
   have hbn := badN_le l
   have hll := hs.len
   refine VO.val rfl rfl (OpV.mul rfl rfl rfl (by unfold fits; omega)) ?_
   refine VO.le _ (Le.recast (t := 20) (y := avI ((badN l * 1000000 : Nat) : Int)) rfl (fun w Z u h => by rw [Int.natCast_mul]; exact h)) ?_
   refine VO.val rfl rfl (OpV.fieldAddrO 1 rfl Tryz.underlying223 rfl rfl Tryz.sizeOf3 rfl) ?_
   refine VO.val rfl rfl (OpV.load_own (i := 1) rfl hB Tryz.isAgg3 rfl rfl rfl (fun h => h)) ?_
   refine VO.op rfl (OpE.call rfl hB rfl Tryz.call95 rfl (SpecN.spec (kit_Lowest (a := badN l * 1000000) (b := l.length) (by omega) (by omega) (by omega))) ?_)
   rintro _ rfl
   refine VO.op rfl (OpE.store (i := 0) rfl hB rfl Tryz.sizeOf72 rfl rfl rfl rfl rfl rfl (Nle rfl) trivial ?_)
   refine VO.ma rfl rfl rfl rfl ?_
   refine VO.nil ?_
   refine VC.ret ?_
   exact Exists.intro _ (And.intro (RetN.two Tryz.results88 ((by first | exact ResN.cellF (i := 0) Tryz.isAgg72 Tryz.sizeOf72 rfl rfl rfl (flat_ofB rfl) | exact ResN.cellF (i := 1) Tryz.isAgg72 Tryz.sizeOf72 rfl rfl rfl (flat_ofB rfl))) (ResN.v rfl)) (by rw [millN, if_pos (millE_0 (by omega) (by omega)), millE_0 (by omega) (by omega)]; rfl))
end Go.Proofs.YtceflkkgmmcieaaGreatDoor
