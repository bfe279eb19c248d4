/- Part 2 of a proof: the walks and laws that it needs. -/
import Derived.Test.YtaaokimiadfidaaGreatDoorProg
import Derived.Shelf.Abstract
import Derived.Deep.QuietTactic
import Derived.BigQuiet
import Derived.BigRegion
import Derived.Deep.RegionLaw
import Derived.Deep.LoopGhost
import Derived.Deep.DeepCutAuto
import Derived.Test.YtaaokimiadfidaaGreatDoorZS1
namespace Go.Proofs.YtaaokimiadfidaaGreatDoor
open Go.RowKit
set_option linter.unusedVariables false
set_option linter.unusedSimpArgs false
theorem pck_y {f : Nat → Int} {ok : Nat → Bool} {k : Nat} (h1 : ok k = true) (h2 : pckF f ok k < 0 ∨ f k < f (pckF f ok k).toNat) : pckF f ok (k + 1) = (k : Int) := by rw [pckF, if_pos ⟨h1, h2⟩]
theorem pck_n1 {f : Nat → Int} {ok : Nat → Bool} {k : Nat} (h1 : ok k = false) : pckF f ok (k + 1) = pckF f ok k := by rw [pckF, if_neg (fun h => by rw [h1] at h; cases h.1)]
theorem pck_n2 {f : Nat → Int} {ok : Nat → Bool} {k : Nat} (h1 : ¬ pckF f ok k < 0) (h2 : ¬ f k < f (pckF f ok k).toNat) : pckF f ok (k + 1) = pckF f ok k := by rw [pckF, if_neg (fun h => h.2.elim h1 h2)]
theorem pck_bd (f : Nat → Int) (ok : Nat → Bool) (K : Nat) : -1 ≤ pckF f ok K ∧ pckF f ok K < K := by
 rcases pckF_in f ok K with h | ⟨k, h, h2, _⟩ <;> omega
section
variable {ms : List Mach} {ns : List NeedS}
theorem fstO_t {g : List Int} {i k : Nat} (h1 : hasK (ms.getD k default) (ns.getD i default).key = true) (h2 : cnt g k g.length < (ms.getD k default).feeders) : fstO ms ns g i k = true := by unfold fstO; rw [h1, decide_eq_true h2]; rfl
theorem fstO_f1 {g : List Int} {i k : Nat} (h1 : hasK (ms.getD k default) (ns.getD i default).key = false) : fstO ms ns g i k = false := by unfold fstO; rw [h1]; rfl
theorem fstO_f2 {g : List Int} {i k : Nat} (h2 : (ms.getD k default).feeders ≤ cnt g k g.length) : fstO ms ns g i k = false := by unfold fstO; rw [decide_eq_false (by omega)]; simp
theorem fstC_lt {g : List Int} {i k b : Nat} : fstC ms ns g i k < fstC ms ns g i b ↔ cyc ms ns g k g.length + (ms.getD k default).each * (ns.getD i default).count < cyc ms ns g b g.length + (ms.getD b default).each * (ns.getD i default).count := Iff.rfl
theorem cyc_bd (hM : MnOk ms ns) {pl : List Int} {k r : Nat} (h : r ≤ pl.length) : 0 ≤ cyc ms ns pl k r ∧ cyc ms ns pl k r ≤ 10000000 + 10000000000 * r := by
 rw [cyc_tim r h]; exact timB_in hM k _ r
def fstO2 (ns : List NeedS) (x y : Int) : Int := errsF [cmpI (ns.getD y.toNat default).count (ns.getD x.toNat default).count, cmpB (ns.getD x.toNat default).key (ns.getD y.toNat default).key]
theorem errs2 (a b : Int) : errsF [a, b] = if a = 0 then b else a := by
  by_cases h : a = 0
  · rw [if_pos h]
    by_cases h2 : b = 0
    · rw [h2]
      exact errsF_none fun j hj => by
        match j, hj with
        | 0, _ => exact h
        | 1, _ => rfl
    · exact errsF_at (q := 1) (by simp) (fun j hj => by obtain rfl : j = 0 := by omega
                                                        exact h) h2
  · rw [if_neg h]; exact errsF_at (q := 0) (by simp) (fun j hj => absurd hj (by omega)) h
theorem errs2_lt {a b : Int} (hb : ¬ b < 0) : errsF [a, b] < 0 ↔ a < 0 := by
 rw [errs2]; split <;> omega
theorem needs_asc (h : needsF ns 1 1000 = 0) : ∀ {j i : Nat}, i < j → j < ns.length → sLt (ns.getD i default).key (ns.getD j default).key = true
 | 0, _, hi, _ => absurd hi (Nat.not_lt_zero _)
 | j + 1, i, hi, hj => by
  have hl := needsF_len h
  have h0 := h
  rw [needsF, if_neg (by omega)] at h0
  have h1 := firstE_zero h0 (j + 1) hj
  rw [needE] at h1
  split at h1
  ·cases h1
  ·split at h1
   ·cases h1
   ·rename_i _ h2
    rw [Bool.and_eq_true, decide_eq_true_eq, Nat.add_sub_cancel] at h2
    have h3 : sLe (ns.getD (j + 1) default).key (ns.getD j default).key = false := Bool.eq_false_iff.2 fun e => h2 ⟨by omega, e⟩
    unfold sLe at h3
    rw [Bool.or_eq_false_iff] at h3
    have h4 : sLt (ns.getD j default).key (ns.getD (j + 1) default).key = true := sLt_total h3.1 (fun e => by rw [e, sEq_refl] at h3; cases h3.2)
    by_cases e : i = j
    ·subst e; exact h4
    ·exact sLt_trans (needs_asc h (i := i) (j := j) (by omega) (by omega)) h4
theorem fstL_code (h : needsF ns 1 1000 = 0) : insT (fstO2 ns) (idO ns.length) ((idO ns.length).length - 1) = fstL ns := by
 unfold fstL
 by_cases h0 : ns.length = 0
 ·rw [h0]; rfl
 ·refine (insT_idO (n := ns.length) (fun x y hy hyx hx => ?_) _ (by rw [idO_len]; omega)).1
  refine errs2_lt (fun hb => ?_)
  have h1 := needs_asc h (i := y.toNat) (j := x.toNat) (by omega) (by omega)
  have h2 := cmpB_lt (ns.getD x.toNat default).key (ns.getD y.toNat default).key
  rw [decide_eq_true hb, sLt_asym h1] at h2
  cases h2
def fstP (ms : List Mach) (ns : List NeedS) : List Int := if faultF ms ns = 0 then (fstR ms ns).getD [] else []
def fstK (ms : List Mach) (ns : List NeedS) : Bool := decide (faultF ms ns = 0) && (fstR ms ns).isSome
theorem fst_1 (h : faultF ms ns ≠ 0) : fstP ms ns = [] ∧ fstK ms ns = false := by unfold fstP fstK; rw [if_neg h, decide_eq_false h]; exact ⟨rfl, rfl⟩
theorem fst_2 (h : fstR ms ns = none) : fstP ms ns = [] ∧ fstK ms ns = false := by unfold fstP fstK; rw [h]; exact ⟨by split <;> rfl, by simp⟩
theorem fst_3 (h : faultF ms ns = 0) {r : List Int} (h2 : fstR ms ns = some r) : fstP ms ns = r ∧ fstK ms ns = true := by unfold fstP fstK; rw [if_pos h, h2, decide_eq_true h]; exact ⟨rfl, rfl⟩
end
theorem idO_mF {n : Nat} {x : Int} (h : x ∈ idO n) : 0 ≤ x ∧ x.toNat < n := by
 have := (idO_ord n).lt x h
 omega
set_option maxRecDepth 100000 in
theorem pdqC_int {l0 : List Int} {u : Value} {ty : TypeId} {F : FuncId} {cs : List AV} {c : Int → Int → Int} {k : Int} (hl : l0.length ≤ 12) (hcall : ∀ us w, (callFunc F us).run Tryz.prog w = .ok (.enter F us) w) (hF : ∀ x y, x ∈ l0 → y ∈ l0 → Spec Tryz.prog F ([avI x, avI y] ++ cs) (fun z => z = avI (c x y))) :
  SpecH Tryz.prog 278 [.v u, avI 0, avI l0.length, avI k, .fn F cs] [.row u l0.length 1 (intsL l0) ty] (fun y hp' => y = .tup [] ∧ hp' = [.row u l0.length 1 (intsL (insT c l0 (l0.length - 1))) ty]) := by
 refine SpecH.of_VC Tryz.func278 rfl Tryz.ntmps278 (Nle rfl) fun w A hB => ?_
 have hnew : True := trivial
 refine VC.sr ?_
 refine VO.ma rfl rfl rfl rfl ?_
 refine VO.nil ?_
 refine VC.sr ?_
 refine VO.ma rfl rfl rfl rfl ?_
 refine VO.nil ?_
 refine VC.block ?_
 refine VC.loopK [(0, _), (4, _)] ⟨rfl, rfl, trivial⟩ ({z : Nat // z = 0}) (fun (iZ : {z : Nat // z = 0}) => match iZ with | ⟨z, hz⟩ => [(1, avI 0), (2, avI l0.length), (3, avI k), (10, avB true), (11, avB true)]) (fun (iZ : {z : Nat // z = 0}) => match iZ with | ⟨z, hz⟩ => [.row u l0.length 1 (intsL l0) ty]) (fun (iZ : {z : Nat // z = 0}) => match iZ with | ⟨z, hz⟩ => 0) (fun (iZ : {z : Nat // z = 0}) => match iZ with | ⟨z, hz⟩ => z) ⟨0, rfl⟩ (Le.mk hB [0] ⟨rfl, rfl, rfl, rfl, rfl, rfl, rfl, trivial⟩ rfl rfl (Nat.le_refl _)) ?_
 rintro ⟨z, hz⟩
 show VC _ _ _ _ ⟨[(1, avI 0), (2, avI l0.length), (3, avI k), (10, avB true), (11, avB true)] ++ [(0, _), (4, _)], [.row u l0.length 1 (intsL l0) ty], 0⟩
 refine VC.block ?_
 refine VC.sr ?_
 refine VO.mv rfl rfl rfl rfl ?_
 refine VO.mv rfl rfl rfl rfl ?_
 refine VO.val rfl rfl (OpV.sub rfl rfl rfl (by unfold fits; omega)) ?_
 refine VO.ma rfl rfl rfl rfl ?_
 refine VO.nil ?_
 refine VC.seq ?_
 refine VC.sr ?_
 refine VO.mv rfl rfl rfl rfl ?_
 refine VO.val rfl rfl (OpV.leq rfl rfl rfl) ?_
 refine VO.nil ?_
 refine VC.cond rfl (fun aH1b => ?_) (fun aH1b => ?_)
 ·have aH1 := aH1b
  try simp only [qqT, qqF, qqN, qqM, qqL, qqE] at aH1
  refine VC.sr ?_
  refine VO.mv rfl rfl rfl rfl ?_
  refine VO.mv rfl rfl rfl rfl ?_
  refine VO.mv rfl rfl rfl rfl ?_
  refine VO.mv rfl rfl rfl rfl ?_
  refine VO.op rfl (OpE.callH0 rfl hB rfl Tryz.call337 rfl rfl (insSortC_int (by omega) hcall hF) (List.Perm.refl _) (fun _ _ => trivial) ?_)
  rintro _ _ ⟨rfl, rfl⟩
  refine VO.nil ?_
  refine VC.ret ?_
  exact Exists.intro _ (And.intro (RetV.none Tryz.results278) (⟨rfl, rfl⟩))
 ·have aH1 := aH1b
  try simp only [qqT, qqF, qqN, qqM, qqL, qqE] at aH1
  exact VC.absurd (by omega)
set_option maxRecDepth 100000 in
theorem sortFunc_int {l0 : List Int} {u : Value} {ty : TypeId} {F : FuncId} {cs : List AV} {c : Int → Int → Int} (hl : l0.length ≤ 12) (hcall : ∀ us w, (callFunc F us).run Tryz.prog w = .ok (.enter F us) w) (hF : ∀ x y, x ∈ l0 → y ∈ l0 → Spec Tryz.prog F ([avI x, avI y] ++ cs) (fun z => z = avI (c x y))) :
  SpecH Tryz.prog 174 [.v u, .fn F cs] [.row u l0.length 1 (intsL l0) ty] (fun y hp' => y = .tup [] ∧ hp' = [.row u l0.length 1 (intsL (insT c l0 (l0.length - 1))) ty]) := by
 refine SpecH.of_VC Tryz.func174 rfl Tryz.ntmps174 (Nle rfl) fun w A hB => ?_
 have hnew : True := trivial
 refine VC.sr ?_
 refine VO.mv rfl rfl rfl rfl ?_
 refine VO.val rfl rfl (OpV.len_row (i := 0) rfl Tryz.underlying22 rfl rfl) ?_
 refine VO.ma rfl rfl rfl rfl ?_
 refine VO.nil ?_
 refine VC.region ?_
 refine VO.mv rfl rfl rfl rfl ?_
 refine VO.mv rfl rfl rfl rfl ?_
 refine VO.mv rfl rfl rfl rfl ?_
 refine VO.val rfl rfl (OpV.conv rfl Tryz.underlying3 Tryz.underlying191 rfl (IntWalk.u64_in _ (by omega))) ?_
 refine VO.op rfl (OpE.call rfl hB rfl Tryz.call143 rfl (SpecN.spec (bits_Len_S (x := (l0.length : Int)) (by omega) (by omega))) ?_)
 rintro _ ⟨k, rfl⟩
 refine VO.mv rfl rfl rfl rfl ?_
 refine VO.op rfl (OpE.callH0 rfl hB rfl Tryz.call278 rfl rfl (pdqC_int hl hcall hF) (List.Perm.refl _) (fun _ _ => trivial) ?_)
 rintro _ _ ⟨rfl, rfl⟩
 refine VO.nil ?_
 exact Exists.intro _ (And.intro (RetV.none Tryz.results174) (⟨rfl, rfl⟩))
set_option maxRecDepth 100000 in
theorem line_First1 {ns : List NeedS} {i j : Int} (hl : ns.length ≤ 1000) (hx : 0 ≤ i ∧ i.toNat < ns.length) (hy : 0 ≤ j ∧ j.toNat < ns.length) :
  Spec Tryz.prog 175 [avI i, avI j, .at_ 1 (fun _ => avL ns)] (fun y => y = avI (fstO2 ns i j)) := by
 refine Spec.of_VC Tryz.func175 rfl Tryz.ntmps175 (Nle rfl) fun w A hB => ?_
 have hnew : True := trivial
 refine VC.sr ?_
 refine VO.ma rfl rfl rfl rfl ?_
 refine VO.nil ?_
 refine VC.seq ?_
 refine VC.draw (fun _ => NoB) hB (by kernel_rfl) ?_
 refine VA.take (i := 0) rfl (by kernel_rfl) (by kernel_rfl) (by kernel_rfl) rfl rfl (OpV.load_at rfl hB OutW.wi0 Tryz.isAgg77 rfl rfl) ?_
 refine VA.take (i := 1) rfl (by kernel_rfl) (by kernel_rfl) (by kernel_rfl) rfl rfl (OpV.move (.inl rfl) rfl) ?_
 refine VA.take (i := 2) rfl (by kernel_rfl) (by kernel_rfl) (by kernel_rfl) rfl rfl (OpV.indexAddr_E rfl Tryz.underlying77 Tryz.sizeOf96 rfl rfl (Int.toNat_of_nonneg hy.1).symm (by omega)) ?_
 refine VA.take (i := 3) rfl (by kernel_rfl) (by kernel_rfl) (by kernel_rfl) rfl rfl (OpV.fieldAddr_atO 1 rfl Tryz.underlying96 rfl rfl Tryz.sizeOf3 rfl rfl) ?_
 refine VA.take (i := 4) rfl (by kernel_rfl) (by kernel_rfl) (by kernel_rfl) rfl rfl (OpV.load_at rfl hB OutW.wi0 Tryz.isAgg3 rfl rfl) ?_
 refine VA.take (i := 5) rfl (by kernel_rfl) (by kernel_rfl) (by kernel_rfl) rfl rfl (OpV.load_at rfl hB OutW.wi0 Tryz.isAgg77 rfl rfl) ?_
 refine VA.take (i := 6) rfl (by kernel_rfl) (by kernel_rfl) (by kernel_rfl) rfl rfl (OpV.move (.inl rfl) rfl) ?_
 refine VA.take (i := 7) rfl (by kernel_rfl) (by kernel_rfl) (by kernel_rfl) rfl rfl (OpV.indexAddr_E rfl Tryz.underlying77 Tryz.sizeOf96 rfl rfl (Int.toNat_of_nonneg hx.1).symm (by omega)) ?_
 refine VA.take (i := 8) rfl (by kernel_rfl) (by kernel_rfl) (by kernel_rfl) rfl rfl (OpV.fieldAddr_atO 1 rfl Tryz.underlying96 rfl rfl Tryz.sizeOf3 rfl rfl) ?_
 refine VA.take (i := 9) rfl (by kernel_rfl) (by kernel_rfl) (by kernel_rfl) rfl rfl (OpV.load_at rfl hB OutW.wi0 Tryz.isAgg3 rfl rfl) ?_
 refine VA.take (i := 11) rfl (by kernel_rfl) (by kernel_rfl) (by kernel_rfl) rfl rfl (OpV.load_at rfl hB OutW.wi0 Tryz.isAgg77 rfl rfl) ?_
 refine VA.take (i := 12) rfl (by kernel_rfl) (by kernel_rfl) (by kernel_rfl) rfl rfl (OpV.move (.inl rfl) rfl) ?_
 refine VA.take (i := 13) rfl (by kernel_rfl) (by kernel_rfl) (by kernel_rfl) rfl rfl (OpV.indexAddr_E rfl Tryz.underlying77 Tryz.sizeOf96 rfl rfl (Int.toNat_of_nonneg hx.1).symm (by omega)) ?_
 refine VA.take (i := 14) rfl (by kernel_rfl) (by kernel_rfl) (by kernel_rfl) rfl rfl (OpV.fieldAddr_atO 0 rfl Tryz.underlying96 rfl rfl Tryz.sizeOf9 rfl rfl) ?_
 refine VA.take (i := 15) rfl (by kernel_rfl) (by kernel_rfl) (by kernel_rfl) rfl rfl (OpV.load_at rfl hB OutW.wi0 Tryz.isAgg9 rfl rfl) ?_
 refine VA.take (i := 16) rfl (by kernel_rfl) (by kernel_rfl) (by kernel_rfl) rfl rfl (OpV.load_at rfl hB OutW.wi0 Tryz.isAgg77 rfl rfl) ?_
 refine VA.take (i := 17) rfl (by kernel_rfl) (by kernel_rfl) (by kernel_rfl) rfl rfl (OpV.move (.inl rfl) rfl) ?_
 refine VA.take (i := 18) rfl (by kernel_rfl) (by kernel_rfl) (by kernel_rfl) rfl rfl (OpV.indexAddr_E rfl Tryz.underlying77 Tryz.sizeOf96 rfl rfl (Int.toNat_of_nonneg hy.1).symm (by omega)) ?_
 refine VA.take (i := 19) rfl (by kernel_rfl) (by kernel_rfl) (by kernel_rfl) rfl rfl (OpV.fieldAddr_atO 0 rfl Tryz.underlying96 rfl rfl Tryz.sizeOf9 rfl rfl) ?_
 refine VA.take (i := 20) rfl (by kernel_rfl) (by kernel_rfl) (by kernel_rfl) rfl rfl (OpV.load_at rfl hB OutW.wi0 Tryz.isAgg9 rfl rfl) ?_
 refine VA.all (rs := [10]) (by kernel_rfl) (by decide) ?_
 refine ⟨⟨_, rfl, .inl rfl, ?_⟩, trivial⟩
 refine OpE.call rfl hB rfl Tryz.call177 rfl (SpecN.spec (cmp_Compare_int)) ?_
 rintro _ rfl
 refine VA.all (rs := [21]) (by kernel_rfl) (by decide) ?_
 refine ⟨⟨_, rfl, .inl rfl, ?_⟩, trivial⟩
 refine OpE.call rfl hB rfl Tryz.call150 rfl (SpecN.spec (strings_Compare_S)) ?_
 rintro _ rfl
 refine VA.all (rs := [22]) (by kernel_rfl) (by decide) ?_
 refine ⟨⟨_, rfl, .inl rfl, ?_⟩, trivial⟩
 refine OpE.buildSlice (zc := #[.int .i64 0, .int .i64 0]) rfl hB rfl Tryz.underlying22 Tryz.sizeOf3 Tryz.zeroValue3 (by decide) (by decide) (by kernel_rfl) rfl rfl ?_
 refine VA.le _ (Le.lits (t := 28) (xs := [cmpI (ns.getD j.toNat default).count (ns.getD i.toNat default).count, cmpB (ns.getD i.toNat default).key (ns.getD j.toNat default).key]) rfl rfl) ?_
 refine VA.all (rs := [23]) (by kernel_rfl) (by decide) ?_
 refine ⟨⟨_, rfl, .inl rfl, ?_⟩, trivial⟩
 refine OpE.call rfl hB rfl Tryz.call176 rfl (SpecN.spec (cmp_Or_int (by simp))) ?_
 rintro _ rfl
 refine VA.take (i := 24) rfl (by kernel_rfl) (by kernel_rfl) (by kernel_rfl) rfl rfl (OpV.move (.inr rfl) rfl) ?_
 refine VA.done (by kernel_rfl) ?_
 refine VC.ret ?_
 exact Exists.intro _ (And.intro (RetV.one Tryz.results175 (ResV.tmp rfl)) (rfl))
set_option maxRecDepth 100000 in
theorem line_cycles_R {ms : List Mach} {ns : List NeedS} {plan : List Int} (hm : machF ms = 0) (hn : needsF ns 1 1000 = 0) (hp : planF ms ns plan = 0) :
  SpecR Tryz.prog 178 [avL ms, avL ns, avInts plan] ms.length 1 (intsL (cycL ms ns plan)) 3 := by
 have hlen := machF_len hm
 have hnl := needsF_len hn
 obtain ⟨hpl, he⟩ := planF_zero hp
 refine SpecR.of_VC Tryz.func178 rfl Tryz.ntmps178 (Nle rfl) (by first | exact flat_ints _ | exact flat_strs _ | exact flat_bools _) fun w A hB => ?_
 have hnew : True := trivial
 refine VC.sr ?_
 refine VO.ma rfl rfl rfl rfl ?_
 refine VO.nil ?_
 refine VC.sr ?_
 refine VO.mv rfl rfl rfl rfl ?_
 refine VO.val rfl rfl (OpV.len_im rfl Tryz.underlying102 rfl) ?_
 refine VO.op rfl (OpE.make rfl hB rfl Tryz.underlying22 (infoOf Tryz.t3 1 (by kernel_rfl) rfl rfl) (by decide) rfl rfl (n := ms.length) rfl rfl (by omega) (made_ints _) ?_)
 intro g14
 rw [intsL_len, List.length_replicate]
 refine VO.ma rfl rfl rfl rfl ?_
 refine VO.nil ?_
 refine VC.seq ?_
 refine VC.sr ?_
 refine VO.mv rfl rfl rfl rfl ?_
 refine VO.val rfl rfl (OpV.len_im rfl Tryz.underlying102 rfl) ?_
 refine VO.mv rfl rfl rfl rfl ?_
 refine VO.nil ?_
 refine VC.block ?_
 refine VC.loopK [] trivial ({q : Nat // q ≤ ms.length}) (fun (iZ : {q : Nat // q ≤ ms.length}) => match iZ with | ⟨q, hq⟩ => [(0, avL ms), (1, avL ns), (2, avInts plan), (7, .v (.slice (some ⟨g14, 0, none⟩) ms.length ms.length)), (15, avL ms), (16, avI ms.length), (17, avI (q : Int))]) (fun (iZ : {q : Nat // q ≤ ms.length}) => match iZ with | ⟨q, hq⟩ => [.box g14 ⟨intsL (tabI ms.length (fun k => if k < q then (ms.getD k default).fixed else 0)), 3, ms.length⟩]) (fun (iZ : {q : Nat // q ≤ ms.length}) => match iZ with | ⟨q, hq⟩ => 0) (fun (iZ : {q : Nat // q ≤ ms.length}) => match iZ with | ⟨q, hq⟩ => ms.length - q) ⟨0, Nat.zero_le _⟩ (Le.mk hB [0] ⟨rfl, rfl, rfl, rfl, rfl, rfl, rfl, trivial⟩ rfl (by rw [tabI_rep]; rfl) (Nat.le_refl _)) ?_
 rintro ⟨q, hq⟩
 show VC _ _ _ _ ⟨[(0, avL ms), (1, avL ns), (2, avInts plan), (7, .v (.slice (some ⟨g14, 0, none⟩) ms.length ms.length)), (15, avL ms), (16, avI ms.length), (17, avI (q : Int))] ++ [], [.box g14 ⟨intsL (tabI ms.length (fun k => if k < q then (ms.getD k default).fixed else 0)), 3, ms.length⟩], 0⟩
 refine VC.sr ?_
 refine VO.val rfl rfl (OpV.lss rfl rfl rfl) ?_
 refine VO.nil ?_
 refine VC.seq ?_
 refine VC.cond rfl (fun aH1b => ?_) (fun aH1b => ?_)
 ·have aH1 := aH1b
  try simp only [qqT, qqF, qqN, qqM, qqL, qqE] at aH1
  refine VC.skip ?_
  refine VC.seq ?_
  refine VC.block ?_
  refine VC.sr ?_
  refine VO.mv rfl rfl rfl rfl ?_
  refine VO.val rfl rfl (OpV.indexAddr_E rfl Tryz.underlying102 Tryz.sizeOf128 rfl rfl rfl (by omega)) ?_
  refine VO.val rfl rfl (OpV.loadK_at rfl hB OutW.no Tryz.isAgg128 Tryz.sizeOf128 rfl rfl) ?_
  refine VO.op rfl (OpE.alloc rfl hB rfl Tryz.zeroValue128 rfl ?_)
  intro g9
  refine VO.ma rfl rfl rfl rfl ?_
  refine VO.op rfl (OpE.store (i := 1) rfl hB rfl Tryz.sizeOf128 rfl rfl rfl rfl rfl rfl (Nle rfl) trivial ?_)
  refine VO.nil ?_
  refine VC.region ?_
  refine VO.mv rfl rfl rfl rfl ?_
  refine VO.mv rfl rfl rfl rfl ?_
  refine VO.val rfl rfl (OpV.fieldAddrO 2 rfl Tryz.underlying128 rfl rfl Tryz.sizeOf3 rfl) ?_
  refine VO.val rfl rfl (OpV.load_own (i := 1) rfl hB Tryz.isAgg3 rfl rfl rfl (fun h => h)) ?_
  refine VO.val rfl rfl (OpV.indexAddr_o rfl Tryz.underlying22 Tryz.sizeOf3 rfl rfl rfl (by omega)) ?_
  refine VO.op rfl (OpE.store1 (i := 0) rfl hB rfl Tryz.sizeOf3 rfl rfl rfl rfl rfl rfl (by rw [intsL_len, tabI_len]; omega) ((intsL_set _ _ _).trans (congrArg intsL (tabI_set' (g := fun k => if k < q + 1 then (ms.getD k default).fixed else 0) (by rw [if_pos (by omega)]) (fun j hj hne => if_step hne)))) trivial ?_)
  refine VO.nil ?_
  refine VC.region ?_
  refine VO.val rfl rfl (OpV.add rfl rfl rfl (by unfold fits; omega)) ?_
  refine VO.mv rfl rfl rfl rfl ?_
  refine VO.nil ?_
  exact Exists.intro (⟨q + 1, by omega⟩) (And.intro (Le.mk hB [0] ⟨rfl, rfl, rfl, rfl, rfl, rfl, rfl, trivial⟩ rfl rfl (Nat.le_refl _)) (by first | omega | (show _ < _; omega) | (simp only []; omega)))
 ·have aH1 := aH1b
  try simp only [qqT, qqF, qqN, qqM, qqL, qqE] at aH1
  refine VC.exit ?_
  refine VC.seq ?_
  refine VC.sr ?_
  refine VO.mv rfl rfl rfl rfl ?_
  refine VO.val rfl rfl (OpV.len_im rfl Tryz.underlying22 rfl) ?_
  refine VO.mv rfl rfl rfl rfl ?_
  refine VO.nil ?_
  refine VC.block ?_
  refine VC.loopK [] trivial ({r : Nat // r ≤ plan.length}) (fun (iZ : {r : Nat // r ≤ plan.length}) => match iZ with | ⟨r, hr⟩ => [(0, avL ms), (1, avL ns), (7, .v (.slice (some ⟨g14, 0, none⟩) ms.length ms.length)), (28, avInts plan), (29, avI plan.length), (30, avI (r : Int))]) (fun (iZ : {r : Nat // r ≤ plan.length}) => match iZ with | ⟨r, hr⟩ => [.box g14 ⟨intsL (tabI ms.length (fun k => cyc ms ns plan k r)), 3, ms.length⟩]) (fun (iZ : {r : Nat // r ≤ plan.length}) => match iZ with | ⟨r, hr⟩ => 0) (fun (iZ : {r : Nat // r ≤ plan.length}) => match iZ with | ⟨r, hr⟩ => plan.length - r) ⟨0, Nat.zero_le _⟩ (Le.mk hB [0] ⟨rfl, rfl, rfl, rfl, rfl, rfl, trivial⟩ rfl (congrArg (fun z => [Ent.box g14 ⟨intsL z, 3, ms.length⟩]) (tabI_congr fun k hk => by rw [if_pos (by omega)]; rfl)) (Nat.le_refl _)) ?_
  rintro ⟨r, hr⟩
  show VC _ _ _ _ ⟨[(0, avL ms), (1, avL ns), (7, .v (.slice (some ⟨g14, 0, none⟩) ms.length ms.length)), (28, avInts plan), (29, avI plan.length), (30, avI (r : Int))] ++ [], [.box g14 ⟨intsL (tabI ms.length (fun k => cyc ms ns plan k r)), 3, ms.length⟩], 0⟩
  refine VC.sr ?_
  refine VO.val rfl rfl (OpV.lss rfl rfl rfl) ?_
  refine VO.nil ?_
  refine VC.seq ?_
  refine VC.cond rfl (fun aH2b => ?_) (fun aH2b => ?_)
  ·have aH2 := aH2b
   try simp only [qqT, qqF, qqN, qqM, qqL, qqE] at aH2
   obtain ⟨k, hk1, hk2⟩ := planE_ok (he r (by omega))
   have hcy := cyc_in (plan := plan) hm hn hk2 (r := r) (by omega)
   have hmu := mul_in (machF_each hm hk2).1.1 (needsF_count hn (i := r) (by omega))
   refine VC.skip ?_
   refine VC.seq ?_
   refine VC.block ?_
   refine VC.sr ?_
   refine VO.mv rfl rfl rfl rfl ?_
   refine VO.val rfl rfl (OpV.indexAddr_1 rfl Tryz.underlying22 Tryz.sizeOf3 rfl rfl rfl (by omega)) ?_
   refine VO.val rfl rfl (OpV.load_at rfl hB OutW.no Tryz.isAgg3 rfl rfl) ?_
   refine VO.ma rfl rfl rfl rfl ?_
   refine VO.ma rfl rfl rfl rfl ?_
   refine VO.nil ?_
   refine VC.draw (fun j b => j = 17 ∧ b = g14) hB (by kernel_rfl) ?_
   refine VA.take (i := 0) rfl (by kernel_rfl) (by kernel_rfl) (by kernel_rfl) rfl rfl (OpV.move (.inl rfl) rfl) ?_
   refine VA.take (i := 1) rfl (by kernel_rfl) (by kernel_rfl) (by kernel_rfl) rfl rfl (OpV.move (.inl rfl) rfl) ?_
   refine VA.take (i := 2) rfl (by kernel_rfl) (by kernel_rfl) (by kernel_rfl) rfl rfl (OpV.indexAddr_o rfl Tryz.underlying22 Tryz.sizeOf3 rfl rfl hk1 (by omega)) ?_
   refine VA.take (i := 3) rfl (by kernel_rfl) (by kernel_rfl) (by kernel_rfl) rfl rfl (OpV.load_own (i := 0) rfl hB Tryz.isAgg3 rfl rfl (intsT_get hk2) (by first | exact Wi.not1 (by kernel_rfl) | exact Wi.not2 (by kernel_rfl) (by kernel_rfl) | exact Wi.notX (by kernel_rfl))) ?_
   refine VA.take (i := 4) rfl (by kernel_rfl) (by kernel_rfl) (by kernel_rfl) rfl rfl (OpV.move (.inl rfl) rfl) ?_
   refine VA.take (i := 5) rfl (by kernel_rfl) (by kernel_rfl) (by kernel_rfl) rfl rfl (OpV.move (.inl rfl) rfl) ?_
   refine VA.take (i := 6) rfl (by kernel_rfl) (by kernel_rfl) (by kernel_rfl) rfl rfl (OpV.indexAddr_E rfl Tryz.underlying102 Tryz.sizeOf128 rfl rfl hk1 (by omega)) ?_
   refine VA.take (i := 7) rfl (by kernel_rfl) (by kernel_rfl) (by kernel_rfl) rfl rfl (OpV.fieldAddr_atO 1 rfl Tryz.underlying128 rfl rfl Tryz.sizeOf3 rfl rfl) ?_
   refine VA.take (i := 8) rfl (by kernel_rfl) (by kernel_rfl) (by kernel_rfl) rfl rfl (OpV.load_at rfl hB (by first | exact OutW.wi1 (k := 0) rfl rfl) Tryz.isAgg3 rfl rfl) ?_
   refine VA.take (i := 9) rfl (by kernel_rfl) (by kernel_rfl) (by kernel_rfl) rfl rfl (OpV.move (.inl rfl) rfl) ?_
   refine VA.take (i := 10) rfl (by kernel_rfl) (by kernel_rfl) (by kernel_rfl) rfl rfl (OpV.move (.inl rfl) rfl) ?_
   refine VA.take (i := 11) rfl (by kernel_rfl) (by kernel_rfl) (by kernel_rfl) rfl rfl (OpV.indexAddr_E rfl Tryz.underlying77 Tryz.sizeOf96 rfl rfl rfl (by omega)) ?_
   refine VA.take (i := 12) rfl (by kernel_rfl) (by kernel_rfl) (by kernel_rfl) rfl rfl (OpV.fieldAddr_atO 1 rfl Tryz.underlying96 rfl rfl Tryz.sizeOf3 rfl rfl) ?_
   refine VA.take (i := 13) rfl (by kernel_rfl) (by kernel_rfl) (by kernel_rfl) rfl rfl (OpV.load_at rfl hB (by first | exact OutW.wi1 (k := 0) rfl rfl) Tryz.isAgg3 rfl rfl) ?_
   refine VA.take (i := 14) rfl (by kernel_rfl) (by kernel_rfl) (by kernel_rfl) rfl rfl (OpV.mul rfl rfl rfl (by unfold fits; omega)) ?_
   refine VA.take (i := 15) rfl (by kernel_rfl) (by kernel_rfl) (by kernel_rfl) rfl rfl (OpV.add rfl rfl rfl (by unfold fits; omega)) ?_
   refine VA.take (i := 16) rfl (by kernel_rfl) (by kernel_rfl) (by kernel_rfl) rfl rfl (OpV.indexAddr_o rfl Tryz.underlying22 Tryz.sizeOf3 rfl rfl hk1 (by omega)) ?_
   refine VA.all (rs := [17]) (by kernel_rfl) (by decide) ?_
   refine ⟨⟨_, rfl, .inl rfl, ?_⟩, trivial⟩
   refine OpE.store1 (i := 0) rfl hB rfl Tryz.sizeOf3 rfl rfl rfl rfl rfl rfl (by rw [intsL_len, tabI_len]; exact hk2) ((intsL_set _ _ _).trans (congrArg intsL (tabI_set' (g := fun j => cyc ms ns plan j (r + 1)) (by rw [cyc, if_pos hk1]) (fun j hj hne => by rw [cyc, if_neg (by rw [hk1]; omega)])))) (by first | exact ⟨rfl, rfl⟩ | exact .inl ⟨rfl, rfl⟩ | exact .inr ⟨rfl, rfl⟩ | exact ⟨rfl, trivial⟩ | exact .inl ⟨rfl, trivial⟩ | exact .inr ⟨rfl, trivial⟩ | exact ⟨by decide, rfl⟩) ?_
   refine VA.done (by kernel_rfl) ?_
   refine VC.region ?_
   refine VO.val rfl rfl (OpV.add rfl rfl rfl (by unfold fits; omega)) ?_
   refine VO.mv rfl rfl rfl rfl ?_
   refine VO.nil ?_
   exact Exists.intro (⟨r + 1, by omega⟩) (And.intro (Le.mk hB [0] ⟨rfl, rfl, rfl, rfl, rfl, rfl, trivial⟩ rfl rfl (Nat.le_refl _)) (by first | omega | (show _ < _; omega) | (simp only []; omega)))
  ·have aH2 := aH2b
   try simp only [qqT, qqF, qqN, qqM, qqL, qqE] at aH2
   refine VC.exit ?_
   refine VC.sr ?_
   refine VO.mv rfl rfl rfl rfl ?_
   refine VO.ma rfl rfl rfl rfl ?_
   refine VO.nil ?_
   obtain rfl : r = plan.length := by omega
   refine VC.le _ (Le.boxRow (i := 0) (n := ms.length) (cap := ms.length) (sz := 1) (by rw [Nat.mul_one]; rfl) (by rw [intsL_len, tabI_len, Nat.mul_one]) (Nat.le_refl _) (capM (by omega))) ?_
   refine VC.ret ?_
   exact Exists.intro _ (And.intro (RetV.one Tryz.results178 (ResV.tmp rfl)) (⟨_, rfl, List.Mem.head _⟩))
theorem planF_nil {ms : List Mach} (hm : machF ms = 0) : planF ms [] [] = 0 := planF_0 rfl (fun j hj => absurd hj (Nat.not_lt_zero j)) (fun k hk => by show (0 : Int) ≤ _; exact (machF_each hm hk).1.2.2.1)
theorem needsF_nil : needsF [] 1 1000 = 0 := by decide
theorem cycL_fix (ms : List Mach) (ns : List NeedS) : cycL ms [] [] = tabI ms.length fun k => cyc ms ns (List.replicate ns.length (-1)) k (List.replicate ns.length (-1)).length := tabI_congr fun k hk => by
 rw [List.length_replicate, cyc_none _ _ _ (Nat.le_refl _)]; rfl
theorem cnt_fix (ms : List Mach) (n : Nat) : List.replicate ms.length (0 : Int) = tabI ms.length fun k => cnt (List.replicate n (-1)) k (List.replicate n (-1)).length := by
 rw [tabI_rep]
 exact tabI_congr fun k hk => by rw [List.length_replicate, cnt_none _ _ _ (Nat.le_refl _)]
set_option maxRecDepth 100000 in
set_option maxHeartbeats 16000000 in
theorem line_First {ms : List Mach} {ns : List NeedS} (hm : SmallM ms) (hn : SmallN ns) (h12 : ns.length ≤ 12) :
    Spec Tryz.prog 70 [avL ms, avL ns] (fun y => y = .tup [avInts (fstP ms ns), avB (fstK ms ns), avI (faultF ms ns)]) := by
  refine Spec.of_VC Tryz.func70 rfl Tryz.ntmps70 (Nle rfl) fun w A hB => ?_
  have hnew : True := trivial
  refine VC.sr ?_
  refine VO.op rfl (OpE.box rfl hB rfl rfl rfl ?_)
  intro g3
  refine VO.ma rfl rfl rfl rfl ?_
  refine VO.ma rfl rfl rfl rfl ?_
  refine VO.ma rfl rfl rfl rfl ?_
  refine VO.nil ?_
  refine VC.seq ?_
  refine VC.seq ?_
  refine VC.le _ (Le.freezeAt (t := 3) (m := 1) (f := fun _ => avL ns) (i := 0) rfl rfl (Nat.le_refl _) (fun w Z u h => h.at_congr (g := fun _ => avL ns) (fun j hj => by rcases j with _ | j <;> first | rfl | omega)) hnew hB) ?_
  refine VC.region ?_
  refine VO.mv rfl rfl rfl rfl ?_
  refine VO.val rfl rfl (OpV.load_at rfl hB OutW.no Tryz.isAgg77 rfl rfl) ?_
  refine VO.op rfl (OpE.call rfl hB rfl Tryz.call172 rfl (SpecN.spec (line_fault hm.l hm.k hm.c hm.s hn.l hn.k)) ?_)
  rintro _ rfl
  refine VO.ma rfl rfl rfl rfl ?_
  refine VO.nil ?_
  refine VC.sr ?_
  refine VO.mv rfl rfl rfl rfl ?_
  refine VO.val rfl rfl (OpV.neq rfl rfl rfl) ?_
  refine VO.nil ?_
  refine VC.cond rfl (fun h0b => ?_) (fun h0b => ?_)
  · have h0 := h0b
    try simp only [qqT, qqF, qqN, qqM, qqL, qqE] at h0
    refine VC.sr ?_
    refine VO.mv rfl rfl rfl rfl ?_
    refine VO.ma rfl rfl rfl rfl ?_
    refine VO.ma rfl rfl rfl rfl ?_
    refine VO.ma rfl rfl rfl rfl ?_
    refine VO.nil ?_
    refine VC.le _ (Le.recast (t := 4) (y := avInts []) rfl (fun w Z u h => by rw [h.eq_v]; exact .nil _ _)) ?_
    refine VC.ret ?_
    exact Exists.intro _ (And.intro (RetV.three Tryz.results70 (ResV.tmp rfl) (ResV.tmp rfl) (ResV.tmp rfl)) (by rw [(fst_1 h0).1, (fst_1 h0).2]))
  · have h0 := h0b
    try simp only [qqT, qqF, qqN, qqM, qqL, qqE] at h0
    have hf0 : faultF ms ns = 0 := by omega
    obtain ⟨hmf, hnf⟩ := faultF_0 hf0
    have hM := MnOk.mk' hmf hnf
    have hlen := machF_len hmf
    refine VC.skip ?_
    refine VC.sr ?_
    refine VO.ma rfl rfl rfl rfl ?_
    refine VO.nil ?_
    refine VC.seq ?_
    refine VC.sr ?_
    refine VO.val rfl rfl (OpV.load_at rfl hB OutW.no Tryz.isAgg77 rfl rfl) ?_
    refine VO.val rfl rfl (OpV.len_im rfl Tryz.underlying77 rfl) ?_
    refine VO.mv rfl rfl rfl rfl ?_
    refine VO.nil ?_
    refine VC.block ?_
    refine VC.le _ (Le.nilRow 1 3) ?_
    refine VC.loopK [(0, _), (3, _), (25, _)] ⟨rfl, rfl, rfl, trivial⟩ ({t : Value × Nat // t.2 ≤ ns.length}) (fun (iZ : {t : Value × Nat // t.2 ≤ ns.length}) => match iZ with | ⟨⟨u, q⟩, hq⟩ => [(8, .v u), (26, avI (q : Int))]) (fun (iZ : {t : Value × Nat // t.2 ≤ ns.length}) => match iZ with | ⟨⟨u, q⟩, hq⟩ => [.row u (idO q).length 1 (intsL (idO q)) 3]) (fun (iZ : {t : Value × Nat // t.2 ≤ ns.length}) => match iZ with | ⟨⟨u, q⟩, hq⟩ => 0) (fun (iZ : {t : Value × Nat // t.2 ≤ ns.length}) => match iZ with | ⟨⟨u, q⟩, hq⟩ => ns.length - q) ⟨(.slice none 0 0, 0), Nat.zero_le _⟩ (Le.mk hB [0] ⟨rfl, rfl, rfl, rfl, rfl, trivial⟩ rfl rfl (Nat.le_refl _)) ?_
    rintro ⟨⟨u, q⟩, hq⟩
    show VC _ _ _ _ ⟨[(8, .v u), (26, avI (q : Int))] ++ [(0, _), (3, _), (25, _)], [.row u (idO q).length 1 (intsL (idO q)) 3], 0⟩
    simp only at hq
    refine VC.sr ?_
    refine VO.val rfl rfl (OpV.lss rfl rfl rfl) ?_
    refine VO.nil ?_
    refine VC.seq ?_
    refine VC.cond rfl (fun aH1b => ?_) (fun aH1b => ?_)
    · have aH1 := aH1b
      try simp only [qqT, qqF, qqN, qqM, qqL, qqE] at aH1
      refine VC.skip ?_
      refine VC.seq ?_
      refine VC.block ?_
      refine VC.sr ?_
      refine VO.mv rfl rfl rfl rfl ?_
      refine VO.ma rfl rfl rfl rfl ?_
      refine VO.nil ?_
      refine VC.region ?_
      refine VO.mv rfl rfl rfl rfl ?_
      refine VO.mv rfl rfl rfl rfl ?_
      refine VO.op rfl (OpE.buildSlice (zc := #[.int .i64 0]) rfl hB rfl Tryz.underlying22 Tryz.sizeOf3 Tryz.zeroValue3 (by decide) (by decide) (by kernel_rfl) rfl rfl ?_)
      refine VO.op rfl (OpE.append1 (i := 0) rfl hB rfl Tryz.underlying22 (infoOf Tryz.t3 1 (by kernel_rfl) rfl rfl) rfl (by decide) (by decide) rfl rfl rfl rfl ((intsL_snoc _ _).trans (congrArg intsL (idO_succ q).symm)) (by rw [idO_len]; omega) (fun _ _ => trivial) ?_)
      intro u32
      refine VO.ma rfl rfl rfl rfl ?_
      refine VO.nil ?_
      refine VC.region ?_
      refine VO.val rfl rfl (OpV.add rfl rfl rfl (by unfold fits; omega)) ?_
      refine VO.mv rfl rfl rfl rfl ?_
      refine VO.nil ?_
      exact Exists.intro (⟨(u32, q + 1), by show q + 1 ≤ ns.length; omega⟩) (And.intro (Le.mk hB [0] ⟨rfl, rfl, rfl, rfl, rfl, trivial⟩ rfl (by dsimp only; simp only [idO_len]; rfl) (Nat.le_refl _)) (by first | omega | (show _ < _; omega) | (simp only []; omega)))
    · have aH1 := aH1b
      try simp only [qqT, qqF, qqN, qqM, qqL, qqE] at aH1
      refine VC.exit ?_
      refine VC.seq ?_
      obtain rfl : q = ns.length := by omega
      refine VC.region ?_
      refine VO.mv rfl rfl rfl rfl ?_
      refine VO.val rfl rfl (OpV.makeFuncF1 rfl rfl) ?_
      refine VO.op rfl (OpE.callH0 rfl hB rfl Tryz.call174 rfl rfl (sortFunc_int (c := fstO2 ns) (by rw [idO_len]; omega) Tryz.call175 (fun x y hx hy => line_First1 (by omega) (idO_mF hx) (idO_mF hy))) (List.Perm.refl _) (fun _ _ => trivial) ?_)
      rintro _ _ ⟨rfl, rfl⟩
      refine VO.nil ?_
      refine VC.seq ?_
      rw [fstL_code hnf]
      refine VC.le _ (Le.rowI (t := 8) (i := 0) (xs := fstL ns) hB hnew rfl rfl (by rw [idO_len, (fstL_perm ns).length_eq, idO_len])) ?_
      refine VC.draw (fun _ => NoB) hB (by kernel_rfl) ?_
      refine VA.take (i := 0) rfl (by kernel_rfl) (by kernel_rfl) (by kernel_rfl) rfl rfl (OpV.move (.inl rfl) rfl) ?_
      refine VA.take (i := 2) rfl (by kernel_rfl) (by kernel_rfl) (by kernel_rfl) rfl rfl (OpV.move (.inl rfl) rfl) ?_
      refine VA.take (i := 3) rfl (by kernel_rfl) (by kernel_rfl) (by kernel_rfl) rfl rfl (OpV.len_im rfl Tryz.underlying102 rfl) ?_
      refine VA.all (rs := [1, 4]) (by kernel_rfl) (by decide) ?_
      refine ⟨⟨_, rfl, .inl rfl, ?_⟩, ⟨_, rfl, .inl rfl, ?_⟩, trivial⟩
      ·
        refine OpE.callR rfl hB rfl Tryz.call178 (line_cycles_R (ns := []) (plan := []) hmf needsF_nil (planF_nil hmf)) (ArgsP.cons (ArgP.ev rfl) (ArgsP.cons (ArgP.nil rfl) (ArgsP.cons (ArgP.nil rfl) (ArgsP.nil)))) ?_
        intro u38
        refine VA.take (i := 5) rfl (by kernel_rfl) (by kernel_rfl) (by kernel_rfl) rfl rfl (OpV.move (.inr rfl) rfl) ?_
        refine VA.all (rs := [4]) (by kernel_rfl) (by decide) ?_
        refine ⟨⟨_, rfl, .inl rfl, ?_⟩, trivial⟩
        refine OpE.make rfl hB rfl Tryz.underlying22 (infoOf Tryz.t3 1 (by kernel_rfl) rfl rfl) (by decide) rfl rfl (n := ms.length) rfl rfl (by omega) (made_ints _) ?_
        intro g41
        rw [intsL_len, List.length_replicate]
        refine VA.take (i := 6) rfl (by kernel_rfl) (by kernel_rfl) (by kernel_rfl) rfl rfl (OpV.move (.inr rfl) rfl) ?_
        refine VA.done (by kernel_rfl) ?_
        refine VC.sr ?_
        refine VO.val rfl rfl (OpV.load_at rfl hB OutW.no Tryz.isAgg77 rfl rfl) ?_
        refine VO.val rfl rfl (OpV.len_im rfl Tryz.underlying77 rfl) ?_
        refine VO.op rfl (OpE.make rfl hB rfl Tryz.underlying22 (infoOf Tryz.t3 1 (by kernel_rfl) rfl rfl) (by decide) rfl rfl (n := ns.length) rfl rfl (by omega) (made_ints _) ?_)
        intro g44
        rw [intsL_len, List.length_replicate]
        refine VO.ma rfl rfl rfl rfl ?_
        refine VO.nil ?_
        refine VC.seq ?_
        refine VC.seq ?_
        have hfl : (fstL ns).length = ns.length := by rw [(fstL_perm ns).length_eq, idO_len]
        first | refine VC.asBox (i := 0) (n := ms.length) (sz := 1) rfl hlen.1 (fun g38 cap hu hcap hmx => ?_) | (refine VC.le _ (Le.pickH [1, 0, 2] rfl rfl) ?_; refine VC.asBox (i := 0) (n := ms.length) (sz := 1) rfl hlen.1 (fun g38 cap hu hcap hmx => ?_))
        subst hu
        refine VC.region ?_
        refine VO.mv rfl rfl rfl rfl ?_
        refine VO.val rfl rfl (OpV.len_im rfl Tryz.underlying22 rfl) ?_
        refine VO.mv rfl rfl rfl rfl ?_
        refine VO.nil ?_
        refine VC.block ?_
        refine VC.loopK [(0, _), (3, _), (10, _), (11, _), (12, _), (45, _), (46, _)] ⟨rfl, rfl, rfl, rfl, rfl, rfl, rfl, trivial⟩ ({z : Nat × List Int // z.1 ≤ ns.length ∧ FstI ms ns (fstL ns) z.1 z.2 ∧ fstG ms ns ((fstL ns).drop z.1) z.2 = fstR ms ns}) (fun (iZ : {z : Nat × List Int // z.1 ≤ ns.length ∧ FstI ms ns (fstL ns) z.1 z.2 ∧ fstG ms ns ((fstL ns).drop z.1) z.2 = fstR ms ns}) => match iZ with | ⟨⟨q, g⟩, hq, hI, hG⟩ => [(47, avI (q : Int))]) (fun (iZ : {z : Nat × List Int // z.1 ≤ ns.length ∧ FstI ms ns (fstL ns) z.1 z.2 ∧ fstG ms ns ((fstL ns).drop z.1) z.2 = fstR ms ns}) => match iZ with | ⟨⟨q, g⟩, hq, hI, hG⟩ => [.box g38 ⟨intsL (tabI ms.length fun k => cyc ms ns g k g.length), 3, cap * 1⟩, .box g41 ⟨intsL (tabI ms.length fun k => cnt g k g.length), 3, ms.length⟩, .box g44 ⟨intsL (zerG g), 3, ns.length⟩]) (fun (iZ : {z : Nat × List Int // z.1 ≤ ns.length ∧ FstI ms ns (fstL ns) z.1 z.2 ∧ fstG ms ns ((fstL ns).drop z.1) z.2 = fstR ms ns}) => match iZ with | ⟨⟨q, g⟩, hq, hI, hG⟩ => 0) (fun (iZ : {z : Nat × List Int // z.1 ≤ ns.length ∧ FstI ms ns (fstL ns) z.1 z.2 ∧ fstG ms ns ((fstL ns).drop z.1) z.2 = fstR ms ns}) => match iZ with | ⟨⟨q, g⟩, hq, hI, hG⟩ => ns.length - q) ⟨(0, List.replicate ns.length (-1)), Nat.zero_le _, FstI.zero hmf _, rfl⟩ (Le.mk hB [0, 1, 2] ⟨rfl, rfl, rfl, rfl, rfl, rfl, rfl, rfl, trivial⟩ rfl (by dsimp only; rw [← cycL_fix, ← cnt_fix, zerG_rep]; rfl) (Nat.le_refl _)) ?_
        rintro ⟨⟨q, g⟩, hq, hI, hG⟩
        show VC _ _ _ _ ⟨[(47, avI (q : Int))] ++ [(0, _), (3, _), (10, _), (11, _), (12, _), (45, _), (46, _)], [.box g38 ⟨intsL (tabI ms.length fun k => cyc ms ns g k g.length), 3, cap * 1⟩, .box g41 ⟨intsL (tabI ms.length fun k => cnt g k g.length), 3, ms.length⟩, .box g44 ⟨intsL (zerG g), 3, ns.length⟩], 0⟩
        simp only at hq hI hG
        have hgl := hI.len
        refine VC.sr ?_
        refine VO.val rfl rfl (OpV.lss rfl rfl rfl) ?_
        refine VO.nil ?_
        refine VC.seq ?_
        refine VC.cond rfl (fun aH2b => ?_) (fun aH2b => ?_)
        · have aH2 := aH2b
          try simp only [qqT, qqF, qqN, qqM, qqL, qqE] at aH2
          obtain ⟨i, hi, hin⟩ : ∃ i : Nat, (fstL ns).getD q 0 = (i : Int) ∧ i < ns.length := by
            have hx := (fstL_ord ns).lt ((fstL ns).getD q 0) (by rw [List.getD_eq_getElem?_getD, List.getElem?_eq_getElem (by omega)]; exact List.getElem_mem _)
            exact ⟨((fstL ns).getD q 0).toNat, by omega, by omega⟩
          have hnone := hI.none (fstL_ord ns).nd (by omega) hi hin
          refine VC.skip ?_
          refine VC.seq ?_
          refine VC.block ?_
          refine VC.sr ?_
          refine VO.val rfl rfl (OpV.indexAddr_1 rfl Tryz.underlying22 Tryz.sizeOf3 rfl rfl rfl (by omega)) ?_
          refine VO.val rfl rfl (OpV.load_at rfl hB OutW.no Tryz.isAgg3 rfl rfl) ?_
          refine VO.le _ (Le.recast (t := 50) (y := avI (i : Int)) rfl (fun w Z u h => by rw [← hi]; exact h)) ?_
          refine VO.ma rfl rfl rfl rfl ?_
          refine VO.nil ?_
          refine VC.sr ?_
          refine VO.ma rfl rfl rfl rfl ?_
          refine VO.nil ?_
          refine VC.seq ?_
          refine VC.sr ?_
          refine VO.mv rfl rfl rfl rfl ?_
          refine VO.val rfl rfl (OpV.len_im rfl Tryz.underlying102 rfl) ?_
          refine VO.mv rfl rfl rfl rfl ?_
          refine VO.nil ?_
          refine VC.block ?_
          refine VC.loopK [(0, _), (3, _), (10, _), (11, _), (12, _), (14, _), (45, _), (46, _), (47, _), (51, _), (52, _)] ⟨rfl, rfl, rfl, rfl, rfl, rfl, rfl, rfl, rfl, rfl, rfl, trivial⟩ ({k : Nat // k ≤ ms.length}) (fun (iZ : {k : Nat // k ≤ ms.length}) => match iZ with | ⟨k, hk⟩ => [(15, avI (pckF (fstC ms ns g i) (fstO ms ns g i) k)), (53, avI (k : Int))]) (fun (iZ : {k : Nat // k ≤ ms.length}) => match iZ with | ⟨k, hk⟩ => [.box g38 ⟨intsL (tabI ms.length fun k => cyc ms ns g k g.length), 3, cap * 1⟩, .box g41 ⟨intsL (tabI ms.length fun k => cnt g k g.length), 3, ms.length⟩, .box g44 ⟨intsL (zerG g), 3, ns.length⟩]) (fun (iZ : {k : Nat // k ≤ ms.length}) => match iZ with | ⟨k, hk⟩ => 0) (fun (iZ : {k : Nat // k ≤ ms.length}) => match iZ with | ⟨k, hk⟩ => ms.length - k) ⟨0, Nat.zero_le _⟩ (Le.mk hB [0, 1, 2] ⟨rfl, rfl, rfl, rfl, rfl, rfl, rfl, rfl, rfl, rfl, rfl, rfl, rfl, trivial⟩ rfl rfl (Nat.le_refl _)) ?_
          rintro ⟨k, hk⟩
          show VC _ _ _ _ ⟨[(15, avI (pckF (fstC ms ns g i) (fstO ms ns g i) k)), (53, avI (k : Int))] ++ [(0, _), (3, _), (10, _), (11, _), (12, _), (14, _), (45, _), (46, _), (47, _), (51, _), (52, _)], [.box g38 ⟨intsL (tabI ms.length fun k => cyc ms ns g k g.length), 3, cap * 1⟩, .box g41 ⟨intsL (tabI ms.length fun k => cnt g k g.length), 3, ms.length⟩, .box g44 ⟨intsL (zerG g), 3, ns.length⟩], 0⟩
          have hpb := pck_bd (fstC ms ns g i) (fstO ms ns g i) k
          have hcn := cnt_le g k g.length
          have hcy := cyc_bd hM (pl := g) (k := k) (Nat.le_refl _)
          have hcb := cyc_bd hM (pl := g) (k := (pckF (fstC ms ns g i) (fstO ms ns g i) k).toNat) (Nat.le_refl _)
          have hmu := mul_in2 (hM.each k) (hM.cnt i)
          have hmb := mul_in2 (hM.each (pckF (fstC ms ns g i) (fstO ms ns g i) k).toNat) (hM.cnt i)
          refine VC.sr ?_
          refine VO.val rfl rfl (OpV.lss rfl rfl rfl) ?_
          refine VO.nil ?_
          refine VC.seq ?_
          refine VC.cond rfl (fun aH3b => ?_) (fun aH3b => ?_)
          · have aH3 := aH3b
            try simp only [qqT, qqF, qqN, qqM, qqL, qqE] at aH3
            refine VC.skip ?_
            refine VC.seq ?_
            refine VC.block ?_
            refine VC.sr ?_
            refine VO.mv rfl rfl rfl rfl ?_
            refine VO.val rfl rfl (OpV.indexAddr_E rfl Tryz.underlying102 Tryz.sizeOf128 rfl rfl rfl (by omega)) ?_
            refine VO.val rfl rfl (OpV.loadK_at rfl hB OutW.no Tryz.isAgg128 Tryz.sizeOf128 rfl rfl) ?_
            refine VO.op rfl (OpE.alloc rfl hB rfl Tryz.zeroValue128 rfl ?_)
            intro g17
            refine VO.ma rfl rfl rfl rfl ?_
            refine VO.op rfl (OpE.store (i := 3) rfl hB rfl Tryz.sizeOf128 rfl rfl rfl rfl rfl rfl (Nle rfl) trivial ?_)
            refine VO.nil ?_
            refine VC.seq ?_
            refine VC.seq ?_
            refine VC.draw (fun _ => NoB) hB (by kernel_rfl) ?_
            refine VA.take (i := 0) rfl (by kernel_rfl) (by kernel_rfl) (by kernel_rfl) rfl rfl (OpV.loadK_own (i := 3) rfl hB Tryz.isAgg128 Tryz.sizeOf128 rfl rfl rfl Wi.not0) ?_
            refine VA.take (i := 1) rfl (by kernel_rfl) (by kernel_rfl) (by kernel_rfl) rfl rfl (OpV.load_at rfl hB OutW.wi0 Tryz.isAgg77 rfl rfl) ?_
            refine VA.take (i := 2) rfl (by kernel_rfl) (by kernel_rfl) (by kernel_rfl) rfl rfl (OpV.move (.inl rfl) rfl) ?_
            refine VA.take (i := 3) rfl (by kernel_rfl) (by kernel_rfl) (by kernel_rfl) rfl rfl (OpV.indexAddr_E rfl Tryz.underlying77 Tryz.sizeOf96 rfl rfl rfl (by omega)) ?_
            refine VA.take (i := 4) rfl (by kernel_rfl) (by kernel_rfl) (by kernel_rfl) rfl rfl (OpV.fieldAddr_atO 0 rfl Tryz.underlying96 rfl rfl Tryz.sizeOf9 rfl rfl) ?_
            refine VA.take (i := 5) rfl (by kernel_rfl) (by kernel_rfl) (by kernel_rfl) rfl rfl (OpV.load_at rfl hB OutW.wi0 Tryz.isAgg9 rfl rfl) ?_
            refine VA.all (rs := [6]) (by kernel_rfl) (by decide) ?_
            refine ⟨⟨_, rfl, .inl rfl, ?_⟩, trivial⟩
            refine OpE.call rfl hB rfl Tryz.call179 rfl (SpecN.spec (line_can (by have := canF_keys (machF_each hmf (i := k) (by omega)).2; omega) (canF_sort (machF_each hmf (by omega)).2))) ?_
            rintro _ rfl
            refine VA.take (i := 7) rfl (by kernel_rfl) (by kernel_rfl) (by kernel_rfl) rfl rfl (OpV.not rfl rfl) ?_
            refine VA.take (i := 8) rfl (by kernel_rfl) (by kernel_rfl) (by kernel_rfl) rfl rfl (OpV.move (.inl rfl) rfl) ?_
            refine VA.split (t := 66) rfl (fun aK4b => ?_) (fun aK4b => ?_)
            · have aK4 := aK4b
              try simp only [qqT, qqF, qqN, qqM, qqL, qqE] at aK4
              refine VA.takeX (i := 9) rfl (by kernel_rfl) (by kernel_rfl) (by kernel_rfl) rfl rfl rfl rfl aK4b ?_
              refine VA.takeX (i := 10) rfl (by kernel_rfl) (by kernel_rfl) (by kernel_rfl) rfl rfl rfl rfl aK4b ?_
              refine VA.takeX (i := 11) rfl (by kernel_rfl) (by kernel_rfl) (by kernel_rfl) rfl rfl rfl rfl aK4b ?_
              refine VA.takeX (i := 12) rfl (by kernel_rfl) (by kernel_rfl) (by kernel_rfl) rfl rfl rfl rfl aK4b ?_
              refine VA.takeX (i := 13) rfl (by kernel_rfl) (by kernel_rfl) (by kernel_rfl) rfl rfl rfl rfl aK4b ?_
              refine VA.takeX (i := 14) rfl (by kernel_rfl) (by kernel_rfl) (by kernel_rfl) rfl rfl rfl rfl aK4b ?_
              refine VA.takeX (i := 15) rfl (by kernel_rfl) (by kernel_rfl) (by kernel_rfl) rfl rfl rfl rfl aK4b ?_
              refine VA.take (i := 16) rfl (by kernel_rfl) (by kernel_rfl) (by kernel_rfl) rfl rfl (OpV.pickT rfl rfl rfl rfl aK4b) ?_
              refine VA.done (by kernel_rfl) ?_
              refine VC.condT rfl rfl ?_
              refine VC.exit ?_
              refine VC.region ?_
              refine VO.val rfl rfl (OpV.add rfl rfl rfl (by unfold fits; omega)) ?_
              refine VO.mv rfl rfl rfl rfl ?_
              refine VO.nil ?_
              exact Exists.intro (⟨k + 1, by omega⟩) (And.intro (Le.mk hB [0, 1, 2] ⟨(by dsimp only; first | (rw [pck_n1 (fstO_f1 (by assumption))]; rfl) | (rw [pck_n1 (fstO_f2 (by omega))]; rfl) | (rw [pck_y (fstO_t (by assumption) (by omega)) (.inl (by assumption))]; rfl) | (rw [pck_y (fstO_t (by assumption) (by omega)) (.inr (fstC_lt.2 (by omega)))]; rfl) | (rw [pck_n2 (by omega) (fun e => absurd (fstC_lt.1 e) (by omega))]; rfl)), rfl, rfl, rfl, rfl, rfl, rfl, rfl, rfl, rfl, rfl, rfl, rfl, trivial⟩ rfl rfl (Nat.le_refl _)) (by first | omega | (show _ < _; omega) | (simp only []; omega)))
            · have aK4 := aK4b
              try simp only [qqT, qqF, qqN, qqM, qqL, qqE] at aK4
              refine VA.takeY (i := 9) rfl (by kernel_rfl) (by kernel_rfl) (by kernel_rfl) rfl rfl rfl rfl aK4b (OpV.move (.inl rfl) rfl) ?_
              refine VA.takeY (i := 10) rfl (by kernel_rfl) (by kernel_rfl) (by kernel_rfl) rfl rfl rfl rfl aK4b (OpV.move (.inl rfl) rfl) ?_
              refine VA.takeY (i := 11) rfl (by kernel_rfl) (by kernel_rfl) (by kernel_rfl) rfl rfl rfl rfl aK4b (OpV.indexAddr_o rfl Tryz.underlying22 Tryz.sizeOf3 rfl rfl rfl (by omega)) ?_
              refine VA.takeY (i := 12) rfl (by kernel_rfl) (by kernel_rfl) (by kernel_rfl) rfl rfl rfl rfl aK4b (OpV.load_own (i := 1) rfl hB Tryz.isAgg3 rfl rfl (intsT_get (by omega)) Wi.not0) ?_
              refine VA.takeY (i := 13) rfl (by kernel_rfl) (by kernel_rfl) (by kernel_rfl) rfl rfl rfl rfl aK4b (OpV.fieldAddrO 3 rfl Tryz.underlying128 rfl rfl Tryz.sizeOf3 rfl) ?_
              refine VA.takeY (i := 14) rfl (by kernel_rfl) (by kernel_rfl) (by kernel_rfl) rfl rfl rfl rfl aK4b (OpV.load_own (i := 3) rfl hB Tryz.isAgg3 rfl rfl rfl Wi.not0) ?_
              refine VA.takeY (i := 15) rfl (by kernel_rfl) (by kernel_rfl) (by kernel_rfl) rfl rfl rfl rfl aK4b (OpV.geq rfl rfl rfl) ?_
              refine VA.take (i := 16) rfl (by kernel_rfl) (by kernel_rfl) (by kernel_rfl) rfl rfl (OpV.pickF rfl rfl rfl rfl aK4b) ?_
              refine VA.done (by kernel_rfl) ?_
              refine VC.cond rfl (fun h4b => ?_) (fun h4b => ?_)
              · have h4 := h4b
                try simp only [qqT, qqF, qqN, qqM, qqL, qqE] at h4
                refine VC.exit ?_
                refine VC.region ?_
                refine VO.val rfl rfl (OpV.add rfl rfl rfl (by unfold fits; omega)) ?_
                refine VO.mv rfl rfl rfl rfl ?_
                refine VO.nil ?_
                exact Exists.intro (⟨k + 1, by omega⟩) (And.intro (Le.mk hB [0, 1, 2] ⟨(by dsimp only; first | (rw [pck_n1 (fstO_f1 (by assumption))]; rfl) | (rw [pck_n1 (fstO_f2 (by omega))]; rfl) | (rw [pck_y (fstO_t (by assumption) (by omega)) (.inl (by assumption))]; rfl) | (rw [pck_y (fstO_t (by assumption) (by omega)) (.inr (fstC_lt.2 (by omega)))]; rfl) | (rw [pck_n2 (by omega) (fun e => absurd (fstC_lt.1 e) (by omega))]; rfl)), rfl, rfl, rfl, rfl, rfl, rfl, rfl, rfl, rfl, rfl, rfl, rfl, trivial⟩ rfl rfl (Nat.le_refl _)) (by first | omega | (show _ < _; omega) | (simp only []; omega)))
              · have h4 := h4b
                try simp only [qqT, qqF, qqN, qqM, qqL, qqE] at h4
                refine VC.skip ?_
                refine VC.seq ?_
                refine VC.draw (fun _ => NoB) hB (by kernel_rfl) ?_
                refine VA.take (i := 0) rfl (by kernel_rfl) (by kernel_rfl) (by kernel_rfl) rfl rfl (OpV.move (.inl rfl) rfl) ?_
                refine VA.take (i := 1) rfl (by kernel_rfl) (by kernel_rfl) (by kernel_rfl) rfl rfl (OpV.lss rfl rfl rfl) ?_
                refine VA.take (i := 2) rfl (by kernel_rfl) (by kernel_rfl) (by kernel_rfl) rfl rfl (OpV.move (.inl rfl) rfl) ?_
                refine VA.split (t := 77) rfl (fun aK5b => ?_) (fun aK5b => ?_)
                · have aK5 := aK5b
                  try simp only [qqT, qqF, qqN, qqM, qqL, qqE] at aK5
                  refine VA.takeX (i := 3) rfl (by kernel_rfl) (by kernel_rfl) (by kernel_rfl) rfl rfl rfl rfl aK5b ?_
                  refine VA.takeX (i := 4) rfl (by kernel_rfl) (by kernel_rfl) (by kernel_rfl) rfl rfl rfl rfl aK5b ?_
                  refine VA.takeX (i := 5) rfl (by kernel_rfl) (by kernel_rfl) (by kernel_rfl) rfl rfl rfl rfl aK5b ?_
                  refine VA.takeX (i := 6) rfl (by kernel_rfl) (by kernel_rfl) (by kernel_rfl) rfl rfl rfl rfl aK5b ?_
                  refine VA.takeX (i := 7) rfl (by kernel_rfl) (by kernel_rfl) (by kernel_rfl) rfl rfl rfl rfl aK5b ?_
                  refine VA.takeX (i := 8) rfl (by kernel_rfl) (by kernel_rfl) (by kernel_rfl) rfl rfl rfl rfl aK5b ?_
                  refine VA.takeX (i := 9) rfl (by kernel_rfl) (by kernel_rfl) (by kernel_rfl) rfl rfl rfl rfl aK5b ?_
                  refine VA.takeX (i := 10) rfl (by kernel_rfl) (by kernel_rfl) (by kernel_rfl) rfl rfl rfl rfl aK5b ?_
                  refine VA.takeX (i := 11) rfl (by kernel_rfl) (by kernel_rfl) (by kernel_rfl) rfl rfl rfl rfl aK5b ?_
                  refine VA.takeX (i := 12) rfl (by kernel_rfl) (by kernel_rfl) (by kernel_rfl) rfl rfl rfl rfl aK5b ?_
                  refine VA.takeX (i := 13) rfl (by kernel_rfl) (by kernel_rfl) (by kernel_rfl) rfl rfl rfl rfl aK5b ?_
                  refine VA.takeX (i := 14) rfl (by kernel_rfl) (by kernel_rfl) (by kernel_rfl) rfl rfl rfl rfl aK5b ?_
                  refine VA.takeX (i := 15) rfl (by kernel_rfl) (by kernel_rfl) (by kernel_rfl) rfl rfl rfl rfl aK5b ?_
                  refine VA.takeX (i := 16) rfl (by kernel_rfl) (by kernel_rfl) (by kernel_rfl) rfl rfl rfl rfl aK5b ?_
                  refine VA.takeX (i := 17) rfl (by kernel_rfl) (by kernel_rfl) (by kernel_rfl) rfl rfl rfl rfl aK5b ?_
                  refine VA.takeX (i := 18) rfl (by kernel_rfl) (by kernel_rfl) (by kernel_rfl) rfl rfl rfl rfl aK5b ?_
                  refine VA.takeX (i := 19) rfl (by kernel_rfl) (by kernel_rfl) (by kernel_rfl) rfl rfl rfl rfl aK5b ?_
                  refine VA.takeX (i := 20) rfl (by kernel_rfl) (by kernel_rfl) (by kernel_rfl) rfl rfl rfl rfl aK5b ?_
                  refine VA.takeX (i := 21) rfl (by kernel_rfl) (by kernel_rfl) (by kernel_rfl) rfl rfl rfl rfl aK5b ?_
                  refine VA.takeX (i := 22) rfl (by kernel_rfl) (by kernel_rfl) (by kernel_rfl) rfl rfl rfl rfl aK5b ?_
                  refine VA.takeX (i := 23) rfl (by kernel_rfl) (by kernel_rfl) (by kernel_rfl) rfl rfl rfl rfl aK5b ?_
                  refine VA.takeX (i := 24) rfl (by kernel_rfl) (by kernel_rfl) (by kernel_rfl) rfl rfl rfl rfl aK5b ?_
                  refine VA.takeX (i := 25) rfl (by kernel_rfl) (by kernel_rfl) (by kernel_rfl) rfl rfl rfl rfl aK5b ?_
                  refine VA.takeX (i := 26) rfl (by kernel_rfl) (by kernel_rfl) (by kernel_rfl) rfl rfl rfl rfl aK5b ?_
                  refine VA.takeX (i := 27) rfl (by kernel_rfl) (by kernel_rfl) (by kernel_rfl) rfl rfl rfl rfl aK5b ?_
                  refine VA.takeX (i := 28) rfl (by kernel_rfl) (by kernel_rfl) (by kernel_rfl) rfl rfl rfl rfl aK5b ?_
                  refine VA.takeX (i := 29) rfl (by kernel_rfl) (by kernel_rfl) (by kernel_rfl) rfl rfl rfl rfl aK5b ?_
                  refine VA.takeX (i := 30) rfl (by kernel_rfl) (by kernel_rfl) (by kernel_rfl) rfl rfl rfl rfl aK5b ?_
                  refine VA.takeX (i := 31) rfl (by kernel_rfl) (by kernel_rfl) (by kernel_rfl) rfl rfl rfl rfl aK5b ?_
                  refine VA.takeX (i := 32) rfl (by kernel_rfl) (by kernel_rfl) (by kernel_rfl) rfl rfl rfl rfl aK5b ?_
                  refine VA.take (i := 33) rfl (by kernel_rfl) (by kernel_rfl) (by kernel_rfl) rfl rfl (OpV.pickT rfl rfl rfl rfl aK5b) ?_
                  refine VA.done (by kernel_rfl) ?_
                  refine VC.condT rfl rfl ?_
                  refine VC.region ?_
                  refine VO.mv rfl rfl rfl rfl ?_
                  refine VO.ma rfl rfl rfl rfl ?_
                  refine VO.nil ?_
                  refine VC.region ?_
                  refine VO.val rfl rfl (OpV.add rfl rfl rfl (by unfold fits; omega)) ?_
                  refine VO.mv rfl rfl rfl rfl ?_
                  refine VO.nil ?_
                  exact Exists.intro (⟨k + 1, by omega⟩) (And.intro (Le.mk hB [0, 1, 2] ⟨(by dsimp only; first | (rw [pck_n1 (fstO_f1 (by assumption))]; rfl) | (rw [pck_n1 (fstO_f2 (by omega))]; rfl) | (rw [pck_y (fstO_t (by assumption) (by omega)) (.inl (by assumption))]; rfl) | (rw [pck_y (fstO_t (by assumption) (by omega)) (.inr (fstC_lt.2 (by omega)))]; rfl) | (rw [pck_n2 (by omega) (fun e => absurd (fstC_lt.1 e) (by omega))]; rfl)), rfl, rfl, rfl, rfl, rfl, rfl, rfl, rfl, rfl, rfl, rfl, rfl, trivial⟩ rfl rfl (Nat.le_refl _)) (by first | omega | (show _ < _; omega) | (simp only []; omega)))
                · have aK5 := aK5b
                  try simp only [qqT, qqF, qqN, qqM, qqL, qqE] at aK5
                  refine VA.takeY (i := 3) rfl (by kernel_rfl) (by kernel_rfl) (by kernel_rfl) rfl rfl rfl rfl aK5b (OpV.move (.inl rfl) rfl) ?_
                  refine VA.takeY (i := 4) rfl (by kernel_rfl) (by kernel_rfl) (by kernel_rfl) rfl rfl rfl rfl aK5b (OpV.move (.inl rfl) rfl) ?_
                  refine VA.takeY (i := 5) rfl (by kernel_rfl) (by kernel_rfl) (by kernel_rfl) rfl rfl rfl rfl aK5b (OpV.indexAddr_o rfl Tryz.underlying22 Tryz.sizeOf3 rfl rfl rfl (by omega)) ?_
                  refine VA.takeY (i := 6) rfl (by kernel_rfl) (by kernel_rfl) (by kernel_rfl) rfl rfl rfl rfl aK5b (OpV.load_own (i := 0) rfl hB Tryz.isAgg3 rfl rfl (intsT_get (by omega)) Wi.not0) ?_
                  refine VA.takeY (i := 7) rfl (by kernel_rfl) (by kernel_rfl) (by kernel_rfl) rfl rfl rfl rfl aK5b (OpV.fieldAddrO 1 rfl Tryz.underlying128 rfl rfl Tryz.sizeOf3 rfl) ?_
                  refine VA.takeY (i := 8) rfl (by kernel_rfl) (by kernel_rfl) (by kernel_rfl) rfl rfl rfl rfl aK5b (OpV.load_own (i := 3) rfl hB Tryz.isAgg3 rfl rfl rfl Wi.not0) ?_
                  refine VA.takeY (i := 9) rfl (by kernel_rfl) (by kernel_rfl) (by kernel_rfl) rfl rfl rfl rfl aK5b (OpV.load_at rfl hB OutW.wi0 Tryz.isAgg77 rfl rfl) ?_
                  refine VA.takeY (i := 10) rfl (by kernel_rfl) (by kernel_rfl) (by kernel_rfl) rfl rfl rfl rfl aK5b (OpV.move (.inl rfl) rfl) ?_
                  refine VA.takeY (i := 11) rfl (by kernel_rfl) (by kernel_rfl) (by kernel_rfl) rfl rfl rfl rfl aK5b (OpV.indexAddr_E rfl Tryz.underlying77 Tryz.sizeOf96 rfl rfl rfl (by omega)) ?_
                  refine VA.takeY (i := 12) rfl (by kernel_rfl) (by kernel_rfl) (by kernel_rfl) rfl rfl rfl rfl aK5b (OpV.fieldAddr_atO 1 rfl Tryz.underlying96 rfl rfl Tryz.sizeOf3 rfl rfl) ?_
                  refine VA.takeY (i := 13) rfl (by kernel_rfl) (by kernel_rfl) (by kernel_rfl) rfl rfl rfl rfl aK5b (OpV.load_at rfl hB OutW.wi0 Tryz.isAgg3 rfl rfl) ?_
                  refine VA.takeY (i := 14) rfl (by kernel_rfl) (by kernel_rfl) (by kernel_rfl) rfl rfl rfl rfl aK5b (OpV.mul rfl rfl rfl (by unfold fits; omega)) ?_
                  refine VA.takeY (i := 15) rfl (by kernel_rfl) (by kernel_rfl) (by kernel_rfl) rfl rfl rfl rfl aK5b (OpV.add rfl rfl rfl (by unfold fits; omega)) ?_
                  refine VA.takeY (i := 16) rfl (by kernel_rfl) (by kernel_rfl) (by kernel_rfl) rfl rfl rfl rfl aK5b (OpV.move (.inl rfl) rfl) ?_
                  refine VA.takeY (i := 17) rfl (by kernel_rfl) (by kernel_rfl) (by kernel_rfl) rfl rfl rfl rfl aK5b (OpV.move (.inl rfl) rfl) ?_
                  refine VA.takeY (i := 18) rfl (by kernel_rfl) (by kernel_rfl) (by kernel_rfl) rfl rfl rfl rfl aK5b (OpV.indexAddr_o rfl Tryz.underlying22 Tryz.sizeOf3 rfl rfl (Int.toNat_of_nonneg (by omega)).symm (by omega)) ?_
                  refine VA.takeY (i := 19) rfl (by kernel_rfl) (by kernel_rfl) (by kernel_rfl) rfl rfl rfl rfl aK5b (OpV.load_own (i := 0) rfl hB Tryz.isAgg3 rfl rfl (intsT_get (by omega)) Wi.not0) ?_
                  refine VA.takeY (i := 20) rfl (by kernel_rfl) (by kernel_rfl) (by kernel_rfl) rfl rfl rfl rfl aK5b (OpV.move (.inl rfl) rfl) ?_
                  refine VA.takeY (i := 21) rfl (by kernel_rfl) (by kernel_rfl) (by kernel_rfl) rfl rfl rfl rfl aK5b (OpV.move (.inl rfl) rfl) ?_
                  refine VA.takeY (i := 22) rfl (by kernel_rfl) (by kernel_rfl) (by kernel_rfl) rfl rfl rfl rfl aK5b (OpV.indexAddr_E rfl Tryz.underlying102 Tryz.sizeOf128 rfl rfl (Int.toNat_of_nonneg (by omega)).symm (by omega)) ?_
                  refine VA.takeY (i := 23) rfl (by kernel_rfl) (by kernel_rfl) (by kernel_rfl) rfl rfl rfl rfl aK5b (OpV.fieldAddr_atO 1 rfl Tryz.underlying128 rfl rfl Tryz.sizeOf3 rfl rfl) ?_
                  refine VA.takeY (i := 24) rfl (by kernel_rfl) (by kernel_rfl) (by kernel_rfl) rfl rfl rfl rfl aK5b (OpV.load_at rfl hB OutW.wi0 Tryz.isAgg3 rfl rfl) ?_
                  refine VA.takeY (i := 25) rfl (by kernel_rfl) (by kernel_rfl) (by kernel_rfl) rfl rfl rfl rfl aK5b (OpV.load_at rfl hB OutW.wi0 Tryz.isAgg77 rfl rfl) ?_
                  refine VA.takeY (i := 26) rfl (by kernel_rfl) (by kernel_rfl) (by kernel_rfl) rfl rfl rfl rfl aK5b (OpV.move (.inl rfl) rfl) ?_
                  refine VA.takeY (i := 27) rfl (by kernel_rfl) (by kernel_rfl) (by kernel_rfl) rfl rfl rfl rfl aK5b (OpV.indexAddr_E rfl Tryz.underlying77 Tryz.sizeOf96 rfl rfl rfl (by omega)) ?_
                  refine VA.takeY (i := 28) rfl (by kernel_rfl) (by kernel_rfl) (by kernel_rfl) rfl rfl rfl rfl aK5b (OpV.fieldAddr_atO 1 rfl Tryz.underlying96 rfl rfl Tryz.sizeOf3 rfl rfl) ?_
                  refine VA.takeY (i := 29) rfl (by kernel_rfl) (by kernel_rfl) (by kernel_rfl) rfl rfl rfl rfl aK5b (OpV.load_at rfl hB OutW.wi0 Tryz.isAgg3 rfl rfl) ?_
                  refine VA.takeY (i := 30) rfl (by kernel_rfl) (by kernel_rfl) (by kernel_rfl) rfl rfl rfl rfl aK5b (OpV.mul rfl rfl rfl (by unfold fits; omega)) ?_
                  refine VA.takeY (i := 31) rfl (by kernel_rfl) (by kernel_rfl) (by kernel_rfl) rfl rfl rfl rfl aK5b (OpV.add rfl rfl rfl (by unfold fits; omega)) ?_
                  refine VA.takeY (i := 32) rfl (by kernel_rfl) (by kernel_rfl) (by kernel_rfl) rfl rfl rfl rfl aK5b (OpV.lss rfl rfl rfl) ?_
                  refine VA.take (i := 33) rfl (by kernel_rfl) (by kernel_rfl) (by kernel_rfl) rfl rfl (OpV.pickF rfl rfl rfl rfl aK5b) ?_
                  refine VA.done (by kernel_rfl) ?_
                  refine VC.cond rfl (fun h5b => ?_) (fun h5b => ?_)
                  · have h5 := h5b
                    try simp only [qqT, qqF, qqN, qqM, qqL, qqE] at h5
                    refine VC.region ?_
                    refine VO.mv rfl rfl rfl rfl ?_
                    refine VO.ma rfl rfl rfl rfl ?_
                    refine VO.nil ?_
                    refine VC.region ?_
                    refine VO.val rfl rfl (OpV.add rfl rfl rfl (by unfold fits; omega)) ?_
                    refine VO.mv rfl rfl rfl rfl ?_
                    refine VO.nil ?_
                    exact Exists.intro (⟨k + 1, by omega⟩) (And.intro (Le.mk hB [0, 1, 2] ⟨(by dsimp only; first | (rw [pck_n1 (fstO_f1 (by assumption))]; rfl) | (rw [pck_n1 (fstO_f2 (by omega))]; rfl) | (rw [pck_y (fstO_t (by assumption) (by omega)) (.inl (by assumption))]; rfl) | (rw [pck_y (fstO_t (by assumption) (by omega)) (.inr (fstC_lt.2 (by omega)))]; rfl) | (rw [pck_n2 (by omega) (fun e => absurd (fstC_lt.1 e) (by omega))]; rfl)), rfl, rfl, rfl, rfl, rfl, rfl, rfl, rfl, rfl, rfl, rfl, rfl, trivial⟩ rfl rfl (Nat.le_refl _)) (by first | omega | (show _ < _; omega) | (simp only []; omega)))
                  · have h5 := h5b
                    try simp only [qqT, qqF, qqN, qqM, qqL, qqE] at h5
                    refine VC.skip ?_
                    refine VC.region ?_
                    refine VO.val rfl rfl (OpV.add rfl rfl rfl (by unfold fits; omega)) ?_
                    refine VO.mv rfl rfl rfl rfl ?_
                    refine VO.nil ?_
                    exact Exists.intro (⟨k + 1, by omega⟩) (And.intro (Le.mk hB [0, 1, 2] ⟨(by dsimp only; first | (rw [pck_n1 (fstO_f1 (by assumption))]; rfl) | (rw [pck_n1 (fstO_f2 (by omega))]; rfl) | (rw [pck_y (fstO_t (by assumption) (by omega)) (.inl (by assumption))]; rfl) | (rw [pck_y (fstO_t (by assumption) (by omega)) (.inr (fstC_lt.2 (by omega)))]; rfl) | (rw [pck_n2 (by omega) (fun e => absurd (fstC_lt.1 e) (by omega))]; rfl)), rfl, rfl, rfl, rfl, rfl, rfl, rfl, rfl, rfl, rfl, rfl, rfl, trivial⟩ rfl rfl (Nat.le_refl _)) (by first | omega | (show _ < _; omega) | (simp only []; omega)))
          · have aH3 := aH3b
            try simp only [qqT, qqF, qqN, qqM, qqL, qqE] at aH3
            refine VC.exit ?_
            refine VC.seq ?_
            refine VC.sr ?_
            refine VO.mv rfl rfl rfl rfl ?_
            refine VO.val rfl rfl (OpV.lss rfl rfl rfl) ?_
            refine VO.nil ?_
            refine VC.cond rfl (fun h6b => ?_) (fun h6b => ?_)
            · have h6 := h6b
              try simp only [qqT, qqF, qqN, qqM, qqL, qqE] at h6
              have hnn : fstR ms ns = none := by
                obtain rfl : k = ms.length := by omega
                rw [← hG, fstG_step (by omega), hi, Int.toNat_natCast, if_pos (show fstB ms ns g i < 0 from h6)]
              refine VC.sr ?_
              refine VO.ma rfl rfl rfl rfl ?_
              refine VO.ma rfl rfl rfl rfl ?_
              refine VO.ma rfl rfl rfl rfl ?_
              refine VO.nil ?_
              refine VC.le _ (Le.recast (t := 4) (y := avInts []) rfl (fun w Z u h => by rw [h.eq_v]; exact .nil _ _)) ?_
              refine VC.ret ?_
              exact Exists.intro _ (And.intro (RetV.three Tryz.results70 (ResV.tmp rfl) (ResV.tmp rfl) (ResV.tmp rfl)) (by rw [(fst_2 hnn).1, (fst_2 hnn).2, hf0]))
            · have h6 := h6b
              try simp only [qqT, qqF, qqN, qqM, qqL, qqE] at h6
              obtain rfl : k = ms.length := by omega
              obtain ⟨kb, hkb, hkl, hk1, hk2⟩ := fstB_in (ms := ms) (ns := ns) (g := g) (i := i) (show ¬ fstB ms ns g i < 0 from Int.not_lt.2 h6)
              have hG2 : fstG ms ns ((fstL ns).drop (q + 1)) (g.set i (kb : Int)) = fstR ms ns := by
                have h := fstG_step (ms := ms) (ns := ns) (l := fstL ns) (g := g) (q := q) (by omega)
                rw [hG, hi, Int.toNat_natCast, if_neg (by omega), hkb] at h; exact h.symm
              have hcy2 := cyc_bd hM (pl := g) (k := kb) (Nat.le_refl _)
              have hcn2 := cnt_le g kb g.length
              have hmu2 := mul_in2 (hM.each kb) (hM.cnt i)
              refine VC.le _ (Le.recast (t := 15) (y := avI (kb : Int)) rfl (fun w Z u h => by rw [← hkb]; exact h)) ?_
              refine VC.skip ?_
              refine VC.sr ?_
              refine VO.mv rfl rfl rfl rfl ?_
              refine VO.mv rfl rfl rfl rfl ?_
              refine VO.mv rfl rfl rfl rfl ?_
              refine VO.val rfl rfl (OpV.indexAddr_o rfl Tryz.underlying22 Tryz.sizeOf3 rfl rfl rfl (by omega)) ?_
              refine VO.op rfl (OpE.store1 (i := 2) rfl hB rfl Tryz.sizeOf3 rfl rfl rfl rfl rfl rfl (by rw [intsL_len, zerG_len]; omega) ((intsL_set _ _ _).trans (congrArg intsL zerG_set)) trivial ?_)
              refine VO.nil ?_
              refine VC.seq ?_
              refine VC.draw (fun j b => j = 17 ∧ b = g38) hB (by kernel_rfl) ?_
              refine VA.take (i := 0) rfl (by kernel_rfl) (by kernel_rfl) (by kernel_rfl) rfl rfl (OpV.move (.inl rfl) rfl) ?_
              refine VA.take (i := 1) rfl (by kernel_rfl) (by kernel_rfl) (by kernel_rfl) rfl rfl (OpV.move (.inl rfl) rfl) ?_
              refine VA.take (i := 2) rfl (by kernel_rfl) (by kernel_rfl) (by kernel_rfl) rfl rfl (OpV.indexAddr_o rfl Tryz.underlying22 Tryz.sizeOf3 rfl rfl rfl (by omega)) ?_
              refine VA.take (i := 3) rfl (by kernel_rfl) (by kernel_rfl) (by kernel_rfl) rfl rfl (OpV.load_own (i := 0) rfl hB Tryz.isAgg3 rfl rfl (intsT_get hkl) (by first | exact Wi.not1 (by kernel_rfl) | exact Wi.not2 (by kernel_rfl) (by kernel_rfl) | exact Wi.notX (by kernel_rfl))) ?_
              refine VA.take (i := 4) rfl (by kernel_rfl) (by kernel_rfl) (by kernel_rfl) rfl rfl (OpV.move (.inl rfl) rfl) ?_
              refine VA.take (i := 5) rfl (by kernel_rfl) (by kernel_rfl) (by kernel_rfl) rfl rfl (OpV.move (.inl rfl) rfl) ?_
              refine VA.take (i := 6) rfl (by kernel_rfl) (by kernel_rfl) (by kernel_rfl) rfl rfl (OpV.indexAddr_E rfl Tryz.underlying102 Tryz.sizeOf128 rfl rfl rfl (by omega)) ?_
              refine VA.take (i := 7) rfl (by kernel_rfl) (by kernel_rfl) (by kernel_rfl) rfl rfl (OpV.fieldAddr_atO 1 rfl Tryz.underlying128 rfl rfl Tryz.sizeOf3 rfl rfl) ?_
              refine VA.take (i := 8) rfl (by kernel_rfl) (by kernel_rfl) (by kernel_rfl) rfl rfl (OpV.load_at rfl hB (by first | exact OutW.wi1 (k := 0) rfl rfl | exact OutW.wi1 (k := 1) rfl rfl | exact OutW.wi1 (k := 2) rfl rfl) Tryz.isAgg3 rfl rfl) ?_
              refine VA.take (i := 9) rfl (by kernel_rfl) (by kernel_rfl) (by kernel_rfl) rfl rfl (OpV.load_at rfl hB (by first | exact OutW.wi1 (k := 0) rfl rfl | exact OutW.wi1 (k := 1) rfl rfl | exact OutW.wi1 (k := 2) rfl rfl) Tryz.isAgg77 rfl rfl) ?_
              refine VA.take (i := 10) rfl (by kernel_rfl) (by kernel_rfl) (by kernel_rfl) rfl rfl (OpV.move (.inl rfl) rfl) ?_
              refine VA.take (i := 11) rfl (by kernel_rfl) (by kernel_rfl) (by kernel_rfl) rfl rfl (OpV.indexAddr_E rfl Tryz.underlying77 Tryz.sizeOf96 rfl rfl rfl (by omega)) ?_
              refine VA.take (i := 12) rfl (by kernel_rfl) (by kernel_rfl) (by kernel_rfl) rfl rfl (OpV.fieldAddr_atO 1 rfl Tryz.underlying96 rfl rfl Tryz.sizeOf3 rfl rfl) ?_
              refine VA.take (i := 13) rfl (by kernel_rfl) (by kernel_rfl) (by kernel_rfl) rfl rfl (OpV.load_at rfl hB (by first | exact OutW.wi1 (k := 0) rfl rfl | exact OutW.wi1 (k := 1) rfl rfl | exact OutW.wi1 (k := 2) rfl rfl) Tryz.isAgg3 rfl rfl) ?_
              refine VA.take (i := 14) rfl (by kernel_rfl) (by kernel_rfl) (by kernel_rfl) rfl rfl (OpV.mul rfl rfl rfl (by unfold fits; omega)) ?_
              refine VA.take (i := 15) rfl (by kernel_rfl) (by kernel_rfl) (by kernel_rfl) rfl rfl (OpV.add rfl rfl rfl (by unfold fits; omega)) ?_
              refine VA.take (i := 16) rfl (by kernel_rfl) (by kernel_rfl) (by kernel_rfl) rfl rfl (OpV.indexAddr_o rfl Tryz.underlying22 Tryz.sizeOf3 rfl rfl rfl (by omega)) ?_
              refine VA.all (rs := [17]) (by kernel_rfl) (by decide) ?_
              refine ⟨⟨_, rfl, .inl rfl, ?_⟩, trivial⟩
              refine OpE.store1 (i := 0) rfl hB rfl Tryz.sizeOf3 rfl rfl rfl rfl rfl rfl (by rw [intsL_len, tabI_len]; exact hkl) ((intsL_set _ _ _).trans (congrArg intsL (tabI_set' (g := fun j => cyc ms ns (g.set i (kb : Int)) j (g.set i (kb : Int)).length) (by rw [List.length_set, cyc_set (by omega) hnone, if_pos ⟨by omega, rfl⟩]) (fun j hj hne => by rw [List.length_set, cyc_set (by omega) hnone, if_neg (fun h => hne h.2.symm), Int.add_zero])))) (by first | exact ⟨rfl, rfl⟩ | exact .inl ⟨rfl, rfl⟩ | exact .inr ⟨rfl, rfl⟩ | exact ⟨rfl, trivial⟩ | exact .inl ⟨rfl, trivial⟩ | exact .inr ⟨rfl, trivial⟩ | exact ⟨by decide, rfl⟩) ?_
              refine VA.done (by kernel_rfl) ?_
              refine VC.region ?_
              refine VO.mv rfl rfl rfl rfl ?_
              refine VO.mv rfl rfl rfl rfl ?_
              refine VO.val rfl rfl (OpV.indexAddr_o rfl Tryz.underlying22 Tryz.sizeOf3 rfl rfl rfl (by omega)) ?_
              refine VO.val rfl rfl (OpV.load_own (i := 1) rfl hB Tryz.isAgg3 rfl rfl (intsT_get hkl) (fun h => h)) ?_
              refine VO.val rfl rfl (OpV.add rfl rfl rfl (by unfold fits; omega)) ?_
              refine VO.val rfl rfl (OpV.indexAddr_o rfl Tryz.underlying22 Tryz.sizeOf3 rfl rfl rfl (by omega)) ?_
              refine VO.op rfl (OpE.store1 (i := 1) rfl hB rfl Tryz.sizeOf3 rfl rfl rfl rfl rfl rfl (by rw [intsL_len, tabI_len]; exact hkl) ((intsL_set _ _ _).trans (congrArg intsL (tabI_set' (g := fun j => cnt (g.set i (kb : Int)) j (g.set i (kb : Int)).length) (by rw [List.length_set, cnt_set (by omega) hnone, if_pos ⟨by omega, rfl⟩]) (fun j hj hne => by rw [List.length_set, cnt_set (by omega) hnone, if_neg (fun h => hne h.2.symm), Int.add_zero])))) trivial ?_)
              refine VO.nil ?_
              refine VC.region ?_
              refine VO.val rfl rfl (OpV.add rfl rfl rfl (by unfold fits; omega)) ?_
              refine VO.mv rfl rfl rfl rfl ?_
              refine VO.nil ?_
              exact Exists.intro (⟨(q + 1, g.set i (kb : Int)), by show q + 1 ≤ _; omega, hI.step (fstL_ord ns).nd (by omega) hi hin hkl hk1 hk2, hG2⟩) (And.intro (Le.mk hB [0, 1, 2] ⟨rfl, rfl, rfl, rfl, rfl, rfl, rfl, rfl, trivial⟩ rfl rfl (Nat.le_refl _)) (by first | omega | (show _ < _; omega) | (simp only []; omega)))
        · have aH2 := aH2b
          try simp only [qqT, qqF, qqN, qqM, qqL, qqE] at aH2
          refine VC.exit ?_
          refine VC.sr ?_
          refine VO.mv rfl rfl rfl rfl ?_
          refine VO.ma rfl rfl rfl rfl ?_
          refine VO.ma rfl rfl rfl rfl ?_
          refine VO.ma rfl rfl rfl rfl ?_
          refine VO.nil ?_
          obtain rfl : q = ns.length := by omega
          have hsm : fstR ms ns = some g := by rw [← hG, fstG_end (by omega)]
          have hvg := fstR_valid hmf hsm
          refine VC.le _ (Le.boxI (t := 4) (i := 2) (n := ns.length) (xs := zerG g) hB hnew rfl rfl (by rw [zerG_len, hgl]) (Nat.le_refl _) (capM (by omega))) ?_
          refine VC.ret ?_
          exact Exists.intro _ (And.intro (RetV.three Tryz.results70 (ResV.tmp rfl) (ResV.tmp rfl) (ResV.tmp rfl)) (by rw [(fst_3 hf0 hsm).1, (fst_3 hf0 hsm).2, hf0, zerG_in hvg.inp]))
      ·
        refine OpE.make rfl hB rfl Tryz.underlying22 (infoOf Tryz.t3 1 (by kernel_rfl) rfl rfl) (by decide) rfl rfl (n := ms.length) rfl rfl (by omega) (made_ints _) ?_
        intro g41
        rw [intsL_len, List.length_replicate]
        refine VA.all (rs := [1]) (by kernel_rfl) (by decide) ?_
        refine ⟨⟨_, rfl, .inl rfl, ?_⟩, trivial⟩
        refine OpE.callR rfl hB rfl Tryz.call178 (line_cycles_R (ns := []) (plan := []) hmf needsF_nil (planF_nil hmf)) (ArgsP.cons (ArgP.ev rfl) (ArgsP.cons (ArgP.nil rfl) (ArgsP.cons (ArgP.nil rfl) (ArgsP.nil)))) ?_
        intro u38
        refine VA.take (i := 5) rfl (by kernel_rfl) (by kernel_rfl) (by kernel_rfl) rfl rfl (OpV.move (.inr rfl) rfl) ?_
        refine VA.take (i := 6) rfl (by kernel_rfl) (by kernel_rfl) (by kernel_rfl) rfl rfl (OpV.move (.inr rfl) rfl) ?_
        refine VA.done (by kernel_rfl) ?_
        refine VC.sr ?_
        refine VO.val rfl rfl (OpV.load_at rfl hB OutW.no Tryz.isAgg77 rfl rfl) ?_
        refine VO.val rfl rfl (OpV.len_im rfl Tryz.underlying77 rfl) ?_
        refine VO.op rfl (OpE.make rfl hB rfl Tryz.underlying22 (infoOf Tryz.t3 1 (by kernel_rfl) rfl rfl) (by decide) rfl rfl (n := ns.length) rfl rfl (by omega) (made_ints _) ?_)
        intro g44
        rw [intsL_len, List.length_replicate]
        refine VO.ma rfl rfl rfl rfl ?_
        refine VO.nil ?_
        refine VC.seq ?_
        refine VC.seq ?_
        have hfl : (fstL ns).length = ns.length := by rw [(fstL_perm ns).length_eq, idO_len]
        first | refine VC.asBox (i := 0) (n := ms.length) (sz := 1) rfl hlen.1 (fun g38 cap hu hcap hmx => ?_) | (refine VC.le _ (Le.pickH [1, 0, 2] rfl rfl) ?_; refine VC.asBox (i := 0) (n := ms.length) (sz := 1) rfl hlen.1 (fun g38 cap hu hcap hmx => ?_))
        subst hu
        refine VC.region ?_
        refine VO.mv rfl rfl rfl rfl ?_
        refine VO.val rfl rfl (OpV.len_im rfl Tryz.underlying22 rfl) ?_
        refine VO.mv rfl rfl rfl rfl ?_
        refine VO.nil ?_
        refine VC.block ?_
        refine VC.loopK [(0, _), (3, _), (10, _), (11, _), (12, _), (45, _), (46, _)] ⟨rfl, rfl, rfl, rfl, rfl, rfl, rfl, trivial⟩ ({z : Nat × List Int // z.1 ≤ ns.length ∧ FstI ms ns (fstL ns) z.1 z.2 ∧ fstG ms ns ((fstL ns).drop z.1) z.2 = fstR ms ns}) (fun (iZ : {z : Nat × List Int // z.1 ≤ ns.length ∧ FstI ms ns (fstL ns) z.1 z.2 ∧ fstG ms ns ((fstL ns).drop z.1) z.2 = fstR ms ns}) => match iZ with | ⟨⟨q, g⟩, hq, hI, hG⟩ => [(47, avI (q : Int))]) (fun (iZ : {z : Nat × List Int // z.1 ≤ ns.length ∧ FstI ms ns (fstL ns) z.1 z.2 ∧ fstG ms ns ((fstL ns).drop z.1) z.2 = fstR ms ns}) => match iZ with | ⟨⟨q, g⟩, hq, hI, hG⟩ => [.box g38 ⟨intsL (tabI ms.length fun k => cyc ms ns g k g.length), 3, cap * 1⟩, .box g41 ⟨intsL (tabI ms.length fun k => cnt g k g.length), 3, ms.length⟩, .box g44 ⟨intsL (zerG g), 3, ns.length⟩]) (fun (iZ : {z : Nat × List Int // z.1 ≤ ns.length ∧ FstI ms ns (fstL ns) z.1 z.2 ∧ fstG ms ns ((fstL ns).drop z.1) z.2 = fstR ms ns}) => match iZ with | ⟨⟨q, g⟩, hq, hI, hG⟩ => 0) (fun (iZ : {z : Nat × List Int // z.1 ≤ ns.length ∧ FstI ms ns (fstL ns) z.1 z.2 ∧ fstG ms ns ((fstL ns).drop z.1) z.2 = fstR ms ns}) => match iZ with | ⟨⟨q, g⟩, hq, hI, hG⟩ => ns.length - q) ⟨(0, List.replicate ns.length (-1)), Nat.zero_le _, FstI.zero hmf _, rfl⟩ (Le.mk hB [0, 1, 2] ⟨rfl, rfl, rfl, rfl, rfl, rfl, rfl, rfl, trivial⟩ rfl (by dsimp only; rw [← cycL_fix, ← cnt_fix, zerG_rep]; rfl) (Nat.le_refl _)) ?_
        rintro ⟨⟨q, g⟩, hq, hI, hG⟩
        show VC _ _ _ _ ⟨[(47, avI (q : Int))] ++ [(0, _), (3, _), (10, _), (11, _), (12, _), (45, _), (46, _)], [.box g38 ⟨intsL (tabI ms.length fun k => cyc ms ns g k g.length), 3, cap * 1⟩, .box g41 ⟨intsL (tabI ms.length fun k => cnt g k g.length), 3, ms.length⟩, .box g44 ⟨intsL (zerG g), 3, ns.length⟩], 0⟩
        simp only at hq hI hG
        have hgl := hI.len
        refine VC.sr ?_
        refine VO.val rfl rfl (OpV.lss rfl rfl rfl) ?_
        refine VO.nil ?_
        refine VC.seq ?_
        refine VC.cond rfl (fun aH6b => ?_) (fun aH6b => ?_)
        · have aH6 := aH6b
          try simp only [qqT, qqF, qqN, qqM, qqL, qqE] at aH6
          obtain ⟨i, hi, hin⟩ : ∃ i : Nat, (fstL ns).getD q 0 = (i : Int) ∧ i < ns.length := by
            have hx := (fstL_ord ns).lt ((fstL ns).getD q 0) (by rw [List.getD_eq_getElem?_getD, List.getElem?_eq_getElem (by omega)]; exact List.getElem_mem _)
            exact ⟨((fstL ns).getD q 0).toNat, by omega, by omega⟩
          have hnone := hI.none (fstL_ord ns).nd (by omega) hi hin
          refine VC.skip ?_
          refine VC.seq ?_
          refine VC.block ?_
          refine VC.sr ?_
          refine VO.val rfl rfl (OpV.indexAddr_1 rfl Tryz.underlying22 Tryz.sizeOf3 rfl rfl rfl (by omega)) ?_
          refine VO.val rfl rfl (OpV.load_at rfl hB OutW.no Tryz.isAgg3 rfl rfl) ?_
          refine VO.le _ (Le.recast (t := 50) (y := avI (i : Int)) rfl (fun w Z u h => by rw [← hi]; exact h)) ?_
          refine VO.ma rfl rfl rfl rfl ?_
          refine VO.nil ?_
          refine VC.sr ?_
          refine VO.ma rfl rfl rfl rfl ?_
          refine VO.nil ?_
          refine VC.seq ?_
          refine VC.sr ?_
          refine VO.mv rfl rfl rfl rfl ?_
          refine VO.val rfl rfl (OpV.len_im rfl Tryz.underlying102 rfl) ?_
          refine VO.mv rfl rfl rfl rfl ?_
          refine VO.nil ?_
          refine VC.block ?_
          refine VC.loopK [(0, _), (3, _), (10, _), (11, _), (12, _), (14, _), (45, _), (46, _), (47, _), (51, _), (52, _)] ⟨rfl, rfl, rfl, rfl, rfl, rfl, rfl, rfl, rfl, rfl, rfl, trivial⟩ ({k : Nat // k ≤ ms.length}) (fun (iZ : {k : Nat // k ≤ ms.length}) => match iZ with | ⟨k, hk⟩ => [(15, avI (pckF (fstC ms ns g i) (fstO ms ns g i) k)), (53, avI (k : Int))]) (fun (iZ : {k : Nat // k ≤ ms.length}) => match iZ with | ⟨k, hk⟩ => [.box g38 ⟨intsL (tabI ms.length fun k => cyc ms ns g k g.length), 3, cap * 1⟩, .box g41 ⟨intsL (tabI ms.length fun k => cnt g k g.length), 3, ms.length⟩, .box g44 ⟨intsL (zerG g), 3, ns.length⟩]) (fun (iZ : {k : Nat // k ≤ ms.length}) => match iZ with | ⟨k, hk⟩ => 0) (fun (iZ : {k : Nat // k ≤ ms.length}) => match iZ with | ⟨k, hk⟩ => ms.length - k) ⟨0, Nat.zero_le _⟩ (Le.mk hB [0, 1, 2] ⟨rfl, rfl, rfl, rfl, rfl, rfl, rfl, rfl, rfl, rfl, rfl, rfl, rfl, trivial⟩ rfl rfl (Nat.le_refl _)) ?_
          rintro ⟨k, hk⟩
          show VC _ _ _ _ ⟨[(15, avI (pckF (fstC ms ns g i) (fstO ms ns g i) k)), (53, avI (k : Int))] ++ [(0, _), (3, _), (10, _), (11, _), (12, _), (14, _), (45, _), (46, _), (47, _), (51, _), (52, _)], [.box g38 ⟨intsL (tabI ms.length fun k => cyc ms ns g k g.length), 3, cap * 1⟩, .box g41 ⟨intsL (tabI ms.length fun k => cnt g k g.length), 3, ms.length⟩, .box g44 ⟨intsL (zerG g), 3, ns.length⟩], 0⟩
          have hpb := pck_bd (fstC ms ns g i) (fstO ms ns g i) k
          have hcn := cnt_le g k g.length
          have hcy := cyc_bd hM (pl := g) (k := k) (Nat.le_refl _)
          have hcb := cyc_bd hM (pl := g) (k := (pckF (fstC ms ns g i) (fstO ms ns g i) k).toNat) (Nat.le_refl _)
          have hmu := mul_in2 (hM.each k) (hM.cnt i)
          have hmb := mul_in2 (hM.each (pckF (fstC ms ns g i) (fstO ms ns g i) k).toNat) (hM.cnt i)
          refine VC.sr ?_
          refine VO.val rfl rfl (OpV.lss rfl rfl rfl) ?_
          refine VO.nil ?_
          refine VC.seq ?_
          refine VC.cond rfl (fun aH7b => ?_) (fun aH7b => ?_)
          · have aH7 := aH7b
            try simp only [qqT, qqF, qqN, qqM, qqL, qqE] at aH7
            refine VC.skip ?_
            refine VC.seq ?_
            refine VC.block ?_
            refine VC.sr ?_
            refine VO.mv rfl rfl rfl rfl ?_
            refine VO.val rfl rfl (OpV.indexAddr_E rfl Tryz.underlying102 Tryz.sizeOf128 rfl rfl rfl (by omega)) ?_
            refine VO.val rfl rfl (OpV.loadK_at rfl hB OutW.no Tryz.isAgg128 Tryz.sizeOf128 rfl rfl) ?_
            refine VO.op rfl (OpE.alloc rfl hB rfl Tryz.zeroValue128 rfl ?_)
            intro g17
            refine VO.ma rfl rfl rfl rfl ?_
            refine VO.op rfl (OpE.store (i := 3) rfl hB rfl Tryz.sizeOf128 rfl rfl rfl rfl rfl rfl (Nle rfl) trivial ?_)
            refine VO.nil ?_
            refine VC.seq ?_
            refine VC.seq ?_
            refine VC.draw (fun _ => NoB) hB (by kernel_rfl) ?_
            refine VA.take (i := 0) rfl (by kernel_rfl) (by kernel_rfl) (by kernel_rfl) rfl rfl (OpV.loadK_own (i := 3) rfl hB Tryz.isAgg128 Tryz.sizeOf128 rfl rfl rfl Wi.not0) ?_
            refine VA.take (i := 1) rfl (by kernel_rfl) (by kernel_rfl) (by kernel_rfl) rfl rfl (OpV.load_at rfl hB OutW.wi0 Tryz.isAgg77 rfl rfl) ?_
            refine VA.take (i := 2) rfl (by kernel_rfl) (by kernel_rfl) (by kernel_rfl) rfl rfl (OpV.move (.inl rfl) rfl) ?_
            refine VA.take (i := 3) rfl (by kernel_rfl) (by kernel_rfl) (by kernel_rfl) rfl rfl (OpV.indexAddr_E rfl Tryz.underlying77 Tryz.sizeOf96 rfl rfl rfl (by omega)) ?_
            refine VA.take (i := 4) rfl (by kernel_rfl) (by kernel_rfl) (by kernel_rfl) rfl rfl (OpV.fieldAddr_atO 0 rfl Tryz.underlying96 rfl rfl Tryz.sizeOf9 rfl rfl) ?_
            refine VA.take (i := 5) rfl (by kernel_rfl) (by kernel_rfl) (by kernel_rfl) rfl rfl (OpV.load_at rfl hB OutW.wi0 Tryz.isAgg9 rfl rfl) ?_
            refine VA.all (rs := [6]) (by kernel_rfl) (by decide) ?_
            refine ⟨⟨_, rfl, .inl rfl, ?_⟩, trivial⟩
            refine OpE.call rfl hB rfl Tryz.call179 rfl (SpecN.spec (line_can (by have := canF_keys (machF_each hmf (i := k) (by omega)).2; omega) (canF_sort (machF_each hmf (by omega)).2))) ?_
            rintro _ rfl
            refine VA.take (i := 7) rfl (by kernel_rfl) (by kernel_rfl) (by kernel_rfl) rfl rfl (OpV.not rfl rfl) ?_
            refine VA.take (i := 8) rfl (by kernel_rfl) (by kernel_rfl) (by kernel_rfl) rfl rfl (OpV.move (.inl rfl) rfl) ?_
            refine VA.split (t := 66) rfl (fun aK8b => ?_) (fun aK8b => ?_)
            · have aK8 := aK8b
              try simp only [qqT, qqF, qqN, qqM, qqL, qqE] at aK8
              refine VA.takeX (i := 9) rfl (by kernel_rfl) (by kernel_rfl) (by kernel_rfl) rfl rfl rfl rfl aK8b ?_
              refine VA.takeX (i := 10) rfl (by kernel_rfl) (by kernel_rfl) (by kernel_rfl) rfl rfl rfl rfl aK8b ?_
              refine VA.takeX (i := 11) rfl (by kernel_rfl) (by kernel_rfl) (by kernel_rfl) rfl rfl rfl rfl aK8b ?_
              refine VA.takeX (i := 12) rfl (by kernel_rfl) (by kernel_rfl) (by kernel_rfl) rfl rfl rfl rfl aK8b ?_
              refine VA.takeX (i := 13) rfl (by kernel_rfl) (by kernel_rfl) (by kernel_rfl) rfl rfl rfl rfl aK8b ?_
              refine VA.takeX (i := 14) rfl (by kernel_rfl) (by kernel_rfl) (by kernel_rfl) rfl rfl rfl rfl aK8b ?_
              refine VA.takeX (i := 15) rfl (by kernel_rfl) (by kernel_rfl) (by kernel_rfl) rfl rfl rfl rfl aK8b ?_
              refine VA.take (i := 16) rfl (by kernel_rfl) (by kernel_rfl) (by kernel_rfl) rfl rfl (OpV.pickT rfl rfl rfl rfl aK8b) ?_
              refine VA.done (by kernel_rfl) ?_
              refine VC.condT rfl rfl ?_
              refine VC.exit ?_
              refine VC.region ?_
              refine VO.val rfl rfl (OpV.add rfl rfl rfl (by unfold fits; omega)) ?_
              refine VO.mv rfl rfl rfl rfl ?_
              refine VO.nil ?_
              exact Exists.intro (⟨k + 1, by omega⟩) (And.intro (Le.mk hB [0, 1, 2] ⟨(by dsimp only; first | (rw [pck_n1 (fstO_f1 (by assumption))]; rfl) | (rw [pck_n1 (fstO_f2 (by omega))]; rfl) | (rw [pck_y (fstO_t (by assumption) (by omega)) (.inl (by assumption))]; rfl) | (rw [pck_y (fstO_t (by assumption) (by omega)) (.inr (fstC_lt.2 (by omega)))]; rfl) | (rw [pck_n2 (by omega) (fun e => absurd (fstC_lt.1 e) (by omega))]; rfl)), rfl, rfl, rfl, rfl, rfl, rfl, rfl, rfl, rfl, rfl, rfl, rfl, trivial⟩ rfl rfl (Nat.le_refl _)) (by first | omega | (show _ < _; omega) | (simp only []; omega)))
            · have aK8 := aK8b
              try simp only [qqT, qqF, qqN, qqM, qqL, qqE] at aK8
              refine VA.takeY (i := 9) rfl (by kernel_rfl) (by kernel_rfl) (by kernel_rfl) rfl rfl rfl rfl aK8b (OpV.move (.inl rfl) rfl) ?_
              refine VA.takeY (i := 10) rfl (by kernel_rfl) (by kernel_rfl) (by kernel_rfl) rfl rfl rfl rfl aK8b (OpV.move (.inl rfl) rfl) ?_
              refine VA.takeY (i := 11) rfl (by kernel_rfl) (by kernel_rfl) (by kernel_rfl) rfl rfl rfl rfl aK8b (OpV.indexAddr_o rfl Tryz.underlying22 Tryz.sizeOf3 rfl rfl rfl (by omega)) ?_
              refine VA.takeY (i := 12) rfl (by kernel_rfl) (by kernel_rfl) (by kernel_rfl) rfl rfl rfl rfl aK8b (OpV.load_own (i := 1) rfl hB Tryz.isAgg3 rfl rfl (intsT_get (by omega)) Wi.not0) ?_
              refine VA.takeY (i := 13) rfl (by kernel_rfl) (by kernel_rfl) (by kernel_rfl) rfl rfl rfl rfl aK8b (OpV.fieldAddrO 3 rfl Tryz.underlying128 rfl rfl Tryz.sizeOf3 rfl) ?_
              refine VA.takeY (i := 14) rfl (by kernel_rfl) (by kernel_rfl) (by kernel_rfl) rfl rfl rfl rfl aK8b (OpV.load_own (i := 3) rfl hB Tryz.isAgg3 rfl rfl rfl Wi.not0) ?_
              refine VA.takeY (i := 15) rfl (by kernel_rfl) (by kernel_rfl) (by kernel_rfl) rfl rfl rfl rfl aK8b (OpV.geq rfl rfl rfl) ?_
              refine VA.take (i := 16) rfl (by kernel_rfl) (by kernel_rfl) (by kernel_rfl) rfl rfl (OpV.pickF rfl rfl rfl rfl aK8b) ?_
              refine VA.done (by kernel_rfl) ?_
              refine VC.cond rfl (fun h4b => ?_) (fun h4b => ?_)
              · have h4 := h4b
                try simp only [qqT, qqF, qqN, qqM, qqL, qqE] at h4
                refine VC.exit ?_
                refine VC.region ?_
                refine VO.val rfl rfl (OpV.add rfl rfl rfl (by unfold fits; omega)) ?_
                refine VO.mv rfl rfl rfl rfl ?_
                refine VO.nil ?_
                exact Exists.intro (⟨k + 1, by omega⟩) (And.intro (Le.mk hB [0, 1, 2] ⟨(by dsimp only; first | (rw [pck_n1 (fstO_f1 (by assumption))]; rfl) | (rw [pck_n1 (fstO_f2 (by omega))]; rfl) | (rw [pck_y (fstO_t (by assumption) (by omega)) (.inl (by assumption))]; rfl) | (rw [pck_y (fstO_t (by assumption) (by omega)) (.inr (fstC_lt.2 (by omega)))]; rfl) | (rw [pck_n2 (by omega) (fun e => absurd (fstC_lt.1 e) (by omega))]; rfl)), rfl, rfl, rfl, rfl, rfl, rfl, rfl, rfl, rfl, rfl, rfl, rfl, trivial⟩ rfl rfl (Nat.le_refl _)) (by first | omega | (show _ < _; omega) | (simp only []; omega)))
              · have h4 := h4b
                try simp only [qqT, qqF, qqN, qqM, qqL, qqE] at h4
                refine VC.skip ?_
                refine VC.seq ?_
                refine VC.draw (fun _ => NoB) hB (by kernel_rfl) ?_
                refine VA.take (i := 0) rfl (by kernel_rfl) (by kernel_rfl) (by kernel_rfl) rfl rfl (OpV.move (.inl rfl) rfl) ?_
                refine VA.take (i := 1) rfl (by kernel_rfl) (by kernel_rfl) (by kernel_rfl) rfl rfl (OpV.lss rfl rfl rfl) ?_
                refine VA.take (i := 2) rfl (by kernel_rfl) (by kernel_rfl) (by kernel_rfl) rfl rfl (OpV.move (.inl rfl) rfl) ?_
                refine VA.split (t := 77) rfl (fun aK9b => ?_) (fun aK9b => ?_)
                · have aK9 := aK9b
                  try simp only [qqT, qqF, qqN, qqM, qqL, qqE] at aK9
                  refine VA.takeX (i := 3) rfl (by kernel_rfl) (by kernel_rfl) (by kernel_rfl) rfl rfl rfl rfl aK9b ?_
                  refine VA.takeX (i := 4) rfl (by kernel_rfl) (by kernel_rfl) (by kernel_rfl) rfl rfl rfl rfl aK9b ?_
                  refine VA.takeX (i := 5) rfl (by kernel_rfl) (by kernel_rfl) (by kernel_rfl) rfl rfl rfl rfl aK9b ?_
                  refine VA.takeX (i := 6) rfl (by kernel_rfl) (by kernel_rfl) (by kernel_rfl) rfl rfl rfl rfl aK9b ?_
                  refine VA.takeX (i := 7) rfl (by kernel_rfl) (by kernel_rfl) (by kernel_rfl) rfl rfl rfl rfl aK9b ?_
                  refine VA.takeX (i := 8) rfl (by kernel_rfl) (by kernel_rfl) (by kernel_rfl) rfl rfl rfl rfl aK9b ?_
                  refine VA.takeX (i := 9) rfl (by kernel_rfl) (by kernel_rfl) (by kernel_rfl) rfl rfl rfl rfl aK9b ?_
                  refine VA.takeX (i := 10) rfl (by kernel_rfl) (by kernel_rfl) (by kernel_rfl) rfl rfl rfl rfl aK9b ?_
                  refine VA.takeX (i := 11) rfl (by kernel_rfl) (by kernel_rfl) (by kernel_rfl) rfl rfl rfl rfl aK9b ?_
                  refine VA.takeX (i := 12) rfl (by kernel_rfl) (by kernel_rfl) (by kernel_rfl) rfl rfl rfl rfl aK9b ?_
                  refine VA.takeX (i := 13) rfl (by kernel_rfl) (by kernel_rfl) (by kernel_rfl) rfl rfl rfl rfl aK9b ?_
                  refine VA.takeX (i := 14) rfl (by kernel_rfl) (by kernel_rfl) (by kernel_rfl) rfl rfl rfl rfl aK9b ?_
                  refine VA.takeX (i := 15) rfl (by kernel_rfl) (by kernel_rfl) (by kernel_rfl) rfl rfl rfl rfl aK9b ?_
                  refine VA.takeX (i := 16) rfl (by kernel_rfl) (by kernel_rfl) (by kernel_rfl) rfl rfl rfl rfl aK9b ?_
                  refine VA.takeX (i := 17) rfl (by kernel_rfl) (by kernel_rfl) (by kernel_rfl) rfl rfl rfl rfl aK9b ?_
                  refine VA.takeX (i := 18) rfl (by kernel_rfl) (by kernel_rfl) (by kernel_rfl) rfl rfl rfl rfl aK9b ?_
                  refine VA.takeX (i := 19) rfl (by kernel_rfl) (by kernel_rfl) (by kernel_rfl) rfl rfl rfl rfl aK9b ?_
                  refine VA.takeX (i := 20) rfl (by kernel_rfl) (by kernel_rfl) (by kernel_rfl) rfl rfl rfl rfl aK9b ?_
                  refine VA.takeX (i := 21) rfl (by kernel_rfl) (by kernel_rfl) (by kernel_rfl) rfl rfl rfl rfl aK9b ?_
                  refine VA.takeX (i := 22) rfl (by kernel_rfl) (by kernel_rfl) (by kernel_rfl) rfl rfl rfl rfl aK9b ?_
                  refine VA.takeX (i := 23) rfl (by kernel_rfl) (by kernel_rfl) (by kernel_rfl) rfl rfl rfl rfl aK9b ?_
                  refine VA.takeX (i := 24) rfl (by kernel_rfl) (by kernel_rfl) (by kernel_rfl) rfl rfl rfl rfl aK9b ?_
                  refine VA.takeX (i := 25) rfl (by kernel_rfl) (by kernel_rfl) (by kernel_rfl) rfl rfl rfl rfl aK9b ?_
                  refine VA.takeX (i := 26) rfl (by kernel_rfl) (by kernel_rfl) (by kernel_rfl) rfl rfl rfl rfl aK9b ?_
                  refine VA.takeX (i := 27) rfl (by kernel_rfl) (by kernel_rfl) (by kernel_rfl) rfl rfl rfl rfl aK9b ?_
                  refine VA.takeX (i := 28) rfl (by kernel_rfl) (by kernel_rfl) (by kernel_rfl) rfl rfl rfl rfl aK9b ?_
                  refine VA.takeX (i := 29) rfl (by kernel_rfl) (by kernel_rfl) (by kernel_rfl) rfl rfl rfl rfl aK9b ?_
                  refine VA.takeX (i := 30) rfl (by kernel_rfl) (by kernel_rfl) (by kernel_rfl) rfl rfl rfl rfl aK9b ?_
                  refine VA.takeX (i := 31) rfl (by kernel_rfl) (by kernel_rfl) (by kernel_rfl) rfl rfl rfl rfl aK9b ?_
                  refine VA.takeX (i := 32) rfl (by kernel_rfl) (by kernel_rfl) (by kernel_rfl) rfl rfl rfl rfl aK9b ?_
                  refine VA.take (i := 33) rfl (by kernel_rfl) (by kernel_rfl) (by kernel_rfl) rfl rfl (OpV.pickT rfl rfl rfl rfl aK9b) ?_
                  refine VA.done (by kernel_rfl) ?_
                  refine VC.condT rfl rfl ?_
                  refine VC.region ?_
                  refine VO.mv rfl rfl rfl rfl ?_
                  refine VO.ma rfl rfl rfl rfl ?_
                  refine VO.nil ?_
                  refine VC.region ?_
                  refine VO.val rfl rfl (OpV.add rfl rfl rfl (by unfold fits; omega)) ?_
                  refine VO.mv rfl rfl rfl rfl ?_
                  refine VO.nil ?_
                  exact Exists.intro (⟨k + 1, by omega⟩) (And.intro (Le.mk hB [0, 1, 2] ⟨(by dsimp only; first | (rw [pck_n1 (fstO_f1 (by assumption))]; rfl) | (rw [pck_n1 (fstO_f2 (by omega))]; rfl) | (rw [pck_y (fstO_t (by assumption) (by omega)) (.inl (by assumption))]; rfl) | (rw [pck_y (fstO_t (by assumption) (by omega)) (.inr (fstC_lt.2 (by omega)))]; rfl) | (rw [pck_n2 (by omega) (fun e => absurd (fstC_lt.1 e) (by omega))]; rfl)), rfl, rfl, rfl, rfl, rfl, rfl, rfl, rfl, rfl, rfl, rfl, rfl, trivial⟩ rfl rfl (Nat.le_refl _)) (by first | omega | (show _ < _; omega) | (simp only []; omega)))
                · have aK9 := aK9b
                  try simp only [qqT, qqF, qqN, qqM, qqL, qqE] at aK9
                  refine VA.takeY (i := 3) rfl (by kernel_rfl) (by kernel_rfl) (by kernel_rfl) rfl rfl rfl rfl aK9b (OpV.move (.inl rfl) rfl) ?_
                  refine VA.takeY (i := 4) rfl (by kernel_rfl) (by kernel_rfl) (by kernel_rfl) rfl rfl rfl rfl aK9b (OpV.move (.inl rfl) rfl) ?_
                  refine VA.takeY (i := 5) rfl (by kernel_rfl) (by kernel_rfl) (by kernel_rfl) rfl rfl rfl rfl aK9b (OpV.indexAddr_o rfl Tryz.underlying22 Tryz.sizeOf3 rfl rfl rfl (by omega)) ?_
                  refine VA.takeY (i := 6) rfl (by kernel_rfl) (by kernel_rfl) (by kernel_rfl) rfl rfl rfl rfl aK9b (OpV.load_own (i := 0) rfl hB Tryz.isAgg3 rfl rfl (intsT_get (by omega)) Wi.not0) ?_
                  refine VA.takeY (i := 7) rfl (by kernel_rfl) (by kernel_rfl) (by kernel_rfl) rfl rfl rfl rfl aK9b (OpV.fieldAddrO 1 rfl Tryz.underlying128 rfl rfl Tryz.sizeOf3 rfl) ?_
                  refine VA.takeY (i := 8) rfl (by kernel_rfl) (by kernel_rfl) (by kernel_rfl) rfl rfl rfl rfl aK9b (OpV.load_own (i := 3) rfl hB Tryz.isAgg3 rfl rfl rfl Wi.not0) ?_
                  refine VA.takeY (i := 9) rfl (by kernel_rfl) (by kernel_rfl) (by kernel_rfl) rfl rfl rfl rfl aK9b (OpV.load_at rfl hB OutW.wi0 Tryz.isAgg77 rfl rfl) ?_
                  refine VA.takeY (i := 10) rfl (by kernel_rfl) (by kernel_rfl) (by kernel_rfl) rfl rfl rfl rfl aK9b (OpV.move (.inl rfl) rfl) ?_
                  refine VA.takeY (i := 11) rfl (by kernel_rfl) (by kernel_rfl) (by kernel_rfl) rfl rfl rfl rfl aK9b (OpV.indexAddr_E rfl Tryz.underlying77 Tryz.sizeOf96 rfl rfl rfl (by omega)) ?_
                  refine VA.takeY (i := 12) rfl (by kernel_rfl) (by kernel_rfl) (by kernel_rfl) rfl rfl rfl rfl aK9b (OpV.fieldAddr_atO 1 rfl Tryz.underlying96 rfl rfl Tryz.sizeOf3 rfl rfl) ?_
                  refine VA.takeY (i := 13) rfl (by kernel_rfl) (by kernel_rfl) (by kernel_rfl) rfl rfl rfl rfl aK9b (OpV.load_at rfl hB OutW.wi0 Tryz.isAgg3 rfl rfl) ?_
                  refine VA.takeY (i := 14) rfl (by kernel_rfl) (by kernel_rfl) (by kernel_rfl) rfl rfl rfl rfl aK9b (OpV.mul rfl rfl rfl (by unfold fits; omega)) ?_
                  refine VA.takeY (i := 15) rfl (by kernel_rfl) (by kernel_rfl) (by kernel_rfl) rfl rfl rfl rfl aK9b (OpV.add rfl rfl rfl (by unfold fits; omega)) ?_
                  refine VA.takeY (i := 16) rfl (by kernel_rfl) (by kernel_rfl) (by kernel_rfl) rfl rfl rfl rfl aK9b (OpV.move (.inl rfl) rfl) ?_
                  refine VA.takeY (i := 17) rfl (by kernel_rfl) (by kernel_rfl) (by kernel_rfl) rfl rfl rfl rfl aK9b (OpV.move (.inl rfl) rfl) ?_
                  refine VA.takeY (i := 18) rfl (by kernel_rfl) (by kernel_rfl) (by kernel_rfl) rfl rfl rfl rfl aK9b (OpV.indexAddr_o rfl Tryz.underlying22 Tryz.sizeOf3 rfl rfl (Int.toNat_of_nonneg (by omega)).symm (by omega)) ?_
                  refine VA.takeY (i := 19) rfl (by kernel_rfl) (by kernel_rfl) (by kernel_rfl) rfl rfl rfl rfl aK9b (OpV.load_own (i := 0) rfl hB Tryz.isAgg3 rfl rfl (intsT_get (by omega)) Wi.not0) ?_
                  refine VA.takeY (i := 20) rfl (by kernel_rfl) (by kernel_rfl) (by kernel_rfl) rfl rfl rfl rfl aK9b (OpV.move (.inl rfl) rfl) ?_
                  refine VA.takeY (i := 21) rfl (by kernel_rfl) (by kernel_rfl) (by kernel_rfl) rfl rfl rfl rfl aK9b (OpV.move (.inl rfl) rfl) ?_
                  refine VA.takeY (i := 22) rfl (by kernel_rfl) (by kernel_rfl) (by kernel_rfl) rfl rfl rfl rfl aK9b (OpV.indexAddr_E rfl Tryz.underlying102 Tryz.sizeOf128 rfl rfl (Int.toNat_of_nonneg (by omega)).symm (by omega)) ?_
                  refine VA.takeY (i := 23) rfl (by kernel_rfl) (by kernel_rfl) (by kernel_rfl) rfl rfl rfl rfl aK9b (OpV.fieldAddr_atO 1 rfl Tryz.underlying128 rfl rfl Tryz.sizeOf3 rfl rfl) ?_
                  refine VA.takeY (i := 24) rfl (by kernel_rfl) (by kernel_rfl) (by kernel_rfl) rfl rfl rfl rfl aK9b (OpV.load_at rfl hB OutW.wi0 Tryz.isAgg3 rfl rfl) ?_
                  refine VA.takeY (i := 25) rfl (by kernel_rfl) (by kernel_rfl) (by kernel_rfl) rfl rfl rfl rfl aK9b (OpV.load_at rfl hB OutW.wi0 Tryz.isAgg77 rfl rfl) ?_
                  refine VA.takeY (i := 26) rfl (by kernel_rfl) (by kernel_rfl) (by kernel_rfl) rfl rfl rfl rfl aK9b (OpV.move (.inl rfl) rfl) ?_
                  refine VA.takeY (i := 27) rfl (by kernel_rfl) (by kernel_rfl) (by kernel_rfl) rfl rfl rfl rfl aK9b (OpV.indexAddr_E rfl Tryz.underlying77 Tryz.sizeOf96 rfl rfl rfl (by omega)) ?_
                  refine VA.takeY (i := 28) rfl (by kernel_rfl) (by kernel_rfl) (by kernel_rfl) rfl rfl rfl rfl aK9b (OpV.fieldAddr_atO 1 rfl Tryz.underlying96 rfl rfl Tryz.sizeOf3 rfl rfl) ?_
                  refine VA.takeY (i := 29) rfl (by kernel_rfl) (by kernel_rfl) (by kernel_rfl) rfl rfl rfl rfl aK9b (OpV.load_at rfl hB OutW.wi0 Tryz.isAgg3 rfl rfl) ?_
                  refine VA.takeY (i := 30) rfl (by kernel_rfl) (by kernel_rfl) (by kernel_rfl) rfl rfl rfl rfl aK9b (OpV.mul rfl rfl rfl (by unfold fits; omega)) ?_
                  refine VA.takeY (i := 31) rfl (by kernel_rfl) (by kernel_rfl) (by kernel_rfl) rfl rfl rfl rfl aK9b (OpV.add rfl rfl rfl (by unfold fits; omega)) ?_
                  refine VA.takeY (i := 32) rfl (by kernel_rfl) (by kernel_rfl) (by kernel_rfl) rfl rfl rfl rfl aK9b (OpV.lss rfl rfl rfl) ?_
                  refine VA.take (i := 33) rfl (by kernel_rfl) (by kernel_rfl) (by kernel_rfl) rfl rfl (OpV.pickF rfl rfl rfl rfl aK9b) ?_
                  refine VA.done (by kernel_rfl) ?_
                  refine VC.cond rfl (fun h5b => ?_) (fun h5b => ?_)
                  · have h5 := h5b
                    try simp only [qqT, qqF, qqN, qqM, qqL, qqE] at h5
                    refine VC.region ?_
                    refine VO.mv rfl rfl rfl rfl ?_
                    refine VO.ma rfl rfl rfl rfl ?_
                    refine VO.nil ?_
                    refine VC.region ?_
                    refine VO.val rfl rfl (OpV.add rfl rfl rfl (by unfold fits; omega)) ?_
                    refine VO.mv rfl rfl rfl rfl ?_
                    refine VO.nil ?_
                    exact Exists.intro (⟨k + 1, by omega⟩) (And.intro (Le.mk hB [0, 1, 2] ⟨(by dsimp only; first | (rw [pck_n1 (fstO_f1 (by assumption))]; rfl) | (rw [pck_n1 (fstO_f2 (by omega))]; rfl) | (rw [pck_y (fstO_t (by assumption) (by omega)) (.inl (by assumption))]; rfl) | (rw [pck_y (fstO_t (by assumption) (by omega)) (.inr (fstC_lt.2 (by omega)))]; rfl) | (rw [pck_n2 (by omega) (fun e => absurd (fstC_lt.1 e) (by omega))]; rfl)), rfl, rfl, rfl, rfl, rfl, rfl, rfl, rfl, rfl, rfl, rfl, rfl, trivial⟩ rfl rfl (Nat.le_refl _)) (by first | omega | (show _ < _; omega) | (simp only []; omega)))
                  · have h5 := h5b
                    try simp only [qqT, qqF, qqN, qqM, qqL, qqE] at h5
                    refine VC.skip ?_
                    refine VC.region ?_
                    refine VO.val rfl rfl (OpV.add rfl rfl rfl (by unfold fits; omega)) ?_
                    refine VO.mv rfl rfl rfl rfl ?_
                    refine VO.nil ?_
                    exact Exists.intro (⟨k + 1, by omega⟩) (And.intro (Le.mk hB [0, 1, 2] ⟨(by dsimp only; first | (rw [pck_n1 (fstO_f1 (by assumption))]; rfl) | (rw [pck_n1 (fstO_f2 (by omega))]; rfl) | (rw [pck_y (fstO_t (by assumption) (by omega)) (.inl (by assumption))]; rfl) | (rw [pck_y (fstO_t (by assumption) (by omega)) (.inr (fstC_lt.2 (by omega)))]; rfl) | (rw [pck_n2 (by omega) (fun e => absurd (fstC_lt.1 e) (by omega))]; rfl)), rfl, rfl, rfl, rfl, rfl, rfl, rfl, rfl, rfl, rfl, rfl, rfl, trivial⟩ rfl rfl (Nat.le_refl _)) (by first | omega | (show _ < _; omega) | (simp only []; omega)))
          · have aH7 := aH7b
            try simp only [qqT, qqF, qqN, qqM, qqL, qqE] at aH7
            refine VC.exit ?_
            refine VC.seq ?_
            refine VC.sr ?_
            refine VO.mv rfl rfl rfl rfl ?_
            refine VO.val rfl rfl (OpV.lss rfl rfl rfl) ?_
            refine VO.nil ?_
            refine VC.cond rfl (fun h6b => ?_) (fun h6b => ?_)
            · have h6 := h6b
              try simp only [qqT, qqF, qqN, qqM, qqL, qqE] at h6
              have hnn : fstR ms ns = none := by
                obtain rfl : k = ms.length := by omega
                rw [← hG, fstG_step (by omega), hi, Int.toNat_natCast, if_pos (show fstB ms ns g i < 0 from h6)]
              refine VC.sr ?_
              refine VO.ma rfl rfl rfl rfl ?_
              refine VO.ma rfl rfl rfl rfl ?_
              refine VO.ma rfl rfl rfl rfl ?_
              refine VO.nil ?_
              refine VC.le _ (Le.recast (t := 4) (y := avInts []) rfl (fun w Z u h => by rw [h.eq_v]; exact .nil _ _)) ?_
              refine VC.ret ?_
              exact Exists.intro _ (And.intro (RetV.three Tryz.results70 (ResV.tmp rfl) (ResV.tmp rfl) (ResV.tmp rfl)) (by rw [(fst_2 hnn).1, (fst_2 hnn).2, hf0]))
            · have h6 := h6b
              try simp only [qqT, qqF, qqN, qqM, qqL, qqE] at h6
              obtain rfl : k = ms.length := by omega
              obtain ⟨kb, hkb, hkl, hk1, hk2⟩ := fstB_in (ms := ms) (ns := ns) (g := g) (i := i) (show ¬ fstB ms ns g i < 0 from Int.not_lt.2 h6)
              have hG2 : fstG ms ns ((fstL ns).drop (q + 1)) (g.set i (kb : Int)) = fstR ms ns := by
                have h := fstG_step (ms := ms) (ns := ns) (l := fstL ns) (g := g) (q := q) (by omega)
                rw [hG, hi, Int.toNat_natCast, if_neg (by omega), hkb] at h; exact h.symm
              have hcy2 := cyc_bd hM (pl := g) (k := kb) (Nat.le_refl _)
              have hcn2 := cnt_le g kb g.length
              have hmu2 := mul_in2 (hM.each kb) (hM.cnt i)
              refine VC.le _ (Le.recast (t := 15) (y := avI (kb : Int)) rfl (fun w Z u h => by rw [← hkb]; exact h)) ?_
              refine VC.skip ?_
              refine VC.sr ?_
              refine VO.mv rfl rfl rfl rfl ?_
              refine VO.mv rfl rfl rfl rfl ?_
              refine VO.mv rfl rfl rfl rfl ?_
              refine VO.val rfl rfl (OpV.indexAddr_o rfl Tryz.underlying22 Tryz.sizeOf3 rfl rfl rfl (by omega)) ?_
              refine VO.op rfl (OpE.store1 (i := 2) rfl hB rfl Tryz.sizeOf3 rfl rfl rfl rfl rfl rfl (by rw [intsL_len, zerG_len]; omega) ((intsL_set _ _ _).trans (congrArg intsL zerG_set)) trivial ?_)
              refine VO.nil ?_
              refine VC.seq ?_
              refine VC.draw (fun j b => j = 17 ∧ b = g38) hB (by kernel_rfl) ?_
              refine VA.take (i := 0) rfl (by kernel_rfl) (by kernel_rfl) (by kernel_rfl) rfl rfl (OpV.move (.inl rfl) rfl) ?_
              refine VA.take (i := 1) rfl (by kernel_rfl) (by kernel_rfl) (by kernel_rfl) rfl rfl (OpV.move (.inl rfl) rfl) ?_
              refine VA.take (i := 2) rfl (by kernel_rfl) (by kernel_rfl) (by kernel_rfl) rfl rfl (OpV.indexAddr_o rfl Tryz.underlying22 Tryz.sizeOf3 rfl rfl rfl (by omega)) ?_
              refine VA.take (i := 3) rfl (by kernel_rfl) (by kernel_rfl) (by kernel_rfl) rfl rfl (OpV.load_own (i := 0) rfl hB Tryz.isAgg3 rfl rfl (intsT_get hkl) (by first | exact Wi.not1 (by kernel_rfl) | exact Wi.not2 (by kernel_rfl) (by kernel_rfl) | exact Wi.notX (by kernel_rfl))) ?_
              refine VA.take (i := 4) rfl (by kernel_rfl) (by kernel_rfl) (by kernel_rfl) rfl rfl (OpV.move (.inl rfl) rfl) ?_
              refine VA.take (i := 5) rfl (by kernel_rfl) (by kernel_rfl) (by kernel_rfl) rfl rfl (OpV.move (.inl rfl) rfl) ?_
              refine VA.take (i := 6) rfl (by kernel_rfl) (by kernel_rfl) (by kernel_rfl) rfl rfl (OpV.indexAddr_E rfl Tryz.underlying102 Tryz.sizeOf128 rfl rfl rfl (by omega)) ?_
              refine VA.take (i := 7) rfl (by kernel_rfl) (by kernel_rfl) (by kernel_rfl) rfl rfl (OpV.fieldAddr_atO 1 rfl Tryz.underlying128 rfl rfl Tryz.sizeOf3 rfl rfl) ?_
              refine VA.take (i := 8) rfl (by kernel_rfl) (by kernel_rfl) (by kernel_rfl) rfl rfl (OpV.load_at rfl hB (by first | exact OutW.wi1 (k := 0) rfl rfl | exact OutW.wi1 (k := 1) rfl rfl | exact OutW.wi1 (k := 2) rfl rfl) Tryz.isAgg3 rfl rfl) ?_
              refine VA.take (i := 9) rfl (by kernel_rfl) (by kernel_rfl) (by kernel_rfl) rfl rfl (OpV.load_at rfl hB (by first | exact OutW.wi1 (k := 0) rfl rfl | exact OutW.wi1 (k := 1) rfl rfl | exact OutW.wi1 (k := 2) rfl rfl) Tryz.isAgg77 rfl rfl) ?_
              refine VA.take (i := 10) rfl (by kernel_rfl) (by kernel_rfl) (by kernel_rfl) rfl rfl (OpV.move (.inl rfl) rfl) ?_
              refine VA.take (i := 11) rfl (by kernel_rfl) (by kernel_rfl) (by kernel_rfl) rfl rfl (OpV.indexAddr_E rfl Tryz.underlying77 Tryz.sizeOf96 rfl rfl rfl (by omega)) ?_
              refine VA.take (i := 12) rfl (by kernel_rfl) (by kernel_rfl) (by kernel_rfl) rfl rfl (OpV.fieldAddr_atO 1 rfl Tryz.underlying96 rfl rfl Tryz.sizeOf3 rfl rfl) ?_
              refine VA.take (i := 13) rfl (by kernel_rfl) (by kernel_rfl) (by kernel_rfl) rfl rfl (OpV.load_at rfl hB (by first | exact OutW.wi1 (k := 0) rfl rfl | exact OutW.wi1 (k := 1) rfl rfl | exact OutW.wi1 (k := 2) rfl rfl) Tryz.isAgg3 rfl rfl) ?_
              refine VA.take (i := 14) rfl (by kernel_rfl) (by kernel_rfl) (by kernel_rfl) rfl rfl (OpV.mul rfl rfl rfl (by unfold fits; omega)) ?_
              refine VA.take (i := 15) rfl (by kernel_rfl) (by kernel_rfl) (by kernel_rfl) rfl rfl (OpV.add rfl rfl rfl (by unfold fits; omega)) ?_
              refine VA.take (i := 16) rfl (by kernel_rfl) (by kernel_rfl) (by kernel_rfl) rfl rfl (OpV.indexAddr_o rfl Tryz.underlying22 Tryz.sizeOf3 rfl rfl rfl (by omega)) ?_
              refine VA.all (rs := [17]) (by kernel_rfl) (by decide) ?_
              refine ⟨⟨_, rfl, .inl rfl, ?_⟩, trivial⟩
              refine OpE.store1 (i := 0) rfl hB rfl Tryz.sizeOf3 rfl rfl rfl rfl rfl rfl (by rw [intsL_len, tabI_len]; exact hkl) ((intsL_set _ _ _).trans (congrArg intsL (tabI_set' (g := fun j => cyc ms ns (g.set i (kb : Int)) j (g.set i (kb : Int)).length) (by rw [List.length_set, cyc_set (by omega) hnone, if_pos ⟨by omega, rfl⟩]) (fun j hj hne => by rw [List.length_set, cyc_set (by omega) hnone, if_neg (fun h => hne h.2.symm), Int.add_zero])))) (by first | exact ⟨rfl, rfl⟩ | exact .inl ⟨rfl, rfl⟩ | exact .inr ⟨rfl, rfl⟩ | exact ⟨rfl, trivial⟩ | exact .inl ⟨rfl, trivial⟩ | exact .inr ⟨rfl, trivial⟩ | exact ⟨by decide, rfl⟩) ?_
              refine VA.done (by kernel_rfl) ?_
              refine VC.region ?_
              refine VO.mv rfl rfl rfl rfl ?_
              refine VO.mv rfl rfl rfl rfl ?_
              refine VO.val rfl rfl (OpV.indexAddr_o rfl Tryz.underlying22 Tryz.sizeOf3 rfl rfl rfl (by omega)) ?_
              refine VO.val rfl rfl (OpV.load_own (i := 1) rfl hB Tryz.isAgg3 rfl rfl (intsT_get hkl) (fun h => h)) ?_
              refine VO.val rfl rfl (OpV.add rfl rfl rfl (by unfold fits; omega)) ?_
              refine VO.val rfl rfl (OpV.indexAddr_o rfl Tryz.underlying22 Tryz.sizeOf3 rfl rfl rfl (by omega)) ?_
              refine VO.op rfl (OpE.store1 (i := 1) rfl hB rfl Tryz.sizeOf3 rfl rfl rfl rfl rfl rfl (by rw [intsL_len, tabI_len]; exact hkl) ((intsL_set _ _ _).trans (congrArg intsL (tabI_set' (g := fun j => cnt (g.set i (kb : Int)) j (g.set i (kb : Int)).length) (by rw [List.length_set, cnt_set (by omega) hnone, if_pos ⟨by omega, rfl⟩]) (fun j hj hne => by rw [List.length_set, cnt_set (by omega) hnone, if_neg (fun h => hne h.2.symm), Int.add_zero])))) trivial ?_)
              refine VO.nil ?_
              refine VC.region ?_
              refine VO.val rfl rfl (OpV.add rfl rfl rfl (by unfold fits; omega)) ?_
              refine VO.mv rfl rfl rfl rfl ?_
              refine VO.nil ?_
              exact Exists.intro (⟨(q + 1, g.set i (kb : Int)), by show q + 1 ≤ _; omega, hI.step (fstL_ord ns).nd (by omega) hi hin hkl hk1 hk2, hG2⟩) (And.intro (Le.mk hB [0, 1, 2] ⟨rfl, rfl, rfl, rfl, rfl, rfl, rfl, rfl, trivial⟩ rfl rfl (Nat.le_refl _)) (by first | omega | (show _ < _; omega) | (simp only []; omega)))
        · have aH6 := aH6b
          try simp only [qqT, qqF, qqN, qqM, qqL, qqE] at aH6
          refine VC.exit ?_
          refine VC.sr ?_
          refine VO.mv rfl rfl rfl rfl ?_
          refine VO.ma rfl rfl rfl rfl ?_
          refine VO.ma rfl rfl rfl rfl ?_
          refine VO.ma rfl rfl rfl rfl ?_
          refine VO.nil ?_
          obtain rfl : q = ns.length := by omega
          have hsm : fstR ms ns = some g := by rw [← hG, fstG_end (by omega)]
          have hvg := fstR_valid hmf hsm
          refine VC.le _ (Le.boxI (t := 4) (i := 2) (n := ns.length) (xs := zerG g) hB hnew rfl rfl (by rw [zerG_len, hgl]) (Nat.le_refl _) (capM (by omega))) ?_
          refine VC.ret ?_
          exact Exists.intro _ (And.intro (RetV.three Tryz.results70 (ResV.tmp rfl) (ResV.tmp rfl) (ResV.tmp rfl)) (by rw [(fst_3 hf0 hsm).1, (fst_3 hf0 hsm).2, hf0, zerG_in hvg.inp]))
end Go.Proofs.YtaaokimiadfidaaGreatDoor
namespace Go.Proofs.YtaaokimiadfidaaGreatDoor
open Go.RowKit
set_option linter.unusedVariables false
set_option linter.unusedSimpArgs false

theorem tab_ints (xs : List Int) : tab (xs.length * 1) (fun j => avI (xs.getD j 0)) = intsL xs := by
 apply List.ext_getElem (by rw [tab_len, intsL_len, Nat.mul_one])
 intro i h1 h2
 rw [tab_get]
 rw [intsL_len] at h2
 simp [intsL, h2]
theorem tab_strs (xs : List ByteArray) : tab (xs.length * 1) (fun j => avS (xs.getD j ByteArray.empty)) = strsL xs := by
 apply List.ext_getElem (by rw [tab_len, strsL_len, Nat.mul_one])
 intro i h1 h2
 rw [tab_get]
 rw [strsL_len] at h2
 simp [strsL, h2]
set_option maxRecDepth 100000 in
theorem slices_Clone_R {xs : List Int} (hl : xs.length ≤ 1000000000) :
  SpecR Tryz.prog 190 [avInts xs] xs.length 1 (intsL xs) 3 := by
 refine SpecR.of_VC Tryz.func190 rfl Tryz.ntmps190 (Nle rfl) (by first | exact flat_ints _ | exact flat_strs _ | exact flat_bools _) fun w A hB => ?_
 have hnew : True := trivial
 refine VC.sr ?_
 refine VO.ma rfl rfl rfl rfl ?_
 refine VO.nil ?_
 refine VC.seq ?_
 refine VC.sr ?_
 refine VO.mv rfl rfl rfl rfl ?_
 refine VO.op rfl (OpE.eqNil rfl rfl Tryz.underlying22 rfl ?_)
 intro b4 hb4
 refine VO.nil ?_
 refine VC.cond rfl (fun h0b => ?_) (fun h0b => ?_)
 ·have h0 := h0b
  try simp only [qqT, qqF, qqN, qqM, qqL, qqE] at h0
  refine VC.sr ?_
  refine VO.ma rfl rfl rfl rfl ?_
  refine VO.nil ?_
  obtain rfl : xs = [] := List.eq_nil_of_length_eq_zero (hb4 h0)
  refine VC.le _ (Le.nilRow 1 3) ?_
  refine VC.ret ?_
  exact Exists.intro _ (And.intro (RetV.one Tryz.results190 (ResV.tmp rfl)) (⟨_, rfl, List.Mem.head _⟩))
 ·have h0 := h0b
  try simp only [qqT, qqF, qqN, qqM, qqL, qqE] at h0
  refine VC.skip ?_
  refine VC.sr ?_
  refine VO.op rfl (OpE.buildSlice0 rfl hB rfl Tryz.underlying22 Tryz.sizeOf3 ?_)
  intro g5
  refine VO.mv rfl rfl rfl rfl ?_
  refine VO.op rfl (OpE.appendP (i := 0) rfl hB rfl Tryz.underlying22 (infoOf Tryz.t3 1 (by kernel_rfl) rfl rfl) rfl (by decide) (by decide) rfl rfl (.im rfl) (fun _ _ => rfl) (by omega) (tab_ints xs) (fun _ _ => trivial) ?_)
  intro u7
  refine VO.ma rfl rfl rfl rfl ?_
  refine VO.nil ?_
  rw [Nat.zero_add]
  refine VC.ret ?_
  exact Exists.intro _ (And.intro (RetV.one Tryz.results190 (ResV.tmp rfl)) (⟨_, rfl, List.Mem.head _⟩))
set_option maxRecDepth 100000 in
theorem slices_CloneS_R {xs : List ByteArray} (hl : xs.length ≤ 1000000000) :
  SpecR Tryz.prog 138 [avStrs xs] xs.length 1 (strsL xs) 9 := by
 refine SpecR.of_VC Tryz.func138 rfl Tryz.ntmps138 (Nle rfl) (by first | exact flat_ints _ | exact flat_strs _ | exact flat_bools _) fun w A hB => ?_
 have hnew : True := trivial
 refine VC.sr ?_
 refine VO.ma rfl rfl rfl rfl ?_
 refine VO.nil ?_
 refine VC.seq ?_
 refine VC.sr ?_
 refine VO.mv rfl rfl rfl rfl ?_
 refine VO.op rfl (OpE.eqNil rfl rfl Tryz.underlying67 rfl ?_)
 intro b4 hb4
 refine VO.nil ?_
 refine VC.cond rfl (fun h0b => ?_) (fun h0b => ?_)
 ·have h0 := h0b
  try simp only [qqT, qqF, qqN, qqM, qqL, qqE] at h0
  refine VC.sr ?_
  refine VO.ma rfl rfl rfl rfl ?_
  refine VO.nil ?_
  obtain rfl : xs = [] := List.eq_nil_of_length_eq_zero (hb4 h0)
  refine VC.le _ (Le.nilRow 1 9) ?_
  refine VC.ret ?_
  exact Exists.intro _ (And.intro (RetV.one Tryz.results138 (ResV.tmp rfl)) (⟨_, rfl, List.Mem.head _⟩))
 ·have h0 := h0b
  try simp only [qqT, qqF, qqN, qqM, qqL, qqE] at h0
  refine VC.skip ?_
  refine VC.sr ?_
  refine VO.op rfl (OpE.buildSlice0 rfl hB rfl Tryz.underlying67 Tryz.sizeOf9 ?_)
  intro g5
  refine VO.mv rfl rfl rfl rfl ?_
  refine VO.op rfl (OpE.appendP (i := 0) rfl hB rfl Tryz.underlying67 (infoOf Tryz.t9 1 (by kernel_rfl) rfl rfl) rfl (by decide) (by decide) rfl rfl (.im rfl) (fun _ _ => rfl) (by omega) (tab_strs xs) (fun _ _ => trivial) ?_)
  intro u7
  refine VO.ma rfl rfl rfl rfl ?_
  refine VO.nil ?_
  rw [Nat.zero_add]
  refine VC.ret ?_
  exact Exists.intro _ (And.intro (RetV.one Tryz.results138 (ResV.tmp rfl)) (⟨_, rfl, List.Mem.head _⟩))
end Go.Proofs.YtaaokimiadfidaaGreatDoor
namespace Go.Proofs.YtaaokimiadfidaaGreatDoor
open Go.RowKit
set_option linter.unusedVariables false
set_option linter.unusedSimpArgs false

def bet3 (ms : List Mach) (ns : List NeedS) (plan : List Int) : Int × Int × Bool := if lineF ms ns plan = 0 then betF ms ns plan plan.length 0 else (0, 0, false)
theorem set_self {l : List Int} {q : Nat} : l.set q (l.getD q 0) = l := by
 apply List.ext_getElem (by simp)
 intro i h1 h2
 rw [List.getElem_set]
 split
 ·rename_i e; subst e; simp [h2]
 ·rfl
set_option maxRecDepth 100000 in
theorem line_Better {ms : List Mach} {ns : List NeedS} {plan : List Int} (hm : SmallM ms) (hn : SmallN ns) (hp : plan.length ≤ 1000000000) :
  SpecN Tryz.prog 81 [avL ms, avL ns, avInts plan] (fun y => y = .tup [avI (bet3 ms ns plan).1, avI (bet3 ms ns plan).2.1, avB (bet3 ms ns plan).2.2, avI (lineF ms ns plan)]) := by
 refine SpecN.of_VCN Tryz.func81 rfl Tryz.ntmps81 (Nle rfl) fun w A hB => ?_
 have hnew : True := trivial
 refine VC.sr ?_
 refine VO.ma rfl rfl rfl rfl ?_
 refine VO.ma rfl rfl rfl rfl ?_
 refine VO.ma rfl rfl rfl rfl ?_
 refine VO.ma rfl rfl rfl rfl ?_
 refine VO.nil ?_
 refine VC.seq ?_
 refine VC.sr ?_
 refine VO.mv rfl rfl rfl rfl ?_
 refine VO.mv rfl rfl rfl rfl ?_
 refine VO.mv rfl rfl rfl rfl ?_
 refine VO.op rfl (OpE.call rfl hB rfl Tryz.call191 rfl (SpecN.spec (line_planned hm hn hp)) ?_)
 rintro _ rfl
 refine VO.ma rfl rfl rfl rfl ?_
 refine VO.nil ?_
 refine VC.sr ?_
 refine VO.mv rfl rfl rfl rfl ?_
 refine VO.val rfl rfl (OpV.neq rfl rfl rfl) ?_
 refine VO.nil ?_
 refine VC.cond rfl (fun h0b => ?_) (fun h0b => ?_)
 ·have h0 := h0b
  try simp only [qqT, qqF, qqN, qqM, qqL, qqE] at h0
  refine VC.sr ?_
  refine VO.mv rfl rfl rfl rfl ?_
  refine VO.ma rfl rfl rfl rfl ?_
  refine VO.ma rfl rfl rfl rfl ?_
  refine VO.ma rfl rfl rfl rfl ?_
  refine VO.ma rfl rfl rfl rfl ?_
  refine VO.nil ?_
  refine VC.ret ?_
  exact Exists.intro _ (And.intro (RetN.four Tryz.results81 (ResN.v rfl) (ResN.v rfl) (ResN.v rfl) (ResN.v rfl)) (by rw [bet3, if_neg h0]))
 ·have h0 := h0b
  try simp only [qqT, qqF, qqN, qqM, qqL, qqE] at h0
  obtain ⟨z1, z2, z3⟩ := lineF_0 (ms := ms) (ns := ns) (plan := plan) (by omega)
  have hlen := machF_len z1
  have hcl := fun p => cycL_len ms ns p
  refine VC.skip ?_
  refine VC.sr ?_
  refine VO.mv rfl rfl rfl rfl ?_
  refine VO.mv rfl rfl rfl rfl ?_
  refine VO.mv rfl rfl rfl rfl ?_
  refine VO.op rfl (OpE.call rfl hB rfl Tryz.call178 rfl (SpecN.spec (line_cycles z1 z2 z3)) ?_)
  rintro _ rfl
  refine VO.op rfl (OpE.call rfl hB rfl Tryz.call189 rfl (SpecN.spec (slices_Max_int (by rw [hcl]; omega) (by rw [hcl]; omega))) ?_)
  rintro _ rfl
  refine VO.ma rfl rfl rfl rfl ?_
  refine VO.nil ?_
  refine VC.sr ?_
  refine VO.mv rfl rfl rfl rfl ?_
  refine VO.op rfl (OpE.callR rfl hB rfl Tryz.call190 ((slices_Clone_R (by omega))) (ArgsP.cons (ArgP.ev rfl) (ArgsP.nil)) ?_)
  intro u
  refine VO.ma rfl rfl rfl rfl ?_
  refine VO.nil ?_
  refine VC.seq ?_
  refine VC.sr ?_
  refine VO.mv rfl rfl rfl rfl ?_
  refine VO.val rfl rfl (OpV.len_row (i := 0) rfl Tryz.underlying22 rfl rfl) ?_
  refine VO.mv rfl rfl rfl rfl ?_
  refine VO.nil ?_
  refine VC.block ?_
  refine VC.loopK [] trivial ({q : Nat // q ≤ plan.length ∧ ∀ j, j < q → (betK ms ns plan (slowC ms ns plan) j ms.length).1 < 0}) (fun (iZ : {q : Nat // q ≤ plan.length ∧ ∀ j, j < q → (betK ms ns plan (slowC ms ns plan) j ms.length).1 < 0}) => match iZ with | ⟨q, hq, hb⟩ => [(0, avL ms), (1, avL ns), (2, .v u), (11, avI (slowC ms ns plan)), (31, .v u), (32, avI plan.length), (33, avI (q : Int))]) (fun (iZ : {q : Nat // q ≤ plan.length ∧ ∀ j, j < q → (betK ms ns plan (slowC ms ns plan) j ms.length).1 < 0}) => match iZ with | ⟨q, hq, hb⟩ => [.row u plan.length 1 (intsL plan) 3]) (fun (iZ : {q : Nat // q ≤ plan.length ∧ ∀ j, j < q → (betK ms ns plan (slowC ms ns plan) j ms.length).1 < 0}) => match iZ with | ⟨q, hq, hb⟩ => 0) (fun (iZ : {q : Nat // q ≤ plan.length ∧ ∀ j, j < q → (betK ms ns plan (slowC ms ns plan) j ms.length).1 < 0}) => match iZ with | ⟨q, hq, hb⟩ => plan.length - q) ⟨0, Nat.zero_le _, fun j hj => absurd hj (Nat.not_lt_zero j)⟩ (Le.mk hB [0] ⟨rfl, rfl, rfl, rfl, rfl, rfl, rfl, trivial⟩ rfl rfl (Nat.le_refl _)) ?_
  rintro ⟨q, hq, hb⟩
  show VC _ _ _ _ ⟨[(0, avL ms), (1, avL ns), (2, .v u), (11, avI (slowC ms ns plan)), (31, .v u), (32, avI plan.length), (33, avI (q : Int))] ++ [], [.row u plan.length 1 (intsL plan) 3], 0⟩
  refine VC.sr ?_
  refine VO.val rfl rfl (OpV.lss rfl rfl rfl) ?_
  refine VO.nil ?_
  refine VC.seq ?_
  refine VC.cond rfl (fun aH1b => ?_) (fun aH1b => ?_)
  ·have aH1 := aH1b
   try simp only [qqT, qqF, qqN, qqM, qqL, qqE] at aH1
   refine VC.skip ?_
   refine VC.seq ?_
   refine VC.block ?_
   refine VC.seq ?_
   refine VC.asBox (i := 0) rfl (by omega) (fun g cap hu hcap hmx => ?_)
   subst hu
   refine VC.region ?_
   refine VO.mv rfl rfl rfl rfl ?_
   refine VO.val rfl rfl (OpV.indexAddr_o rfl Tryz.underlying22 Tryz.sizeOf3 rfl rfl rfl (by omega)) ?_
   refine VO.val rfl rfl (OpV.load_own (i := 0) rfl hB Tryz.isAgg3 rfl rfl (intsL_get (by omega)) (fun h => h)) ?_
   refine VO.ma rfl rfl rfl rfl ?_
   refine VO.ma rfl rfl rfl rfl ?_
   refine VO.nil ?_
   refine VC.sr ?_
   refine VO.ma rfl rfl rfl rfl ?_
   refine VO.nil ?_
   refine VC.seq ?_
   refine VC.sr ?_
   refine VO.mv rfl rfl rfl rfl ?_
   refine VO.val rfl rfl (OpV.len_im rfl Tryz.underlying102 rfl) ?_
   refine VO.mv rfl rfl rfl rfl ?_
   refine VO.nil ?_
   refine VC.block ?_
   refine VC.loopK [] trivial ({p : Nat × Int // p.1 ≤ ms.length}) (fun (iZ : {p : Nat × Int // p.1 ≤ ms.length}) => match iZ with | ⟨⟨k, z⟩, hk⟩ => [(0, avL ms), (1, avL ns), (2, .v (.slice (some ⟨g, 0, none⟩) plan.length cap)), (11, avI (betK ms ns plan (slowC ms ns plan) q k).2), (12, avI (q : Int)), (13, avI (plan.getD q 0)), (14, avI (betK ms ns plan (slowC ms ns plan) q k).1), (31, .v (.slice (some ⟨g, 0, none⟩) plan.length cap)), (32, avI plan.length), (33, avI (q : Int)), (39, avI ms.length), (40, avI (k : Int))]) (fun (iZ : {p : Nat × Int // p.1 ≤ ms.length}) => match iZ with | ⟨⟨k, z⟩, hk⟩ => [.box g ⟨intsL (plan.set q z), 3, cap * 1⟩]) (fun (iZ : {p : Nat × Int // p.1 ≤ ms.length}) => match iZ with | ⟨⟨k, z⟩, hk⟩ => 0) (fun (iZ : {p : Nat × Int // p.1 ≤ ms.length}) => match iZ with | ⟨⟨k, z⟩, hk⟩ => ms.length - k) ⟨(0, plan.getD q 0), Nat.zero_le _⟩ (Le.mk hB [0] ⟨rfl, rfl, rfl, rfl, rfl, rfl, rfl, rfl, rfl, rfl, rfl, rfl, trivial⟩ rfl (congrArg (fun z => [Ent.box g ⟨intsL z, 3, cap * 1⟩]) set_self.symm) (Nat.le_refl _)) ?_
   rintro ⟨⟨k, z⟩, hk⟩
   show VC _ _ _ _ ⟨[(0, avL ms), (1, avL ns), (2, .v (.slice (some ⟨g, 0, none⟩) plan.length cap)), (11, avI (betK ms ns plan (slowC ms ns plan) q k).2), (12, avI (q : Int)), (13, avI (plan.getD q 0)), (14, avI (betK ms ns plan (slowC ms ns plan) q k).1), (31, .v (.slice (some ⟨g, 0, none⟩) plan.length cap)), (32, avI plan.length), (33, avI (q : Int)), (39, avI ms.length), (40, avI (k : Int))] ++ [], [.box g ⟨intsL (plan.set q z), 3, cap * 1⟩], 0⟩
   simp only at hk
   refine VC.sr ?_
   refine VO.val rfl rfl (OpV.lss rfl rfl rfl) ?_
   refine VO.nil ?_
   refine VC.seq ?_
   refine VC.cond rfl (fun aH2b => ?_) (fun aH2b => ?_)
   ·have aH2 := aH2b
    try simp only [qqT, qqF, qqN, qqM, qqL, qqE] at aH2
    refine VC.skip ?_
    refine VC.seq ?_
    refine VC.block ?_
    refine VC.sr ?_
    refine VO.mv rfl rfl rfl rfl ?_
    refine VO.ma rfl rfl rfl rfl ?_
    refine VO.nil ?_
    refine VC.sr ?_
    refine VO.mv rfl rfl rfl rfl ?_
    refine VO.mv rfl rfl rfl rfl ?_
    refine VO.mv rfl rfl rfl rfl ?_
    refine VO.val rfl rfl (OpV.indexAddr_o rfl Tryz.underlying22 Tryz.sizeOf3 rfl rfl rfl (by omega)) ?_
    refine VO.op rfl (OpE.store1 (i := 0) rfl hB rfl Tryz.sizeOf3 rfl rfl rfl rfl rfl rfl (by rw [intsL_len, List.length_set]; omega) ((intsL_set _ _ _).trans (congrArg intsL (List.set_set ..))) trivial ?_)
    refine VO.nil ?_
    refine VC.seq ?_
    refine VC.sr ?_
    refine VO.mv rfl rfl rfl rfl ?_
    refine VO.mv rfl rfl rfl rfl ?_
    refine VO.mv rfl rfl rfl rfl ?_
    refine VO.op rfl (OpE.callL rfl hB rfl Tryz.call193 (line_planFault z1 hn.l (by rw [List.length_set]; omega)) (ArgsP.cons (ArgP.ev rfl) (ArgsP.cons (ArgP.ev rfl) (ArgsP.cons (ArgP.boxI (i := 0) rfl rfl (by rw [List.length_set]) hcap hmx) (ArgsP.nil)))) ?_)
    rintro _ rfl
    refine VO.val rfl rfl (OpV.neq rfl rfl rfl) ?_
    refine VO.nil ?_
    refine VC.cond rfl (fun h3b => ?_) (fun h3b => ?_)
    ·have h3 := h3b
     try simp only [qqT, qqF, qqN, qqM, qqL, qqE] at h3
     refine VC.exit ?_
     refine VC.region ?_
     refine VO.val rfl rfl (OpV.add rfl rfl rfl (by unfold fits; omega)) ?_
     refine VO.mv rfl rfl rfl rfl ?_
     refine VO.nil ?_
     exact Exists.intro (⟨(k + 1, (k : Int)), by show _ ≤ _; omega⟩) (And.intro (Le.mk hB [0] ⟨rfl, rfl, rfl, (by first | (rw [betK_yes ⟨by omega, h4⟩]; rfl) | (rw [betK_no (by omega)]; rfl) | (rw [betK_no (fun h => absurd h.2 (Int.not_lt.2 h4))]; rfl)), rfl, rfl, (by first | (rw [betK_yes ⟨by omega, h4⟩]; rfl) | (rw [betK_no (by omega)]; rfl) | (rw [betK_no (fun h => absurd h.2 (Int.not_lt.2 h4))]; rfl)), rfl, rfl, rfl, rfl, rfl, trivial⟩ rfl rfl (Nat.le_refl _)) (by first | omega | (show _ < _; omega) | (simp only []; omega)))
    ·have h3 := h3b
     try simp only [qqT, qqF, qqN, qqM, qqL, qqE] at h3
     refine VC.skip ?_
     refine VC.sr ?_
     refine VO.mv rfl rfl rfl rfl ?_
     refine VO.mv rfl rfl rfl rfl ?_
     refine VO.mv rfl rfl rfl rfl ?_
     refine VO.op rfl (OpE.callL rfl hB rfl Tryz.call178 (line_cycles z1 z2 (by omega)) (ArgsP.cons (ArgP.ev rfl) (ArgsP.cons (ArgP.ev rfl) (ArgsP.cons (ArgP.boxI (i := 0) rfl rfl (by rw [List.length_set]) hcap hmx) (ArgsP.nil)))) ?_)
     rintro _ rfl
     refine VO.op rfl (OpE.call rfl hB rfl Tryz.call189 rfl (SpecN.spec (slices_Max_int (by rw [hcl]; omega) (by rw [hcl]; omega))) ?_)
     rintro _ rfl
     refine VO.ma rfl rfl rfl rfl ?_
     refine VO.nil ?_
     refine VC.sr ?_
     refine VO.mv rfl rfl rfl rfl ?_
     refine VO.mv rfl rfl rfl rfl ?_
     refine VO.val rfl rfl (OpV.lss rfl rfl rfl) ?_
     refine VO.nil ?_
     refine VC.cond rfl (fun h4b => ?_) (fun h4b => ?_)
     ·have h4 := h4b
      try simp only [qqT, qqF, qqN, qqM, qqL, qqE] at h4
      refine VC.region ?_
      refine VO.mv rfl rfl rfl rfl ?_
      refine VO.mv rfl rfl rfl rfl ?_
      refine VO.ma rfl rfl rfl rfl ?_
      refine VO.ma rfl rfl rfl rfl ?_
      refine VO.nil ?_
      refine VC.region ?_
      refine VO.val rfl rfl (OpV.add rfl rfl rfl (by unfold fits; omega)) ?_
      refine VO.mv rfl rfl rfl rfl ?_
      refine VO.nil ?_
      exact Exists.intro (⟨(k + 1, (k : Int)), by show _ ≤ _; omega⟩) (And.intro (Le.mk hB [0] ⟨rfl, rfl, rfl, (by first | (rw [betK_yes ⟨by omega, h4⟩]; rfl) | (rw [betK_no (by omega)]; rfl) | (rw [betK_no (fun h => absurd h.2 (Int.not_lt.2 h4))]; rfl)), rfl, rfl, (by first | (rw [betK_yes ⟨by omega, h4⟩]; rfl) | (rw [betK_no (by omega)]; rfl) | (rw [betK_no (fun h => absurd h.2 (Int.not_lt.2 h4))]; rfl)), rfl, rfl, rfl, rfl, rfl, trivial⟩ rfl rfl (Nat.le_refl _)) (by first | omega | (show _ < _; omega) | (simp only []; omega)))
     ·have h4 := h4b
      try simp only [qqT, qqF, qqN, qqM, qqL, qqE] at h4
      refine VC.skip ?_
      refine VC.region ?_
      refine VO.val rfl rfl (OpV.add rfl rfl rfl (by unfold fits; omega)) ?_
      refine VO.mv rfl rfl rfl rfl ?_
      refine VO.nil ?_
      exact Exists.intro (⟨(k + 1, (k : Int)), by show _ ≤ _; omega⟩) (And.intro (Le.mk hB [0] ⟨rfl, rfl, rfl, (by first | (rw [betK_yes ⟨by omega, h4⟩]; rfl) | (rw [betK_no (by omega)]; rfl) | (rw [betK_no (fun h => absurd h.2 (Int.not_lt.2 h4))]; rfl)), rfl, rfl, (by first | (rw [betK_yes ⟨by omega, h4⟩]; rfl) | (rw [betK_no (by omega)]; rfl) | (rw [betK_no (fun h => absurd h.2 (Int.not_lt.2 h4))]; rfl)), rfl, rfl, rfl, rfl, rfl, trivial⟩ rfl rfl (Nat.le_refl _)) (by first | omega | (show _ < _; omega) | (simp only []; omega)))
   ·have aH2 := aH2b
    try simp only [qqT, qqF, qqN, qqM, qqL, qqE] at aH2
    obtain rfl : k = ms.length := by omega
    refine VC.exit ?_
    refine VC.sr ?_
    refine VO.mv rfl rfl rfl rfl ?_
    refine VO.mv rfl rfl rfl rfl ?_
    refine VO.mv rfl rfl rfl rfl ?_
    refine VO.val rfl rfl (OpV.indexAddr_o rfl Tryz.underlying22 Tryz.sizeOf3 rfl rfl rfl (by omega)) ?_
    refine VO.op rfl (OpE.store1 (i := 0) rfl hB rfl Tryz.sizeOf3 rfl rfl rfl rfl rfl rfl (by rw [intsL_len, List.length_set]; omega) ((intsL_set _ _ _).trans (congrArg intsL ((List.set_set ..).trans set_self))) trivial ?_)
    refine VO.nil ?_
    refine VC.sr ?_
    refine VO.mv rfl rfl rfl rfl ?_
    refine VO.val rfl rfl (OpV.geq rfl rfl rfl) ?_
    refine VO.nil ?_
    refine VC.cond rfl (fun h5b => ?_) (fun h5b => ?_)
    ·have h5 := h5b
     try simp only [qqT, qqF, qqN, qqM, qqL, qqE] at h5
     refine VC.sr ?_
     refine VO.mv rfl rfl rfl rfl ?_
     refine VO.mv rfl rfl rfl rfl ?_
     refine VO.ma rfl rfl rfl rfl ?_
     refine VO.ma rfl rfl rfl rfl ?_
     refine VO.ma rfl rfl rfl rfl ?_
     refine VO.ma rfl rfl rfl rfl ?_
     refine VO.nil ?_
     refine VC.ret ?_
     exact Exists.intro _ (And.intro (RetN.four Tryz.results81 (ResN.v rfl) (ResN.v rfl) (ResN.v rfl) (ResN.v rfl)) (by rw [bet3, if_pos (by omega), betF_at (q := q) (Nat.zero_le _) (by omega) (fun j _ hj => hb j hj) h5, show lineF ms ns plan = 0 by omega]))
    ·have h5 := h5b
     try simp only [qqT, qqF, qqN, qqM, qqL, qqE] at h5
     refine VC.le _ (Le.boxRow (i := 0) (n := plan.length) rfl (by rw [intsL_len]; omega) hcap hmx) ?_
     refine VC.skip ?_
     refine VC.region ?_
     refine VO.val rfl rfl (OpV.add rfl rfl rfl (by unfold fits; omega)) ?_
     refine VO.mv rfl rfl rfl rfl ?_
     refine VO.nil ?_
     exact Exists.intro (⟨q + 1, by omega, lt_succ_cases hb h5⟩) (And.intro (Le.mk hB [0] ⟨rfl, rfl, rfl, (congrArg (fun p : Int × Int => some (avI p.2)) (betK_neg h5)), rfl, rfl, rfl, trivial⟩ rfl rfl (Nat.le_refl _)) (by first | omega | (show _ < _; omega) | (simp only []; omega)))
  ·have aH1 := aH1b
   try simp only [qqT, qqF, qqN, qqM, qqL, qqE] at aH1
   refine VC.exit ?_
   refine VC.sr ?_
   refine VO.ma rfl rfl rfl rfl ?_
   refine VO.ma rfl rfl rfl rfl ?_
   refine VO.ma rfl rfl rfl rfl ?_
   refine VO.ma rfl rfl rfl rfl ?_
   refine VO.nil ?_
   refine VC.ret ?_
   exact Exists.intro _ (And.intro (RetN.four Tryz.results81 (ResN.v rfl) (ResN.v rfl) (ResN.v rfl) (ResN.v rfl)) (by rw [bet3, if_pos (by omega), betF_none (fun j _ hj => hb j (by omega)), show lineF ms ns plan = 0 by omega]))

end Go.Proofs.YtaaokimiadfidaaGreatDoor
namespace Go.Proofs.YtaaokimiadfidaaGreatDoor
open Go.RowKit
set_option linter.unusedVariables false
set_option linter.unusedSimpArgs false

def keys5 : List ByteArray := [⟨#[97]⟩, ⟨#[98]⟩, ⟨#[99]⟩, ⟨#[100]⟩, ⟨#[101]⟩]
theorem keys5_size (q : Nat) : (keys5.getD q ByteArray.empty).size ≤ 1000 := by
 match q with
 | 0 => decide
 | 1 => decide
 | 2 => decide
 | 3 => decide
 | 4 => decide
 | q + 5 => simp [keys5]
def NOk (ns : List NeedS) : Prop := ns.length ≤ 10 ∧ ∀ x ∈ ns, x.key.size ≤ 1000
theorem NOk.small {ns : List NeedS} (h : NOk ns) : SmallN ns := ⟨by have := h.1; omega, fun i => by
 rw [List.getD_eq_getElem?_getD]
 cases hi : ns[i]? with
 | none => decide
 | some x => have := h.2 x (List.mem_of_getElem? hi); simp; omega⟩
theorem NOk.key {ns : List NeedS} (h : NOk ns) (i : Nat) : (ns.getD i default).key.size ≤ 1000 := by
 rw [List.getD_eq_getElem?_getD]
 cases hi : ns[i]? with
 | none => decide
 | some x => have := h.2 x (List.mem_of_getElem? hi); simpa using this
theorem NOk.set {ns : List NeedS} (h : NOk ns) (q : Nat) {x : NeedS} (hx : x.key.size ≤ 1000) : NOk (ns.set q x) :=
 ⟨by rw [List.length_set]; exact h.1, fun y hy => by rcases List.mem_or_eq_of_mem_set hy with h' | rfl; exact h.2 y h'; exact hx⟩
theorem getD_set_self {α : Type} {xs : List α} {q : Nat} {x d : α} (h : q < xs.length) : (xs.set q x).getD q d = x := by simp [h]
set_option maxRecDepth 100000 in
theorem needList_T {p : Nat} {L : List Int}  :
    SpecT Tryz.prog (TT p L) (fun b => b = p) 67 [sp p] 20 (fun y => ∃ ns, (SmallN ns ∧ ns.length ≤ 10) ∧ y = avL ns) := by
  refine SpecT.of_VC Tryz.func67 rfl Tryz.ntmps67 (Nle rfl) (low := (fun b => b ≤ p)) (fun w A k h => h.ok) fun w A k hk hB => ?_
  have hnew : True := trivial
  refine VC.sr ?_
  refine VO.ma rfl rfl rfl rfl ?_
  refine VO.nil ?_
  refine VC.sr ?_
  refine VO.ma rfl rfl rfl rfl ?_
  refine VO.nil ?_
  refine VC.seq ?_
  refine VC.sr ?_
  refine VO.op rfl (OpE.buildSlice (zc := #[.string ⟨#[]⟩, .string ⟨#[]⟩, .string ⟨#[]⟩, .string ⟨#[]⟩, .string ⟨#[]⟩]) rfl hB rfl Tryz.underlying67 Tryz.sizeOf9 Tryz.zeroValue9 (by decide) (by decide) (by kernel_rfl) rfl rfl ?_)
  refine VO.le _ (Le.recast (t := 7) (y := avStrs keys5) rfl (fun w Z u h => Rep.strs (xs := keys5) rfl h)) ?_
  refine VO.val rfl rfl (OpV.len_im rfl Tryz.underlying67 rfl) ?_
  refine VO.mv rfl rfl rfl rfl ?_
  refine VO.nil ?_
  refine VC.block ?_
  refine VC.le _ (Le.nilRow 2 96) ?_
  refine VC.loopK [] trivial ({p : Value × List NeedS × Nat // p.2.2 ≤ 5 ∧ p.2.1.length ≤ p.2.2 ∧ ∀ x ∈ p.2.1, x.key.size ≤ 1000}) (fun (iZ : {p : Value × List NeedS × Nat // p.2.2 ≤ 5 ∧ p.2.1.length ≤ p.2.2 ∧ ∀ x ∈ p.2.1, x.key.size ≤ 1000}) => match iZ with | ⟨⟨u, ns, q⟩, hq, hl, hk⟩ => [(0, sp p), (3, .v u), (7, avStrs keys5), (8, avI 5), (9, avI (q : Int))]) (fun (iZ : {p : Value × List NeedS × Nat // p.2.2 ≤ 5 ∧ p.2.1.length ≤ p.2.2 ∧ ∀ x ∈ p.2.1, x.key.size ≤ 1000}) => match iZ with | ⟨⟨u, ns, q⟩, hq, hl, hk⟩ => [.row u ns.length 2 (rowL ns) 96]) (fun (iZ : {p : Value × List NeedS × Nat // p.2.2 ≤ 5 ∧ p.2.1.length ≤ p.2.2 ∧ ∀ x ∈ p.2.1, x.key.size ≤ 1000}) => match iZ with | ⟨⟨u, ns, q⟩, hq, hl, hk⟩ => k + 2 * q) (fun (iZ : {p : Value × List NeedS × Nat // p.2.2 ≤ 5 ∧ p.2.1.length ≤ p.2.2 ∧ ∀ x ∈ p.2.1, x.key.size ≤ 1000}) => match iZ with | ⟨⟨u, ns, q⟩, hq, hl, hk⟩ => 5 - q) ⟨(.slice none 0 0, [], 0), by decide, by decide, fun x h => by simp at h⟩ (Le.mk hB [0] ⟨rfl, rfl, rfl, rfl, rfl, trivial⟩ rfl rfl (show k ≤ k + 2 * 0 by omega)) ?_
  rintro ⟨⟨u, ns, q⟩, hq, hl, hk⟩
  show VC _ _ _ _ ⟨[(0, sp p), (3, .v u), (7, avStrs keys5), (8, avI 5), (9, avI (q : Int))] ++ [], [.row u ns.length 2 (rowL ns) 96], k + 2 * q⟩
  simp only at hq hl hk
  refine VC.sr ?_
  refine VO.val rfl rfl (OpV.lss rfl rfl rfl) ?_
  refine VO.nil ?_
  refine VC.seq ?_
  refine VC.cond rfl (fun aH1b => ?_) (fun aH1b => ?_)
  · have aH1 := aH1b
    try simp only [qqT, qqF, qqN, qqM, qqL, qqE] at aH1
    refine VC.skip ?_
    refine VC.seq ?_
    refine VC.block ?_
    refine VC.sr ?_
    refine VO.val rfl rfl (OpV.indexAddr_1 rfl Tryz.underlying67 Tryz.sizeOf9 rfl rfl rfl (by show _ < 5; omega)) ?_
    refine VO.val rfl rfl (OpV.load_at rfl hB OutW.no Tryz.isAgg9 rfl rfl) ?_
    refine VO.ma rfl rfl rfl rfl ?_
    refine VO.nil ?_
    refine VC.sr ?_
    refine VO.mv rfl rfl rfl rfl ?_
    refine VO.op rfl (OpE.callT' (k + 2 * q) rfl rfl hB rfl Tryz.call17 rfl ((flip_T (by omega))) (by omega) ?_)
    rintro _ ⟨r14, rfl⟩
    refine VO.nil ?_
    refine VC.cond rfl (fun aH2b => ?_) (fun aH2b => ?_)
    · have aH2 := aH2b
      try simp only [qqT, qqF, qqN, qqM, qqL, qqE] at aH2
      refine VC.region ?_
      refine VO.mv rfl rfl rfl rfl ?_
      refine VO.mv rfl rfl rfl rfl ?_
      refine VO.mv rfl rfl rfl rfl ?_
      refine VO.op rfl (OpE.buildSlice (zc := #[.int .i64 0, .int .i64 0, .int .i64 0, .int .i64 0, .int .i64 0]) rfl hB rfl Tryz.underlying22 Tryz.sizeOf3 Tryz.zeroValue3 (by decide) (by decide) (by kernel_rfl) rfl rfl ?_)
      refine VO.op rfl (OpE.callT' (k + 2 * q + 1) rfl rfl hB rfl Tryz.call15 rfl ((pick_T (-100000000) 100000000 (by rfl) (by decide) (by decide) (by repeat (first | exact AllI.nil | refine AllI.cons (by omega) ?_)))) (by omega) ?_)
      rintro _ ⟨r19, hr19, rfl⟩
      refine VO.val rfl rfl (OpV.build (pls := #[(0, 1), (1, 1)]) rfl Tryz.zeroValue96 Tryz.underlying96 (fun w => by kernel_rfl) rfl rfl) ?_
      refine VO.op rfl (OpE.buildSlice (zc := #[.string ⟨#[]⟩, .int .i64 0]) rfl hB rfl Tryz.underlying77 Tryz.sizeOf96 Tryz.zeroValue96 (by decide) (by decide) (by kernel_rfl) rfl rfl ?_)
      refine VO.op rfl (OpE.append1 (i := 0) rfl hB rfl Tryz.underlying77 (infoOf Tryz.t96 2 (by kernel_rfl) rfl rfl) rfl (by decide) (by decide) rfl rfl rfl rfl (rowL_snoc ns (⟨keys5.getD q ByteArray.empty, r19⟩ : NeedS)) (by omega) (fun _ _ => trivial) ?_)
      intro u2
      refine VO.ma rfl rfl rfl rfl ?_
      refine VO.nil ?_
      refine VC.region ?_
      refine VO.val rfl rfl (OpV.add rfl rfl rfl (by unfold fits; omega)) ?_
      refine VO.mv rfl rfl rfl rfl ?_
      refine VO.nil ?_
      exact Exists.intro (⟨(u2, ns ++ [⟨keys5.getD q ByteArray.empty, r19⟩], q + 1), by show q + 1 ≤ 5; omega, by show (ns ++ [_]).length ≤ q + 1; simp; omega, fun x hx => by rcases List.mem_append.1 hx with hx | hx; exact hk x hx; (simp at hx; subst hx; exact keys5_size _)⟩) (And.intro (Le.mk hB [0] ⟨rfl, rfl, rfl, rfl, rfl, trivial⟩ rfl (by dsimp only; first | rfl | (rw [List.length_append]; rfl)) (show k + 2 * q + 1 + 1 ≤ k + 2 * (q + 1) by omega)) (by first | omega | (show _ < _; omega) | (simp only []; omega)))
    · have aH2 := aH2b
      try simp only [qqT, qqF, qqN, qqM, qqL, qqE] at aH2
      refine VC.skip ?_
      refine VC.region ?_
      refine VO.val rfl rfl (OpV.add rfl rfl rfl (by unfold fits; omega)) ?_
      refine VO.mv rfl rfl rfl rfl ?_
      refine VO.nil ?_
      exact Exists.intro (⟨(u, ns, q + 1), by show q + 1 ≤ 5; omega, by show ns.length ≤ q + 1; omega, hk⟩) (And.intro (Le.mk hB [0] ⟨rfl, rfl, rfl, rfl, rfl, trivial⟩ rfl (by dsimp only; first | rfl | (rw [List.length_append]; rfl)) (show k + 2 * q + 1 ≤ k + 2 * (q + 1) by omega)) (by first | omega | (show _ < _; omega) | (simp only []; omega)))
  · have aH1 := aH1b
    try simp only [qqT, qqF, qqN, qqM, qqL, qqE] at aH1
    refine VC.exit ?_
    refine VC.seq ?_
    refine VC.seq ?_
    have hok : NOk ns := ⟨by omega, hk⟩
    refine VC.region ?_
    refine VO.mv rfl rfl rfl rfl ?_
    refine VO.val rfl rfl (OpV.len_row (i := 0) rfl Tryz.underlying77 rfl rfl) ?_
    refine VO.val rfl rfl (OpV.gtr rfl rfl rfl) ?_
    refine VO.mv rfl rfl rfl rfl ?_
    refine VO.opG rfl rfl rfl rfl (fun aK3b => ?_) (fun aK3b => ?_)
    · replace aK3b : _ = true := aK3b
      have aK3 := aK3b
      try simp only [qqT, qqF, qqN, qqM, qqL, qqE] at aK3
      refine OpE.val (W := NoB) (OpV.move (.inl rfl) rfl) rfl ?_
      refine VO.opY rfl rfl rfl rfl aK3b ?_
      refine OpE.callT' (k + 2 * q) rfl rfl hB rfl Tryz.call17 rfl ((flip_T (by omega))) (by omega) ?_
      rintro _ ⟨r29, rfl⟩
      refine VO.val rfl rfl (OpV.pickT rfl rfl rfl rfl aK3b) ?_
      refine VO.nil ?_
      refine VC.cond rfl (fun aH4b => ?_) (fun aH4b => ?_)
      · have aH4 := aH4b
        try simp only [qqT, qqF, qqN, qqM, qqL, qqE] at aH4
        refine VC.seq ?_
        refine VC.asBox (i := 0) rfl (by omega) (fun g cap hu hcap hmx => ?_)
        subst hu
        refine VC.region ?_
        refine VO.mv rfl rfl rfl rfl ?_
        refine VO.mv rfl rfl rfl rfl ?_
        refine VO.mv rfl rfl rfl rfl ?_
        refine VO.val rfl rfl (OpV.len_v rfl Tryz.underlying77 rfl) ?_
        refine VO.op rfl (OpE.callT' (k + 2 * q + 1) rfl rfl hB rfl Tryz.call103 rfl ((next_T (by omega))) (by omega) ?_)
        rintro _ ⟨r35, hr35, rfl⟩
        obtain ⟨m, rfl⟩ : ∃ m : Nat, r35 = m := ⟨r35.toNat, by omega⟩
        refine VO.val rfl rfl (OpV.indexAddr_q rfl Tryz.underlying77 Tryz.sizeOf96 rfl rfl rfl (by omega)) ?_
        refine VO.ma rfl rfl rfl rfl ?_
        refine VO.nil ?_
        refine VC.draw (fun j b => (j = 18 ∧ b = g) ∨ (j = 21 ∧ b = g)) hB (by kernel_rfl) ?_
        refine VA.take (i := 0) rfl (by kernel_rfl) (by kernel_rfl) (by kernel_rfl) rfl rfl (OpV.move (.inl rfl) rfl) ?_
        refine VA.take (i := 1) rfl (by kernel_rfl) (by kernel_rfl) (by kernel_rfl) rfl rfl (OpV.move (.inl rfl) rfl) ?_
        refine VA.take (i := 2) rfl (by kernel_rfl) (by kernel_rfl) (by kernel_rfl) rfl rfl (OpV.move (.inl rfl) rfl) ?_
        refine VA.take (i := 3) rfl (by kernel_rfl) (by kernel_rfl) (by kernel_rfl) rfl rfl (OpV.move (.inl rfl) rfl) ?_
        refine VA.take (i := 4) rfl (by kernel_rfl) (by kernel_rfl) (by kernel_rfl) rfl rfl (OpV.nilCheck rfl rfl) ?_
        refine VA.take (i := 5) rfl (by kernel_rfl) (by kernel_rfl) (by kernel_rfl) rfl rfl (OpV.fieldAddrO 0 rfl Tryz.underlying96 rfl rfl Tryz.sizeOf9 rfl) ?_
        refine VA.take (i := 6) rfl (by kernel_rfl) (by kernel_rfl) (by kernel_rfl) rfl rfl (OpV.load_own (i := 0) rfl hB Tryz.isAgg9 rfl rfl (rowL_at rfl (by omega) (by decide)) (by first | exact Wi.not1 (by kernel_rfl) | exact Wi.not2 (by kernel_rfl) (by kernel_rfl) | exact Wi.notX (by kernel_rfl))) ?_
        refine VA.take (i := 9) rfl (by kernel_rfl) (by kernel_rfl) (by kernel_rfl) rfl rfl (OpV.move (.inl rfl) rfl) ?_
        refine VA.take (i := 10) rfl (by kernel_rfl) (by kernel_rfl) (by kernel_rfl) rfl rfl (OpV.move (.inl rfl) rfl) ?_
        refine VA.take (i := 11) rfl (by kernel_rfl) (by kernel_rfl) (by kernel_rfl) rfl rfl (OpV.nilCheck rfl rfl) ?_
        refine VA.take (i := 12) rfl (by kernel_rfl) (by kernel_rfl) (by kernel_rfl) rfl rfl (OpV.fieldAddrO 1 rfl Tryz.underlying96 rfl rfl Tryz.sizeOf3 rfl) ?_
        refine VA.take (i := 13) rfl (by kernel_rfl) (by kernel_rfl) (by kernel_rfl) rfl rfl (OpV.load_own (i := 0) rfl hB Tryz.isAgg3 rfl rfl (rowL_at rfl (by omega) (by decide)) (by first | exact Wi.not1 (by kernel_rfl) | exact Wi.not2 (by kernel_rfl) (by kernel_rfl) | exact Wi.notX (by kernel_rfl))) ?_
        refine VA.all (rs := [7, 14]) (by kernel_rfl) (by decide) ?_
        refine ⟨⟨_, rfl, .inl rfl, ?_⟩, ⟨_, rfl, .inl rfl, ?_⟩, trivial⟩
        ·
          refine OpE.buildSlice (zc := #[.string ⟨#[]⟩, .string ⟨#[]⟩, .string ⟨#[]⟩, .string ⟨#[]⟩]) rfl hB rfl Tryz.underlying67 Tryz.sizeOf9 Tryz.zeroValue9 (by decide) (by decide) (by kernel_rfl) rfl rfl ?_
          refine VA.all (rs := [8, 14]) (by kernel_rfl) (by decide) ?_
          refine ⟨⟨_, rfl, .inl rfl, ?_⟩, ⟨_, rfl, .inl rfl, ?_⟩, trivial⟩
          ·
            refine OpE.callT' (k + 2 * q + 1 + 1) rfl rfl hB rfl Tryz.call16 rfl (some_T 1000 (by rfl) (by decide) (by decide) (AllS.cons (hok.key m) (AllS.cons (by decide) (AllS.cons (by decide) (AllS.cons (by decide) AllS.nil))))) (by omega) ?_
            rintro _ ⟨r45, hr45, rfl⟩
            refine VA.all (rs := [14]) (by kernel_rfl) (by decide) ?_
            refine ⟨⟨_, rfl, .inl rfl, ?_⟩, trivial⟩
            refine OpE.buildSlice (zc := #[.int .i64 0, .int .i64 0, .int .i64 0, .int .i64 0]) rfl hB rfl Tryz.underlying22 Tryz.sizeOf3 Tryz.zeroValue3 (by decide) (by decide) (by kernel_rfl) rfl rfl ?_
            refine VA.all (rs := [15]) (by kernel_rfl) (by decide) ?_
            refine ⟨⟨_, rfl, .inl rfl, ?_⟩, trivial⟩
            refine OpE.callT' (k + 2 * q + 1 + 1 + 1) rfl rfl hB rfl Tryz.call15 rfl (pick_X (by rfl) (by decide) (by decide) (by repeat (first | exact AllX.nil | refine AllX.cons ?_))) (by omega) ?_
            rintro _ ⟨r52, rfl⟩
            refine VA.take (i := 16) rfl (by kernel_rfl) (by kernel_rfl) (by kernel_rfl) rfl rfl (OpV.nilCheck rfl rfl) ?_
            refine VA.take (i := 17) rfl (by kernel_rfl) (by kernel_rfl) (by kernel_rfl) rfl rfl (OpV.fieldAddrO 0 rfl Tryz.underlying96 rfl rfl Tryz.sizeOf9 rfl) ?_
            refine VA.all (rs := [18]) (by kernel_rfl) (by decide) ?_
            refine ⟨⟨_, rfl, .inl rfl, ?_⟩, trivial⟩
            refine OpE.store1 (i := 0) rfl hB rfl Tryz.sizeOf9 rfl rfl rfl rfl rfl rfl (rowL_in rfl (by omega) (by decide)) (rowL_set (x := (⟨r45, (ns.getD m default).count⟩ : NeedS)) rfl (by omega) (by decide) rfl (ne2_0 rfl)) (by first | exact ⟨rfl, rfl⟩ | exact .inl ⟨rfl, rfl⟩ | exact .inr ⟨rfl, rfl⟩ | exact ⟨rfl, trivial⟩ | exact .inl ⟨rfl, trivial⟩ | exact .inr ⟨rfl, trivial⟩ | exact ⟨by decide, rfl⟩) ?_
            refine VA.take (i := 19) rfl (by kernel_rfl) (by kernel_rfl) (by kernel_rfl) rfl rfl (OpV.nilCheck rfl rfl) ?_
            refine VA.take (i := 20) rfl (by kernel_rfl) (by kernel_rfl) (by kernel_rfl) rfl rfl (OpV.fieldAddrO 1 rfl Tryz.underlying96 rfl rfl Tryz.sizeOf3 rfl) ?_
            refine VA.all (rs := [21]) (by kernel_rfl) (by decide) ?_
            refine ⟨⟨_, rfl, .inl rfl, ?_⟩, trivial⟩
            refine OpE.store1 (i := 0) rfl hB rfl Tryz.sizeOf3 rfl rfl rfl rfl rfl rfl (rowL_in rfl (by rw [List.length_set]; omega) (by decide)) (rowL_set (x := (⟨r45, r52⟩ : NeedS)) rfl (by rw [List.length_set]; omega) (by decide) rfl (ne2_1 (by rw [getD_set_self (by omega)]; rfl))) (by first | exact ⟨rfl, rfl⟩ | exact .inl ⟨rfl, rfl⟩ | exact .inr ⟨rfl, rfl⟩ | exact ⟨rfl, trivial⟩ | exact .inl ⟨rfl, trivial⟩ | exact .inr ⟨rfl, trivial⟩ | exact ⟨by decide, rfl⟩) ?_
            refine VA.done (by kernel_rfl) ?_
            refine VC.sr ?_
            refine VO.mv rfl rfl rfl rfl ?_
            refine VO.ma rfl rfl rfl rfl ?_
            refine VO.nil ?_
            refine VC.le _ (Le.boxT (t := 2) (i := 0) (n := ns.length) hB hnew rfl rfl (by simp) hcap hmx) ?_
            refine VC.ret ?_
            exact Exists.intro _ (And.intro (RetV.one Tryz.results67 (ResV.tmp rfl)) (And.intro (by first | exact ⟨_, ⟨hok.small, hok.1⟩, rfl⟩ | exact ⟨_, ⟨((hok.set m (x := ⟨r45, (ns.getD m default).count⟩) hr45).set m (x := ⟨r45, r52⟩) hr45).small, ((hok.set m (x := ⟨r45, (ns.getD m default).count⟩) hr45).set m (x := ⟨r45, r52⟩) hr45).1⟩, rfl⟩) ((show k + 2 * q + 1 + 1 + 1 + 1 ≤ k + 20 by omega))))
          ·
            refine OpE.buildSlice (zc := #[.int .i64 0, .int .i64 0, .int .i64 0, .int .i64 0]) rfl hB rfl Tryz.underlying22 Tryz.sizeOf3 Tryz.zeroValue3 (by decide) (by decide) (by kernel_rfl) rfl rfl ?_
            refine VA.all (rs := [8]) (by kernel_rfl) (by decide) ?_
            refine ⟨⟨_, rfl, .inl rfl, ?_⟩, trivial⟩
            refine OpE.callT' (k + 2 * q + 1 + 1) rfl rfl hB rfl Tryz.call16 rfl (some_T 1000 (by rfl) (by decide) (by decide) (AllS.cons (hok.key m) (AllS.cons (by decide) (AllS.cons (by decide) (AllS.cons (by decide) AllS.nil))))) (by omega) ?_
            rintro _ ⟨r45, hr45, rfl⟩
            refine VA.all (rs := [15]) (by kernel_rfl) (by decide) ?_
            refine ⟨⟨_, rfl, .inl rfl, ?_⟩, trivial⟩
            refine OpE.callT' (k + 2 * q + 1 + 1 + 1) rfl rfl hB rfl Tryz.call15 rfl (pick_X (by rfl) (by decide) (by decide) (by repeat (first | exact AllX.nil | refine AllX.cons ?_))) (by omega) ?_
            rintro _ ⟨r52, rfl⟩
            refine VA.take (i := 16) rfl (by kernel_rfl) (by kernel_rfl) (by kernel_rfl) rfl rfl (OpV.nilCheck rfl rfl) ?_
            refine VA.take (i := 17) rfl (by kernel_rfl) (by kernel_rfl) (by kernel_rfl) rfl rfl (OpV.fieldAddrO 0 rfl Tryz.underlying96 rfl rfl Tryz.sizeOf9 rfl) ?_
            refine VA.all (rs := [18]) (by kernel_rfl) (by decide) ?_
            refine ⟨⟨_, rfl, .inl rfl, ?_⟩, trivial⟩
            refine OpE.store1 (i := 0) rfl hB rfl Tryz.sizeOf9 rfl rfl rfl rfl rfl rfl (rowL_in rfl (by omega) (by decide)) (rowL_set (x := (⟨r45, (ns.getD m default).count⟩ : NeedS)) rfl (by omega) (by decide) rfl (ne2_0 rfl)) (by first | exact ⟨rfl, rfl⟩ | exact .inl ⟨rfl, rfl⟩ | exact .inr ⟨rfl, rfl⟩ | exact ⟨rfl, trivial⟩ | exact .inl ⟨rfl, trivial⟩ | exact .inr ⟨rfl, trivial⟩ | exact ⟨by decide, rfl⟩) ?_
            refine VA.take (i := 19) rfl (by kernel_rfl) (by kernel_rfl) (by kernel_rfl) rfl rfl (OpV.nilCheck rfl rfl) ?_
            refine VA.take (i := 20) rfl (by kernel_rfl) (by kernel_rfl) (by kernel_rfl) rfl rfl (OpV.fieldAddrO 1 rfl Tryz.underlying96 rfl rfl Tryz.sizeOf3 rfl) ?_
            refine VA.all (rs := [21]) (by kernel_rfl) (by decide) ?_
            refine ⟨⟨_, rfl, .inl rfl, ?_⟩, trivial⟩
            refine OpE.store1 (i := 0) rfl hB rfl Tryz.sizeOf3 rfl rfl rfl rfl rfl rfl (rowL_in rfl (by rw [List.length_set]; omega) (by decide)) (rowL_set (x := (⟨r45, r52⟩ : NeedS)) rfl (by rw [List.length_set]; omega) (by decide) rfl (ne2_1 (by rw [getD_set_self (by omega)]; rfl))) (by first | exact ⟨rfl, rfl⟩ | exact .inl ⟨rfl, rfl⟩ | exact .inr ⟨rfl, rfl⟩ | exact ⟨rfl, trivial⟩ | exact .inl ⟨rfl, trivial⟩ | exact .inr ⟨rfl, trivial⟩ | exact ⟨by decide, rfl⟩) ?_
            refine VA.done (by kernel_rfl) ?_
            refine VC.sr ?_
            refine VO.mv rfl rfl rfl rfl ?_
            refine VO.ma rfl rfl rfl rfl ?_
            refine VO.nil ?_
            refine VC.le _ (Le.boxT (t := 2) (i := 0) (n := ns.length) hB hnew rfl rfl (by simp) hcap hmx) ?_
            refine VC.ret ?_
            exact Exists.intro _ (And.intro (RetV.one Tryz.results67 (ResV.tmp rfl)) (And.intro (by first | exact ⟨_, ⟨hok.small, hok.1⟩, rfl⟩ | exact ⟨_, ⟨((hok.set m (x := ⟨r45, (ns.getD m default).count⟩) hr45).set m (x := ⟨r45, r52⟩) hr45).small, ((hok.set m (x := ⟨r45, (ns.getD m default).count⟩) hr45).set m (x := ⟨r45, r52⟩) hr45).1⟩, rfl⟩) ((show k + 2 * q + 1 + 1 + 1 + 1 ≤ k + 20 by omega))))
        ·
          refine OpE.buildSlice (zc := #[.int .i64 0, .int .i64 0, .int .i64 0, .int .i64 0]) rfl hB rfl Tryz.underlying22 Tryz.sizeOf3 Tryz.zeroValue3 (by decide) (by decide) (by kernel_rfl) rfl rfl ?_
          refine VA.all (rs := [7]) (by kernel_rfl) (by decide) ?_
          refine ⟨⟨_, rfl, .inl rfl, ?_⟩, trivial⟩
          refine OpE.buildSlice (zc := #[.string ⟨#[]⟩, .string ⟨#[]⟩, .string ⟨#[]⟩, .string ⟨#[]⟩]) rfl hB rfl Tryz.underlying67 Tryz.sizeOf9 Tryz.zeroValue9 (by decide) (by decide) (by kernel_rfl) rfl rfl ?_
          refine VA.all (rs := [8]) (by kernel_rfl) (by decide) ?_
          refine ⟨⟨_, rfl, .inl rfl, ?_⟩, trivial⟩
          refine OpE.callT' (k + 2 * q + 1 + 1) rfl rfl hB rfl Tryz.call16 rfl (some_T 1000 (by rfl) (by decide) (by decide) (AllS.cons (hok.key m) (AllS.cons (by decide) (AllS.cons (by decide) (AllS.cons (by decide) AllS.nil))))) (by omega) ?_
          rintro _ ⟨r45, hr45, rfl⟩
          refine VA.all (rs := [15]) (by kernel_rfl) (by decide) ?_
          refine ⟨⟨_, rfl, .inl rfl, ?_⟩, trivial⟩
          refine OpE.callT' (k + 2 * q + 1 + 1 + 1) rfl rfl hB rfl Tryz.call15 rfl (pick_X (by rfl) (by decide) (by decide) (by repeat (first | exact AllX.nil | refine AllX.cons ?_))) (by omega) ?_
          rintro _ ⟨r52, rfl⟩
          refine VA.take (i := 16) rfl (by kernel_rfl) (by kernel_rfl) (by kernel_rfl) rfl rfl (OpV.nilCheck rfl rfl) ?_
          refine VA.take (i := 17) rfl (by kernel_rfl) (by kernel_rfl) (by kernel_rfl) rfl rfl (OpV.fieldAddrO 0 rfl Tryz.underlying96 rfl rfl Tryz.sizeOf9 rfl) ?_
          refine VA.all (rs := [18]) (by kernel_rfl) (by decide) ?_
          refine ⟨⟨_, rfl, .inl rfl, ?_⟩, trivial⟩
          refine OpE.store1 (i := 0) rfl hB rfl Tryz.sizeOf9 rfl rfl rfl rfl rfl rfl (rowL_in rfl (by omega) (by decide)) (rowL_set (x := (⟨r45, (ns.getD m default).count⟩ : NeedS)) rfl (by omega) (by decide) rfl (ne2_0 rfl)) (by first | exact ⟨rfl, rfl⟩ | exact .inl ⟨rfl, rfl⟩ | exact .inr ⟨rfl, rfl⟩ | exact ⟨rfl, trivial⟩ | exact .inl ⟨rfl, trivial⟩ | exact .inr ⟨rfl, trivial⟩ | exact ⟨by decide, rfl⟩) ?_
          refine VA.take (i := 19) rfl (by kernel_rfl) (by kernel_rfl) (by kernel_rfl) rfl rfl (OpV.nilCheck rfl rfl) ?_
          refine VA.take (i := 20) rfl (by kernel_rfl) (by kernel_rfl) (by kernel_rfl) rfl rfl (OpV.fieldAddrO 1 rfl Tryz.underlying96 rfl rfl Tryz.sizeOf3 rfl) ?_
          refine VA.all (rs := [21]) (by kernel_rfl) (by decide) ?_
          refine ⟨⟨_, rfl, .inl rfl, ?_⟩, trivial⟩
          refine OpE.store1 (i := 0) rfl hB rfl Tryz.sizeOf3 rfl rfl rfl rfl rfl rfl (rowL_in rfl (by rw [List.length_set]; omega) (by decide)) (rowL_set (x := (⟨r45, r52⟩ : NeedS)) rfl (by rw [List.length_set]; omega) (by decide) rfl (ne2_1 (by rw [getD_set_self (by omega)]; rfl))) (by first | exact ⟨rfl, rfl⟩ | exact .inl ⟨rfl, rfl⟩ | exact .inr ⟨rfl, rfl⟩ | exact ⟨rfl, trivial⟩ | exact .inl ⟨rfl, trivial⟩ | exact .inr ⟨rfl, trivial⟩ | exact ⟨by decide, rfl⟩) ?_
          refine VA.done (by kernel_rfl) ?_
          refine VC.sr ?_
          refine VO.mv rfl rfl rfl rfl ?_
          refine VO.ma rfl rfl rfl rfl ?_
          refine VO.nil ?_
          refine VC.le _ (Le.boxT (t := 2) (i := 0) (n := ns.length) hB hnew rfl rfl (by simp) hcap hmx) ?_
          refine VC.ret ?_
          exact Exists.intro _ (And.intro (RetV.one Tryz.results67 (ResV.tmp rfl)) (And.intro (by first | exact ⟨_, ⟨hok.small, hok.1⟩, rfl⟩ | exact ⟨_, ⟨((hok.set m (x := ⟨r45, (ns.getD m default).count⟩) hr45).set m (x := ⟨r45, r52⟩) hr45).small, ((hok.set m (x := ⟨r45, (ns.getD m default).count⟩) hr45).set m (x := ⟨r45, r52⟩) hr45).1⟩, rfl⟩) ((show k + 2 * q + 1 + 1 + 1 + 1 ≤ k + 20 by omega))))
      · have aH4 := aH4b
        try simp only [qqT, qqF, qqN, qqM, qqL, qqE] at aH4
        refine VC.skip ?_
        refine VC.sr ?_
        refine VO.mv rfl rfl rfl rfl ?_
        refine VO.ma rfl rfl rfl rfl ?_
        refine VO.nil ?_
        refine VC.le _ (Le.rowT (t := 2) (i := 0) (n := ns.length) (xs := ns) hB hnew rfl rfl rfl) ?_
        refine VC.ret ?_
        exact Exists.intro _ (And.intro (RetV.one Tryz.results67 (ResV.tmp rfl)) (And.intro (by first | exact ⟨_, ⟨hok.small, hok.1⟩, rfl⟩ | exact ⟨_, ⟨((hok.set m (x := ⟨r45, (ns.getD m default).count⟩) hr45).set m (x := ⟨r45, r52⟩) hr45).small, ((hok.set m (x := ⟨r45, (ns.getD m default).count⟩) hr45).set m (x := ⟨r45, r52⟩) hr45).1⟩, rfl⟩) ((show k + 2 * q + 1 ≤ k + 20 by omega))))
    · replace aK3b : _ = false := aK3b
      have aK3 := aK3b
      try simp only [qqT, qqF, qqN, qqM, qqL, qqE] at aK3
      refine VO.opX rfl rfl rfl rfl aK3b ?_
      refine VO.val rfl rfl (OpV.pickF rfl rfl rfl rfl aK3b) ?_
      refine VO.nil ?_
      refine VC.condF rfl rfl ?_
      refine VC.skip ?_
      refine VC.sr ?_
      refine VO.mv rfl rfl rfl rfl ?_
      refine VO.ma rfl rfl rfl rfl ?_
      refine VO.nil ?_
      refine VC.le _ (Le.rowT (t := 2) (i := 0) (n := ns.length) (xs := ns) hB hnew rfl rfl rfl) ?_
      refine VC.ret ?_
      exact Exists.intro _ (And.intro (RetV.one Tryz.results67 (ResV.tmp rfl)) (And.intro (by first | exact ⟨_, ⟨hok.small, hok.1⟩, rfl⟩ | exact ⟨_, ⟨((hok.set m (x := ⟨r45, (ns.getD m default).count⟩) hr45).set m (x := ⟨r45, r52⟩) hr45).small, ((hok.set m (x := ⟨r45, (ns.getD m default).count⟩) hr45).set m (x := ⟨r45, r52⟩) hr45).1⟩, rfl⟩) ((show k + 2 * q ≤ k + 20 by omega))))

end Go.Proofs.YtaaokimiadfidaaGreatDoor
namespace Go.Proofs.YtaaokimiadfidaaGreatDoor
open Go.RowKit
set_option linter.unusedVariables false
set_option linter.unusedSimpArgs false

structure MR where
 key : ByteArray
 each : Int
 fixed : Int
 feeders : Int
 b : Option Addr
 c : Nat
 can : List ByteArray
instance : Inhabited MR := ⟨⟨ByteArray.empty, 0, 0, 0, none, 0, []⟩⟩
def MR.val (m : MR) : Value := .slice m.b m.can.length m.c
instance : Sxc MR where
 k := 5
 pos := by decide
 cell m j := match j with
  | 0 => avS m.key
  | 1 => avI m.each
  | 2 => avI m.fixed
  | 3 => avI m.feeders
  | 4 => .v (.slice m.b m.can.length m.c)
  | _ => .any
def rowM (m : MR) : Ent := .row (.slice m.b m.can.length m.c) m.can.length 1 (strsL m.can) 9
def mkKey (q : Nat) : ByteArray := ⟨#[109]⟩ ++ Utf8.encode (49 + (q : Int))
theorem encode_small (n : Int) : (Utf8.encode n).size ≤ 4 := by
 unfold Utf8.encode
 simp only
 repeat' split
 all_goals simp [ByteArray.size]
theorem permM {m : MR} {e : Ent} {l : List MR} : (rowM m :: e :: l.map rowM).Perm (e :: (l ++ [m]).map rowM) := by
 rw [List.map_append]
 exact (List.Perm.swap e (rowM m) _).trans (List.Perm.cons e (List.perm_append_comm (l₁ := [rowM m]) (l₂ := l.map rowM)))
theorem famAt {e : Ent} {l : List MR} {m : Nat} (h : m < l.length) : (e :: l.map rowM)[m + 1]? = some (rowM (l.getD m default)) := by simp [h]
def toM (m : MR) : Mach := ⟨m.key, m.each, m.fixed, m.feeders, m.can⟩
theorem Rep.im_mono {w : World} {Z : Nat → Prop} {n sz : Nat} {f g : Nat → AV} (h : ∀ j, j < n * sz → ∀ u, Rep w Z (f j) u → Rep w Z (g j) u) {u : Value} (hr : Rep w Z (.im n sz f) u) : Rep w Z (.im n sz g) u := by
 cases hr with
 | nil => exact .nil sz g
 | im n sz f b off cap c e u hZ h1 h2 hb hc hr => exact .im n sz g b off cap c e u hZ h1 h2 hb hc fun j hj => h j hj _ (hr j hj)
theorem fam_avL {w : World} {Z : Nat → Prop} {l : List MR} {u : Value} {n : Nat} (hn : n = l.length) (h : Rep w Z (.im n 5 fun j => (rowL l).getD j .any) u)
  (hc : ∀ q, q < l.length → Rep w Z (avStrs (l.getD q default).can) (.slice (l.getD q default).b (l.getD q default).can.length (l.getD q default).c)) : Rep w Z (avL (l.map toM)) u := by
 subst hn
 have e : avL (l.map toM) = .im l.length 5 (fun j => Sxc.cell ((l.map toM).getD (j / 5) default) (j % 5)) := by
  show AV.im (l.map toM).length 5 _ = _
  rw [List.length_map]
  rfl
 rw [e]
 refine h.im_mono fun j hj u hu => ?_
 have hd : j / 5 < l.length := by omega
 have hm : j % 5 < 5 := by omega
 have e1 := rowL_get l (j / 5) (j % 5) hd hm
 have e2 : j / 5 * Sxc.k MR + j % 5 = j := by show j / 5 * 5 + j % 5 = j; omega
 rw [e2] at e1
 rw [List.getD_eq_getElem?_getD, e1] at hu
 have e3 : (l.map toM).getD (j / 5) default = toM (l.getD (j / 5) default) := by simp [hd]
 rw [e3]
 have hq := hc _ hd
 simp only [Option.getD_some] at hu
 generalize j % 5 = i at hu hm
 match i, hm with
 | 0, _ => exact hu
 | 1, _ => exact hu
 | 2, _ => exact hu
 | 3, _ => exact hu
 | 4, _ =>
  have : u = .slice (l.getD (j / 5) default).b (l.getD (j / 5) default).can.length (l.getD (j / 5) default).c := hu.eq_v
  rw [this]; exact hq
theorem Le.fam {B : Bs} {s : St'} {t n : Nat} {u : Value} {l : List MR} (hB : B.Ok) (hnew : True) (ht : look s.sl t = some (.v u)) (hn : n = l.length)
  (hu : (∃ ty, s.hp[0]? = some (.row u n 5 (rowL l) ty)) ∨ ∃ g cap ty tot, u = .slice (some ⟨g, 0, none⟩) n cap ∧ n ≤ cap ∧ cap ≤ maxLen ∧ s.hp[0]? = some (.box g ⟨rowL l, ty, tot⟩))
  (hrows : ∀ q, q < l.length → s.hp[q + 1]? = some (rowM (l.getD q default))) : Le B s ⟨(t, avL (l.map toM)) :: s.sl, [], s.k⟩ := fun a w hr => by
 have hold : ∀ e ∈ s.hp, ∀ g, e.blk = some g → g < w.heap.size → Zn B [] w g := fun e he g hg hl => ⟨hl, fun p hp => by simp at hp, fun h0 => by
  have h1 := hr.own e he g hg
  exact ⟨.inr (h1.2 h0), fun hs => h1.1 (hB.str g hs).1⟩⟩
 have hZ : ∀ b, Zn B s.hp w b → Zn B [] w b := fun b hb => ⟨hb.1, fun p hp => by simp at hp, hb.2.2⟩
 have hr' : R B ⟨s.sl, [], s.k⟩ a w := hr.drop (fun _ _ h => h) (List.nil_sublist _)
 refine hr'.over t ?_
 rw [(hr.slots t _ ht).eq_v]
 refine fam_avL hn ?_ fun q hq => ?_
 ·rcases hu with ⟨ty, hi⟩ | ⟨g, cap, ty, tot, rfl, h1, h2, hi⟩
  ·exact hr.repRow hi hZ fun g hg hl => hold _ (List.mem_of_getElem? hi) g hg hl
  ·have := hr.repBox (off := 0) (n := n) (sz := 5) (cap := cap) hi (by show 0 + n * 5 ≤ (rowL l).length; rw [rowL_len, hn]; show 0 + l.length * 5 ≤ l.length * 5; omega) h1 h2 hZ (hold _ (List.mem_of_getElem? hi) g rfl)
   exact this.im_congr fun j hj => by rw [Nat.zero_add]
 ·have hi := hrows q hq
  exact Rep.strs rfl (hr.repRow hi hZ fun g hg hl => hold _ (List.mem_of_getElem? hi) g hg hl)
def MRok (x : MR) : Prop := x.key.size ≤ 1000 ∧ x.can.length ≤ 5 ∧ ∀ y ∈ x.can, y.size ≤ 1000
theorem MRok.getD {l : List MR} (h : ∀ x ∈ l, MRok x) {m : Nat} (hm : m < l.length) : MRok (l.getD m default) := by
 have := h _ (List.getElem_mem hm)
 simpa [hm] using this
theorem famAt' {e : Ent} {L : List Ent} {l : List MR} {q : Nat} (h : l.map rowM = L) (hq : q < l.length) : (e :: L)[q + 1]? = some (rowM (l.getD q default)) := by subst h; exact famAt hq
theorem famSet {l : List MR} {m : Nat} {x : MR} (hm : m < l.length) (hx : rowM x = rowM (l.getD m default)) : (l.set m x).map rowM = l.map rowM := by
 rw [List.map_set, hx]
 apply List.ext_getElem (by simp)
 intro i h1 h2
 rw [List.getElem_set]
 split
 ·rename_i e; subst e; simp [hm]
 ·rfl
theorem MRok.small {l : List MR} (hl : l.length ≤ 100) (h : ∀ x ∈ l, x.key.size ≤ 1000 ∧ x.can.length ≤ 6 ∧ ∀ y ∈ x.can, y.size ≤ 1000) : SmallM (l.map toM) := by
 have key : ∀ i, ((l.map toM).getD i default).key.size ≤ 1000 ∧ ((l.map toM).getD i default).can.length ≤ 6 ∧ ∀ y ∈ ((l.map toM).getD i default).can, y.size ≤ 1000 := fun i => by
  by_cases hi : i < l.length
  ·have := h _ (List.getElem_mem hi)
   simpa [hi, toM] using this
  ·have : (l.map toM).getD i default = default := by simp [List.getD_eq_getElem?_getD, hi]
   rw [this]
   exact ⟨by decide, by decide, fun y hy => by cases hy⟩
 refine ⟨by rw [List.length_map]; omega, fun i => by have := (key i).1; omega, fun i => by have := (key i).2.1; omega, fun i j => ?_⟩
 by_cases hj : j < ((l.map toM).getD i default).can.length
 ·have := (key i).2.2 _ (List.getElem_mem hj)
  rw [List.getD_eq_getElem?_getD, List.getElem?_eq_getElem hj]
  simp only [Option.getD_some]
  omega
 ·rw [List.getD_eq_getElem?_getD, List.getElem?_eq_none (by omega)]
  decide
theorem MRok.six {x : MR} (h : MRok x) : x.key.size ≤ 1000 ∧ x.can.length ≤ 6 ∧ ∀ y ∈ x.can, y.size ≤ 1000 := ⟨h.1, by have := h.2.1; omega, h.2.2⟩
theorem MRok.set {l : List MR} (h : ∀ x ∈ l, MRok x) {m : Nat} {x : MR} (hx : x.key.size ≤ 1000 ∧ x.can.length ≤ 6 ∧ ∀ y ∈ x.can, y.size ≤ 1000) : ∀ y ∈ l.set m x, y.key.size ≤ 1000 ∧ y.can.length ≤ 6 ∧ ∀ z ∈ y.can, z.size ≤ 1000 := fun y hy => by
 rcases List.mem_or_eq_of_mem_set hy with h' | rfl
 ·exact (h y h').six
 ·exact hx
set_option maxRecDepth 100000 in
theorem machines_T {p : Nat} {L : List Int}  :
    SpecT Tryz.prog (TT p L) (fun b => b = p) 66 [sp p] 60 (fun y => ∃ ms : List Mach, (SmallM ms ∧ 0 < ms.length ∧ ms.length ≤ 100) ∧ y = avL ms) := by
  refine SpecT.of_VC Tryz.func66 rfl Tryz.ntmps66 (Nle rfl) (low := (fun b => b ≤ p)) (fun w A k h => h.ok) fun w A k hk hB => ?_
  have hnew : True := trivial
  refine VC.sr ?_
  refine VO.ma rfl rfl rfl rfl ?_
  refine VO.nil ?_
  refine VC.sr ?_
  refine VO.ma rfl rfl rfl rfl ?_
  refine VO.nil ?_
  refine VC.seq ?_
  refine VC.sr ?_
  refine VO.mv rfl rfl rfl rfl ?_
  refine VO.op rfl (OpE.callT' (k) rfl rfl hB rfl Tryz.call14 rfl ((range_T (by omega) (by omega) (by omega))) (by omega) ?_)
  rintro _ ⟨r10, hr10, rfl⟩
  refine VO.mv rfl rfl rfl rfl ?_
  refine VO.nil ?_
  refine VC.block ?_
  refine VC.le _ (Le.nilRow 5 128) ?_
  obtain ⟨n, rfl⟩ : ∃ m : Nat, r10 = m := ⟨r10.toNat, by omega⟩
  refine VC.loopK [] trivial ({t : Value × List MR × Nat // t.2.2 ≤ n ∧ t.2.1.length = t.2.2 ∧ ∀ x ∈ t.2.1, MRok x}) (fun (iZ : {t : Value × List MR × Nat // t.2.2 ≤ n ∧ t.2.1.length = t.2.2 ∧ ∀ x ∈ t.2.1, MRok x}) => match iZ with | ⟨⟨uo, l, q⟩, hq, hl, hok⟩ => [(0, sp p), (3, .v uo), (10, avI (n : Int)), (11, avI (q : Int))]) (fun (iZ : {t : Value × List MR × Nat // t.2.2 ≤ n ∧ t.2.1.length = t.2.2 ∧ ∀ x ∈ t.2.1, MRok x}) => match iZ with | ⟨⟨uo, l, q⟩, hq, hl, hok⟩ => (.row uo l.length 5 (rowL l) 128 :: l.map rowM)) (fun (iZ : {t : Value × List MR × Nat // t.2.2 ≤ n ∧ t.2.1.length = t.2.2 ∧ ∀ x ∈ t.2.1, MRok x}) => match iZ with | ⟨⟨uo, l, q⟩, hq, hl, hok⟩ => k + 1 + 8 * q) (fun (iZ : {t : Value × List MR × Nat // t.2.2 ≤ n ∧ t.2.1.length = t.2.2 ∧ ∀ x ∈ t.2.1, MRok x}) => match iZ with | ⟨⟨uo, l, q⟩, hq, hl, hok⟩ => n - q) ⟨(.slice none 0 0, [], 0), Nat.zero_le _, rfl, fun x h => by simp at h⟩ (Le.mkP hB ⟨rfl, rfl, rfl, rfl, trivial⟩ (List.Sublist.refl _) (List.Perm.refl _) (show k + 1 ≤ k + 1 + 8 * 0 by omega)) ?_
  rintro ⟨⟨uo, l, q⟩, hq, hl, hok⟩
  show VC _ _ _ _ ⟨[(0, sp p), (3, .v uo), (10, avI (n : Int)), (11, avI (q : Int))] ++ [], (.row uo l.length 5 (rowL l) 128 :: l.map rowM), k + 1 + 8 * q⟩
  simp only at hq hl hok
  refine VC.sr ?_
  refine VO.val rfl rfl (OpV.lss rfl rfl rfl) ?_
  refine VO.nil ?_
  refine VC.seq ?_
  refine VC.cond rfl (fun aH1b => ?_) (fun aH1b => ?_)
  · have aH1 := aH1b
    try simp only [qqT, qqF, qqN, qqM, qqL, qqE] at aH1
    refine VC.skip ?_
    refine VC.seq ?_
    refine VC.block ?_
    refine VC.sr ?_
    refine VO.mv rfl rfl rfl rfl ?_
    refine VO.ma rfl rfl rfl rfl ?_
    refine VO.nil ?_
    refine VC.sr ?_
    refine VO.mv rfl rfl rfl rfl ?_
    refine VO.val rfl rfl (OpV.add rfl rfl rfl (by unfold fits; omega)) ?_
    refine VO.val rfl rfl (OpV.conv rfl Tryz.underlying3 Tryz.underlying21 rfl (IntWalk.i32_in _ (by omega))) ?_
    refine VO.val rfl rfl (OpV.convStr rfl Tryz.underlying21 Tryz.underlying9 rfl) ?_
    refine VO.val rfl rfl (OpV.sadd rfl rfl rfl (by have := encode_small (49 + (q : Int)); have h1 : (⟨#[109]⟩ : ByteArray).size = 1 := rfl; omega)) ?_
    refine VO.mv rfl rfl rfl rfl ?_
    refine VO.op rfl (OpE.buildSlice (zc := #[.int .i64 0, .int .i64 0, .int .i64 0, .int .i64 0]) rfl hB rfl Tryz.underlying22 Tryz.sizeOf3 Tryz.zeroValue3 (by decide) (by decide) (by kernel_rfl) rfl rfl ?_)
    refine VO.op rfl (OpE.callT' (k + 1 + 8 * q) rfl rfl hB rfl Tryz.call15 rfl (pick_X (by rfl) (by decide) (by decide) (by repeat (first | exact AllX.nil | refine AllX.cons ?_))) (by omega) ?_)
    rintro _ ⟨r21, rfl⟩
    refine VO.mv rfl rfl rfl rfl ?_
    refine VO.op rfl (OpE.buildSlice (zc := #[.int .i64 0, .int .i64 0, .int .i64 0, .int .i64 0]) rfl hB rfl Tryz.underlying22 Tryz.sizeOf3 Tryz.zeroValue3 (by decide) (by decide) (by kernel_rfl) rfl rfl ?_)
    refine VO.op rfl (OpE.callT' (k + 1 + 8 * q + 1) rfl rfl hB rfl Tryz.call15 rfl (pick_X (by rfl) (by decide) (by decide) (by repeat (first | exact AllX.nil | refine AllX.cons ?_))) (by omega) ?_)
    rintro _ ⟨r24, rfl⟩
    refine VO.mv rfl rfl rfl rfl ?_
    refine VO.op rfl (OpE.buildSlice (zc := #[.int .i64 0, .int .i64 0, .int .i64 0, .int .i64 0]) rfl hB rfl Tryz.underlying22 Tryz.sizeOf3 Tryz.zeroValue3 (by decide) (by decide) (by kernel_rfl) rfl rfl ?_)
    refine VO.op rfl (OpE.callT' (k + 1 + 8 * q + 1 + 1) rfl rfl hB rfl Tryz.call15 rfl (pick_X (by rfl) (by decide) (by decide) (by repeat (first | exact AllX.nil | refine AllX.cons ?_))) (by omega) ?_)
    rintro _ ⟨r27, rfl⟩
    refine VO.val rfl rfl (OpV.build (pls := #[(0, 1), (1, 1), (2, 1), (3, 1), (4, 1)]) rfl Tryz.zeroValue128 Tryz.underlying128 (fun w => by kernel_rfl) rfl rfl) ?_
    refine VO.op rfl (OpE.alloc rfl hB rfl Tryz.zeroValue128 rfl ?_)
    intro g5
    refine VO.le _ (Le.front rfl) ?_
    refine VO.op rfl (OpE.store (i := 0) rfl hB rfl Tryz.sizeOf128 rfl rfl rfl rfl rfl rfl (Nle rfl) trivial ?_)
    refine VO.nil ?_
    refine VC.seq ?_
    refine VC.sr ?_
    refine VO.op rfl (OpE.buildSlice (zc := #[.string ⟨#[]⟩, .string ⟨#[]⟩, .string ⟨#[]⟩, .string ⟨#[]⟩, .string ⟨#[]⟩]) rfl hB rfl Tryz.underlying67 Tryz.sizeOf9 Tryz.zeroValue9 (by decide) (by decide) (by kernel_rfl) rfl rfl ?_)
    refine VO.le _ (Le.recast (t := 29) (y := avStrs keys5) rfl (fun w Z u h => Rep.strs (xs := keys5) rfl h)) ?_
    refine VO.val rfl rfl (OpV.len_im rfl Tryz.underlying67 rfl) ?_
    refine VO.mv rfl rfl rfl rfl ?_
    refine VO.nil ?_
    refine VC.block ?_
    refine VC.le _ (Le.nilRow 1 9) ?_
    refine VC.le _ (Le.front rfl) ?_
    refine VC.loopK [] trivial ({t : Option Addr × Nat × List ByteArray × Nat // t.2.2.2 ≤ 5 ∧ t.2.2.1.length ≤ t.2.2.2 ∧ ∀ x ∈ t.2.2.1, x.size ≤ 1000}) (fun (iZ : {t : Option Addr × Nat × List ByteArray × Nat // t.2.2.2 ≤ 5 ∧ t.2.2.1.length ≤ t.2.2.2 ∧ ∀ x ∈ t.2.2.1, x.size ≤ 1000}) => match iZ with | ⟨⟨b, c, can, r⟩, hr, hcl, hcs⟩ => [(0, sp p), (3, .v uo), (5, .v (.pointer (some ⟨g5, 0, none⟩))), (10, avI (n : Int)), (11, avI (q : Int)), (29, avStrs keys5), (30, avI 5), (31, avI (r : Int))]) (fun (iZ : {t : Option Addr × Nat × List ByteArray × Nat // t.2.2.2 ≤ 5 ∧ t.2.2.1.length ≤ t.2.2.2 ∧ ∀ x ∈ t.2.2.1, x.size ≤ 1000}) => match iZ with | ⟨⟨b, c, can, r⟩, hr, hcl, hcs⟩ => (.row (.slice b can.length c) can.length 1 (strsL can) 9 :: .box g5 ⟨[avS (mkKey q), avI r21, avI r24, avI r27, .v (.slice b can.length c)], 128, 5⟩ :: .row uo l.length 5 (rowL l) 128 :: l.map rowM)) (fun (iZ : {t : Option Addr × Nat × List ByteArray × Nat // t.2.2.2 ≤ 5 ∧ t.2.2.1.length ≤ t.2.2.2 ∧ ∀ x ∈ t.2.2.1, x.size ≤ 1000}) => match iZ with | ⟨⟨b, c, can, r⟩, hr, hcl, hcs⟩ => k + 1 + 8 * q + 3 + r) (fun (iZ : {t : Option Addr × Nat × List ByteArray × Nat // t.2.2.2 ≤ 5 ∧ t.2.2.1.length ≤ t.2.2.2 ∧ ∀ x ∈ t.2.2.1, x.size ≤ 1000}) => match iZ with | ⟨⟨b, c, can, r⟩, hr, hcl, hcs⟩ => 5 - r) ⟨(none, 0, [], 0), by decide, by decide, fun x h => by simp at h⟩ (Le.mkP hB ⟨rfl, rfl, rfl, rfl, rfl, rfl, rfl, rfl, trivial⟩ (List.Sublist.refl _) (List.Perm.refl _) (show k + 1 + 8 * q + 1 + 1 + 1 ≤ k + 1 + 8 * q + 3 + 0 by omega)) ?_
    rintro ⟨⟨b, c, can, r⟩, hr, hcl, hcs⟩
    show VC _ _ _ _ ⟨[(0, sp p), (3, .v uo), (5, .v (.pointer (some ⟨g5, 0, none⟩))), (10, avI (n : Int)), (11, avI (q : Int)), (29, avStrs keys5), (30, avI 5), (31, avI (r : Int))] ++ [], (.row (.slice b can.length c) can.length 1 (strsL can) 9 :: .box g5 ⟨[avS (mkKey q), avI r21, avI r24, avI r27, .v (.slice b can.length c)], 128, 5⟩ :: .row uo l.length 5 (rowL l) 128 :: l.map rowM), k + 1 + 8 * q + 3 + r⟩
    simp only at hr hcl hcs
    refine VC.sr ?_
    refine VO.val rfl rfl (OpV.lss rfl rfl rfl) ?_
    refine VO.nil ?_
    refine VC.seq ?_
    refine VC.cond rfl (fun aH2b => ?_) (fun aH2b => ?_)
    · have aH2 := aH2b
      try simp only [qqT, qqF, qqN, qqM, qqL, qqE] at aH2
      refine VC.skip ?_
      refine VC.seq ?_
      refine VC.block ?_
      refine VC.sr ?_
      refine VO.val rfl rfl (OpV.indexAddr_1 rfl Tryz.underlying67 Tryz.sizeOf9 rfl rfl rfl (by show _ < 5; omega)) ?_
      refine VO.val rfl rfl (OpV.load_at rfl hB OutW.no Tryz.isAgg9 rfl rfl) ?_
      refine VO.ma rfl rfl rfl rfl ?_
      refine VO.nil ?_
      refine VC.sr ?_
      refine VO.mv rfl rfl rfl rfl ?_
      refine VO.op rfl (OpE.callT' (k + 1 + 8 * q + 3 + r) rfl rfl hB rfl Tryz.call17 rfl ((flip_T (by omega))) (by omega) ?_)
      rintro _ ⟨r36, rfl⟩
      refine VO.val rfl rfl (OpV.not rfl rfl) ?_
      refine VO.nil ?_
      refine VC.cond rfl (fun aH3b => ?_) (fun aH3b => ?_)
      · have aH3 := aH3b
        try simp only [qqT, qqF, qqN, qqM, qqL, qqE] at aH3
        refine VC.region ?_
        refine VO.val rfl rfl (OpV.fieldAddrO 4 rfl Tryz.underlying128 rfl rfl Tryz.sizeOf67 rfl) ?_
        refine VO.val rfl rfl (OpV.load_own (i := 1) rfl hB Tryz.isAgg67 rfl rfl rfl (fun h => h)) ?_
        refine VO.mv rfl rfl rfl rfl ?_
        refine VO.op rfl (OpE.buildSlice (zc := #[.string ⟨#[]⟩]) rfl hB rfl Tryz.underlying67 Tryz.sizeOf9 Tryz.zeroValue9 (by decide) (by decide) (by kernel_rfl) rfl rfl ?_)
        refine VO.op rfl (OpE.append1S (i := 0) rfl hB rfl Tryz.underlying67 (infoOf Tryz.t9 1 (by kernel_rfl) rfl rfl) rfl (by decide) (by decide) rfl rfl rfl rfl (strsL_snoc _ _) (by omega) (fun _ _ => trivial) ?_)
        intro b2 c2
        refine VO.val rfl rfl (OpV.fieldAddrO 4 rfl Tryz.underlying128 rfl rfl Tryz.sizeOf67 rfl) ?_
        refine VO.op rfl (OpE.store (i := 1) rfl hB rfl Tryz.sizeOf67 rfl rfl rfl rfl rfl rfl (Nle rfl) trivial ?_)
        refine VO.nil ?_
        refine VC.region ?_
        refine VO.val rfl rfl (OpV.add rfl rfl rfl (by unfold fits; omega)) ?_
        refine VO.mv rfl rfl rfl rfl ?_
        refine VO.nil ?_
        exact Exists.intro (⟨(b2, c2, can ++ [keys5.getD r ByteArray.empty], r + 1), by show r + 1 ≤ 5; omega, by show (can ++ [_]).length ≤ r + 1; simp; omega, fun x hx => by rcases List.mem_append.1 hx with hx | hx; exact hcs x hx; (simp at hx; subst hx; exact keys5_size _)⟩) (And.intro (Le.mkP hB ⟨rfl, rfl, rfl, rfl, rfl, rfl, rfl, rfl, trivial⟩ (List.Sublist.refl _) (by dsimp only; first | exact List.Perm.refl _ | (rw [List.length_append]; exact List.Perm.refl _)) (show k + 1 + 8 * q + 3 + r + 1 ≤ k + 1 + 8 * q + 3 + (r + 1) by omega)) (by first | omega | (show _ < _; omega) | (simp only []; omega)))
      · have aH3 := aH3b
        try simp only [qqT, qqF, qqN, qqM, qqL, qqE] at aH3
        refine VC.skip ?_
        refine VC.region ?_
        refine VO.val rfl rfl (OpV.add rfl rfl rfl (by unfold fits; omega)) ?_
        refine VO.mv rfl rfl rfl rfl ?_
        refine VO.nil ?_
        exact Exists.intro (⟨(b, c, can, r + 1), by show r + 1 ≤ 5; omega, by show can.length ≤ r + 1; omega, hcs⟩) (And.intro (Le.mkP hB ⟨rfl, rfl, rfl, rfl, rfl, rfl, rfl, rfl, trivial⟩ (List.Sublist.refl _) (by dsimp only; first | exact List.Perm.refl _ | (rw [List.length_append]; exact List.Perm.refl _)) (show k + 1 + 8 * q + 3 + r + 1 ≤ k + 1 + 8 * q + 3 + (r + 1) by omega)) (by first | omega | (show _ < _; omega) | (simp only []; omega)))
    · have aH2 := aH2b
      try simp only [qqT, qqF, qqN, qqM, qqL, qqE] at aH2
      refine VC.exit ?_
      refine VC.region ?_
      refine VO.mv rfl rfl rfl rfl ?_
      refine VO.val rfl rfl (OpV.loadK_own (i := 1) rfl hB Tryz.isAgg128 Tryz.sizeOf128 rfl rfl rfl (fun h => h)) ?_
      refine VO.op rfl (OpE.buildSlice (zc := #[.string ⟨#[]⟩, .int .i64 0, .int .i64 0, .int .i64 0, .slice none 0 0]) rfl hB rfl Tryz.underlying102 Tryz.sizeOf128 Tryz.zeroValue128 (by decide) (by decide) (by kernel_rfl) rfl rfl ?_)
      refine VO.op rfl (OpE.append1 (i := 2) rfl hB rfl Tryz.underlying102 (infoOf Tryz.t128 5 (by kernel_rfl) rfl rfl) rfl (by decide) (by decide) rfl rfl rfl rfl (rowL_snoc l (⟨mkKey q, r21, r24, r27, b, c, can⟩ : MR)) (by omega) (fun _ _ => trivial) ?_)
      intro uo2
      refine VO.ma rfl rfl rfl rfl ?_
      refine VO.nil ?_
      refine VC.region ?_
      refine VO.val rfl rfl (OpV.add rfl rfl rfl (by unfold fits; omega)) ?_
      refine VO.mv rfl rfl rfl rfl ?_
      refine VO.nil ?_
      exact Exists.intro (⟨(uo2, l ++ [⟨mkKey q, r21, r24, r27, b, c, can⟩], q + 1), by show q + 1 ≤ n; omega, by show (l ++ [_]).length = q + 1; simp; omega, fun x hx => by rcases List.mem_append.1 hx with hx | hx; exact hok x hx; (simp at hx; subst hx; exact ⟨by have := encode_small (49 + (q : Int)); show (⟨#[109]⟩ ++ Utf8.encode (49 + (q : Int)) : ByteArray).size ≤ 1000; rw [ByteArray.size_append]; have h1 : (⟨#[109]⟩ : ByteArray).size = 1 := rfl; omega, by show can.length ≤ 5; omega, hcs⟩)⟩) (And.intro (Le.mkP hB ⟨rfl, rfl, rfl, rfl, trivial⟩ (hp1 := rowM ⟨mkKey q, r21, r24, r27, b, c, can⟩ :: .row uo2 (l.length + 1) 5 (rowL (l ++ [⟨mkKey q, r21, r24, r27, b, c, can⟩])) 128 :: l.map rowM) (List.Sublist.cons_cons _ (List.Sublist.cons _ (List.Sublist.refl _))) (by dsimp only; rw [List.length_append]; exact permM) (show k + 1 + 8 * q + 3 + r ≤ k + 1 + 8 * (q + 1) by omega)) (by first | omega | (show _ < _; omega) | (simp only []; omega)))
  · have aH1 := aH1b
    try simp only [qqT, qqF, qqN, qqM, qqL, qqE] at aH1
    refine VC.exit ?_
    refine VC.seq ?_
    refine VC.sr ?_
    refine VO.mv rfl rfl rfl rfl ?_
    refine VO.op rfl (OpE.callT' (k + 1 + 8 * q) rfl rfl hB rfl Tryz.call17 rfl ((flip_T (by omega))) (by omega) ?_)
    rintro _ ⟨r51, rfl⟩
    refine VO.nil ?_
    refine VC.cond rfl (fun aH4b => ?_) (fun aH4b => ?_)
    · have aH4 := aH4b
      try simp only [qqT, qqF, qqN, qqM, qqL, qqE] at aH4
      refine VC.seq ?_
      refine VC.asBox (i := 0) rfl (by omega) (fun g cap hu hcap hmx => ?_)
      subst hu
      refine VC.region ?_
      refine VO.mv rfl rfl rfl rfl ?_
      refine VO.mv rfl rfl rfl rfl ?_
      refine VO.mv rfl rfl rfl rfl ?_
      refine VO.val rfl rfl (OpV.len_v rfl Tryz.underlying102 rfl) ?_
      refine VO.op rfl (OpE.callT' (k + 1 + 8 * q + 1) rfl rfl hB rfl Tryz.call103 rfl ((next_T (by omega))) (by omega) ?_)
      rintro _ ⟨r56, hr56, rfl⟩
      obtain ⟨m, rfl⟩ : ∃ m : Nat, r56 = m := ⟨r56.toNat, by omega⟩
      refine VO.val rfl rfl (OpV.indexAddr_q rfl Tryz.underlying102 Tryz.sizeOf128 rfl rfl rfl (by omega)) ?_
      refine VO.ma rfl rfl rfl rfl ?_
      refine VO.nil ?_
      refine VC.sr ?_
      refine VO.mv rfl rfl rfl rfl ?_
      refine VO.op rfl (OpE.callT' (k + 1 + 8 * q + 1 + 1) rfl rfl hB rfl Tryz.call103 rfl ((next_T (by omega))) (by omega) ?_)
      rintro _ ⟨r59, hr59, rfl⟩
      refine VO.nil ?_
      refine VC.block ?_
      refine VC.sr ?_
      refine VO.val rfl rfl (OpV.eql rfl rfl rfl) ?_
      refine VO.ma rfl rfl rfl rfl ?_
      refine VO.nil ?_
      refine VC.cond rfl (fun aH5b => ?_) (fun aH5b => ?_)
      · have aH5 := aH5b
        try simp only [qqT, qqF, qqN, qqM, qqL, qqE] at aH5
        refine VC.draw (fun j b => (j = 14 ∧ b = g) ∨ (j = 17 ∧ b = g)) hB (by kernel_rfl) ?_
        refine VA.take (i := 0) rfl (by kernel_rfl) (by kernel_rfl) (by kernel_rfl) rfl rfl (OpV.move (.inl rfl) rfl) ?_
        refine VA.take (i := 1) rfl (by kernel_rfl) (by kernel_rfl) (by kernel_rfl) rfl rfl (OpV.move (.inl rfl) rfl) ?_
        refine VA.take (i := 2) rfl (by kernel_rfl) (by kernel_rfl) (by kernel_rfl) rfl rfl (OpV.move (.inl rfl) rfl) ?_
        refine VA.take (i := 5) rfl (by kernel_rfl) (by kernel_rfl) (by kernel_rfl) rfl rfl (OpV.move (.inl rfl) rfl) ?_
        refine VA.take (i := 6) rfl (by kernel_rfl) (by kernel_rfl) (by kernel_rfl) rfl rfl (OpV.move (.inl rfl) rfl) ?_
        refine VA.take (i := 7) rfl (by kernel_rfl) (by kernel_rfl) (by kernel_rfl) rfl rfl (OpV.nilCheck rfl rfl) ?_
        refine VA.take (i := 8) rfl (by kernel_rfl) (by kernel_rfl) (by kernel_rfl) rfl rfl (OpV.fieldAddrO 3 rfl Tryz.underlying128 rfl rfl Tryz.sizeOf3 rfl) ?_
        refine VA.take (i := 9) rfl (by kernel_rfl) (by kernel_rfl) (by kernel_rfl) rfl rfl (OpV.load_own (i := 0) rfl hB Tryz.isAgg3 rfl rfl (rowL_at rfl (by omega) (by decide)) (by first | exact Wi.not1 (by kernel_rfl) | exact Wi.not2 (by kernel_rfl) (by kernel_rfl) | exact Wi.notX (by kernel_rfl))) ?_
        refine VA.all (rs := [3, 10]) (by kernel_rfl) (by decide) ?_
        refine ⟨⟨_, rfl, .inl rfl, ?_⟩, ⟨_, rfl, .inl rfl, ?_⟩, trivial⟩
        ·
          refine OpE.buildSlice (zc := #[.string ⟨#[]⟩, .string ⟨#[]⟩, .string ⟨#[]⟩]) rfl hB rfl Tryz.underlying67 Tryz.sizeOf9 Tryz.zeroValue9 (by decide) (by decide) (by kernel_rfl) rfl rfl ?_
          refine VA.all (rs := [4, 10]) (by kernel_rfl) (by decide) ?_
          refine ⟨⟨_, rfl, .inl rfl, ?_⟩, ⟨_, rfl, .inl rfl, ?_⟩, trivial⟩
          ·
            refine OpE.callT' (k + 1 + 8 * q + 1 + 1 + 1) rfl rfl hB rfl Tryz.call16 rfl (some_T 1000 (by rfl) (by decide) (by decide) (by repeat (first | exact AllS.nil | refine AllS.cons (by decide) ?_))) (by omega) ?_
            rintro _ ⟨r78, hr78, rfl⟩
            refine VA.all (rs := [10]) (by kernel_rfl) (by decide) ?_
            refine ⟨⟨_, rfl, .inl rfl, ?_⟩, trivial⟩
            refine OpE.buildSlice (zc := #[.int .i64 0, .int .i64 0, .int .i64 0]) rfl hB rfl Tryz.underlying22 Tryz.sizeOf3 Tryz.zeroValue3 (by decide) (by decide) (by kernel_rfl) rfl rfl ?_
            refine VA.all (rs := [11]) (by kernel_rfl) (by decide) ?_
            refine ⟨⟨_, rfl, .inl rfl, ?_⟩, trivial⟩
            refine OpE.callT' (k + 1 + 8 * q + 1 + 1 + 1 + 1) rfl rfl hB rfl Tryz.call15 rfl (pick_X (by rfl) (by decide) (by decide) (by repeat (first | exact AllX.nil | refine AllX.cons ?_))) (by omega) ?_
            rintro _ ⟨r85, rfl⟩
            refine VA.take (i := 12) rfl (by kernel_rfl) (by kernel_rfl) (by kernel_rfl) rfl rfl (OpV.nilCheck rfl rfl) ?_
            refine VA.take (i := 13) rfl (by kernel_rfl) (by kernel_rfl) (by kernel_rfl) rfl rfl (OpV.fieldAddrO 0 rfl Tryz.underlying128 rfl rfl Tryz.sizeOf9 rfl) ?_
            refine VA.all (rs := [14]) (by kernel_rfl) (by decide) ?_
            refine ⟨⟨_, rfl, .inl rfl, ?_⟩, trivial⟩
            refine OpE.store1 (i := 0) rfl hB rfl Tryz.sizeOf9 rfl rfl rfl rfl rfl rfl (rowL_in rfl (by omega) (by decide)) (rowL_set (x := ({l.getD m default with key := r78} : MR)) rfl (by omega) (by decide) rfl (ne5_0 rfl rfl rfl rfl)) (by first | exact ⟨rfl, rfl⟩ | exact .inl ⟨rfl, rfl⟩ | exact .inr ⟨rfl, rfl⟩ | exact ⟨rfl, trivial⟩ | exact .inl ⟨rfl, trivial⟩ | exact .inr ⟨rfl, trivial⟩ | exact ⟨by decide, rfl⟩) ?_
            refine VA.take (i := 15) rfl (by kernel_rfl) (by kernel_rfl) (by kernel_rfl) rfl rfl (OpV.nilCheck rfl rfl) ?_
            refine VA.take (i := 16) rfl (by kernel_rfl) (by kernel_rfl) (by kernel_rfl) rfl rfl (OpV.fieldAddrO 3 rfl Tryz.underlying128 rfl rfl Tryz.sizeOf3 rfl) ?_
            refine VA.all (rs := [17]) (by kernel_rfl) (by decide) ?_
            refine ⟨⟨_, rfl, .inl rfl, ?_⟩, trivial⟩
            refine OpE.store1 (i := 0) rfl hB rfl Tryz.sizeOf3 rfl rfl rfl rfl rfl rfl (rowL_in rfl (by rw [List.length_set]; omega) (by decide)) (rowL_set (x := ({l.getD m default with key := r78, feeders := r85} : MR)) rfl (by rw [List.length_set]; omega) (by decide) rfl (by rw [getD_set_self (by omega)]; exact ne5_3 rfl rfl rfl rfl)) (by first | exact ⟨rfl, rfl⟩ | exact .inl ⟨rfl, rfl⟩ | exact .inr ⟨rfl, rfl⟩ | exact ⟨rfl, trivial⟩ | exact .inl ⟨rfl, trivial⟩ | exact .inr ⟨rfl, trivial⟩ | exact ⟨by decide, rfl⟩) ?_
            refine VA.done (by kernel_rfl) ?_
            refine VC.sr ?_
            refine VO.mv rfl rfl rfl rfl ?_
            refine VO.ma rfl rfl rfl rfl ?_
            refine VO.nil ?_
            refine VC.le _ (Le.fam (t := 2) (l := (l.set m {l.getD m default with key := r78}).set m {l.getD m default with key := r78, feeders := r85}) hB hnew rfl (by simp) (.inr ⟨_, _, _, _, rfl, hcap, hmx, rfl⟩) (fun q hq => famAt' ((famSet (by rw [List.length_set]; omega) (by rw [getD_set_self (by omega)]; rfl)).trans (famSet (by omega) rfl)) hq)) ?_
            refine VC.ret ?_
            exact Exists.intro _ (And.intro (RetV.one Tryz.results66 (ResV.tmp rfl)) (And.intro (by first | exact ⟨_, ⟨MRok.small (by omega) (fun x hx => (hok x hx).six), by rw [List.length_map]; omega, by rw [List.length_map]; omega⟩, rfl⟩ | exact ⟨_, ⟨MRok.small (by simp; omega) (by rw [List.set_set]; exact MRok.set hok ⟨hr78, (MRok.getD hok (m := m) (by omega)).six.2⟩), by simp; omega, by simp; omega⟩, rfl⟩ | exact ⟨_, ⟨MRok.small (by simp; omega) (by rw [List.set_set]; exact MRok.set hok ⟨(MRok.getD hok (m := m) (by omega)).1, (MRok.getD hok (m := m) (by omega)).six.2⟩), by simp; omega, by simp; omega⟩, rfl⟩ | exact ⟨(l.set m {l.getD m default with b := b3, c := c3, can := (l.getD m default).can ++ [r67]}).map toM, ⟨MRok.small (by simp; omega) (MRok.set hok (m := m) (x := {l.getD m default with b := b3, c := c3, can := (l.getD m default).can ++ [r67]}) ⟨(MRok.getD hok (m := m) (by omega)).1, by show ((l.getD m default).can ++ [r67]).length ≤ 6; have := (MRok.getD hok (m := m) (by omega)).2.1; rw [List.length_append, List.length_singleton]; omega, fun y hy => by rcases List.mem_append.1 (show y ∈ (l.getD m default).can ++ [r67] from hy) with hy | hy; exact (MRok.getD hok (m := m) (by omega)).2.2 y hy; (rw [List.mem_singleton] at hy; subst hy; exact hr67)⟩), by simp; omega, by simp; omega⟩, rfl⟩) ((show k + 1 + 8 * q + 1 + 1 + 1 + 1 + 1 ≤ k + 60 by omega))))
          ·
            refine OpE.buildSlice (zc := #[.int .i64 0, .int .i64 0, .int .i64 0]) rfl hB rfl Tryz.underlying22 Tryz.sizeOf3 Tryz.zeroValue3 (by decide) (by decide) (by kernel_rfl) rfl rfl ?_
            refine VA.all (rs := [4]) (by kernel_rfl) (by decide) ?_
            refine ⟨⟨_, rfl, .inl rfl, ?_⟩, trivial⟩
            refine OpE.callT' (k + 1 + 8 * q + 1 + 1 + 1) rfl rfl hB rfl Tryz.call16 rfl (some_T 1000 (by rfl) (by decide) (by decide) (by repeat (first | exact AllS.nil | refine AllS.cons (by decide) ?_))) (by omega) ?_
            rintro _ ⟨r78, hr78, rfl⟩
            refine VA.all (rs := [11]) (by kernel_rfl) (by decide) ?_
            refine ⟨⟨_, rfl, .inl rfl, ?_⟩, trivial⟩
            refine OpE.callT' (k + 1 + 8 * q + 1 + 1 + 1 + 1) rfl rfl hB rfl Tryz.call15 rfl (pick_X (by rfl) (by decide) (by decide) (by repeat (first | exact AllX.nil | refine AllX.cons ?_))) (by omega) ?_
            rintro _ ⟨r85, rfl⟩
            refine VA.take (i := 12) rfl (by kernel_rfl) (by kernel_rfl) (by kernel_rfl) rfl rfl (OpV.nilCheck rfl rfl) ?_
            refine VA.take (i := 13) rfl (by kernel_rfl) (by kernel_rfl) (by kernel_rfl) rfl rfl (OpV.fieldAddrO 0 rfl Tryz.underlying128 rfl rfl Tryz.sizeOf9 rfl) ?_
            refine VA.all (rs := [14]) (by kernel_rfl) (by decide) ?_
            refine ⟨⟨_, rfl, .inl rfl, ?_⟩, trivial⟩
            refine OpE.store1 (i := 0) rfl hB rfl Tryz.sizeOf9 rfl rfl rfl rfl rfl rfl (rowL_in rfl (by omega) (by decide)) (rowL_set (x := ({l.getD m default with key := r78} : MR)) rfl (by omega) (by decide) rfl (ne5_0 rfl rfl rfl rfl)) (by first | exact ⟨rfl, rfl⟩ | exact .inl ⟨rfl, rfl⟩ | exact .inr ⟨rfl, rfl⟩ | exact ⟨rfl, trivial⟩ | exact .inl ⟨rfl, trivial⟩ | exact .inr ⟨rfl, trivial⟩ | exact ⟨by decide, rfl⟩) ?_
            refine VA.take (i := 15) rfl (by kernel_rfl) (by kernel_rfl) (by kernel_rfl) rfl rfl (OpV.nilCheck rfl rfl) ?_
            refine VA.take (i := 16) rfl (by kernel_rfl) (by kernel_rfl) (by kernel_rfl) rfl rfl (OpV.fieldAddrO 3 rfl Tryz.underlying128 rfl rfl Tryz.sizeOf3 rfl) ?_
            refine VA.all (rs := [17]) (by kernel_rfl) (by decide) ?_
            refine ⟨⟨_, rfl, .inl rfl, ?_⟩, trivial⟩
            refine OpE.store1 (i := 0) rfl hB rfl Tryz.sizeOf3 rfl rfl rfl rfl rfl rfl (rowL_in rfl (by rw [List.length_set]; omega) (by decide)) (rowL_set (x := ({l.getD m default with key := r78, feeders := r85} : MR)) rfl (by rw [List.length_set]; omega) (by decide) rfl (by rw [getD_set_self (by omega)]; exact ne5_3 rfl rfl rfl rfl)) (by first | exact ⟨rfl, rfl⟩ | exact .inl ⟨rfl, rfl⟩ | exact .inr ⟨rfl, rfl⟩ | exact ⟨rfl, trivial⟩ | exact .inl ⟨rfl, trivial⟩ | exact .inr ⟨rfl, trivial⟩ | exact ⟨by decide, rfl⟩) ?_
            refine VA.done (by kernel_rfl) ?_
            refine VC.sr ?_
            refine VO.mv rfl rfl rfl rfl ?_
            refine VO.ma rfl rfl rfl rfl ?_
            refine VO.nil ?_
            refine VC.le _ (Le.fam (t := 2) (l := (l.set m {l.getD m default with key := r78}).set m {l.getD m default with key := r78, feeders := r85}) hB hnew rfl (by simp) (.inr ⟨_, _, _, _, rfl, hcap, hmx, rfl⟩) (fun q hq => famAt' ((famSet (by rw [List.length_set]; omega) (by rw [getD_set_self (by omega)]; rfl)).trans (famSet (by omega) rfl)) hq)) ?_
            refine VC.ret ?_
            exact Exists.intro _ (And.intro (RetV.one Tryz.results66 (ResV.tmp rfl)) (And.intro (by first | exact ⟨_, ⟨MRok.small (by omega) (fun x hx => (hok x hx).six), by rw [List.length_map]; omega, by rw [List.length_map]; omega⟩, rfl⟩ | exact ⟨_, ⟨MRok.small (by simp; omega) (by rw [List.set_set]; exact MRok.set hok ⟨hr78, (MRok.getD hok (m := m) (by omega)).six.2⟩), by simp; omega, by simp; omega⟩, rfl⟩ | exact ⟨_, ⟨MRok.small (by simp; omega) (by rw [List.set_set]; exact MRok.set hok ⟨(MRok.getD hok (m := m) (by omega)).1, (MRok.getD hok (m := m) (by omega)).six.2⟩), by simp; omega, by simp; omega⟩, rfl⟩ | exact ⟨(l.set m {l.getD m default with b := b3, c := c3, can := (l.getD m default).can ++ [r67]}).map toM, ⟨MRok.small (by simp; omega) (MRok.set hok (m := m) (x := {l.getD m default with b := b3, c := c3, can := (l.getD m default).can ++ [r67]}) ⟨(MRok.getD hok (m := m) (by omega)).1, by show ((l.getD m default).can ++ [r67]).length ≤ 6; have := (MRok.getD hok (m := m) (by omega)).2.1; rw [List.length_append, List.length_singleton]; omega, fun y hy => by rcases List.mem_append.1 (show y ∈ (l.getD m default).can ++ [r67] from hy) with hy | hy; exact (MRok.getD hok (m := m) (by omega)).2.2 y hy; (rw [List.mem_singleton] at hy; subst hy; exact hr67)⟩), by simp; omega, by simp; omega⟩, rfl⟩) ((show k + 1 + 8 * q + 1 + 1 + 1 + 1 + 1 ≤ k + 60 by omega))))
        ·
          refine OpE.buildSlice (zc := #[.int .i64 0, .int .i64 0, .int .i64 0]) rfl hB rfl Tryz.underlying22 Tryz.sizeOf3 Tryz.zeroValue3 (by decide) (by decide) (by kernel_rfl) rfl rfl ?_
          refine VA.all (rs := [3]) (by kernel_rfl) (by decide) ?_
          refine ⟨⟨_, rfl, .inl rfl, ?_⟩, trivial⟩
          refine OpE.buildSlice (zc := #[.string ⟨#[]⟩, .string ⟨#[]⟩, .string ⟨#[]⟩]) rfl hB rfl Tryz.underlying67 Tryz.sizeOf9 Tryz.zeroValue9 (by decide) (by decide) (by kernel_rfl) rfl rfl ?_
          refine VA.all (rs := [4]) (by kernel_rfl) (by decide) ?_
          refine ⟨⟨_, rfl, .inl rfl, ?_⟩, trivial⟩
          refine OpE.callT' (k + 1 + 8 * q + 1 + 1 + 1) rfl rfl hB rfl Tryz.call16 rfl (some_T 1000 (by rfl) (by decide) (by decide) (by repeat (first | exact AllS.nil | refine AllS.cons (by decide) ?_))) (by omega) ?_
          rintro _ ⟨r78, hr78, rfl⟩
          refine VA.all (rs := [11]) (by kernel_rfl) (by decide) ?_
          refine ⟨⟨_, rfl, .inl rfl, ?_⟩, trivial⟩
          refine OpE.callT' (k + 1 + 8 * q + 1 + 1 + 1 + 1) rfl rfl hB rfl Tryz.call15 rfl (pick_X (by rfl) (by decide) (by decide) (by repeat (first | exact AllX.nil | refine AllX.cons ?_))) (by omega) ?_
          rintro _ ⟨r85, rfl⟩
          refine VA.take (i := 12) rfl (by kernel_rfl) (by kernel_rfl) (by kernel_rfl) rfl rfl (OpV.nilCheck rfl rfl) ?_
          refine VA.take (i := 13) rfl (by kernel_rfl) (by kernel_rfl) (by kernel_rfl) rfl rfl (OpV.fieldAddrO 0 rfl Tryz.underlying128 rfl rfl Tryz.sizeOf9 rfl) ?_
          refine VA.all (rs := [14]) (by kernel_rfl) (by decide) ?_
          refine ⟨⟨_, rfl, .inl rfl, ?_⟩, trivial⟩
          refine OpE.store1 (i := 0) rfl hB rfl Tryz.sizeOf9 rfl rfl rfl rfl rfl rfl (rowL_in rfl (by omega) (by decide)) (rowL_set (x := ({l.getD m default with key := r78} : MR)) rfl (by omega) (by decide) rfl (ne5_0 rfl rfl rfl rfl)) (by first | exact ⟨rfl, rfl⟩ | exact .inl ⟨rfl, rfl⟩ | exact .inr ⟨rfl, rfl⟩ | exact ⟨rfl, trivial⟩ | exact .inl ⟨rfl, trivial⟩ | exact .inr ⟨rfl, trivial⟩ | exact ⟨by decide, rfl⟩) ?_
          refine VA.take (i := 15) rfl (by kernel_rfl) (by kernel_rfl) (by kernel_rfl) rfl rfl (OpV.nilCheck rfl rfl) ?_
          refine VA.take (i := 16) rfl (by kernel_rfl) (by kernel_rfl) (by kernel_rfl) rfl rfl (OpV.fieldAddrO 3 rfl Tryz.underlying128 rfl rfl Tryz.sizeOf3 rfl) ?_
          refine VA.all (rs := [17]) (by kernel_rfl) (by decide) ?_
          refine ⟨⟨_, rfl, .inl rfl, ?_⟩, trivial⟩
          refine OpE.store1 (i := 0) rfl hB rfl Tryz.sizeOf3 rfl rfl rfl rfl rfl rfl (rowL_in rfl (by rw [List.length_set]; omega) (by decide)) (rowL_set (x := ({l.getD m default with key := r78, feeders := r85} : MR)) rfl (by rw [List.length_set]; omega) (by decide) rfl (by rw [getD_set_self (by omega)]; exact ne5_3 rfl rfl rfl rfl)) (by first | exact ⟨rfl, rfl⟩ | exact .inl ⟨rfl, rfl⟩ | exact .inr ⟨rfl, rfl⟩ | exact ⟨rfl, trivial⟩ | exact .inl ⟨rfl, trivial⟩ | exact .inr ⟨rfl, trivial⟩ | exact ⟨by decide, rfl⟩) ?_
          refine VA.done (by kernel_rfl) ?_
          refine VC.sr ?_
          refine VO.mv rfl rfl rfl rfl ?_
          refine VO.ma rfl rfl rfl rfl ?_
          refine VO.nil ?_
          refine VC.le _ (Le.fam (t := 2) (l := (l.set m {l.getD m default with key := r78}).set m {l.getD m default with key := r78, feeders := r85}) hB hnew rfl (by simp) (.inr ⟨_, _, _, _, rfl, hcap, hmx, rfl⟩) (fun q hq => famAt' ((famSet (by rw [List.length_set]; omega) (by rw [getD_set_self (by omega)]; rfl)).trans (famSet (by omega) rfl)) hq)) ?_
          refine VC.ret ?_
          exact Exists.intro _ (And.intro (RetV.one Tryz.results66 (ResV.tmp rfl)) (And.intro (by first | exact ⟨_, ⟨MRok.small (by omega) (fun x hx => (hok x hx).six), by rw [List.length_map]; omega, by rw [List.length_map]; omega⟩, rfl⟩ | exact ⟨_, ⟨MRok.small (by simp; omega) (by rw [List.set_set]; exact MRok.set hok ⟨hr78, (MRok.getD hok (m := m) (by omega)).six.2⟩), by simp; omega, by simp; omega⟩, rfl⟩ | exact ⟨_, ⟨MRok.small (by simp; omega) (by rw [List.set_set]; exact MRok.set hok ⟨(MRok.getD hok (m := m) (by omega)).1, (MRok.getD hok (m := m) (by omega)).six.2⟩), by simp; omega, by simp; omega⟩, rfl⟩ | exact ⟨(l.set m {l.getD m default with b := b3, c := c3, can := (l.getD m default).can ++ [r67]}).map toM, ⟨MRok.small (by simp; omega) (MRok.set hok (m := m) (x := {l.getD m default with b := b3, c := c3, can := (l.getD m default).can ++ [r67]}) ⟨(MRok.getD hok (m := m) (by omega)).1, by show ((l.getD m default).can ++ [r67]).length ≤ 6; have := (MRok.getD hok (m := m) (by omega)).2.1; rw [List.length_append, List.length_singleton]; omega, fun y hy => by rcases List.mem_append.1 (show y ∈ (l.getD m default).can ++ [r67] from hy) with hy | hy; exact (MRok.getD hok (m := m) (by omega)).2.2 y hy; (rw [List.mem_singleton] at hy; subst hy; exact hr67)⟩), by simp; omega, by simp; omega⟩, rfl⟩) ((show k + 1 + 8 * q + 1 + 1 + 1 + 1 + 1 ≤ k + 60 by omega))))
      · have aH5 := aH5b
        try simp only [qqT, qqF, qqN, qqM, qqL, qqE] at aH5
        refine VC.sr ?_
        refine VO.val rfl rfl (OpV.eql rfl rfl rfl) ?_
        refine VO.ma rfl rfl rfl rfl ?_
        refine VO.nil ?_
        refine VC.cond rfl (fun aH6b => ?_) (fun aH6b => ?_)
        · have aH6 := aH6b
          try simp only [qqT, qqF, qqN, qqM, qqL, qqE] at aH6
          refine VC.draw (fun j b => (j = 14 ∧ b = g) ∨ (j = 17 ∧ b = g)) hB (by kernel_rfl) ?_
          refine VA.take (i := 0) rfl (by kernel_rfl) (by kernel_rfl) (by kernel_rfl) rfl rfl (OpV.move (.inl rfl) rfl) ?_
          refine VA.take (i := 1) rfl (by kernel_rfl) (by kernel_rfl) (by kernel_rfl) rfl rfl (OpV.move (.inl rfl) rfl) ?_
          refine VA.take (i := 2) rfl (by kernel_rfl) (by kernel_rfl) (by kernel_rfl) rfl rfl (OpV.move (.inl rfl) rfl) ?_
          refine VA.take (i := 5) rfl (by kernel_rfl) (by kernel_rfl) (by kernel_rfl) rfl rfl (OpV.move (.inl rfl) rfl) ?_
          refine VA.take (i := 6) rfl (by kernel_rfl) (by kernel_rfl) (by kernel_rfl) rfl rfl (OpV.move (.inl rfl) rfl) ?_
          refine VA.take (i := 7) rfl (by kernel_rfl) (by kernel_rfl) (by kernel_rfl) rfl rfl (OpV.nilCheck rfl rfl) ?_
          refine VA.take (i := 8) rfl (by kernel_rfl) (by kernel_rfl) (by kernel_rfl) rfl rfl (OpV.fieldAddrO 2 rfl Tryz.underlying128 rfl rfl Tryz.sizeOf3 rfl) ?_
          refine VA.take (i := 9) rfl (by kernel_rfl) (by kernel_rfl) (by kernel_rfl) rfl rfl (OpV.load_own (i := 0) rfl hB Tryz.isAgg3 rfl rfl (rowL_at rfl (by omega) (by decide)) (by first | exact Wi.not1 (by kernel_rfl) | exact Wi.not2 (by kernel_rfl) (by kernel_rfl) | exact Wi.notX (by kernel_rfl))) ?_
          refine VA.all (rs := [3, 10]) (by kernel_rfl) (by decide) ?_
          refine ⟨⟨_, rfl, .inl rfl, ?_⟩, ⟨_, rfl, .inl rfl, ?_⟩, trivial⟩
          ·
            refine OpE.buildSlice (zc := #[.int .i64 0, .int .i64 0, .int .i64 0]) rfl hB rfl Tryz.underlying22 Tryz.sizeOf3 Tryz.zeroValue3 (by decide) (by decide) (by kernel_rfl) rfl rfl ?_
            refine VA.all (rs := [4, 10]) (by kernel_rfl) (by decide) ?_
            refine ⟨⟨_, rfl, .inl rfl, ?_⟩, ⟨_, rfl, .inl rfl, ?_⟩, trivial⟩
            ·
              refine OpE.callT' (k + 1 + 8 * q + 1 + 1 + 1) rfl rfl hB rfl Tryz.call15 rfl (pick_X (by rfl) (by decide) (by decide) (by repeat (first | exact AllX.nil | refine AllX.cons ?_))) (by omega) ?_
              rintro _ ⟨r96, rfl⟩
              refine VA.all (rs := [10]) (by kernel_rfl) (by decide) ?_
              refine ⟨⟨_, rfl, .inl rfl, ?_⟩, trivial⟩
              refine OpE.buildSlice (zc := #[.int .i64 0, .int .i64 0, .int .i64 0]) rfl hB rfl Tryz.underlying22 Tryz.sizeOf3 Tryz.zeroValue3 (by decide) (by decide) (by kernel_rfl) rfl rfl ?_
              refine VA.all (rs := [11]) (by kernel_rfl) (by decide) ?_
              refine ⟨⟨_, rfl, .inl rfl, ?_⟩, trivial⟩
              refine OpE.callT' (k + 1 + 8 * q + 1 + 1 + 1 + 1) rfl rfl hB rfl Tryz.call15 rfl (pick_X (by rfl) (by decide) (by decide) (by repeat (first | exact AllX.nil | refine AllX.cons ?_))) (by omega) ?_
              rintro _ ⟨r103, rfl⟩
              refine VA.take (i := 12) rfl (by kernel_rfl) (by kernel_rfl) (by kernel_rfl) rfl rfl (OpV.nilCheck rfl rfl) ?_
              refine VA.take (i := 13) rfl (by kernel_rfl) (by kernel_rfl) (by kernel_rfl) rfl rfl (OpV.fieldAddrO 1 rfl Tryz.underlying128 rfl rfl Tryz.sizeOf3 rfl) ?_
              refine VA.all (rs := [14]) (by kernel_rfl) (by decide) ?_
              refine ⟨⟨_, rfl, .inl rfl, ?_⟩, trivial⟩
              refine OpE.store1 (i := 0) rfl hB rfl Tryz.sizeOf3 rfl rfl rfl rfl rfl rfl (rowL_in rfl (by omega) (by decide)) (rowL_set (x := ({l.getD m default with each := r96} : MR)) rfl (by omega) (by decide) rfl (ne5_1 rfl rfl rfl rfl)) (by first | exact ⟨rfl, rfl⟩ | exact .inl ⟨rfl, rfl⟩ | exact .inr ⟨rfl, rfl⟩ | exact ⟨rfl, trivial⟩ | exact .inl ⟨rfl, trivial⟩ | exact .inr ⟨rfl, trivial⟩ | exact ⟨by decide, rfl⟩) ?_
              refine VA.take (i := 15) rfl (by kernel_rfl) (by kernel_rfl) (by kernel_rfl) rfl rfl (OpV.nilCheck rfl rfl) ?_
              refine VA.take (i := 16) rfl (by kernel_rfl) (by kernel_rfl) (by kernel_rfl) rfl rfl (OpV.fieldAddrO 2 rfl Tryz.underlying128 rfl rfl Tryz.sizeOf3 rfl) ?_
              refine VA.all (rs := [17]) (by kernel_rfl) (by decide) ?_
              refine ⟨⟨_, rfl, .inl rfl, ?_⟩, trivial⟩
              refine OpE.store1 (i := 0) rfl hB rfl Tryz.sizeOf3 rfl rfl rfl rfl rfl rfl (rowL_in rfl (by rw [List.length_set]; omega) (by decide)) (rowL_set (x := ({l.getD m default with each := r96, fixed := r103} : MR)) rfl (by rw [List.length_set]; omega) (by decide) rfl (by rw [getD_set_self (by omega)]; exact ne5_2 rfl rfl rfl rfl)) (by first | exact ⟨rfl, rfl⟩ | exact .inl ⟨rfl, rfl⟩ | exact .inr ⟨rfl, rfl⟩ | exact ⟨rfl, trivial⟩ | exact .inl ⟨rfl, trivial⟩ | exact .inr ⟨rfl, trivial⟩ | exact ⟨by decide, rfl⟩) ?_
              refine VA.done (by kernel_rfl) ?_
              refine VC.sr ?_
              refine VO.mv rfl rfl rfl rfl ?_
              refine VO.ma rfl rfl rfl rfl ?_
              refine VO.nil ?_
              refine VC.le _ (Le.fam (t := 2) (l := (l.set m {l.getD m default with each := r96}).set m {l.getD m default with each := r96, fixed := r103}) hB hnew rfl (by simp) (.inr ⟨_, _, _, _, rfl, hcap, hmx, rfl⟩) (fun q hq => famAt' ((famSet (by rw [List.length_set]; omega) (by rw [getD_set_self (by omega)]; rfl)).trans (famSet (by omega) rfl)) hq)) ?_
              refine VC.ret ?_
              exact Exists.intro _ (And.intro (RetV.one Tryz.results66 (ResV.tmp rfl)) (And.intro (by first | exact ⟨_, ⟨MRok.small (by omega) (fun x hx => (hok x hx).six), by rw [List.length_map]; omega, by rw [List.length_map]; omega⟩, rfl⟩ | exact ⟨_, ⟨MRok.small (by simp; omega) (by rw [List.set_set]; exact MRok.set hok ⟨hr78, (MRok.getD hok (m := m) (by omega)).six.2⟩), by simp; omega, by simp; omega⟩, rfl⟩ | exact ⟨_, ⟨MRok.small (by simp; omega) (by rw [List.set_set]; exact MRok.set hok ⟨(MRok.getD hok (m := m) (by omega)).1, (MRok.getD hok (m := m) (by omega)).six.2⟩), by simp; omega, by simp; omega⟩, rfl⟩ | exact ⟨(l.set m {l.getD m default with b := b3, c := c3, can := (l.getD m default).can ++ [r67]}).map toM, ⟨MRok.small (by simp; omega) (MRok.set hok (m := m) (x := {l.getD m default with b := b3, c := c3, can := (l.getD m default).can ++ [r67]}) ⟨(MRok.getD hok (m := m) (by omega)).1, by show ((l.getD m default).can ++ [r67]).length ≤ 6; have := (MRok.getD hok (m := m) (by omega)).2.1; rw [List.length_append, List.length_singleton]; omega, fun y hy => by rcases List.mem_append.1 (show y ∈ (l.getD m default).can ++ [r67] from hy) with hy | hy; exact (MRok.getD hok (m := m) (by omega)).2.2 y hy; (rw [List.mem_singleton] at hy; subst hy; exact hr67)⟩), by simp; omega, by simp; omega⟩, rfl⟩) ((show k + 1 + 8 * q + 1 + 1 + 1 + 1 + 1 ≤ k + 60 by omega))))
            ·
              refine OpE.buildSlice (zc := #[.int .i64 0, .int .i64 0, .int .i64 0]) rfl hB rfl Tryz.underlying22 Tryz.sizeOf3 Tryz.zeroValue3 (by decide) (by decide) (by kernel_rfl) rfl rfl ?_
              refine VA.all (rs := [4]) (by kernel_rfl) (by decide) ?_
              refine ⟨⟨_, rfl, .inl rfl, ?_⟩, trivial⟩
              refine OpE.callT' (k + 1 + 8 * q + 1 + 1 + 1) rfl rfl hB rfl Tryz.call15 rfl (pick_X (by rfl) (by decide) (by decide) (by repeat (first | exact AllX.nil | refine AllX.cons ?_))) (by omega) ?_
              rintro _ ⟨r96, rfl⟩
              refine VA.all (rs := [11]) (by kernel_rfl) (by decide) ?_
              refine ⟨⟨_, rfl, .inl rfl, ?_⟩, trivial⟩
              refine OpE.callT' (k + 1 + 8 * q + 1 + 1 + 1 + 1) rfl rfl hB rfl Tryz.call15 rfl (pick_X (by rfl) (by decide) (by decide) (by repeat (first | exact AllX.nil | refine AllX.cons ?_))) (by omega) ?_
              rintro _ ⟨r103, rfl⟩
              refine VA.take (i := 12) rfl (by kernel_rfl) (by kernel_rfl) (by kernel_rfl) rfl rfl (OpV.nilCheck rfl rfl) ?_
              refine VA.take (i := 13) rfl (by kernel_rfl) (by kernel_rfl) (by kernel_rfl) rfl rfl (OpV.fieldAddrO 1 rfl Tryz.underlying128 rfl rfl Tryz.sizeOf3 rfl) ?_
              refine VA.all (rs := [14]) (by kernel_rfl) (by decide) ?_
              refine ⟨⟨_, rfl, .inl rfl, ?_⟩, trivial⟩
              refine OpE.store1 (i := 0) rfl hB rfl Tryz.sizeOf3 rfl rfl rfl rfl rfl rfl (rowL_in rfl (by omega) (by decide)) (rowL_set (x := ({l.getD m default with each := r96} : MR)) rfl (by omega) (by decide) rfl (ne5_1 rfl rfl rfl rfl)) (by first | exact ⟨rfl, rfl⟩ | exact .inl ⟨rfl, rfl⟩ | exact .inr ⟨rfl, rfl⟩ | exact ⟨rfl, trivial⟩ | exact .inl ⟨rfl, trivial⟩ | exact .inr ⟨rfl, trivial⟩ | exact ⟨by decide, rfl⟩) ?_
              refine VA.take (i := 15) rfl (by kernel_rfl) (by kernel_rfl) (by kernel_rfl) rfl rfl (OpV.nilCheck rfl rfl) ?_
              refine VA.take (i := 16) rfl (by kernel_rfl) (by kernel_rfl) (by kernel_rfl) rfl rfl (OpV.fieldAddrO 2 rfl Tryz.underlying128 rfl rfl Tryz.sizeOf3 rfl) ?_
              refine VA.all (rs := [17]) (by kernel_rfl) (by decide) ?_
              refine ⟨⟨_, rfl, .inl rfl, ?_⟩, trivial⟩
              refine OpE.store1 (i := 0) rfl hB rfl Tryz.sizeOf3 rfl rfl rfl rfl rfl rfl (rowL_in rfl (by rw [List.length_set]; omega) (by decide)) (rowL_set (x := ({l.getD m default with each := r96, fixed := r103} : MR)) rfl (by rw [List.length_set]; omega) (by decide) rfl (by rw [getD_set_self (by omega)]; exact ne5_2 rfl rfl rfl rfl)) (by first | exact ⟨rfl, rfl⟩ | exact .inl ⟨rfl, rfl⟩ | exact .inr ⟨rfl, rfl⟩ | exact ⟨rfl, trivial⟩ | exact .inl ⟨rfl, trivial⟩ | exact .inr ⟨rfl, trivial⟩ | exact ⟨by decide, rfl⟩) ?_
              refine VA.done (by kernel_rfl) ?_
              refine VC.sr ?_
              refine VO.mv rfl rfl rfl rfl ?_
              refine VO.ma rfl rfl rfl rfl ?_
              refine VO.nil ?_
              refine VC.le _ (Le.fam (t := 2) (l := (l.set m {l.getD m default with each := r96}).set m {l.getD m default with each := r96, fixed := r103}) hB hnew rfl (by simp) (.inr ⟨_, _, _, _, rfl, hcap, hmx, rfl⟩) (fun q hq => famAt' ((famSet (by rw [List.length_set]; omega) (by rw [getD_set_self (by omega)]; rfl)).trans (famSet (by omega) rfl)) hq)) ?_
              refine VC.ret ?_
              exact Exists.intro _ (And.intro (RetV.one Tryz.results66 (ResV.tmp rfl)) (And.intro (by first | exact ⟨_, ⟨MRok.small (by omega) (fun x hx => (hok x hx).six), by rw [List.length_map]; omega, by rw [List.length_map]; omega⟩, rfl⟩ | exact ⟨_, ⟨MRok.small (by simp; omega) (by rw [List.set_set]; exact MRok.set hok ⟨hr78, (MRok.getD hok (m := m) (by omega)).six.2⟩), by simp; omega, by simp; omega⟩, rfl⟩ | exact ⟨_, ⟨MRok.small (by simp; omega) (by rw [List.set_set]; exact MRok.set hok ⟨(MRok.getD hok (m := m) (by omega)).1, (MRok.getD hok (m := m) (by omega)).six.2⟩), by simp; omega, by simp; omega⟩, rfl⟩ | exact ⟨(l.set m {l.getD m default with b := b3, c := c3, can := (l.getD m default).can ++ [r67]}).map toM, ⟨MRok.small (by simp; omega) (MRok.set hok (m := m) (x := {l.getD m default with b := b3, c := c3, can := (l.getD m default).can ++ [r67]}) ⟨(MRok.getD hok (m := m) (by omega)).1, by show ((l.getD m default).can ++ [r67]).length ≤ 6; have := (MRok.getD hok (m := m) (by omega)).2.1; rw [List.length_append, List.length_singleton]; omega, fun y hy => by rcases List.mem_append.1 (show y ∈ (l.getD m default).can ++ [r67] from hy) with hy | hy; exact (MRok.getD hok (m := m) (by omega)).2.2 y hy; (rw [List.mem_singleton] at hy; subst hy; exact hr67)⟩), by simp; omega, by simp; omega⟩, rfl⟩) ((show k + 1 + 8 * q + 1 + 1 + 1 + 1 + 1 ≤ k + 60 by omega))))
          ·
            refine OpE.buildSlice (zc := #[.int .i64 0, .int .i64 0, .int .i64 0]) rfl hB rfl Tryz.underlying22 Tryz.sizeOf3 Tryz.zeroValue3 (by decide) (by decide) (by kernel_rfl) rfl rfl ?_
            refine VA.all (rs := [3]) (by kernel_rfl) (by decide) ?_
            refine ⟨⟨_, rfl, .inl rfl, ?_⟩, trivial⟩
            refine OpE.buildSlice (zc := #[.int .i64 0, .int .i64 0, .int .i64 0]) rfl hB rfl Tryz.underlying22 Tryz.sizeOf3 Tryz.zeroValue3 (by decide) (by decide) (by kernel_rfl) rfl rfl ?_
            refine VA.all (rs := [4]) (by kernel_rfl) (by decide) ?_
            refine ⟨⟨_, rfl, .inl rfl, ?_⟩, trivial⟩
            refine OpE.callT' (k + 1 + 8 * q + 1 + 1 + 1) rfl rfl hB rfl Tryz.call15 rfl (pick_X (by rfl) (by decide) (by decide) (by repeat (first | exact AllX.nil | refine AllX.cons ?_))) (by omega) ?_
            rintro _ ⟨r96, rfl⟩
            refine VA.all (rs := [11]) (by kernel_rfl) (by decide) ?_
            refine ⟨⟨_, rfl, .inl rfl, ?_⟩, trivial⟩
            refine OpE.callT' (k + 1 + 8 * q + 1 + 1 + 1 + 1) rfl rfl hB rfl Tryz.call15 rfl (pick_X (by rfl) (by decide) (by decide) (by repeat (first | exact AllX.nil | refine AllX.cons ?_))) (by omega) ?_
            rintro _ ⟨r103, rfl⟩
            refine VA.take (i := 12) rfl (by kernel_rfl) (by kernel_rfl) (by kernel_rfl) rfl rfl (OpV.nilCheck rfl rfl) ?_
            refine VA.take (i := 13) rfl (by kernel_rfl) (by kernel_rfl) (by kernel_rfl) rfl rfl (OpV.fieldAddrO 1 rfl Tryz.underlying128 rfl rfl Tryz.sizeOf3 rfl) ?_
            refine VA.all (rs := [14]) (by kernel_rfl) (by decide) ?_
            refine ⟨⟨_, rfl, .inl rfl, ?_⟩, trivial⟩
            refine OpE.store1 (i := 0) rfl hB rfl Tryz.sizeOf3 rfl rfl rfl rfl rfl rfl (rowL_in rfl (by omega) (by decide)) (rowL_set (x := ({l.getD m default with each := r96} : MR)) rfl (by omega) (by decide) rfl (ne5_1 rfl rfl rfl rfl)) (by first | exact ⟨rfl, rfl⟩ | exact .inl ⟨rfl, rfl⟩ | exact .inr ⟨rfl, rfl⟩ | exact ⟨rfl, trivial⟩ | exact .inl ⟨rfl, trivial⟩ | exact .inr ⟨rfl, trivial⟩ | exact ⟨by decide, rfl⟩) ?_
            refine VA.take (i := 15) rfl (by kernel_rfl) (by kernel_rfl) (by kernel_rfl) rfl rfl (OpV.nilCheck rfl rfl) ?_
            refine VA.take (i := 16) rfl (by kernel_rfl) (by kernel_rfl) (by kernel_rfl) rfl rfl (OpV.fieldAddrO 2 rfl Tryz.underlying128 rfl rfl Tryz.sizeOf3 rfl) ?_
            refine VA.all (rs := [17]) (by kernel_rfl) (by decide) ?_
            refine ⟨⟨_, rfl, .inl rfl, ?_⟩, trivial⟩
            refine OpE.store1 (i := 0) rfl hB rfl Tryz.sizeOf3 rfl rfl rfl rfl rfl rfl (rowL_in rfl (by rw [List.length_set]; omega) (by decide)) (rowL_set (x := ({l.getD m default with each := r96, fixed := r103} : MR)) rfl (by rw [List.length_set]; omega) (by decide) rfl (by rw [getD_set_self (by omega)]; exact ne5_2 rfl rfl rfl rfl)) (by first | exact ⟨rfl, rfl⟩ | exact .inl ⟨rfl, rfl⟩ | exact .inr ⟨rfl, rfl⟩ | exact ⟨rfl, trivial⟩ | exact .inl ⟨rfl, trivial⟩ | exact .inr ⟨rfl, trivial⟩ | exact ⟨by decide, rfl⟩) ?_
            refine VA.done (by kernel_rfl) ?_
            refine VC.sr ?_
            refine VO.mv rfl rfl rfl rfl ?_
            refine VO.ma rfl rfl rfl rfl ?_
            refine VO.nil ?_
            refine VC.le _ (Le.fam (t := 2) (l := (l.set m {l.getD m default with each := r96}).set m {l.getD m default with each := r96, fixed := r103}) hB hnew rfl (by simp) (.inr ⟨_, _, _, _, rfl, hcap, hmx, rfl⟩) (fun q hq => famAt' ((famSet (by rw [List.length_set]; omega) (by rw [getD_set_self (by omega)]; rfl)).trans (famSet (by omega) rfl)) hq)) ?_
            refine VC.ret ?_
            exact Exists.intro _ (And.intro (RetV.one Tryz.results66 (ResV.tmp rfl)) (And.intro (by first | exact ⟨_, ⟨MRok.small (by omega) (fun x hx => (hok x hx).six), by rw [List.length_map]; omega, by rw [List.length_map]; omega⟩, rfl⟩ | exact ⟨_, ⟨MRok.small (by simp; omega) (by rw [List.set_set]; exact MRok.set hok ⟨hr78, (MRok.getD hok (m := m) (by omega)).six.2⟩), by simp; omega, by simp; omega⟩, rfl⟩ | exact ⟨_, ⟨MRok.small (by simp; omega) (by rw [List.set_set]; exact MRok.set hok ⟨(MRok.getD hok (m := m) (by omega)).1, (MRok.getD hok (m := m) (by omega)).six.2⟩), by simp; omega, by simp; omega⟩, rfl⟩ | exact ⟨(l.set m {l.getD m default with b := b3, c := c3, can := (l.getD m default).can ++ [r67]}).map toM, ⟨MRok.small (by simp; omega) (MRok.set hok (m := m) (x := {l.getD m default with b := b3, c := c3, can := (l.getD m default).can ++ [r67]}) ⟨(MRok.getD hok (m := m) (by omega)).1, by show ((l.getD m default).can ++ [r67]).length ≤ 6; have := (MRok.getD hok (m := m) (by omega)).2.1; rw [List.length_append, List.length_singleton]; omega, fun y hy => by rcases List.mem_append.1 (show y ∈ (l.getD m default).can ++ [r67] from hy) with hy | hy; exact (MRok.getD hok (m := m) (by omega)).2.2 y hy; (rw [List.mem_singleton] at hy; subst hy; exact hr67)⟩), by simp; omega, by simp; omega⟩, rfl⟩) ((show k + 1 + 8 * q + 1 + 1 + 1 + 1 + 1 ≤ k + 60 by omega))))
        · have aH6 := aH6b
          try simp only [qqT, qqF, qqN, qqM, qqL, qqE] at aH6
          refine VC.draw (fun j b => (j = 9 ∧ (l.getD m default).val.ownBlock = some b) ∨ (j = 12 ∧ b = g)) hB (by kernel_rfl) ?_
          refine VA.take (i := 0) rfl (by kernel_rfl) (by kernel_rfl) (by kernel_rfl) rfl rfl (OpV.move (.inl rfl) rfl) ?_
          refine VA.take (i := 1) rfl (by kernel_rfl) (by kernel_rfl) (by kernel_rfl) rfl rfl (OpV.move (.inl rfl) rfl) ?_
          refine VA.take (i := 2) rfl (by kernel_rfl) (by kernel_rfl) (by kernel_rfl) rfl rfl (OpV.nilCheck rfl rfl) ?_
          refine VA.take (i := 3) rfl (by kernel_rfl) (by kernel_rfl) (by kernel_rfl) rfl rfl (OpV.fieldAddrO 4 rfl Tryz.underlying128 rfl rfl Tryz.sizeOf67 rfl) ?_
          refine VA.take (i := 4) rfl (by kernel_rfl) (by kernel_rfl) (by kernel_rfl) rfl rfl (OpV.load_own (i := 0) rfl hB Tryz.isAgg67 rfl rfl (rowL_at rfl (by omega) (by decide)) (by first | exact Wi.not1 (by kernel_rfl) | exact Wi.not2 (by kernel_rfl) (by kernel_rfl) | exact Wi.notX (by kernel_rfl))) ?_
          refine VA.take (i := 5) rfl (by kernel_rfl) (by kernel_rfl) (by kernel_rfl) rfl rfl (OpV.move (.inl rfl) rfl) ?_
          refine VA.all (rs := [6]) (by kernel_rfl) (by decide) ?_
          refine ⟨⟨_, rfl, .inl rfl, ?_⟩, trivial⟩
          refine OpE.buildSlice (zc := #[.string ⟨#[]⟩, .string ⟨#[]⟩, .string ⟨#[]⟩]) rfl hB rfl Tryz.underlying67 Tryz.sizeOf9 Tryz.zeroValue9 (by decide) (by decide) (by kernel_rfl) rfl rfl ?_
          refine VA.all (rs := [7]) (by kernel_rfl) (by decide) ?_
          refine ⟨⟨_, rfl, .inl rfl, ?_⟩, trivial⟩
          refine OpE.callT' (k + 1 + 8 * q + 1 + 1 + 1) rfl rfl hB rfl Tryz.call16 rfl (some_T 1000 (by rfl) (by decide) (by decide) (by repeat (first | exact AllS.nil | refine AllS.cons (by decide) ?_))) (by omega) ?_
          rintro _ ⟨r67, hr67, rfl⟩
          refine VA.all (rs := [8]) (by kernel_rfl) (by decide) ?_
          refine ⟨⟨_, rfl, .inl rfl, ?_⟩, trivial⟩
          refine OpE.buildSlice (zc := #[.string ⟨#[]⟩]) rfl hB rfl Tryz.underlying67 Tryz.sizeOf9 Tryz.zeroValue9 (by decide) (by decide) (by kernel_rfl) rfl rfl ?_
          refine VA.all (rs := [9]) (by kernel_rfl) (by decide) ?_
          refine ⟨⟨_, rfl, .inl rfl, ?_⟩, trivial⟩
          refine OpE.append1S (i := m + 1) rfl hB rfl Tryz.underlying67 (infoOf Tryz.t9 1 (by kernel_rfl) rfl rfl) rfl (by decide) (by decide) rfl (famAt (by omega)) rfl rfl (strsL_snoc _ _) (by have := (MRok.getD hok (m := m) (by omega)).2.1; omega) (fun _ h => .inl ⟨rfl, h⟩) ?_
          intro b3 c3
          refine VA.take (i := 10) rfl (by kernel_rfl) (by kernel_rfl) (by kernel_rfl) rfl rfl (OpV.nilCheck rfl rfl) ?_
          refine VA.take (i := 11) rfl (by kernel_rfl) (by kernel_rfl) (by kernel_rfl) rfl rfl (OpV.fieldAddrO 4 rfl Tryz.underlying128 rfl rfl Tryz.sizeOf67 rfl) ?_
          refine VA.all (rs := [12]) (by kernel_rfl) (by decide) ?_
          refine ⟨⟨_, rfl, .inl rfl, ?_⟩, trivial⟩
          refine OpE.store1 (i := 0) rfl hB rfl Tryz.sizeOf67 rfl rfl rfl rfl rfl rfl (rowL_in rfl (by omega) (by decide)) (rowL_set (x := ({l.getD m default with b := b3, c := c3, can := (l.getD m default).can ++ [r67]} : MR)) rfl (by omega) (by decide) (by show AV.v _ = AV.v _; rw [List.length_append]; rfl) (ne5_4 rfl rfl rfl rfl)) (by first | exact ⟨rfl, rfl⟩ | exact .inl ⟨rfl, rfl⟩ | exact .inr ⟨rfl, rfl⟩ | exact ⟨rfl, trivial⟩ | exact .inl ⟨rfl, trivial⟩ | exact .inr ⟨rfl, trivial⟩ | exact ⟨by decide, rfl⟩) ?_
          refine VA.done (by kernel_rfl) ?_
          refine VC.sr ?_
          refine VO.mv rfl rfl rfl rfl ?_
          refine VO.ma rfl rfl rfl rfl ?_
          refine VO.nil ?_
          refine VC.le _ (Le.fam (t := 2) (l := l.set m {l.getD m default with b := b3, c := c3, can := (l.getD m default).can ++ [r67]}) hB hnew rfl (by simp) (.inr ⟨_, _, _, _, rfl, hcap, hmx, rfl⟩) (fun q hq => famAt' (by rw [List.map_set]; unfold rowM; rw [List.length_append]; rfl) hq)) ?_
          refine VC.ret ?_
          exact Exists.intro _ (And.intro (RetV.one Tryz.results66 (ResV.tmp rfl)) (And.intro (by first | exact ⟨_, ⟨MRok.small (by omega) (fun x hx => (hok x hx).six), by rw [List.length_map]; omega, by rw [List.length_map]; omega⟩, rfl⟩ | exact ⟨_, ⟨MRok.small (by simp; omega) (by rw [List.set_set]; exact MRok.set hok ⟨hr78, (MRok.getD hok (m := m) (by omega)).six.2⟩), by simp; omega, by simp; omega⟩, rfl⟩ | exact ⟨_, ⟨MRok.small (by simp; omega) (by rw [List.set_set]; exact MRok.set hok ⟨(MRok.getD hok (m := m) (by omega)).1, (MRok.getD hok (m := m) (by omega)).six.2⟩), by simp; omega, by simp; omega⟩, rfl⟩ | exact ⟨(l.set m {l.getD m default with b := b3, c := c3, can := (l.getD m default).can ++ [r67]}).map toM, ⟨MRok.small (by simp; omega) (MRok.set hok (m := m) (x := {l.getD m default with b := b3, c := c3, can := (l.getD m default).can ++ [r67]}) ⟨(MRok.getD hok (m := m) (by omega)).1, by show ((l.getD m default).can ++ [r67]).length ≤ 6; have := (MRok.getD hok (m := m) (by omega)).2.1; rw [List.length_append, List.length_singleton]; omega, fun y hy => by rcases List.mem_append.1 (show y ∈ (l.getD m default).can ++ [r67] from hy) with hy | hy; exact (MRok.getD hok (m := m) (by omega)).2.2 y hy; (rw [List.mem_singleton] at hy; subst hy; exact hr67)⟩), by simp; omega, by simp; omega⟩, rfl⟩) ((show k + 1 + 8 * q + 1 + 1 + 1 + 1 ≤ k + 60 by omega))))
    · have aH4 := aH4b
      try simp only [qqT, qqF, qqN, qqM, qqL, qqE] at aH4
      refine VC.skip ?_
      refine VC.sr ?_
      refine VO.mv rfl rfl rfl rfl ?_
      refine VO.ma rfl rfl rfl rfl ?_
      refine VO.nil ?_
      refine VC.le _ (Le.fam (t := 2) (l := l) hB hnew rfl rfl (.inl ⟨_, rfl⟩) (fun q hq => famAt hq)) ?_
      refine VC.ret ?_
      exact Exists.intro _ (And.intro (RetV.one Tryz.results66 (ResV.tmp rfl)) (And.intro (by first | exact ⟨_, ⟨MRok.small (by omega) (fun x hx => (hok x hx).six), by rw [List.length_map]; omega, by rw [List.length_map]; omega⟩, rfl⟩ | exact ⟨_, ⟨MRok.small (by simp; omega) (by rw [List.set_set]; exact MRok.set hok ⟨hr78, (MRok.getD hok (m := m) (by omega)).six.2⟩), by simp; omega, by simp; omega⟩, rfl⟩ | exact ⟨_, ⟨MRok.small (by simp; omega) (by rw [List.set_set]; exact MRok.set hok ⟨(MRok.getD hok (m := m) (by omega)).1, (MRok.getD hok (m := m) (by omega)).six.2⟩), by simp; omega, by simp; omega⟩, rfl⟩ | exact ⟨(l.set m {l.getD m default with b := b3, c := c3, can := (l.getD m default).can ++ [r67]}).map toM, ⟨MRok.small (by simp; omega) (MRok.set hok (m := m) (x := {l.getD m default with b := b3, c := c3, can := (l.getD m default).can ++ [r67]}) ⟨(MRok.getD hok (m := m) (by omega)).1, by show ((l.getD m default).can ++ [r67]).length ≤ 6; have := (MRok.getD hok (m := m) (by omega)).2.1; rw [List.length_append, List.length_singleton]; omega, fun y hy => by rcases List.mem_append.1 (show y ∈ (l.getD m default).can ++ [r67] from hy) with hy | hy; exact (MRok.getD hok (m := m) (by omega)).2.2 y hy; (rw [List.mem_singleton] at hy; subst hy; exact hr67)⟩), by simp; omega, by simp; omega⟩, rfl⟩) ((show k + 1 + 8 * q + 1 ≤ k + 60 by omega))))
end Go.Proofs.YtaaokimiadfidaaGreatDoor
namespace Go.Proofs.YtaaokimiadfidaaGreatDoor
set_option linter.unusedVariables false
set_option linter.unusedSimpArgs false

structure Pass where
 taken : Int
 left : Int

instance : Enc Pass where
 sz := 2
 Is _ _ p f := f 0 = some (.int .i64 p.taken) ∧ f 1 = some (.int .i64 p.left)
 keep h _ _ := h
 low h _ := h
 ext h e := ⟨(e 0 (by omega)) ▸ h.1, (e 1 (by omega)) ▸ h.2⟩
 one h j hj := by
  rcases (show j = 0 ∨ j = 1 by omega) with rfl | rfl
  ·exact ⟨_, h.1, rfl⟩
  ·exact ⟨_, h.2, rfl⟩
 pos := by omega
instance : Flat Pass := ⟨fun h => h⟩

def at' (l : List Int) (k : Nat) : Int := l.getD k 0

def pas (c bf : List Int) (b k : Nat) : Pass :=
  let here : Int := if hk : k = 0 then 0 else (pas c bf b (k - 1)).left
  let taken : Int := if hb : b = 0 then here else max here (pas c bf (b - 1) k).left
  let left : Int := taken + at' c k
  ⟨taken, if k + 1 < c.length then
      (if at' bf k = 0 then (if hb : b = 0 then left else max left (pas c bf (b - 1) (k + 1)).left)
       else if hr : 0 < at' bf k ∧ at' bf k ≤ b then max left (pas c bf (b - (at' bf k).toNat) (k + 1)).taken else left)
    else left⟩
termination_by (b, k)
decreasing_by
  all_goals simp_wf
  all_goals first
    | (apply Prod.Lex.right; omega)
    | (apply Prod.Lex.left; omega)

def here (c bf : List Int) (b k : Nat) : Int := if k = 0 then 0 else (pas c bf b (k - 1)).left

theorem pas_taken (c bf : List Int) (b k : Nat) : (pas c bf b k).taken = if b = 0 then here c bf b k else max (here c bf b k) (pas c bf (b - 1) k).left := by
 rw [pas]; simp only [here]; split <;> simp_all
theorem pas_left (c bf : List Int) (b k : Nat) : (pas c bf b k).left =
    if k + 1 < c.length then
      (if at' bf k = 0 then (if b = 0 then (pas c bf b k).taken + at' c k else max ((pas c bf b k).taken + at' c k) (pas c bf (b - 1) (k + 1)).left)
       else if 0 < at' bf k ∧ at' bf k ≤ b then max ((pas c bf b k).taken + at' c k) (pas c bf (b - (at' bf k).toNat) (k + 1)).taken else (pas c bf b k).taken + at' c k)
    else (pas c bf b k).taken + at' c k := by
  conv => lhs; rw [pas]
  conv => rhs; rw [pas_taken]
  simp only [here]
  repeat' split
  all_goals simp_all

structure RightLine (c bf : List Int) : Prop where
 len : c.length ≤ 6
 pos : 0 < c.length
 c1 : ∀ k, k < c.length → 1 ≤ at' c k ∧ at' c k ≤ 10000000
 b0 : ∀ k, 0 ≤ at' bf k
 bl : bf.length + 1 = c.length

theorem pas_bd {c bf : List Int} (h : RightLine c bf) (b : Nat) : ∀ k, k < c.length →
  0 ≤ (pas c bf b k).taken ∧ (pas c bf b k).taken + at' c k ≤ (pas c bf b k).left ∧ (pas c bf b k).left ≤ 10000000 * (b + k + 1) := by
 induction b using Nat.strongRecOn with
 | _ b ihb =>
  intro k
  induction k with
  | zero =>
   intro hk
   have hc := h.c1 0 hk
   have ht := pas_taken c bf b 0
   have hl := pas_left c bf b 0
   have hh : here c bf b 0 = 0 := by simp [here]
   rw [hh] at ht
   have h1 : 0 < b → _ := fun hb => ihb (b - 1) (by omega) 0 hk
   have h2 : 0 < b → 1 < c.length → _ := fun hb hk1 => ihb (b - 1) (by omega) 1 hk1
   have h3 : 0 < at' bf 0 ∧ at' bf 0 ≤ b → 1 < c.length → _ := fun hb hk1 => ihb (b - (at' bf 0).toNat) (by omega) 1 hk1
   have hc1 := h.c1 1
   split at ht <;> (split at hl <;> (try split at hl) <;> (try split at hl)) <;> grind
  | succ k ihk =>
   intro hk
   have hc := h.c1 (k + 1) hk
   have hcp := h.c1 k (by omega)
   have hp := ihk (by omega)
   have ht := pas_taken c bf b (k + 1)
   have hl := pas_left c bf b (k + 1)
   have hh : here c bf b (k + 1) = (pas c bf b k).left := by simp [here]
   rw [hh] at ht
   have h1 : 0 < b → _ := fun hb => ihb (b - 1) (by omega) (k + 1) hk
   have h2 : 0 < b → k + 2 < c.length → _ := fun hb hk1 => ihb (b - 1) (by omega) (k + 2) hk1
   have h3 : 0 < at' bf (k + 1) ∧ at' bf (k + 1) ≤ b → k + 2 < c.length → _ := fun hb hk1 => ihb (b - (at' bf (k + 1)).toNat) (by omega) (k + 2) hk1
   have hc1 := h.c1 (k + 2)
   split at ht <;> (split at hl <;> (try split at hl) <;> (try split at hl)) <;> grind

end Go.Proofs.YtaaokimiadfidaaGreatDoor
namespace Go.Proofs.YtaaokimiadfidaaGreatDoor
open Go.RowKit
set_option linter.unusedVariables false
set_option linter.unusedSimpArgs false

section
variable {P : Program} {α : Type} [Enc α]

theorem append1_run (w : World) (c1 : Array Value) (T ty e : TypeId) (i : TypeInfo) (z : Value) (bytes : Nat) (h1 : P.underlying T = some (.slice e)) (h2 : P.info? e = some i)
    (h3 : i.zero = some z) (h4 : i.size = Enc.sz α) (h5 : i.bytes = bytes) (hz : z.cells.size = Enc.sz α) (hby : bytes ≤ 4096)
    (lo : Nat) (v : Value) (xs : List α) (y : α) (hown : Own w lo e v xs) (hlo : lo ≤ w.heap.size) (hlen : xs.length ≤ 1000000000)
    (hy : Enc.Is w (fun k => lo ≤ k ∧ v.ownBlock ≠ some k) y (fun j => c1[j]?)) (hc1 : c1.size = Enc.sz α) :
    ∃ g cap w', (Builtin.append_ #[T, T] ty #[v, .slice (some ⟨w.heap.size, 0, none⟩) 1 1]).run P (w.alloc (.cells c1 e)) = .ok (.slice (some ⟨g, 0, none⟩) (xs.length + 1) cap) w' ∧
      Own w' lo e (.slice (some ⟨g, 0, none⟩) (xs.length + 1) cap) (xs ++ [y]) ∧ Chg (blk v) w w' ∧ (v.ownBlock = some g ∨ w.heap.size ≤ g) ∧ lo ≤ g := by
  obtain ⟨cs, hrow, hel⟩ := hown
  have hsz : 0 < Enc.sz α := Enc.pos
  have hnews : ∀ j u, c1.toList[j]? = some u → (w.alloc (.cells c1 e)).cell? ((⟨w.heap.size, 0, none⟩ : Addr).add j) = some u := by
    intro j u hu
    have hadd : (⟨w.heap.size, 0, none⟩ : Addr).add j = ⟨w.heap.size, j, none⟩ := by unfold Addr.add; split <;> simp_all
    rw [hadd, cell_of_row _ w.heap.size j c1 e (0, 0) (heap_alloc_new w _)]
    simpa using hu
  have hone : ∀ u ∈ c1.toList, u.oneCell' = true := by
    intro u hu
    obtain ⟨j, hj, rfl⟩ := List.mem_iff_getElem.1 hu
    obtain ⟨u', h', h''⟩ := Enc.one hy j (by simpa [hc1] using hj)
    simp at hj
    simp [hj] at h'
    simpa [h'] using h''
  have hl1 : c1.toList.length = 1 * i.size := by simp [hc1, h4]
  have hlen' : (cs ++ c1.toList).length = (xs.length + 1) * Enc.sz α := by rw [List.length_append, hrow.1, Nat.add_mul]; simp [hc1]
  have hl2 : (xs ++ [y]).length = xs.length + 1 := by simp
  have hmx : xs.length + 1 ≤ maxLen := by simp only [maxLen]; omega
  have hb47 : (xs.length + 1) * i.bytes ≤ 140737488355328 := by
    rw [h5]
    exact Nat.le_trans (Nat.mul_le_mul_left _ hby) (by omega)
  -- the elements behind the step, whatever block they end in
  have helem : ∀ (w' : World) (g cap : Nat), Chg (blk v) w w' → (v.ownBlock = some g ∨ w.heap.size ≤ g) →
      ∀ j, (h : j < (xs ++ [y]).length) → Enc.Is w' (fun k => lo ≤ k ∧ (Value.slice (some ⟨g, 0, none⟩) (xs.length + 1) cap).ownBlock ≠ some k) (xs ++ [y])[j] (fun q => (cs ++ c1.toList)[j * Enc.sz α + q]?) := by
    intro w' g cap hch hg j hj
    have hA : ∀ k, ((lo ≤ k ∧ v.ownBlock ≠ some k) ∧ k < w.heap.size) → (lo ≤ k ∧ (Value.slice (some ⟨g, 0, none⟩) (xs.length + 1) cap).ownBlock ≠ some k) := by
      intro k hk
      refine ⟨hk.1.1, ?_⟩
      simp only [Value.ownBlock, ne_eq, Option.some.injEq]
      rintro rfl
      rcases hg with hg | hg
      · exact hk.1.2 hg
      · omega
    have hgo : ∀ (x : α) (f : Nat → Option Value), Enc.Is w (fun k => lo ≤ k ∧ v.ownBlock ≠ some k) x f →
        Enc.Is w' (fun k => lo ≤ k ∧ (Value.slice (some ⟨g, 0, none⟩) (xs.length + 1) cap).ownBlock ≠ some k) x f := by
      intro x f hx
      exact Enc.low (Enc.keep (Enc.low (A' := fun k => (lo ≤ k ∧ v.ownBlock ≠ some k) ∧ k < w.heap.size) hx fun k hk hl => ⟨hk, hl⟩) hch fun k hk hl => hk.1.2) fun k hk _ => hA k hk
    by_cases hjx : j < xs.length
    · rw [List.getElem_append_left hjx]
      refine hgo _ _ (Enc.ext (hel j hjx) fun q hq => ?_)
      have : j * Enc.sz α + q < cs.length := by
        rw [hrow.1]
        have := Nat.mul_le_mul_right (Enc.sz α) (show j + 1 ≤ xs.length from hjx)
        rw [Nat.add_mul] at this; omega
      rw [List.getElem?_append_left this]
    · obtain rfl : j = xs.length := by simp at hj; omega
      rw [List.getElem_append_right (by omega)]
      simp only [Nat.sub_self, List.getElem_cons_zero]
      refine hgo _ _ (Enc.ext hy fun q hq => ?_)
      rw [List.getElem?_append_right (by rw [hrow.1]; omega), hrow.1, Nat.add_sub_cancel_left]
      simp
  rcases hrow.2 with ⟨rfl, h0⟩ | ⟨g, cap, cur, rfl, hbg, hg, hnc, hcm, hcs, htake⟩
  · have hx : xs = [] := List.eq_nil_of_length_eq_zero h0
    subst hx
    have hcs0 : cs = [] := List.eq_nil_of_length_eq_zero (by simpa using hrow.1)
    subst hcs0
    have hr := run_append_nil (P := P) (w.alloc (.cells c1 e)) T ty e i z h1 h2 h3 ⟨w.heap.size, 0, none⟩ 1 1 c1.toList hl1 hnews (by omega) (by omega) (by have := hb47; simp at this; omega)
    have hge := grownCap_ge (w.alloc (.cells c1 e)) 1 0 e
    have hcm := grownCap_le_maxLen (w.alloc (.cells c1 e)) 1 0 e (by simp [maxLen])
    have hch : Chg (blk (.slice none 0 0)) w ((w.alloc (.cells c1 e)).drew.alloc (.cells (c1.toList.toArray ++ Builtin.zeroCells z.cells (grownCap (w.alloc (.cells c1 e)) 1 0 e - 1)) e)) :=
      (((Chg.refl _ w).alloc _).drew).alloc _
    refine ⟨_, _, _, hr, ⟨[] ++ c1.toList, ⟨by rw [hl2]; exact hlen', .inr ⟨_, _, _, by rw [hl2]; rfl, ?_, heap_alloc_new _ _, ?_, hcm, ?_, ?_⟩⟩, helem _ _ _ hch (.inr (by simp))⟩, hch, .inr (by simp), by simp; omega⟩
    · simp; omega
    · simpa using hge
    · simp only [Array.size_append, List.size_toArray, size_zeroCells, hz, Array.length_toList, hc1, List.nil_append]
      rw [Nat.sub_mul, Nat.one_mul]
      have : Enc.sz α ≤ grownCap (w.alloc (.cells c1 e)) 1 0 e * Enc.sz α := Nat.le_mul_of_pos_left _ (by omega)
      omega
    · simp [hc1]
  · by_cases hroom : xs.length + 1 ≤ cap
    · have hgs := (Array.getElem?_eq_some_iff.1 hg).1
      have hg' : (w.alloc (.cells c1 e)).heap[g]? = some (.cells cur e (0, 0)) := (Below.heap_alloc w _ g hgs).trans hg
      have hfit : xs.length * i.size + c1.toList.length ≤ cur.size := by
        rw [hl1, hcs, ← Nat.add_mul, h4]; exact Nat.mul_le_mul_right _ hroom
      have hr := run_append_room (P := P) (w.alloc (.cells c1 e)) T ty e i h1 h2 g xs.length cap cur hg' ⟨w.heap.size, 0, none⟩ 1 1 c1.toList hl1 hnews hone hroom hfit
      have hch : Chg (blk (.slice (some ⟨g, 0, none⟩) xs.length cap)) w ((w.alloc (.cells c1 e)).setRow g (cur.toList.take (xs.length * i.size) ++ c1.toList ++ cur.toList.drop (xs.length * i.size + c1.toList.length)).toArray) :=
        ((Chg.refl _ w).alloc _).grown (row := some g) ⟨rfl, rfl, rfl, by simp, fun k _ hk => setRow_other _ g k _ (fun e => hk (by simp [e]))⟩ (fun k hk _ => by cases hk; rfl)
      refine ⟨_, _, _, hr, ⟨cs ++ c1.toList, ⟨by rw [hl2]; exact hlen', .inr ⟨g, cap, _, by rw [hl2], hbg, setRow_heap _ g cur _ e _ hg', by simpa using hroom, hcm, ?_, ?_⟩⟩, helem _ _ _ hch (.inl rfl)⟩, hch, .inl rfl, hbg⟩
      · simp only [List.size_toArray, List.length_append, List.length_take, List.length_drop, Array.length_toList] at hfit ⊢
        omega
      · rw [h4, htake]
        have : (xs ++ [y]).length * Enc.sz α = (cs ++ c1.toList).length := by rw [hlen']; simp
        rw [this]
        exact List.take_left
    · have holds : ∀ j u, cs[j]? = some u → (w.alloc (.cells c1 e)).cell? ((⟨g, 0, none⟩ : Addr).add j) = some u := by
        intro j u hu
        have hgs := (Array.getElem?_eq_some_iff.1 hg).1
        have h := hrow.cells (g := g) rfl j u hu
        have hadd : ((⟨g, 0, none⟩ : Addr).add j).block = g := by unfold Addr.add; split <;> rfl
        exact (World.cell?_of_block (by rw [hadd]; exact Below.heap_alloc w _ g hgs)).trans h
      have hr := run_append_grow (P := P) (w.alloc (.cells c1 e)) T ty e i z h1 h2 h3 ⟨g, 0, none⟩ xs.length cap cs (by rw [hrow.1, h4]) holds ⟨w.heap.size, 0, none⟩ 1 1 c1.toList hl1 hnews (by omega) (by omega) (growslice_fits (by omega) hb47)
      have hge := grownCap_ge (w.alloc (.cells c1 e)) (xs.length + 1) cap e
      have hcm' := grownCap_le_maxLen (w.alloc (.cells c1 e)) (xs.length + 1) cap e hmx
      have hch : Chg (blk (.slice (some ⟨g, 0, none⟩) xs.length cap)) w ((w.alloc (.cells c1 e)).drew.alloc (.cells (cs.toArray ++ c1.toList.toArray ++ Builtin.zeroCells z.cells (grownCap (w.alloc (.cells c1 e)) (xs.length + 1) cap e - (xs.length + 1))) e)) :=
        (((Chg.refl _ w).alloc _).drew).alloc _
      refine ⟨_, _, _, hr, ⟨cs ++ c1.toList, ⟨by rw [hl2]; exact hlen', .inr ⟨_, _, _, by rw [hl2]; rfl, ?_, heap_alloc_new _ _, ?_, hcm', ?_, ?_⟩⟩, helem _ _ _ hch (.inr (by simp))⟩, hch, .inr (by simp), by simp; omega⟩
      · simp; omega
      · simpa using hge
      · simp only [Array.size_append, List.size_toArray, size_zeroCells, hz, Array.length_toList, hc1, hrow.1]
        rw [Nat.sub_mul, Nat.add_mul, Nat.one_mul]
        have := Nat.mul_le_mul_right (Enc.sz α) hge
        rw [Nat.add_mul, Nat.one_mul] at this
        omega
      · have : (xs ++ [y]).length * Enc.sz α = (cs ++ c1.toList).length := by rw [hlen']; simp
        rw [this]
        simp only [Array.toList_append, List.toList_toArray, ← List.append_assoc]
        exact List.take_left

theorem wpl_append1 {ops : Array Oper} {rest : List Oper} {o : Oper} {a : Act} {Q : Exit → Act → World → Prop} (w : World) (c1 : Array Value)
  (hg : o.guard = none) (s x : Operand) (T e : TypeId) (hop : o.op = Op.call { callee := Callee.builtin Builtin.append, args := #[s, x], argTypes := #[T, T] })
  (i : TypeInfo) (z : Value) (bytes : Nat) (h1 : P.underlying T = some (.slice e)) (h2 : P.info? e = some i)
  (h3 : i.zero = some z) (h4 : i.size = Enc.sz α) (h5 : i.bytes = bytes) (hz : z.cells.size = Enc.sz α) (hby : bytes ≤ 4096)
  (lo : Nat) (v : Value) (xs : List α) (y : α) (hown : Own w lo e v xs) (hlo : lo ≤ w.heap.size) (hlen : xs.length ≤ 1000000000)
  (hy : Enc.Is w (fun k => lo ≤ k ∧ v.ownBlock ≠ some k) y (fun j => c1[j]?)) (hc1 : c1.size = Enc.sz α)
  (hs : a.eval s = v) (hx : a.eval x = .slice (some ⟨w.heap.size, 0, none⟩) 1 1)
  (hK : ∀ g cap w', Own w' lo e (.slice (some ⟨g, 0, none⟩) (xs.length + 1) cap) (xs ++ [y]) → Chg (blk v) w w' → (v.ownBlock = some g ∨ w.heap.size ≤ g) → lo ≤ g →
   wpList P ops Q rest (a.put o.dst (.slice (some ⟨g, 0, none⟩) (xs.length + 1) cap)) w') : wpList P ops Q (o :: rest) a (w.alloc (.cells c1 e)) := by
 refine wpList_plain hg fun K hK' => ?_
 obtain ⟨g, cap, w', hr, r1, r2, r3, r4⟩ := append1_run (P := P) w c1 T o.type e i z bytes h1 h2 h3 h4 h5 hz hby lo v xs y hown hlo hlen hy hc1
 unfold Oper.wp execOp
 simp only [hop, resolve, invoke, builtin, Sem.run_bind, Sem.run_pure, Result.andThen_ok, List.map_toArray, List.map_cons, List.map_nil, hs, hx, hr]
 exact hK' _ _ (hK g cap w' r1 r2 r3 r4)

theorem wpl_append_int {ops : Array Oper} {rest : List Oper} {o : Oper} {a : Act} {Q : Exit → Act → World → Prop} (w : World)
  (hg : o.guard = none) (s x : Operand) (T e : TypeId) (hop : o.op = Op.call { callee := Callee.builtin Builtin.append, args := #[s, x], argTypes := #[T, T] })
  (h1 : P.underlying T = some (.slice e)) (hinfo : (P.info? e).map (fun i => (i.zero, i.size, i.bytes)) = some (some (.int .i64 0), 1, 8))
  (lo : Nat) (v : Value) (xs : List Int) (y : Int) (hown : Own w lo e v xs) (hlo : lo ≤ w.heap.size) (hlen : xs.length ≤ 1000000000)
  (hs : a.eval s = v) (hx : a.eval x = .slice (some ⟨w.heap.size, 0, none⟩) 1 1)
  (hK : ∀ g cap w', Own w' lo e (.slice (some ⟨g, 0, none⟩) (xs.length + 1) cap) (xs ++ [y]) → Chg (blk v) w w' → (v.ownBlock = some g ∨ w.heap.size ≤ g) → lo ≤ g →
   wpList P ops Q rest (a.put o.dst (.slice (some ⟨g, 0, none⟩) (xs.length + 1) cap)) w') : wpList P ops Q (o :: rest) a (w.alloc (.cells #[.int .i64 y] e)) := by
 obtain ⟨i, hi, hz0, hz1, hz2⟩ := info_parts hinfo
 exact wpl_append1 (α := Int) w _ hg s x T e hop i (.int .i64 0) 8 h1 hi hz0 hz1 hz2 rfl (by decide) lo v xs y hown hlo hlen rfl rfl hs hx hK

theorem wpl_append_intB {ops : Array Oper} {rest : List Oper} {o : Oper} {a : Act} {Q : Exit → Act → World → Prop} (w : World)
  (hg : o.guard = none) (s x : Operand) (T e : TypeId) (hop : o.op = Op.call { callee := Callee.builtin Builtin.append, args := #[s, x], argTypes := #[T, T] })
  (h1 : P.underlying T = some (.slice e)) (hinfo : (P.info? e).map (fun i => (i.zero, i.size, i.bytes)) = some (some (.int .i64 0), 1, 8))
  (lo : Nat) (v : Value) (xs : List Int) (y : Int) (hown : Own w lo e v xs) (hlo : lo ≤ w.heap.size) (hlen : xs.length ≤ 1000000000)
  (B : Nat) (hB : B = w.heap.size) (n : Nat) (hn : xs.length = n) (hs : a.eval s = v) (hx : a.eval x = .slice (some ⟨B, 0, none⟩) 1 1)
  (hK : ∀ g cap w', Own w' lo e (.slice (some ⟨g, 0, none⟩) (n + 1) cap) (xs ++ [y]) → Chg (blk v) w w' → (v.ownBlock = some g ∨ w.heap.size ≤ g) → lo ≤ g →
   wpList P ops Q rest (a.put o.dst (.slice (some ⟨g, 0, none⟩) (n + 1) cap)) w') : wpList P ops Q (o :: rest) a (w.alloc (.cells #[.int .i64 y] e)) := by
 subst hB; subst hn
 exact wpl_append_int w hg s x T e hop h1 hinfo lo v xs y hown hlo hlen hs hx hK

end

theorem wpl_make_raw {P : Program} {ops : Array Oper} {rest : List Oper} {o : Oper} {a : Act} {Q : Exit → Act → World → Prop} (w : World)
  (hg : o.guard = none) (l c : Operand) (T e : TypeId) (hop : o.op = Op.makeSlice T l c)
  (z : Value) (bytes : Nat) (h1 : P.underlying T = some (.slice e)) (hinfo : (P.info? e).map (fun i => (i.zero, i.size, i.bytes)) = some (some z, 1, bytes)) (hz : z.cells = #[z]) (hby : bytes ≤ 4096)
  (kl kc : IntKind) (C D : Int) (hl : a.eval l = .int kl C) (hc : a.eval c = .int kc D) (n : Nat) (hC : C = n) (hD : D = n) (hn : n ≤ 1000000000)
  (hK : wpList P ops Q rest (a.put o.dst (.slice (some ⟨w.heap.size, 0, none⟩) n n)) (w.alloc (.cells (Array.replicate n z) e))) :
  wpList P ops Q (o :: rest) a w := by
 subst hC; subst hD
 obtain ⟨i, hi, hz0, hz1, hz2⟩ := info_parts hinfo
 refine wpList_plain hg fun K hK' => ?_
 have hb : (i.bytes : Int) * (n : Int) ≤ 281474976710656 := by
  have h : ((i.bytes * n : Nat) : Int) ≤ 281474976710656 := by
   have : i.bytes * n ≤ 4096 * 1000000000 := by rw [hz2]; exact Nat.mul_le_mul hby hn
   omega
  rwa [Int.natCast_mul] at h
 have hr := run_make (P := P) w T e i z h1 hi hz0 kl kc n n (by omega) (Int.le_refl _) hb (by omega)
 simp only [Int.toNat_natCast] at hr
 have he : madeCells z.cells (n * i.size) = Array.replicate n z := by
  rw [hz, hz1, Nat.mul_one]
  exact Array.ext' (by rw [toList_madeCells_one]; simp)
 rw [he] at hr
 unfold Oper.wp
 simp [execOp, hop, hl, hc, hr, Result.andThen]
 exact hK' _ _ hK

theorem step_append1 {P : Program} {α : Type} [Enc α] {ops : Array Oper} {o : Oper} {a : Act} {K : Act → World → Prop} {Q : Exit → Act → World → Prop} {E : Prop} (w : World) (c1 : Array Value)
  (hg : o.guard = none) (s x : Operand) (T e : TypeId) (hop : o.op = Op.call { callee := Callee.builtin Builtin.append, args := #[s, x], argTypes := #[T, T] })
  (i : TypeInfo) (z : Value) (bytes : Nat) (h1 : P.underlying T = some (.slice e)) (h2 : P.info? e = some i)
  (h3 : i.zero = some z) (h4 : i.size = Enc.sz α) (h5 : i.bytes = bytes) (hz : z.cells.size = Enc.sz α) (hby : bytes ≤ 4096)
  (lo : Nat) (v : Value) (xs : List α) (y : α) (hown : Own w lo e v xs) (hlo : lo ≤ w.heap.size) (hlen : xs.length ≤ 1000000000)
  (hy : Enc.Is w (fun k => lo ≤ k ∧ v.ownBlock ≠ some k) y (fun j => c1[j]?)) (hc1 : c1.size = Enc.sz α)
  (hs : a.eval s = v) (hx : a.eval x = .slice (some ⟨w.heap.size, 0, none⟩) 1 1)
  (hK : ∀ g cap w', Own w' lo e (.slice (some ⟨g, 0, none⟩) (xs.length + 1) cap) (xs ++ [y]) → Chg (blk v) w w' → (v.ownBlock = some g ∨ w.heap.size ≤ g) → lo ≤ g →
   K (a.put o.dst (.slice (some ⟨g, 0, none⟩) (xs.length + 1) cap)) w') :
  if Region.wanted o (yielded ops a.tmps) = true then Oper.wp P o a (w.alloc (.cells c1 e)) K Q else E := by
 have hw : Region.wanted o (yielded ops a.tmps) = true := by simp [Region.wanted, hg]
 rw [if_pos hw]
 obtain ⟨g, cap, w', hr, r1, r2, r3, r4⟩ := append1_run (P := P) w c1 T o.type e i z bytes h1 h2 h3 h4 h5 hz hby lo v xs y hown hlo hlen hy hc1
 unfold Oper.wp execOp
 simp only [hop, resolve, invoke, builtin, Sem.run_bind, Sem.run_pure, Result.andThen_ok, List.map_toArray, List.map_cons, List.map_nil, hs, hx, hr]
 exact hK g cap w' r1 r2 r3 r4

theorem Own.set {w : World} {lo e g n cap : Nat} {xs : List Int} (h : Own w lo e (.slice (some ⟨g, 0, none⟩) n cap) xs) (i : Nat) (hi : i < xs.length) (x : Int) :
  Own (w.setCell ⟨g, i, none⟩ (.int .i64 x)) lo e (.slice (some ⟨g, 0, none⟩) n cap) (xs.set i x) := by
 obtain ⟨cs, h1, h2⟩ := h
 obtain ⟨h3, h4⟩ := h1
 rcases h4 with ⟨hv, _⟩ | ⟨g', cap', cur, hv, hb, hg, hc, hm, hs, ht⟩
 ·cases hv
 ·cases hv
  refine ⟨cs.set i (.int .i64 x), ⟨by simpa using h3, .inr ⟨g, cap, cur.setIfInBounds i (.int .i64 x), by simp, hb, ?_, by simpa using hc, hm, by simpa using hs, ?_⟩⟩, fun j hj => ?_⟩
  ·simp [World.setCell, Array.getElem?_modify, hg]
  ·rw [← ht]; simp [List.take_set]
  ·simp at hj
   have := h2 j hj
   simp only [Enc.Is, Enc.sz, Nat.mul_one, Nat.add_zero] at this ⊢ h3
   rw [List.getElem?_set, List.getElem_set]
   by_cases hij : i = j
   ·subst hij; simp; omega
   ·simp [hij, this]

end Go.Proofs.YtaaokimiadfidaaGreatDoor
namespace Go.Proofs.YtaaokimiadfidaaGreatDoor
open Go.RowKit
set_option linter.unusedVariables false
set_option linter.unusedSimpArgs false

def PredI (F : FuncId) (caps : Array Value) (pr : Int → Bool) (w : World) (xs : List Int) : Prop :=
 (∀ args w, (callFunc F args).run Tryz.prog w = .ok (.enter F args) w) ∧
 ∀ x ∈ xs, ∀ w1, Chg NoB w w1 → Calls Tryz.prog F (#[.int .i64 x] ++ caps) w1 fun e w2 => e = .returned (.bool (pr x)) ∧ Chg NoB w1 w2

def idx {α : Type} (pr : α → Bool) (xs : List α) : Int := match xs.findIdx? pr with
 | some i => i
 | none => -1

theorem idx_none {α : Type} {pr : α → Bool} {xs : List α} (h : ∀ j, (hj : j < xs.length) → pr xs[j] = false) : idx pr xs = -1 := by
 have : xs.findIdx? pr = none := by
  rw [List.findIdx?_eq_none_iff]
  intro x hx
  obtain ⟨j, hj, rfl⟩ := List.mem_iff_getElem.1 hx
  exact h j hj
 rw [idx, this]
theorem idx_some {α : Type} {pr : α → Bool} {xs : List α} {i : Nat} (hi : i < xs.length) (hp : pr xs[i] = true) (h : ∀ j, (hj : j < i) → pr (xs[j]'(by omega)) = false) : idx pr xs = i := by
 have : xs.findIdx? pr = some i := by
  rw [List.findIdx?_eq_some_iff_getElem]
  exact ⟨hi, hp, fun j hj => by simp [h j hj]⟩
 rw [idx, this]
theorem idx_any {α : Type} (pr : α → Bool) (xs : List α) : decide (0 ≤ idx pr xs) = xs.any pr := by
 unfold idx
 cases h : xs.findIdx? pr with
 | none =>
  rw [List.findIdx?_eq_none_iff] at h
  symm
  simp [List.any_eq_false]
  intro x hx
  simp [h x hx]
 | some i =>
  rw [List.findIdx?_eq_some_iff_getElem] at h
  obtain ⟨hi, hp, _⟩ := h
  symm
  simp only [Int.natCast_nonneg, decide_true, List.any_eq_true]
  exact ⟨xs[i], List.getElem_mem _, hp⟩

set_option maxHeartbeats 400000 in
theorem indexFuncI (v : Value) (xs : List Int) (F : FuncId) (caps : Array Value) (pr : Int → Bool) (A : Nat → Prop) (w : World) (hv : IsSl w A v xs) (hF : PredI F caps pr w xs) :
  Calls Tryz.prog 348 #[v, .func (.func F) #[] caps] w fun e w' => e = .returned (.int .i64 (idx pr xs)) ∧ Chg NoB w w' := by
 obtain ⟨hcf, hF⟩ := hF
 obtain ⟨a, cap, rfl, hc1, hc2⟩ := hv.shape
 unfold maxLen at hc2
 go_enter Tryz.func348, Tryz.ntmps348
 go_wp2_with fail
 go_loopw [5, 8] (fun _ i wr => ∃ j : Nat, j ≤ xs.length ∧ i = .int .i64 j ∧ Hid (∀ q, (hq : q < j) → (hq' : q < xs.length) → pr xs[q] = false) ∧ Chg NoB w wr)
  (fun _ i _ => xs.length - (intOf i).toNat)
 case atStart => exact ⟨0, by omega, rfl, hid fun q hq => by omega, Chg.refl _ _⟩
 case round =>
  obtain ⟨j, hj, rfl, hno, hch⟩ := hrel
  by_cases hjn : j < xs.length
  ·obtain ⟨b, off, rfl, hb, hcells⟩ := hv.ints (by omega)
   have hcell := hch.cell (hcells j hjn) (fun x => x)
   clear hcells
   have HF := hid (hF xs[j] (List.getElem_mem _) wr hch)
   clear hF
   go_wp2_with fail
   refine HF.out.mono ?_
   rintro e w2 ⟨rfl, hc3⟩
   go_wp2_with fail
   ·have hp : pr xs[j] = true := by assumption
    go_ret
    exact ⟨ret_int (idx_some hjn hp fun q hq => hno.out q hq (by omega)).symm, hch.trans hc3⟩
   ·have hp : pr xs[j] = false := by assumption
    go_roundw
    case rel => exact ⟨j + 1, by omega, by go_num, hid fun q hq hq' => by
     by_cases h : q < j
     ·exact hno.out q h hq'
     ·obtain rfl : q = j := by omega
      exact hp, hch.trans hc3⟩
    case measure => simp [intOf]; omega
  ·go_wp2_with fail
   go_ret
   exact ⟨ret_int (idx_none fun q hq => hno.out q (by omega) hq).symm, hch⟩

set_option maxHeartbeats 400000 in
theorem containsFuncI (v : Value) (xs : List Int) (F : FuncId) (caps : Array Value) (pr : Int → Bool) (A : Nat → Prop) (w : World) (hv : IsSl w A v xs) (hF : PredI F caps pr w xs) :
  Calls Tryz.prog 287 #[v, .func (.func F) #[] caps] w fun e w' => e = .returned (.bool (xs.any pr)) ∧ Chg NoB w w' := by
 have hc := indexFuncI v xs F caps pr A w hv hF
 have HC := hid hc; clear hc hF
 go_enter Tryz.func287, Tryz.ntmps287
 go_wp2_with (go_at_call 348; refine HC.out.mono ?_; rintro e w1 ⟨rfl, hc1⟩)
 go_ret
 exact ⟨ret_bool (idx_any pr xs), hc1⟩

set_option maxHeartbeats 400000 in
theorem outside_any (n lo hi : Int) (w : World) :
  Calls Tryz.prog 119 #[.int .i64 n, .int .i64 lo, .int .i64 hi] w fun e w' => e = .returned (.bool (decide (n < lo) || decide (hi < n))) ∧ w = w' := by
 by_cases h : n < lo
 ·go_enter Tryz.func119, Tryz.ntmps119
  go_wp2_with fail
  go_ret
  exact ⟨ret_bool (by simp [h]), rfl⟩
 ·go_enter Tryz.func119, Tryz.ntmps119
  go_wp2_with fail
  go_ret
  exact ⟨ret_bool (by simp; omega), rfl⟩

end Go.Proofs.YtaaokimiadfidaaGreatDoor
namespace Go.Proofs.YtaaokimiadfidaaGreatDoor
open Go.RowKit
set_option linter.unusedVariables false
set_option linter.unusedSimpArgs false

def outB (lo hi x : Int) : Bool := decide (x < lo) || decide (hi < x)
def cycF (c : List Int) : Int := if c.length = 0 then 8 else if 6 < c.length then 2 else if c.any (outB 1 10000000) then 1 else 0
def flowF (c b : List Int) (n : Int) : Int :=
 if cycF c ≠ 0 then cycF c else if (b.length : Int) ≠ c.length - 1 then 3 else if b.any (outB 0 2000) || outB 1 2000 n then 1 else 0

theorem outside_b (n lo hi : Int) (w : World) :
  Calls Tryz.prog 119 #[.int .i64 n, .int .i64 lo, .int .i64 hi] w fun e w' => e = .returned (.bool (outB lo hi n)) ∧ w = w' := outside_any n lo hi w
set_option maxHeartbeats 400000 in
theorem cycPred1 (w : World) (xs : List Int) : PredI 347 #[] (outB 1 10000000) w xs := by
 refine ⟨enters_of Tryz.func347 (by kernel_rfl) rfl, fun x hx w1 hc => ?_⟩
 go_enter Tryz.func347, Tryz.ntmps347
 go_wp2_with (go_at_call 119; refine (outside_b _ _ _ _).mono ?_; rintro e w' ⟨rfl, rfl⟩)
 go_ret
 exact ⟨rfl, Chg.refl _ _⟩
set_option maxHeartbeats 400000 in
theorem flowPred (w : World) (xs : List Int) : PredI 288 #[] (outB 0 2000) w xs := by
 refine ⟨enters_of Tryz.func288 (by kernel_rfl) rfl, fun x hx w1 hc => ?_⟩
 go_enter Tryz.func288, Tryz.ntmps288
 go_wp2_with (go_at_call 119; refine (outside_b _ _ _ _).mono ?_; rintro e w' ⟨rfl, rfl⟩)
 go_ret
 exact ⟨ret_bool (rfl), Chg.refl _ _⟩

set_option maxHeartbeats 400000 in
theorem cyclesFault_any (v : Value) (c : List Int) (A : Nat → Prop) (w : World) (hv : IsSl w A v c) :
  Calls Tryz.prog 286 #[v] w fun e w' => e = .returned (.int .i64 (cycF c)) ∧ Chg NoB w w' := by
 have hcf := containsFuncI v c _ _ _ A w hv (cycPred1 w c)
 have HC := hid hcf; clear hcf
 obtain ⟨a, cap, rfl, h1, h2⟩ := hv.shape
 unfold maxLen at h2
 by_cases h0 : c.length = 0
 ·have hb : ((c.length : Int) == 0) = true := by simp [h0]
  have H0 := hid h0; clear h0
  go_enter Tryz.func286, Tryz.ntmps286
  go_wp2_with fail
  go_ret
  exact ⟨ret_int (by rw [cycF, if_pos H0.out]), Chg.refl _ _⟩
 ·have hb : ((c.length : Int) == 0) = false := beq_eq_false_iff_ne.2 (by omega)
  by_cases h6 : 6 < c.length
  ·go_enter Tryz.func286, Tryz.ntmps286
   go_wp2_with fail
   go_ret
   exact ⟨ret_int (by rw [cycF, if_neg h0, if_pos h6]), Chg.refl _ _⟩
  ·obtain ⟨q, hq⟩ : ∃ q, q = c.any (outB 1 10000000) := ⟨_, rfl⟩
   have HF : Hid (cycF c = if q then 1 else 0) := by rw [hq, cycF, if_neg h0, if_neg h6]; rfl
   rw [← hq] at HC
   clear hq
   cases q <;>
   ·go_enter Tryz.func286, Tryz.ntmps286
    go_wp2_with (go_at_call 287; refine HC.out.mono ?_; rintro e w1 ⟨rfl, hc1⟩)
    go_ret
    exact ⟨ret_int HF.out.symm, hc1⟩

set_option maxHeartbeats 400000 in
theorem flowFault_any (v1 v2 : Value) (c b : List Int) (n : Int) (A1 A2 : Nat → Prop) (w : World) (h1 : IsSl w A1 v1 c) (h2 : IsSl w A2 v2 b) :
  Calls Tryz.prog 198 #[v1, v2, .int .i64 n] w fun e w' => e = .returned (.int .i64 (flowF c b n)) ∧ Chg NoB w w' := by
 have HY := hid (cyclesFault_any v1 c A1 w h1)
 have HC : Hid (∀ w1, Chg NoB w w1 → _) := hid fun w1 (hc : Chg NoB w w1) => containsFuncI v2 b _ _ _ A2 w1 (h2.keepN hc) (flowPred w1 b)
 obtain ⟨a1, cap1, rfl, g1, g2⟩ := h1.shape
 obtain ⟨a2, cap2, rfl, g3, g4⟩ := h2.shape
 unfold maxLen at g2 g4
 obtain ⟨f, hf⟩ : ∃ f, f = cycF c := ⟨_, rfl⟩
 rw [← hf] at HY
 by_cases hf0 : f = 0
 ·subst hf0
  by_cases hl : (b.length : Int) = c.length - 1
  ·have hb : ((b.length : Int) != (c.length : Int) - 1) = false := by simp [hl]
   obtain ⟨q, hq⟩ : ∃ q, q = b.any (outB 0 2000) := ⟨_, rfl⟩
   obtain ⟨r, hr⟩ : ∃ r, r = outB 1 2000 n := ⟨_, rfl⟩
   have HR := hid hr
   have HF : Hid (flowF c b n = if q || r then 1 else 0) := by rw [hq, hr, flowF, if_neg (by simpa using hf.symm), if_neg (by simpa using hl)]; rfl
   rw [← hq] at HC
   clear hq hr hf hl
   cases q <;> cases r <;>
   ·go_enter Tryz.func198, Tryz.ntmps198
    go_wp2_with (first | (go_at_call 286; refine HY.out.mono ?_; rintro e w1 ⟨rfl, hc1⟩) | (go_at_call 287; refine (HC.out _ (by assumption)).mono ?_; rintro e w2 ⟨rfl, hc2⟩) | (go_at_call 119; refine (outside_b _ _ _ _).mono ?_; rw [← HR.out]; rintro e w3 ⟨rfl, rfl⟩))
    go_ret
    exact ⟨ret_int HF.out.symm, by first | exact (by assumption : Chg NoB w _) | exact Chg.trans (by assumption) (by assumption)⟩
  ·have hb : ((b.length : Int) != (c.length : Int) - 1) = true := by simp [hl]
   have HF : Hid (flowF c b n = 3) := by unfold Hid; rw [flowF, if_neg (by simpa using hf.symm), if_pos hl]
   clear hf hl
   go_enter Tryz.func198, Tryz.ntmps198
   go_wp2_with (go_at_call 286; refine HY.out.mono ?_; rintro e w1 ⟨rfl, hc1⟩)
   go_ret
   exact ⟨ret_int HF.out.symm, hc1⟩
 ·have hb : (f != 0) = true := by simp [hf0]
  have HF : Hid (flowF c b n = f) := by unfold Hid; rw [flowF, if_pos (by rw [← hf]; exact hf0), hf]
  clear hf hf0
  go_enter Tryz.func198, Tryz.ntmps198
  go_wp2_with (go_at_call 286; refine HY.out.mono ?_; rintro e w1 ⟨rfl, hc1⟩)
  go_ret
  exact ⟨ret_int HF.out.symm, hc1⟩

end Go.Proofs.YtaaokimiadfidaaGreatDoor
namespace Go.Proofs.YtaaokimiadfidaaGreatDoor
open Go.RowKit
set_option linter.unusedVariables false
set_option linter.unusedSimpArgs false

structure Mat {α : Type} [Enc α] (w : World) (lo g n : Nat) (eo ei : TypeId) (V : Nat → Value) (R : Nat → List α) : Prop where
 low : lo ≤ g
 ex : ∃ cur, w.heap[g]? = some (.cells cur eo (0, 0)) ∧ cur.size = n ∧ ∀ k, k < n → cur[k]? = some (V k)
 own : ∀ k, k < n → Own w lo ei (V k) (R k)
 out : ∀ k, k < n → (V k).ownBlock ≠ some g
 sep : ∀ j k, j < n → k < n → j ≠ k → ∀ q, (V j).ownBlock = some q → (V k).ownBlock ≠ some q

namespace Mat
variable {α : Type} [Enc α] {w w' : World} {lo g n : Nat} {eo ei : TypeId} {V : Nat → Value} {R R' : Nat → List α}
theorem lt (h : Mat w lo g n eo ei V R) : g < w.heap.size := by obtain ⟨cur, h1, _⟩ := h.ex; exact (Array.getElem?_eq_some_iff.1 h1).1
theorem start (w : World) (lo n : Nat) (eo ei : TypeId) (hlo : lo ≤ w.heap.size) : Mat (α := α) (w.alloc (.cells (Array.replicate n (.slice none 0 0)) eo)) lo w.heap.size n eo ei (fun _ => .slice none 0 0) (fun _ => []) :=
 ⟨hlo, ⟨_, heap_alloc_new w _, by simp, fun k hk => by simp [hk]⟩, fun k hk => Own.nil _ _ _, fun k hk => by simp [Value.ownBlock], fun j k _ _ _ q h => by simp [Value.ownBlock] at h⟩
theorem congr (h : Mat w lo g n eo ei V R) (e : ∀ k, k < n → R k = R' k) : Mat w lo g n eo ei V R' :=
 ⟨h.low, h.ex, fun k hk => e k hk ▸ h.own k hk, h.out, h.sep⟩
theorem keep {S : Nat → Prop} (h : Mat w lo g n eo ei V R) (c : Chg S w w') (hs : ∀ k, lo ≤ k → k < w.heap.size → ¬ S k) : Mat w' lo g n eo ei V R := by
 obtain ⟨cur, h1, h2, h3⟩ := h.ex
 exact ⟨h.low, ⟨cur, (c.block g h.lt (hs g h.low h.lt)).trans h1, h2, h3⟩, fun k hk => (h.own k hk).keep c hs, h.out, h.sep⟩
theorem cell (h : Mat w lo g n eo ei V R) (k : Nat) (hk : k < n) : w.cell? ⟨g, k, none⟩ = some (V k) := by
 obtain ⟨cur, h1, h2, h3⟩ := h.ex
 simp [World.cell?, h1, h3 k hk]
theorem froz (h : Mat w lo g n eo ei V R) (k : Nat) : w.frozen? ⟨g, k, none⟩ = false := by
 obtain ⟨cur, h1, h2, h3⟩ := h.ex
 simp [World.frozen?, h1]
theorem step [Flat α] (h : Mat w lo g n eo ei V R) (k : Nat) (hk : k < n) (v' : Value) (xs : List α) (ho : Own w' lo ei v' xs) (c : Chg (blk (V k)) w w')
  (hb : ∀ q, v'.ownBlock = some q → (V k).ownBlock = some q ∨ w.heap.size ≤ q) :
  Mat (w'.setCell ⟨g, k, none⟩ v') lo g n eo ei (fun j => if j = k then v' else V j) (fun j => if j = k then xs else R j) := by
 obtain ⟨cur, h1, h2, h3⟩ := h.ex
 have hg : w'.heap[g]? = some (.cells cur eo (0, 0)) := (c.block g h.lt (h.out k hk)).trans h1
 have hs : Chg (AtB g) w' (w'.setCell ⟨g, k, none⟩ v') := Chg.setAt _ _ _ _
 have hvg : v'.ownBlock ≠ some g := by
  intro e
  rcases hb g e with e | e
  ·exact h.out k hk e
  ·have := h.lt; omega
 refine ⟨h.low, ⟨cur.setIfInBounds k v', ?_, by simpa using h2, ?_⟩, ?_, ?_, ?_⟩
 ·simp [World.setCell, Array.getElem?_modify, hg]
 ·intro j hj
  rw [Array.getElem?_setIfInBounds]
  by_cases hjk : k = j
  ·subst hjk; simp [h2, hk]
  ·rw [if_neg hjk, if_neg (fun e => hjk e.symm)]; exact h3 j hj
 ·intro j hj
  by_cases hjk : j = k
  ·subst hjk
   simp only [if_true]
   exact ho.keepF hs fun q hq x => by unfold AtB at x; subst x; exact hvg hq
  ·simp only [if_neg hjk]
   refine ((h.own j hj).keepF c fun q hq x => h.sep j k hj hk hjk q hq x).keepF hs fun q hq x => ?_
   unfold AtB at x; subst x; exact h.out j hj hq
 ·intro j hj
  by_cases hjk : j = k
  ·subst hjk; simpa using hvg
  ·simp only [if_neg hjk]; exact h.out j hj
 ·intro j i hj hi hne q hq
  by_cases hjk : j = k
  ·subst hjk
   simp only [if_true, if_neg (fun e : i = j => hne e.symm)] at hq ⊢
   rcases hb q hq with e | e
   ·exact h.sep j i hk hi hne q e
   ·intro e2
    have := ((h.own i hi).lt q e2).2
    omega
  ·simp only [if_neg hjk] at hq
   by_cases hik : i = k
   ·subst hik
    simp only [if_true]
    intro e
    rcases hb q e with e | e
    ·exact h.sep j i hj hi hjk q hq e
    ·have := ((h.own j hj).lt q hq).2
     omega
   ·simp only [if_neg hik]; exact h.sep j i hj hi hne q hq
theorem isSl (h : Mat w lo g n eo ei V R) (hm : n ≤ maxLen) : IsSl w (fun k => lo ≤ k) (.slice (some ⟨g, 0, none⟩) n n) ((List.range n).map R) := by
 obtain ⟨cur, h1, h2, h3⟩ := h.ex
 refine .inr ⟨g, 0, n, cur, eo, by simp, h.low, by simp, hm, h1, fun i hi => ?_⟩
 simp at hi
 refine ⟨V i, ?_, ?_⟩
 ·simpa [Enc.sz] using h3 i hi
 ·simpa using (h.own i hi).isSl
end Mat

theorem Own.pcell {w : World} {lo e g n cap : Nat} {xs : List Pass} (h : Own w lo e (.slice (some ⟨g, 0, none⟩) n cap) xs) (i : Nat) (hi : i < xs.length) :
  w.cell? ⟨g, i * 2, none⟩ = some (.int .i64 xs[i].taken) ∧ w.cell? ⟨g, i * 2 + 1, none⟩ = some (.int .i64 xs[i].left) := by
 obtain ⟨b, off, ha, hb, hc⟩ := h.isSl.cells.2 (by omega)
 cases ha
 have := hc i hi
 simp only [Enc.Is, Enc.sz, Nat.zero_add, Nat.add_zero] at this
 exact this

theorem infoPass : (Tryz.prog.info? 238).map (fun i => (i.zero, i.size, i.bytes)) = some (some (.agg #[.int .i64 0, .int .i64 0]), 2, 16) := by kernel_rfl
theorem infoSlPass : (Tryz.prog.info? 236).map (fun i => (i.zero, i.size, i.bytes)) = some (some (.slice none 0 0), 1, 24) := by kernel_rfl

def PBlk (w : World) (P : Nat) (x y : Int) : Prop := w.heap[P]? = some (.cells #[.int .i64 x, .int .i64 y] 238 (0, 0))
theorem PBlk.new (w : World) (x y : Int) : PBlk (w.alloc (.cells #[.int .i64 x, .int .i64 y] 238)) w.heap.size x y := heap_alloc_new w _
theorem PBlk.facts {w : World} {P : Nat} {x y : Int} (h : PBlk w P x y) : w.cell? ⟨P, 0, none⟩ = some (.int .i64 x) ∧ w.cell? ⟨P, 1, none⟩ = some (.int .i64 y) ∧ w.frozen? ⟨P, 0, none⟩ = false ∧ w.frozen? ⟨P, 1, none⟩ = false := by
 unfold PBlk at h
 simp [World.cell?, World.frozen?, h]
theorem PBlk.set1 {w : World} {P : Nat} {x y : Int} (h : PBlk w P x y) (z : Int) : PBlk (w.setCell ⟨P, 1, none⟩ (.int .i64 z)) P x z := by
 unfold PBlk at h ⊢; simp [World.setCell, Array.getElem?_modify, h]

def rowP (c bf : List Int) (b k j : Nat) : List Pass := (List.range (if j < k then b + 1 else b)).map fun q => pas c bf q j


theorem flow_step {c bf : List Int} {w wr w5 w6 : World} {V : Nat → Value} {b k g6 cap6 : Nat} {ak : Option Addr} {capk : Nat} {T Z : Int} (hkl : k < c.length)
  (hmx : Mat w5 w.heap.size w.heap.size c.length 236 238 V (rowP c bf b k)) (hT : T = (pas c bf b k).taken) (hZ : Z = (pas c bf b k).left)
  (hv : V k = .slice ak b capk) (hown : Own w6 w.heap.size 238 (.slice (some ⟨g6, 0, none⟩) ((rowP c bf b k k).length + 1) cap6) (rowP c bf b k k ++ [⟨T, Z⟩]))
  (hc6 : Chg (blk (.slice ak b capk)) w5.drew w6) (hg6 : (Value.slice ak b capk).ownBlock = some g6 ∨ w5.drew.heap.size ≤ g6)
  (hch : Chg (NewB w.heap.size) w wr) (hcx : Chg (NewB wr.heap.size) wr w5) :
  Mat (w6.setCell ⟨w.heap.size, k, none⟩ (.slice (some ⟨g6, 0, none⟩) ((rowP c bf b k k).length + 1) cap6)) w.heap.size w.heap.size c.length 236 238
    (fun j => if j = k then .slice (some ⟨g6, 0, none⟩) ((rowP c bf b k k).length + 1) cap6 else V j) (rowP c bf b (k + 1)) ∧
   Chg (NewB w.heap.size) w (w6.setCell ⟨w.heap.size, k, none⟩ (.slice (some ⟨g6, 0, none⟩) ((rowP c bf b k k).length + 1) cap6)) ∧ here c bf b (k + 1) = Z := by
 rw [← hv] at hc6 hg6
 refine ⟨(hmx.step k hkl _ _ hown hc6.ofDrew fun q hq => ?_).congr fun j hj => ?_, ?_, ?_⟩
 ·simp only [Value.ownBlock, Option.some.injEq] at hq
  subst hq; exact hg6
 ·by_cases hjk : j = k
  ·subst hjk
   simp only [if_true, rowP, Nat.lt_irrefl, if_false, Nat.lt_succ_self, List.range_succ, List.map_append, List.map_cons, List.map_nil]
   rw [hT, hZ]
  ·simp only [if_neg hjk, rowP]
   have : j < k + 1 ↔ j < k := by omega
   simp only [this]
 ·have h1 : Chg (NewB w.heap.size) w w5 := hch.trans (hcx.mono fun q hq x => by have := hch.size; unfold NewB at x ⊢; omega)
  exact (h1.trans (hc6.ofDrew.mono fun q hq x => ((hmx.own k hkl).lt q x).1)).setCell (a := ⟨w.heap.size, k, none⟩) (fun _ => Nat.le_refl _) _
 ·simp [here, hZ]

set_option maxHeartbeats 2000000 in
set_option maxRecDepth 100000 in
theorem flow_any (v1 v2 : Value) (c bf : List Int) (n : Nat) (A1 A2 : Nat → Prop) (w : World) (h1 : IsSl w A1 v1 c) (h2 : IsSl w A2 v2 bf) (hr : RightLine c bf) (hn : n ≤ 2000) :
    Calls Tryz.prog 199 #[v1, v2, .int .i64 n] w fun e w' => ∃ v, e = .returned v ∧ IsSl w' (fun k => w.heap.size ≤ k) v ((List.range c.length).map fun k => (List.range n).map fun q => pas c bf q k) ∧ Chg NoB w w' := by
  obtain ⟨a1, cap1, rfl, g1, g2⟩ := h1.shape
  obtain ⟨a2, cap2, rfl, g3, g4⟩ := h2.shape
  unfold maxLen at g2 g4
  have hlen := hr.len
  have hpos := hr.pos
  have hbl := hr.bl
  have HR := hid hr; clear hr
  go_enter Tryz.func199, Tryz.ntmps199
  go_wp2_with (at_make; refine wpl_make_raw w rfl _ _ 234 236 rfl (.slice none 0 0) 24 Tryz.underlying234 infoSlPass rfl (by decide) .i64 .i64 _ _ rfl rfl c.length rfl rfl (by omega) ?_)
  have hst := Mat.start (α := Pass) w w.heap.size c.length 236 238 (Nat.le_refl _)
  obtain ⟨w0, hw0⟩ : ∃ w0, w0 = w.alloc (.cells (Array.replicate c.length (.slice none 0 0)) 236) := ⟨_, rfl⟩
  have hc0 : Chg NoB w w0 := by rw [hw0]; exact (Chg.refl _ _).alloc _
  rw [← hw0] at hst ⊢
  clear hw0
  go_loopw [8, 18] (fun _ i wr => ∃ (b : Nat) (V : Nat → Value), b ≤ n ∧ i = .int .i64 b ∧ Mat wr w.heap.size w.heap.size c.length 236 238 V (rowP c bf b 0) ∧ Chg (NewB w.heap.size) w wr)
    (fun _ i _ => n - (intOf i).toNat)
  case atStart => exact ⟨0, _, by omega, rfl, hst.congr fun k hk => by simp [rowP], hc0.any⟩
  case round =>
    obtain ⟨b, V, hb, rfl, hmat, hch⟩ := hrel
    by_cases hbn : b < n
    · obtain ⟨wo, rfl⟩ : ∃ wo : World, wo = wr := ⟨_, rfl⟩
      go_wp2_with fail
      go_loopw [9, 10, 11, 13, 23] (fun h _ _ _ i wr => ∃ (k : Nat) (V : Nat → Value), k ≤ c.length ∧ i = .int .i64 k ∧ h = .int .i64 (here c bf b k) ∧ Mat wr w.heap.size w.heap.size c.length 236 238 V (rowP c bf b k) ∧ Chg (NewB w.heap.size) w wr)
        (fun _ _ _ _ i _ => c.length - (intOf i).toNat)
      case atStart => exact ⟨0, _, by omega, rfl, rfl, hmat, hch⟩
      case round =>
        clear hmat hch
        obtain ⟨k, V, hk, rfl, rfl, hmat, hch⟩ := hrel
        by_cases hkl : k < c.length
        · have hszr := hch.size
          have hgl := hmat.lt
          obtain ⟨bc, oc, rfl, _, hcc⟩ := h1.ints (by omega)
          have hcell := hch.cellNew (Nat.le_refl _) (hcc k hkl)
          have hbd := pas_bd HR.out b k hkl
          have hck := HR.out.c1 k hkl
          have hac : at' c k = c[k] := by simp [at', hkl]
          rw [hac] at hbd hck
          obtain ⟨T, hT⟩ : ∃ T, T = (pas c bf b k).taken := ⟨_, rfl⟩
          obtain ⟨Z, hZ⟩ : ∃ Z, Z = (pas c bf b k).left := ⟨_, rfl⟩
          rw [← hT, ← hZ] at hbd
          have HT := hid hT; clear hT
          have HZ := hid hZ; clear hZ
          have HAC := hid hac; clear hac
          have HCC := hid hcc; clear hcc
          go_upto_if 31 with (fail)
          go_cut [] (fun wx => PBlk wx wr.heap.size T 0 ∧ Chg (NewB wr.heap.size) wr wx)
          case first =>
            have htk := pas_taken c bf b k
            rw [← HT.out] at htk
            by_cases hb0 : 0 < b
            · rw [if_neg (by omega)] at htk
              obtain ⟨q, rfl⟩ : ∃ q, b = q + 1 := ⟨b - 1, by omega⟩
              simp only [Nat.add_sub_cancel] at htk
              have HTK := hid htk; clear htk
              have hVk : (rowP c bf (q + 1) k k).length = q + 1 := by simp [rowP]
              have hok := hmat.own k hkl
              obtain ⟨ak, capk, hav, _, _⟩ := hok.shape
              rw [hav] at hok
              obtain ⟨gk, rfl, hgk1, hgk2⟩ := hok.head (by omega)
              have hov := hmat.cell k hkl
              rw [hav] at hov
              have hpk := (hok.pcell q (by omega)).2
              have e1 : (rowP c bf (q + 1) k k)[q]'(by omega) = pas c bf q k := by simp [rowP]
              rw [e1] at hpk
              rw [hVk] at hov
              clear e1 hVk hav
              go_wp2_with fail
              go_meet
              case rel =>
                rw [HTK.out]
                exact ⟨PBlk.new _ _ _, (Chg.refl _ _).alloc _⟩
            · rw [if_pos (by omega)] at htk
              have HTK := hid htk; clear htk
              go_wp2_with fail
              go_meet
              case rel =>
                rw [HTK.out]
                exact ⟨PBlk.new _ _ _, (Chg.refl _ _).alloc _⟩
          case rest =>
            obtain ⟨hpb, hcx⟩ := hcut
            obtain ⟨f0, f1, f2, f3⟩ := hpb.facts
            have hszx := hcx.size
            have hcell1 := hcx.cellNew (Nat.le_refl _) hcell
            go_upto_if 53 with (fail)
            have hpb1 := hpb.set1 (T + c[k])
            have hcx1 : Chg (NewB wr.heap.size) wr (wc.setCell ⟨wr.heap.size, 1, none⟩ (.int .i64 (T + c[k]))) := hcx.setCell (a := ⟨wr.heap.size, 1, none⟩) (fun _ => Nat.le_refl _) _
            go_cut [] (fun wx => PBlk wx wr.heap.size T Z ∧ Chg (NewB wr.heap.size) wr wx)
            case first =>
              have hlf := pas_left c bf b k
              rw [← HT.out, ← HZ.out, HAC.out] at hlf
              obtain ⟨f0', f1', f2', f3'⟩ := hpb1.facts
              by_cases hk1 : k + 1 < c.length
              · rw [if_pos hk1] at hlf
                obtain ⟨bb, ob, rfl, _, hbc⟩ := h2.ints (by omega)
                have hbcell := hcx1.cell (hch.cellNew (Nat.le_refl _) (hbc k (by omega))) (Nat.not_le_of_lt (World.block_lt_of_cell? _ _ (hch.cellNew (Nat.le_refl _) (hbc k (by omega)))))
                have hb0k := HR.out.b0 k
                have hbk : at' bf k = bf[k]'(by omega) := by simp [at', show k < bf.length by omega]
                obtain ⟨r, hr⟩ : ∃ r : Nat, bf[k]'(by omega) = (r : Int) := ⟨(bf[k]'(by omega)).toNat, by omega⟩
                rw [hr] at hbcell hbk
                rw [hbk] at hlf
                clear hbc hb0k hbk hr f0 f1 f2 f3
                by_cases hr0 : r = 0
                · subst hr0
                  rw [if_pos (by simp)] at hlf
                  by_cases hb0 : 0 < b
                  · obtain ⟨q, rfl⟩ : ∃ q, b = q + 1 := ⟨b - 1, by omega⟩
                    rw [if_neg (by omega)] at hlf
                    simp only [Nat.add_sub_cancel] at hlf
                    have HLF := hid hlf; clear hlf
                    have hVn : (rowP c bf (q + 1) k (k + 1)).length = q + 1 := by simp [rowP]
                    have hon := hmat.own (k + 1) hk1
                    obtain ⟨an, capn, han, _, _⟩ := hon.shape
                    rw [han] at hon
                    obtain ⟨gn, rfl, hgn1, hgn2⟩ := hon.head (by omega)
                    have hovn := hcx1.cell (hmat.cell (k + 1) hk1) (Nat.not_le_of_lt hgl)
                    rw [han, hVn] at hovn
                    have hpn := hcx1.cell (hon.pcell q (by omega)).2 (Nat.not_le_of_lt hgn2)
                    have e1 : (rowP c bf (q + 1) k (k + 1))[q]'(by omega) = pas c bf q (k + 1) := by simp [rowP]
                    rw [e1] at hpn
                    clear e1 hVn han
                    go_wp2_with fail
                    go_region
                    all_goals go_wp2_with fail
                    all_goals go_meet
                    case rel => rw [HLF.out]; exact ⟨hpb1.set1 _, (hcx1.setCell (a := ⟨wr.heap.size, 1, none⟩) (fun _ => Nat.le_refl _) _).drew⟩
                  · rw [if_pos (by omega)] at hlf
                    have HLF := hid hlf; clear hlf
                    have hb1 : b = 0 := by omega
                    subst hb1
                    go_wp2_with fail
                    go_meet
                    case rel => rw [HLF.out]; exact ⟨hpb1, hcx1⟩
                · rw [if_neg (by omega)] at hlf
                  by_cases hrb : r ≤ b
                  · rw [if_pos (by omega)] at hlf
                    have hr1 : ((r : Int) == 0) = false := by simp; omega
                    obtain ⟨t, rfl⟩ : ∃ t, b = t + r := ⟨b - r, by omega⟩
                    have ht1 : ((t + r : Nat) : Int) - ((r : Int)) = (t : Int) := by omega
                    have ht2 : t + r - (r : Int).toNat = t := by omega
                    rw [ht2] at hlf
                    have HLF := hid hlf; clear hlf ht2
                    have hVn : (rowP c bf (t + r) k (k + 1)).length = t + r := by simp [rowP]
                    have hon := hmat.own (k + 1) hk1
                    obtain ⟨an, capn, han, _, _⟩ := hon.shape
                    rw [han] at hon
                    obtain ⟨gn, rfl, hgn1, hgn2⟩ := hon.head (by omega)
                    have hovn := hcx1.cell (hmat.cell (k + 1) hk1) (Nat.not_le_of_lt hgl)
                    rw [han, hVn] at hovn
                    have hpn := hcx1.cell (hon.pcell t (by omega)).1 (Nat.not_le_of_lt hgn2)
                    have e1 : (rowP c bf (t + r) k (k + 1))[t]'(by omega) = pas c bf t (k + 1) := by simp [rowP]
                    rw [e1] at hpn
                    clear e1 hVn han
                    go_wp2_with fail
                    go_region
                    all_goals go_wp2_with fail
                    all_goals go_meet
                    case rel => rw [HLF.out]; exact ⟨hpb1.set1 _, (hcx1.setCell (a := ⟨wr.heap.size, 1, none⟩) (fun _ => Nat.le_refl _) _).drew⟩
                  · rw [if_neg (by omega)] at hlf
                    have HLF := hid hlf; clear hlf
                    have hr1 : ((r : Int) == 0) = false := by simp; omega
                    go_wp2_with fail
                    go_meet
                    case rel => rw [HLF.out]; exact ⟨hpb1, hcx1⟩
              · rw [if_neg hk1] at hlf
                have HLF := hid hlf; clear hlf
                go_wp2_with fail
                go_meet
                case rel => rw [HLF.out]; exact ⟨hpb1, hcx1⟩
            case rest =>
              clear hpb hcx f0 f1 f2 f3 hcell1 hpb1 hcx1 hszx
              obtain ⟨hpb, hcx⟩ := hcut
              obtain ⟨w5, rfl⟩ : ∃ w5 : World, w5 = wc := ⟨_, rfl⟩
              obtain ⟨f0, f1, f2, f3⟩ := hpb.facts
              have hszx := hcx.size
              have hVk : (rowP c bf b k k).length = b := by simp [rowP]
              have hmx : Mat w5 w.heap.size w.heap.size c.length 236 238 V (rowP c bf b k) := hmat.keep hcx fun q _ h2 h3 => Nat.not_le_of_lt h2 h3
              have hok := hmx.own k hkl
              obtain ⟨ak, capk, hav, _, _⟩ := hok.shape
              have hov := hmx.cell k hkl
              have hfz := hmx.froz k
              rw [hav] at hok
              rw [hav, hVk] at hov
              rw [hVk] at hok
              obtain ⟨i0, hi, hz0, hz1, hz2⟩ := info_parts infoPass
              have HI := hid hi; clear hi
              have HZ0 := hid hz0; clear hz0
              have HZ1 := hid hz1; clear hz1
              have HZ2 := hid hz2; clear hz2
              have HOUT := hid (hmx.out k hkl)
              rw [hav, hVk] at HOUT
              have HAV : Hid (V k = .slice ak b capk) := by unfold Hid; rw [hav, hVk]
              clear hav
              have hpout : ¬ blk (.slice ak b capk) wr.heap.size := fun x => by
                have := ((hmat.own k hkl).lt wr.heap.size (by rw [HAV.out]; exact x)).2
                omega
              have HPO := hid hpout; clear hpout
              have hlo5 : w.heap.size ≤ w5.heap.size := by omega
              have hlt5 : w.heap.size < w5.heap.size := hmx.lt
              have hVk' : (rowP c bf b k k).length ≤ 1000000000 := by omega
              have hHV := hid hVk; clear hVk
              go_wp2_with fail
              go_region_law ((refine step_append1 (α := Pass) w5.drew #[.int .i64 T, .int .i64 Z] rfl (.tmp 107) (.tmp 109) 236 238 rfl i0 (.agg #[.int .i64 0, .int .i64 0]) 16 Tryz.underlying236 HI.out HZ0.out HZ1.out HZ2.out rfl (by decide) w.heap.size (.slice ak b capk) (rowP c bf b k k) ⟨T, Z⟩ hok hlo5 hVk' ⟨rfl, rfl⟩ rfl rfl rfl ?_; intro g6 cap6 w6 hown6 hc6 hg6 hl6; have hov6 := hc6.cell hov (fun x => HOUT.out x); have hfz6 := (hc6.froz (a := ⟨w.heap.size, k, none⟩) hlt5 (fun x => HOUT.out x)).trans hfz; have hp6 := hc6.cell f1 (fun x => HPO.out x)))
              all_goals go_wp2_with fail
              all_goals
                have hfs := flow_step hkl hmx HT.out HZ.out HAV.out hown6 hc6 hg6 hch hcx
                go_roundw
                case rel => exact ⟨k + 1, _, by omega, by go_num, by rw [hfs.2.2], hfs.1, hfs.2.1⟩
                case measure => simp [intOf]; omega
        · go_wp2_with fail
          go_roundw
          case rel => exact ⟨b + 1, V, by omega, by go_num, hmat.congr fun j hj => by simp [rowP, show j < k by omega], hch⟩
          case measure => simp [intOf]; omega
    · obtain rfl : b = n := by omega
      go_wp2_with fail
      go_ret
      refine ⟨_, rfl, ?_, hch.mono fun q h1 h2 => by unfold NewB at h2; omega⟩
      have := hmat.isSl (by simp only [maxLen]; omega)
      have e : rowP c bf b 0 = fun k => (List.range b).map fun q => pas c bf q k := by funext k; simp [rowP]
      rwa [e] at this
end Go.Proofs.YtaaokimiadfidaaGreatDoor
namespace Go.Proofs.YtaaokimiadfidaaGreatDoor
open Go.RowKit
set_option linter.unusedVariables false
set_option linter.unusedSimpArgs false

theorem infoInt : (Tryz.prog.info? 3).map (fun i => (i.zero, i.size, i.bytes)) = some (some (.int .i64 0), 1, 8) := by kernel_rfl

end Go.Proofs.YtaaokimiadfidaaGreatDoor
namespace Go.Proofs.YtaaokimiadfidaaGreatDoor
open Go.RowKit
set_option linter.unusedVariables false
set_option linter.unusedSimpArgs false

theorem any_false {lo hi : Int} {xs : List Int} (h : xs.any (outB lo hi) = false) : ∀ k, k < xs.length → lo ≤ at' xs k ∧ at' xs k ≤ hi := by
 intro k hk
 rw [List.any_eq_false] at h
 have := h xs[k] (List.getElem_mem _)
 simp only [outB, Bool.or_eq_true, decide_eq_true_eq, not_or] at this
 simp only [at', List.getD, List.getElem?_eq_getElem hk, Option.getD_some]
 omega

theorem flowF_right {c b : List Int} {n : Int} (h : flowF c b n = 0) : RightLine c b ∧ 1 ≤ n ∧ n ≤ 2000 := by
 unfold flowF at h
 by_cases hc : cycF c ≠ 0
 ·rw [if_pos hc] at h; exact absurd h hc
 ·rw [if_neg hc] at h
  have hc' : cycF c = 0 := by simpa using hc
  unfold cycF at hc'
  by_cases h0 : c.length = 0
  ·rw [if_pos h0] at hc'; omega
  ·rw [if_neg h0] at hc'
   by_cases h6 : 6 < c.length
   ·rw [if_pos h6] at hc'; omega
   ·rw [if_neg h6] at hc'
    cases ha : c.any (outB 1 10000000) with
    | true => rw [ha] at hc'; simp at hc'
    | false =>
     by_cases hl : (b.length : Int) ≠ c.length - 1
     ·rw [if_pos hl] at h; omega
     ·rw [if_neg hl] at h
      cases hb : b.any (outB 0 2000) with
      | true => rw [hb] at h; simp at h
      | false =>
       cases hn : outB 1 2000 n with
       | true => rw [hn] at h; simp at h
       | false =>
        simp only [outB, Bool.or_eq_false_iff, decide_eq_false_iff_not] at hn
        refine ⟨⟨by omega, by omega, any_false ha, fun k => ?_, by omega⟩, by omega, by omega⟩
        by_cases hk : k < b.length
        ·exact (any_false hb k hk).1
        ·simp [at', List.getD, List.getElem?_eq_none (show b.length ≤ k by omega)]

theorem IsSl.rows {α : Type} [Enc α] {w : World} {A : Nat → Prop} {a : Option Addr} {n cap : Nat} {xs : List (List α)} (h : IsSl w A (.slice a n cap) xs) (hp : 0 < xs.length) :
  ∃ b off, a = some ⟨b, off, none⟩ ∧ A b ∧ ∀ i, (hi : i < xs.length) → ∃ v, w.cell? ⟨b, off + i, none⟩ = some v ∧ IsSl w A v xs[i] := by
 obtain ⟨b, off, ha, hb, hc⟩ := h.cells.2 hp
 refine ⟨b, off, ha, hb, fun i hi => ?_⟩
 have := hc i hi
 simpa [Enc.Is, Enc.sz] using this
theorem IsSl.passes {w : World} {A : Nat → Prop} {a : Option Addr} {n cap : Nat} {xs : List Pass} (h : IsSl w A (.slice a n cap) xs) (hp : 0 < xs.length) :
  ∃ b off, a = some ⟨b, off, none⟩ ∧ A b ∧ ∀ i, (hi : i < xs.length) → w.cell? ⟨b, off + i * 2, none⟩ = some (.int .i64 xs[i].taken) ∧ w.cell? ⟨b, off + i * 2 + 1, none⟩ = some (.int .i64 xs[i].left) := by
 obtain ⟨b, off, ha, hb, hc⟩ := h.cells.2 hp
 refine ⟨b, off, ha, hb, fun i hi => ?_⟩
 have := hc i hi
 simpa [Enc.Is, Enc.sz] using this

def leaves (c bf : List Int) (n : Nat) : List Int := (List.range n).map fun q => (pas c bf q (c.length - 1)).left
def leavesF (c bf : List Int) (n : Int) : List Int := if flowF c bf n = 0 then leaves c bf n.toNat else []

set_option maxHeartbeats 1000000 in
theorem leave_any (v1 v2 : Value) (c bf : List Int) (n : Int) (A1 A2 : Nat → Prop) (w : World) (h1 : IsSl w A1 v1 c) (h2 : IsSl w A2 v2 bf) :
  Calls Tryz.prog 87 #[v1, v2, .int .i64 n] w fun e w' => ∃ v, e = .returned (.tuple #[v, .int .i64 (flowF c bf n)]) ∧ IsSl w' (fun k => w.heap.size ≤ k) v (leavesF c bf n) ∧ Chg NoB w w' := by
 have HF := hid (flowFault_any v1 v2 c bf n A1 A2 w h1 h2)
 by_cases hf : flowF c bf n = 0
 ·obtain ⟨hr, hn1, hn2⟩ := flowF_right hf
  obtain ⟨m, rfl⟩ : ∃ m : Nat, n = m := ⟨n.toNat, by omega⟩
  have HL : Hid (leavesF c bf m = leaves c bf m) := by unfold Hid; rw [leavesF, if_pos hf]; simp
  have HFL : Hid (∀ w1, Chg NoB w w1 → _) := hid fun w1 (hc : Chg NoB w w1) => flow_any v1 v2 c bf m A1 A2 w1 (h1.keepN hc) (h2.keepN hc) hr (by omega)
  have hpos := hr.pos
  have hlen := hr.len
  rw [hf] at HF ⊢
  have HR := hid hr; clear hr hf
  go_enter Tryz.func87, Tryz.ntmps87
  go_wp2_with fail
  refine HF.out.mono ?_
  rintro e w1 ⟨rfl, hc1⟩
  go_wp2_with fail
  refine (HFL.out w1 hc1).mono ?_
  rintro e w2 ⟨v, rfl, hv, hc2⟩
  obtain ⟨a, cap, rfl, g1, g2⟩ := hv.shape
  obtain ⟨b, off, rfl, hb, hrows⟩ := hv.rows (by simp; omega)
  obtain ⟨vr, hcell, hrow⟩ := hrows (c.length - 1) (by simp; omega)
  obtain ⟨ar, capr, rfl, g3, g4⟩ := hrow.shape
  simp only [List.getElem_map, List.getElem_range, List.length_map, List.length_range] at hcell hrow g1 g3 ⊢
  have hc12 := hc1.trans hc2
  have hsz2 := hc12.size
  go_wp2_with fail
  go_loopw [10, 12, 31] (fun v _ i wr => ∃ (j : Nat), j ≤ m ∧ i = .int .i64 j ∧ Own wr w2.heap.size 3 v ((List.range j).map fun q => (pas c bf q (c.length - 1)).left) ∧ Chg (NewB w2.heap.size) w2 wr)
   (fun _ _ i _ => m - (intOf i).toNat)
  case atStart => exact ⟨0, by omega, rfl, Own.nil _ _ _, Chg.refl _ _⟩
  case round =>
   obtain ⟨j, hj, rfl, hown, hch⟩ := hrel
   have hszr := hch.size
   by_cases hjm : j < m
   ·obtain ⟨br, offr, rfl, _, hps⟩ := hrow.passes (by simp; omega)
    obtain ⟨p0, p1⟩ := hps j (by simp; omega)
    simp only [List.getElem_map, List.getElem_range] at p0 p1
    have p0' := hch.cellNew (Nat.le_refl _) p0
    have p1' := hch.cellNew (Nat.le_refl _) p1
    clear hps p0 p1
    obtain ⟨X, hX⟩ : ∃ X, X = (pas c bf j (c.length - 1)).left := ⟨_, rfl⟩
    obtain ⟨Y, hY⟩ : ∃ Y, Y = (pas c bf j (c.length - 1)).taken := ⟨_, rfl⟩
    rw [← hX] at p1'
    rw [← hY] at p0'
    have HX := hid hX; clear hX hY
    obtain ⟨av, capv, hv', _, _⟩ := hown.shape
    simp only [List.length_map, List.length_range] at hv'
    subst hv'
    have hal := hown.keep (S := NoB) ((Chg.refl NoB wr).alloc (.cells #[.int .i64 Y, .int .i64 X] 238)) (fun _ _ _ x => x)
    go_wp2_with (at_builtin; refine wpl_append_intB (wr.alloc (.cells #[.int .i64 Y, .int .i64 X] 238)) rfl _ _ 22 3 rfl Tryz.underlying22 infoInt w2.heap.size _ _ _ hal (by simp; omega) (by simp; omega) _ (by simp) j (by simp) rfl rfl ?_; intro g cap' w3 hown3 hc3 hg3 hlg)
    have hc23 : Chg (NewB w2.heap.size) w2 w3 := (hch.trans ((Chg.refl _ wr).alloc _)).trans (hc3.mono fun q hq x => (hal.lt q x).1)
    go_roundw
    case rel => exact ⟨j + 1, by omega, by go_num, by rw [List.range_succ, List.map_append]; simpa [HX.out] using hown3, hc23⟩
    case measure => simp [intOf]; omega
   ·obtain rfl : j = m := by omega
    go_wp2_with fail
    go_ret2
    exact ⟨_, rfl, by rw [HL.out]; exact hown.isSl.low fun q hq _ => by omega, hc12.trans (hch.mono fun q h1 h2 => by unfold NewB at h2; omega)⟩
 ·have hb : (flowF c bf n != 0) = true := by simp [hf]
  have HL : Hid (leavesF c bf n = []) := by unfold Hid; rw [leavesF, if_neg hf]
  clear hf
  go_enter Tryz.func87, Tryz.ntmps87
  go_wp2_with fail
  refine HF.out.mono ?_
  rintro e w1 ⟨rfl, hc1⟩
  go_wp2_with fail
  go_ret2
  exact ⟨_, rfl, by rw [HL.out]; exact IsSl.nil _ _, hc1⟩
end Go.Proofs.YtaaokimiadfidaaGreatDoor
namespace Go.Proofs.YtaaokimiadfidaaGreatDoor
open Go.RowKit
set_option linter.unusedVariables false
set_option linter.unusedSimpArgs false

def BlkC (w : World) (P : Nat) (cs : Array Value) (e : TypeId) : Prop := w.heap[P]? = some (.cells cs e (0, 0))
namespace BlkC
variable {w w' : World} {P : Nat} {cs : Array Value} {e : TypeId}
theorem new (w : World) (cs : Array Value) (e : TypeId) : BlkC (w.alloc (.cells cs e)) w.heap.size cs e := heap_alloc_new w _
theorem lt (h : BlkC w P cs e) : P < w.heap.size := (Array.getElem?_eq_some_iff.1 h).1
theorem set (h : BlkC w P cs e) (i : Nat) (v : Value) : BlkC (w.setCell ⟨P, i, none⟩ v) P (cs.setIfInBounds i v) e := by
 unfold BlkC at h ⊢; simp [World.setCell, Array.getElem?_modify, h]
theorem drew (h : BlkC w P cs e) : BlkC w.drew P cs e := h
theorem alloc (h : BlkC w P cs e) (o : Obj) : BlkC (w.alloc o) P cs e := (Below.heap_alloc _ _ _ h.lt).trans h
theorem cell (h : BlkC w P cs e) (i : Nat) : w.cell? ⟨P, i, none⟩ = cs[i]? := by
 unfold BlkC at h; simp [World.cell?, h]
theorem keep {S : Nat → Prop} (h : BlkC w P cs e) (c : Chg S w w') (hs : ¬ S P) : BlkC w' P cs e := (c.block P h.lt hs).trans h
end BlkC

def Arr (w : World) (g : Nat) (e : TypeId) (xs : List Int) : Prop := BlkC w g (xs.map (Value.int .i64)).toArray e
namespace Arr
variable {w w' : World} {g : Nat} {xs : List Int} {e : TypeId}
theorem new (w : World) (n : Nat) (e : TypeId) : Arr (w.alloc (.cells (Array.replicate n (.int .i64 0)) e)) w.heap.size e (List.replicate n 0) := by
 have := BlkC.new w (Array.replicate n (.int .i64 0)) e
 unfold Arr
 rw [List.map_replicate, List.toArray_replicate]
 exact this
theorem cell (h : Arr w g e xs) (i : Nat) (hi : i < xs.length) : w.cell? ⟨g, i, none⟩ = some (.int .i64 xs[i]) := by
 rw [BlkC.cell h]; simp [hi]
theorem set (h : Arr w g e xs) (i : Nat) (x : Int) : Arr (w.setCell ⟨g, i, none⟩ (.int .i64 x)) g e (xs.set i x) := by
 have := BlkC.set h i (.int .i64 x)
 unfold Arr
 rw [List.map_set, ← List.setIfInBounds_toArray]
 exact this
theorem drew (h : Arr w g e xs) : Arr w.drew g e xs := h
theorem alloc (h : Arr w g e xs) (o : Obj) : Arr (w.alloc o) g e xs := BlkC.alloc h o
theorem keep {S : Nat → Prop} (h : Arr w g e xs) (c : Chg S w w') (hs : ¬ S g) : Arr w' g e xs := BlkC.keep h c hs
end Arr

end Go.Proofs.YtaaokimiadfidaaGreatDoor
namespace Go.Proofs.YtaaokimiadfidaaGreatDoor
open Go.RowKit
set_option linter.unusedVariables false
set_option linter.unusedSimpArgs false

def Two (w1 wx : World) (n : Nat) (v1 v2 : Value) : Prop :=
 ∃ g1 g2, v1 = .slice (some ⟨g1, 0, none⟩) n n ∧ v2 = .slice (some ⟨g2, 0, none⟩) n n ∧ g1 ≠ g2 ∧ w1.heap.size ≤ g1 ∧ w1.heap.size ≤ g2 ∧
  Arr wx g1 3 (List.replicate n 0) ∧ Arr wx g2 3 (List.replicate n 0) ∧ Chg NoB w1 wx

theorem two_facts (w1 : World) (n : Nat) (e : TypeId) :
  let W := ((w1.alloc (.cells (Array.replicate n (.int .i64 0)) e)).alloc (.cells (Array.replicate n (.int .i64 0)) e)).drew
  Arr W w1.heap.size e (List.replicate n 0) ∧ Arr W (w1.heap.size + 1) e (List.replicate n 0) ∧ Chg NoB w1 W := by
 refine ⟨((Arr.new w1 n e).alloc _).drew, ?_, (((Chg.refl _ w1).alloc _).alloc _).drew⟩
 have := Arr.new (w1.alloc (.cells (Array.replicate n (.int .i64 0)) e)) n e
 rw [World.size_alloc] at this
 exact this.drew
theorem Two.one (w1 : World) (n : Nat) : Two w1 ((w1.alloc (.cells (Array.replicate n (.int .i64 0)) 3)).alloc (.cells (Array.replicate n (.int .i64 0)) 3)).drew n
  (.slice (some ⟨w1.heap.size, 0, none⟩) n n) (.slice (some ⟨w1.heap.size + 1, 0, none⟩) n n) :=
 let ⟨a, b, c⟩ := two_facts w1 n 3; ⟨_, _, rfl, rfl, by omega, by omega, by omega, a, b, c⟩
theorem Two.two (w1 : World) (n : Nat) : Two w1 ((w1.alloc (.cells (Array.replicate n (.int .i64 0)) 3)).alloc (.cells (Array.replicate n (.int .i64 0)) 3)).drew n
  (.slice (some ⟨w1.heap.size + 1, 0, none⟩) n n) (.slice (some ⟨w1.heap.size, 0, none⟩) n n) :=
 let ⟨a, b, c⟩ := two_facts w1 n 3; ⟨_, _, rfl, rfl, by omega, by omega, by omega, b, a, c⟩

end Go.Proofs.YtaaokimiadfidaaGreatDoor
