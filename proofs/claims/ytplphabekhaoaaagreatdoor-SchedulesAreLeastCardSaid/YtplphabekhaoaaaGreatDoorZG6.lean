/- Part 6 of a proof: the walks and laws that it needs. -/
import Derived.Test.YtplphabekhaoaaaGreatDoorZG5
namespace Go.Proofs.YtplphabekhaoaaaGreatDoor
open Go.RowKit
set_option linter.unusedVariables false
set_option linter.unusedSimpArgs false
theorem startF_in {s e : Int} (h1 : 0 ≤ s) (h2 : s ≤ 345686399999) (h3 : 0 ≤ e) (h4 : e ≤ 10000000) : startF s e = 0 := by
 unfold startF outR
 rw [if_neg]
 simp
 omega
theorem scheF_sch {p : List PaceS} {o : List OrdrS} {l : List Int} {s e : Int} (hb : bothF p o = 0) (hs : startF s e = 0) : scheF p o l s e = schF o.length l := by
 by_cases h : schF o.length l = 0
 ·rw [scheF_3 hb h, hs, h]
 ·rw [scheF_2 hb h]
theorem best_all' {p : List PaceS} {o : List OrdrS} {s e : Int} (hb : bothF p o = 0) (hs : startF s e = 0) (h8 : o.length ≤ 8) : bestSE p o s e = 0 ∧ (bestSL p o s e).length = o.length ∧ scheF p o (bestSL p o s e) s e = 0 ∧ lateR p o (bestSL p o s e) s e = bestSK p o s e ∧ dueE p o s e = 0 ∧ bestSK p o s e ≤ dueK p o s e ∧ ∀ l, scheF p o l s e = 0 → bestSK p o s e ≤ lateR p o l s e := by
 have hE := bestSE_0 hb hs (by omega : ¬ 8 < o.length)
 obtain ⟨e1, e2⟩ := bestS_ok hE
 obtain ⟨f1, f2, f3, f4, f5⟩ := bestS_facts hb hs
 have hz : scheF p o (bestSL p o s e) s e = 0 := by rw [scheF_sch hb hs, e1]; exact schF_ok f3 f2
 have hd : dueE p o s e = 0 := by rw [dueE, if_neg (by omega)]; exact hs
 refine ⟨hE, by rw [e1]; exact f3, hz, ?_, hd, ?_, fun l hl => ?_⟩
 ·rw [lateR, if_pos hz, e1, e2]; exact f4.symm
 ·rw [dueK, if_pos hd, e2]; exact f5 _ (dueL_ord o) (dueL_len o)
 ·rw [lateR, if_pos hl, e2]
  have hk := schOk hl
  exact f5 l hk.ord hk.len
theorem SchOk.long1 {p : List PaceS} {o : List OrdrS} {l : List Int} {s e : Int} (h : SchOk p o l s e) {i : Nat} (hi : i < o.length) : 1 ≤ longO p (o.getD i default) := by
 have h1 := (paceO_ok h.pok (h.has i hi)).1
 have h2 := (h.ook.all i hi).1
 have := Int.mul_le_mul h1.1 h2.1 (by decide) (by omega : (0 : Int) ≤ (paceO p (o.getD i default).product).cycle)
 unfold longO
 omega
theorem from_facts {p : List PaceS} {o : List OrdrS} {l : List Int} {s e : Int} (h : SchOk p o l s e) {q : Nat} (hq : q < l.length) : s ≤ fromP p o l s e q ∧ (orA o (l.getD q 0)).ready ≤ fromP p o l s e q ∧ fromP p o l s e q < endP p o l s e q ∧ (0 < q → endP p o l s e (q - 1) + turnO p e (orA o (l.getD (q - 1) 0)) (orA o (l.getD q 0)) ≤ fromP p o l s e q) := by
 have hat := h.at_ hq
 have hl := h.long1 hat.2
 have he := endP_from p o l s e q
 have hs := (h.start_le hq).1
 have hl' : 1 ≤ longO p (orA o (l.getD q 0)) := hl
 cases q with
 | zero =>
  refine ⟨hs, ?_, by omega, fun h => absurd h (by decide)⟩
  show _ ≤ max s (orA o (l.getD 0 0)).ready
  omega
 | succ m =>
  have e4 : fromP p o l s e (m + 1) = max (endP p o l s e m + turnO p e (orA o (l.getD m 0)) (orA o (l.getD (m + 1) 0))) (orA o (l.getD (m + 1) 0)).ready := rfl
  refine ⟨hs, by omega, by omega, fun _ => ?_⟩
  rw [show m + 1 - 1 = m by omega]
  omega
theorem chg_turn {p : List PaceS} {x y : OrdrS} {e : Int} (hp : paceF p = 0) (he : 0 ≤ e ∧ e ≤ 10000000) (hx : hasP p x.product = true) (hy : hasP p y.product = true) : chgV p x.product y.product e = turnO p e x y ∧ chgE p x.product y.product e = 0 := by
 have h0 := chgE_0 (p := p) (a := x.product) (b := y.product) (each := e) hp (by unfold outR; simp; omega) (by rw [hx, hy]; rfl)
 exact ⟨by rw [chgV_ok h0]; rfl, h0⟩
set_option maxRecDepth 100000 in
set_option maxHeartbeats 40000000 in
theorem areLeast_any (a0 : Option Addr) (cap0 : Nat) (L : List Int) (w : World) (hin : Inp w a0 L) :
  Calls Tryz.prog 13 #[.slice a0 L.length cap0] w fun e w' => e = .returned (.bool true) ∧ Chg NoB w w' := by
 refine law_calls Tryz.func13 rfl Tryz.ntmps13 (Nle rfl) Tryz.results13 ?_
 have hB := B0.ok w (fun _ => True) 243
 have hnew : True := trivial
 refine VC.sr ?_
 refine VO.ma rfl rfl rfl rfl ?_
 refine VO.nil ?_
 refine VC.sr ?_
 refine VO.mv rfl rfl rfl rfl ?_
 refine VO.val rfl rfl (OpV.build (pls := #[(0, 1), (1, 1)]) rfl Tryz.zeroValue25 Tryz.underlying25 (fun w => by kernel_rfl) rfl rfl) ?_
 refine VO.op rfl (OpE.box rfl hB rfl rfl rfl ?_)
 intro g
 refine VO.ma rfl rfl rfl rfl ?_
 refine VO.nil ?_
 refine VC.stream (i := 0) (sl := [(3, sp g)]) (by exact rfl) (by exact rfl) hin (by exact ⟨rfl, trivial⟩) (fun p hp => by simp at hp; subst hp; exact ⟨_, rfl⟩) (fun w1 hge hB => ?_)
 refine VC.sr ?_
 refine VO.mv rfl rfl rfl rfl ?_
 refine VO.op rfl (OpE.callT' (0) rfl rfl hB rfl Tryz.call17 rfl (rightOrders_T (m := 5) (by decide)) (by omega) ?_)
 rintro _ ⟨p, o, ⟨hps, hol, hoo, hb⟩, rfl⟩
 refine VO.mv rfl rfl rfl rfl ?_
 refine VO.val rfl rfl (OpV.extract rfl rfl rfl) ?_
 refine VO.val rfl rfl (OpV.extract rfl rfl rfl) ?_
 refine VO.ma rfl rfl rfl rfl ?_
 refine VO.ma rfl rfl rfl rfl ?_
 refine VO.nil ?_
 refine VC.sr ?_
 refine VO.mv rfl rfl rfl rfl ?_
 refine VO.op rfl (OpE.callT' (0 + 2000) rfl rfl hB rfl Tryz.call49 rfl ((range_T (by omega) (by omega) (by omega))) (by omega) ?_)
 rintro _ ⟨r39, hr39, rfl⟩
 refine VO.mv rfl rfl rfl rfl ?_
 refine VO.op rfl (OpE.callT' (0 + 2000 + 1) rfl rfl hB rfl Tryz.call49 rfl ((range_T (by omega) (by omega) (by omega))) (by omega) ?_)
 rintro _ ⟨r41, hr41, rfl⟩
 refine VO.ma rfl rfl rfl rfl ?_
 refine VO.ma rfl rfl rfl rfl ?_
 refine VO.nil ?_
 refine VC.sr ?_
 refine VO.mv rfl rfl rfl rfl ?_
 refine VO.mv rfl rfl rfl rfl ?_
 refine VO.val rfl rfl (OpV.len_im rfl Tryz.underlying28 rfl) ?_
 refine VO.op rfl (OpE.callT' (0 + 2000 + 1 + 1) rfl rfl hB rfl Tryz.call30 rfl (anOrder_T (n := o.length) (by omega)) (by omega) ?_)
 rintro _ ⟨l, hl, rfl⟩
 refine VO.ma rfl rfl rfl rfl ?_
 refine VO.nil ?_
 refine VC.seq ?_
 have hos := hoo.sm (by omega)
 have hpl := hps.len
 have hs : startF r39 r41 = 0 := startF_in (by omega) (by omega) (by omega) (by omega)
 obtain ⟨y1, y2, y3, y4, y5, y6, y7⟩ := best_all' hb hs (by omega)
 refine VC.le ⟨[(3, _), (4, _), (5, _), (6, _), (7, _), (8, _)], [], 0 + 2000 + 1 + 1 + 40⟩ (Le.mk hB [] ⟨rfl, rfl, rfl, rfl, rfl, rfl, trivial⟩ rfl rfl (Nat.le_refl _)) ?_
 refine VC.region ?_
 refine VO.mv rfl rfl rfl rfl ?_
 refine VO.mv rfl rfl rfl rfl ?_
 refine VO.mv rfl rfl rfl rfl ?_
 refine VO.mv rfl rfl rfl rfl ?_
 refine VO.op rfl (OpE.callH (hp := []) (rest := _) rfl hB rfl Tryz.call21 rfl rfl (plan_Best hps hos) (List.Perm.refl _) (fun _ h => by obtain ⟨e, he, _⟩ := h; cases he) ?_)
 rintro _ _ ⟨u51, rfl, rfl⟩
 refine VO.mv rfl rfl rfl rfl ?_
 refine VO.val rfl rfl (OpV.extract rfl rfl rfl) ?_
 refine VO.le _ (Le.rowI (t := 52) (i := 0) hB hnew rfl rfl (by first | rfl | simp)) ?_
 refine VO.val rfl rfl (OpV.extract rfl rfl rfl) ?_
 refine VO.val rfl rfl (OpV.extract rfl rfl rfl) ?_
 refine VO.ma rfl rfl rfl rfl ?_
 refine VO.ma rfl rfl rfl rfl ?_
 refine VO.ma rfl rfl rfl rfl ?_
 refine VO.nil ?_
 refine VC.sr ?_
 refine VO.mv rfl rfl rfl rfl ?_
 refine VO.mv rfl rfl rfl rfl ?_
 refine VO.mv rfl rfl rfl rfl ?_
 refine VO.mv rfl rfl rfl rfl ?_
 refine VO.op rfl (OpE.call rfl hB rfl Tryz.call22 rfl (plan_ByDue hps hos (by omega)) ?_)
 rintro _ rfl
 refine VO.mv rfl rfl rfl rfl ?_
 refine VO.val rfl rfl (OpV.extract rfl rfl rfl) ?_
 refine VO.val rfl rfl (OpV.extract rfl rfl rfl) ?_
 refine VO.val rfl rfl (OpV.extract rfl rfl rfl) ?_
 refine VO.ma rfl rfl rfl rfl ?_
 refine VO.ma rfl rfl rfl rfl ?_
 refine VO.ma rfl rfl rfl rfl ?_
 refine VO.nil ?_
 refine VC.sr ?_
 refine VO.mv rfl rfl rfl rfl ?_
 refine VO.mv rfl rfl rfl rfl ?_
 refine VO.mv rfl rfl rfl rfl ?_
 refine VO.mv rfl rfl rfl rfl ?_
 refine VO.mv rfl rfl rfl rfl ?_
 refine VO.op rfl (OpE.call rfl hB rfl Tryz.call34 rfl (SpecN.spec (plan_Late hps hos (by omega))) ?_)
 rintro _ rfl
 refine VO.mv rfl rfl rfl rfl ?_
 refine VO.val rfl rfl (OpV.extract rfl rfl rfl) ?_
 refine VO.val rfl rfl (OpV.extract rfl rfl rfl) ?_
 refine VO.val rfl rfl (OpV.extract rfl rfl rfl) ?_
 refine VO.ma rfl rfl rfl rfl ?_
 refine VO.ma rfl rfl rfl rfl ?_
 refine VO.ma rfl rfl rfl rfl ?_
 refine VO.nil ?_
 refine VC.seq ?_
 refine VC.sr ?_
 refine VO.mv rfl rfl rfl rfl ?_
 refine VO.mv rfl rfl rfl rfl ?_
 refine VO.mv rfl rfl rfl rfl ?_
 refine VO.op rfl (OpE.buildSlice (zc := #[.int .i64 0, .int .i64 0, .int .i64 0]) rfl hB rfl Tryz.underlying130 Tryz.sizeOf38 Tryz.zeroValue38 (by decide) (by decide) (by kernel_rfl) rfl rfl ?_)
 refine VO.le _ (Le.lits (t := 77) (xs := [bestSE p o r39 r41, dueE p o r39 r41, scheF p o (bestSL p o r39 r41) r39 r41]) rfl rfl) ?_
 refine VO.op rfl (OpE.call rfl hB rfl Tryz.call56 rfl (SpecN.spec (rk_errs (by simp))) ?_)
 rintro _ rfl
 refine VO.le _ (Le.recast (t := 78) (y := avI 0) rfl (fun w Z u h => by rw [y1, y5, y3] at h; exact h)) ?_
 refine VO.val rfl rfl (OpV.neq rfl rfl rfl) ?_
 refine VO.le _ (Le.boolF (t := 79) rfl rfl) ?_
 refine VO.mv rfl rfl rfl rfl ?_
 refine VO.opY rfl rfl rfl rfl rfl ?_
 refine OpE.val (W := NoB) (OpV.move (.inl rfl) rfl) rfl ?_
 refine VO.opY rfl rfl rfl rfl rfl ?_
 refine OpE.val (W := NoB) (OpV.move (.inl rfl) rfl) rfl ?_
 refine VO.opY rfl rfl rfl rfl rfl ?_
 refine OpE.val (W := NoB) (OpV.neq rfl rfl rfl) rfl ?_
 refine VO.le _ (Le.boolF (t := 83) rfl (decide_eq_false (by omega))) ?_
 refine VO.val rfl rfl (OpV.pickF rfl rfl rfl rfl rfl) ?_
 refine VO.mv rfl rfl rfl rfl ?_
 refine VO.opY rfl rfl rfl rfl rfl ?_
 refine OpE.val (W := NoB) (OpV.move (.inl rfl) rfl) rfl ?_
 refine VO.opY rfl rfl rfl rfl rfl ?_
 refine OpE.val (W := NoB) (OpV.move (.inl rfl) rfl) rfl ?_
 refine VO.opY rfl rfl rfl rfl rfl ?_
 refine OpE.val (W := NoB) (OpV.gtr rfl rfl rfl) rfl ?_
 refine VO.le _ (Le.boolF (t := 88) rfl (decide_eq_false (by omega))) ?_
 refine VO.val rfl rfl (OpV.pickF rfl rfl rfl rfl rfl) ?_
 refine VO.nil ?_
 refine VC.condF rfl rfl ?_
 refine VC.skip ?_
 refine VC.seq ?_
 refine VC.le ⟨[(3, _), (4, _), (5, _), (6, _), (7, _), (8, _), (10, _)], [], 0 + 2000 + 1 + 1 + 40⟩ (Le.mk hB [] ⟨rfl, rfl, rfl, rfl, rfl, rfl, rfl, trivial⟩ rfl rfl (Nat.le_refl _)) ?_
 refine VC.region ?_
 refine VO.mv rfl rfl rfl rfl ?_
 refine VO.mv rfl rfl rfl rfl ?_
 refine VO.mv rfl rfl rfl rfl ?_
 refine VO.mv rfl rfl rfl rfl ?_
 refine VO.mv rfl rfl rfl rfl ?_
 refine VO.op rfl (OpE.call rfl hB rfl Tryz.call33 rfl (SpecN.spec (plan_Times hps hos (by omega))) ?_)
 rintro _ rfl
 refine VO.mv rfl rfl rfl rfl ?_
 refine VO.val rfl rfl (OpV.extract rfl rfl rfl) ?_
 refine VO.val rfl rfl (OpV.extract rfl rfl rfl) ?_
 refine VO.ma rfl rfl rfl rfl ?_
 refine VO.ma rfl rfl rfl rfl ?_
 refine VO.nil ?_
 refine VC.seq ?_
 refine VC.sr ?_
 refine VO.mv rfl rfl rfl rfl ?_
 refine VO.val rfl rfl (OpV.neq rfl rfl rfl) ?_
 refine VO.nil ?_
 refine VC.cond rfl (fun h1b => ?_) (fun h1b => ?_)
 ·have h1 := h1b
  try simp only [qqT, qqF, qqN, qqM, qqL, qqE] at h1
  have e1 : schF o.length l = scheF p o l r39 r41 := (scheF_sch hb hs).symm
  refine VC.sr ?_
  refine VO.mv rfl rfl rfl rfl ?_
  refine VO.mv rfl rfl rfl rfl ?_
  refine VO.op rfl (OpE.call rfl hB rfl Tryz.call38 rfl (SpecN.spec (rf_ScheduleFault (by omega) (by omega))) ?_)
  rintro _ rfl
  refine VO.mv rfl rfl rfl rfl ?_
  refine VO.val rfl rfl (OpV.eql rfl rfl rfl) ?_
  refine VO.le _ (Le.boolT (t := 105) rfl (decide_eq_true e1)) ?_
  refine VO.mv rfl rfl rfl rfl ?_
  refine VO.opY rfl rfl rfl rfl rfl ?_
  refine OpE.call rfl hB rfl Tryz.call51 rfl (SpecN.spec (rk_ready)) ?_
  rintro _ rfl
  refine VO.val rfl rfl (OpV.pickT rfl rfl rfl rfl rfl) ?_
  refine VO.ma rfl rfl rfl rfl ?_
  refine VO.nil ?_
  refine VC.ret ?_
  exact And.intro rfl rfl
 ·have h1 := h1b
  try simp only [qqT, qqF, qqN, qqM, qqL, qqE] at h1
  have hz : scheF p o l r39 r41 = 0 := by omega
  have hk := schOk hz
  have hkl := hk.len
  have yl := y7 l hz
  have yt : (timesR p o l r39 r41) = timesQ p o l r39 r41 l.length := by rw [timesR, if_pos hz]
  have ytl : (timesR p o l r39 r41).length = o.length := by rw [yt, timesQ_len]
  refine VC.skip ?_
  refine VC.sr ?_
  refine VO.mv rfl rfl rfl rfl ?_
  refine VO.mv rfl rfl rfl rfl ?_
  refine VO.mv rfl rfl rfl rfl ?_
  refine VO.mv rfl rfl rfl rfl ?_
  refine VO.mv rfl rfl rfl rfl ?_
  refine VO.op rfl (OpE.call rfl hB rfl Tryz.call34 rfl (SpecN.spec (plan_Late hps hos (by omega))) ?_)
  rintro _ rfl
  refine VO.mv rfl rfl rfl rfl ?_
  refine VO.val rfl rfl (OpV.extract rfl rfl rfl) ?_
  refine VO.val rfl rfl (OpV.extract rfl rfl rfl) ?_
  refine VO.val rfl rfl (OpV.extract rfl rfl rfl) ?_
  refine VO.ma rfl rfl rfl rfl ?_
  refine VO.ma rfl rfl rfl rfl ?_
  refine VO.ma rfl rfl rfl rfl ?_
  refine VO.nil ?_
  refine VC.sr ?_
  refine VO.mv rfl rfl rfl rfl ?_
  refine VO.mv rfl rfl rfl rfl ?_
  refine VO.mv rfl rfl rfl rfl ?_
  refine VO.mv rfl rfl rfl rfl ?_
  refine VO.mv rfl rfl rfl rfl ?_
  refine VO.op rfl (OpE.callT' (0 + 2000 + 1 + 1 + 40) rfl rfl hB rfl Tryz.call49 rfl ((range_T (by omega) (by omega) (by omega))) (by omega) ?_)
  rintro _ ⟨r125, hr125, rfl⟩
  have hs2 : startF (r39 + r125) r41 = 0 := startF_in (by omega) (by omega) (by omega) (by omega)
  have hz2 : scheF p o l (r39 + r125) r41 = 0 := by rw [scheF_sch hb hs2, ← scheF_sch hb hs]; exact hz
  have hk2 := schOk hz2
  have yt2 : (timesR p o l (r39 + r125) r41) = timesQ p o l (r39 + r125) r41 l.length := by rw [timesR, if_pos hz2]
  have ytl2 : (timesR p o l (r39 + r125) r41).length = o.length := by rw [yt2, timesQ_len]
  refine VO.val rfl rfl (OpV.add rfl rfl rfl (by unfold fits; omega)) ?_
  refine VO.mv rfl rfl rfl rfl ?_
  refine VO.op rfl (OpE.call rfl hB rfl Tryz.call33 rfl (SpecN.spec (plan_Times hps hos (by omega))) ?_)
  rintro _ rfl
  refine VO.mv rfl rfl rfl rfl ?_
  refine VO.val rfl rfl (OpV.extract rfl rfl rfl) ?_
  refine VO.val rfl rfl (OpV.extract rfl rfl rfl) ?_
  refine VO.ma rfl rfl rfl rfl ?_
  refine VO.ma rfl rfl rfl rfl ?_
  refine VO.nil ?_
  refine VC.seq ?_
  refine VC.sr ?_
  refine VO.mv rfl rfl rfl rfl ?_
  refine VO.mv rfl rfl rfl rfl ?_
  refine VO.op rfl (OpE.buildSlice (zc := #[.int .i64 0, .int .i64 0]) rfl hB rfl Tryz.underlying130 Tryz.sizeOf38 Tryz.zeroValue38 (by decide) (by decide) (by kernel_rfl) rfl rfl ?_)
  refine VO.le _ (Le.lits (t := 133) (xs := [scheF p o l r39 r41, scheF p o l (r39 + r125) r41]) rfl rfl) ?_
  refine VO.op rfl (OpE.call rfl hB rfl Tryz.call56 rfl (SpecN.spec (rk_errs (by simp))) ?_)
  rintro _ rfl
  refine VO.le _ (Le.recast (t := 134) (y := avI 0) rfl (fun w Z u h => by rw [hz, hz2] at h; exact h)) ?_
  refine VO.val rfl rfl (OpV.neq rfl rfl rfl) ?_
  refine VO.le _ (Le.boolF (t := 135) rfl rfl) ?_
  refine VO.mv rfl rfl rfl rfl ?_
  refine VO.opY rfl rfl rfl rfl rfl ?_
  refine OpE.val (W := NoB) (OpV.move (.inl rfl) rfl) rfl ?_
  refine VO.opY rfl rfl rfl rfl rfl ?_
  refine OpE.val (W := NoB) (OpV.move (.inl rfl) rfl) rfl ?_
  refine VO.opY rfl rfl rfl rfl rfl ?_
  refine OpE.val (W := NoB) (OpV.lss rfl rfl rfl) rfl ?_
  refine VO.le _ (Le.boolF (t := 139) rfl (decide_eq_false (by omega))) ?_
  refine VO.val rfl rfl (OpV.pickF rfl rfl rfl rfl rfl) ?_
  refine VO.mv rfl rfl rfl rfl ?_
  refine VO.opY rfl rfl rfl rfl rfl ?_
  refine OpE.val (W := NoB) (OpV.move (.inl rfl) rfl) rfl ?_
  refine VO.opY rfl rfl rfl rfl rfl ?_
  refine OpE.val (W := NoB) (OpV.len_im rfl Tryz.underlying53 rfl) rfl ?_
  refine VO.opY rfl rfl rfl rfl rfl ?_
  refine OpE.val (W := NoB) (OpV.move (.inl rfl) rfl) rfl ?_
  refine VO.opY rfl rfl rfl rfl rfl ?_
  refine OpE.val (W := NoB) (OpV.len_im rfl Tryz.underlying28 rfl) rfl ?_
  refine VO.opY rfl rfl rfl rfl rfl ?_
  refine OpE.val (W := NoB) (OpV.neq rfl rfl rfl) rfl ?_
  refine VO.le _ (Le.boolF (t := 146) rfl (decide_eq_false (by omega))) ?_
  refine VO.val rfl rfl (OpV.pickF rfl rfl rfl rfl rfl) ?_
  refine VO.mv rfl rfl rfl rfl ?_
  refine VO.opY rfl rfl rfl rfl rfl ?_
  refine OpE.val (W := NoB) (OpV.move (.inl rfl) rfl) rfl ?_
  refine VO.opY rfl rfl rfl rfl rfl ?_
  refine OpE.val (W := NoB) (OpV.len_im rfl Tryz.underlying53 rfl) rfl ?_
  refine VO.opY rfl rfl rfl rfl rfl ?_
  refine OpE.val (W := NoB) (OpV.move (.inl rfl) rfl) rfl ?_
  refine VO.opY rfl rfl rfl rfl rfl ?_
  refine OpE.val (W := NoB) (OpV.len_im rfl Tryz.underlying28 rfl) rfl ?_
  refine VO.opY rfl rfl rfl rfl rfl ?_
  refine OpE.val (W := NoB) (OpV.neq rfl rfl rfl) rfl ?_
  refine VO.le _ (Le.boolF (t := 153) rfl (decide_eq_false (by omega))) ?_
  refine VO.val rfl rfl (OpV.pickF rfl rfl rfl rfl rfl) ?_
  refine VO.nil ?_
  refine VC.condF rfl rfl ?_
  refine VC.skip ?_
  refine VC.seq ?_
  refine VC.seq ?_
  refine VC.le ⟨[(3, _), (4, _), (5, _), (6, _), (7, _), (8, _), (18, _), (23, _)], [], 0 + 2000 + 1 + 1 + 40 + 1⟩ (Le.mk hB [] ⟨rfl, rfl, rfl, rfl, rfl, rfl, rfl, rfl, trivial⟩ rfl rfl (Nat.le_refl _)) ?_
  refine VC.region ?_
  refine VO.mv rfl rfl rfl rfl ?_
  refine VO.val rfl rfl (OpV.len_im rfl Tryz.underlying22 rfl) ?_
  refine VO.mv rfl rfl rfl rfl ?_
  refine VO.nil ?_
  refine VC.block ?_
  refine VC.loopK [(4, _), (5, _), (6, _), (7, _), (8, _), (18, _), (23, _), (155, _), (156, _)] ⟨rfl, rfl, rfl, rfl, rfl, rfl, rfl, rfl, rfl, trivial⟩ ({q : Nat // q ≤ l.length}) (fun (iZ : {q : Nat // q ≤ l.length}) => match iZ with | ⟨q, hq⟩ => [(157, avI (q : Int))]) (fun (iZ : {q : Nat // q ≤ l.length}) => match iZ with | ⟨q, hq⟩ => []) (fun (iZ : {q : Nat // q ≤ l.length}) => match iZ with | ⟨q, hq⟩ => 200000) (fun (iZ : {q : Nat // q ≤ l.length}) => match iZ with | ⟨q, hq⟩ => l.length - q) ⟨0, Nat.zero_le _⟩ (Le.mk hB [] ⟨rfl, rfl, rfl, rfl, rfl, rfl, rfl, rfl, rfl, rfl, trivial⟩ rfl rfl (Nle rfl)) ?_
  rintro ⟨q, hq⟩
  show VC _ _ _ _ ⟨[(157, avI (q : Int))] ++ [(4, _), (5, _), (6, _), (7, _), (8, _), (18, _), (23, _), (155, _), (156, _)], [], 200000⟩
  refine VC.sr ?_
  refine VO.val rfl rfl (OpV.lss rfl rfl rfl) ?_
  refine VO.nil ?_
  refine VC.seq ?_
  refine VC.cond rfl (fun aH1b => ?_) (fun aH1b => ?_)
  ·have aH1 := aH1b
   try simp only [qqT, qqF, qqN, qqM, qqL, qqE] at aH1
   refine VC.skip ?_
   refine VC.seq ?_
   refine VC.block ?_
   refine VC.sr ?_
   refine VO.mv rfl rfl rfl rfl ?_
   refine VO.val rfl rfl (OpV.indexAddr_1 rfl Tryz.underlying22 Tryz.sizeOf3 rfl rfl rfl (by omega)) ?_
   refine VO.val rfl rfl (OpV.load_at rfl hB OutW.no Tryz.isAgg3 rfl rfl) ?_
   refine VO.ma rfl rfl rfl rfl ?_
   refine VO.ma rfl rfl rfl rfl ?_
   refine VO.nil ?_
   refine VC.seq ?_
   refine VC.seq ?_
   have hat := hk.at_ (q := q) (by omega)
   have hg1 : (timesR p o l r39 r41).getD (l.getD q 0).toNat default = winP p o l r39 r41 q := by rw [yt]; exact hk.got l.length (by omega) (Nat.le_refl _)
   have hg2 : (timesR p o l (r39 + r125) r41).getD (l.getD q 0).toNat default = winP p o l (r39 + r125) r41 q := by rw [yt2]; exact hk2.got l.length (by omega) (Nat.le_refl _)
   obtain ⟨f1, f2, f3, f4⟩ := from_facts hk (q := q) (by omega)
   have fl := later_end (p := p) (o := o) (l := l) (each := r41) (by omega : r39 ≤ r39 + r125) q
   refine VC.draw (fun _ => NoB) hB (by kernel_rfl) ?_
   refine VA.take (i := 0) rfl (by kernel_rfl) (by kernel_rfl) (by kernel_rfl) rfl rfl (OpV.move (.inl rfl) rfl) ?_
   refine VA.take (i := 1) rfl (by kernel_rfl) (by kernel_rfl) (by kernel_rfl) rfl rfl (OpV.move (.inl rfl) rfl) ?_
   refine VA.take (i := 2) rfl (by kernel_rfl) (by kernel_rfl) (by kernel_rfl) rfl rfl (OpV.indexAddr_E rfl Tryz.underlying53 Tryz.sizeOf72 rfl rfl (Int.toNat_of_nonneg hat.1).symm (by rw [ytl]; exact hat.2)) ?_
   refine VA.take (i := 3) rfl (by kernel_rfl) (by kernel_rfl) (by kernel_rfl) rfl rfl (OpV.fieldAddr_atO 0 rfl Tryz.underlying72 rfl rfl Tryz.sizeOf3 rfl rfl) ?_
   refine VA.take (i := 4) rfl (by kernel_rfl) (by kernel_rfl) (by kernel_rfl) rfl rfl (OpV.load_at rfl hB OutW.wi0 Tryz.isAgg3 rfl rfl) ?_
   refine VA.le _ (Le.recast (t := 166) (y := avI (fromP p o l r39 r41 q)) rfl (fun w Z u h => by rw [hg1] at h; exact h)) ?_
   refine VA.take (i := 5) rfl (by kernel_rfl) (by kernel_rfl) (by kernel_rfl) rfl rfl (OpV.move (.inl rfl) rfl) ?_
   refine VA.take (i := 6) rfl (by kernel_rfl) (by kernel_rfl) (by kernel_rfl) rfl rfl (OpV.move (.inl rfl) rfl) ?_
   refine VA.take (i := 7) rfl (by kernel_rfl) (by kernel_rfl) (by kernel_rfl) rfl rfl (OpV.move (.inl rfl) rfl) ?_
   refine VA.take (i := 8) rfl (by kernel_rfl) (by kernel_rfl) (by kernel_rfl) rfl rfl (OpV.indexAddr_E rfl Tryz.underlying28 Tryz.sizeOf35 rfl rfl (Int.toNat_of_nonneg hat.1).symm hat.2) ?_
   refine VA.take (i := 9) rfl (by kernel_rfl) (by kernel_rfl) (by kernel_rfl) rfl rfl (OpV.fieldAddr_atO 3 rfl Tryz.underlying35 rfl rfl Tryz.sizeOf3 rfl rfl) ?_
   refine VA.take (i := 10) rfl (by kernel_rfl) (by kernel_rfl) (by kernel_rfl) rfl rfl (OpV.load_at rfl hB OutW.wi0 Tryz.isAgg3 rfl rfl) ?_
   refine VA.le _ (Le.recast (t := 172) (y := avI (orA o (l.getD q 0)).ready) rfl (fun w Z u h => h)) ?_
   refine VA.take (i := 11) rfl (by kernel_rfl) (by kernel_rfl) (by kernel_rfl) rfl rfl (OpV.max2 rfl rfl rfl) ?_
   refine VA.take (i := 12) rfl (by kernel_rfl) (by kernel_rfl) (by kernel_rfl) rfl rfl (OpV.lss rfl rfl rfl) ?_
   refine VA.le _ (Le.boolF (t := 174) rfl (decide_eq_false (by omega))) ?_
   refine VA.take (i := 13) rfl (by kernel_rfl) (by kernel_rfl) (by kernel_rfl) rfl rfl (OpV.move (.inl rfl) rfl) ?_
   refine VA.takeY (i := 14) rfl (by kernel_rfl) (by kernel_rfl) (by kernel_rfl) rfl rfl rfl rfl rfl (OpV.move (.inl rfl) rfl) ?_
   refine VA.takeY (i := 15) rfl (by kernel_rfl) (by kernel_rfl) (by kernel_rfl) rfl rfl rfl rfl rfl (OpV.move (.inl rfl) rfl) ?_
   refine VA.takeY (i := 16) rfl (by kernel_rfl) (by kernel_rfl) (by kernel_rfl) rfl rfl rfl rfl rfl (OpV.indexAddr_E rfl Tryz.underlying53 Tryz.sizeOf72 rfl rfl (Int.toNat_of_nonneg hat.1).symm (by rw [ytl2]; exact hat.2)) ?_
   refine VA.takeY (i := 17) rfl (by kernel_rfl) (by kernel_rfl) (by kernel_rfl) rfl rfl rfl rfl rfl (OpV.fieldAddr_atO 1 rfl Tryz.underlying72 rfl rfl Tryz.sizeOf3 rfl rfl) ?_
   refine VA.takeY (i := 18) rfl (by kernel_rfl) (by kernel_rfl) (by kernel_rfl) rfl rfl rfl rfl rfl (OpV.load_at rfl hB OutW.wi0 Tryz.isAgg3 rfl rfl) ?_
   refine VA.le _ (Le.recast (t := 180) (y := avI (endP p o l (r39 + r125) r41 q)) rfl (fun w Z u h => by rw [hg2] at h; exact h)) ?_
   refine VA.takeY (i := 19) rfl (by kernel_rfl) (by kernel_rfl) (by kernel_rfl) rfl rfl rfl rfl rfl (OpV.move (.inl rfl) rfl) ?_
   refine VA.takeY (i := 20) rfl (by kernel_rfl) (by kernel_rfl) (by kernel_rfl) rfl rfl rfl rfl rfl (OpV.move (.inl rfl) rfl) ?_
   refine VA.takeY (i := 21) rfl (by kernel_rfl) (by kernel_rfl) (by kernel_rfl) rfl rfl rfl rfl rfl (OpV.indexAddr_E rfl Tryz.underlying53 Tryz.sizeOf72 rfl rfl (Int.toNat_of_nonneg hat.1).symm (by rw [ytl]; exact hat.2)) ?_
   refine VA.takeY (i := 22) rfl (by kernel_rfl) (by kernel_rfl) (by kernel_rfl) rfl rfl rfl rfl rfl (OpV.fieldAddr_atO 1 rfl Tryz.underlying72 rfl rfl Tryz.sizeOf3 rfl rfl) ?_
   refine VA.takeY (i := 23) rfl (by kernel_rfl) (by kernel_rfl) (by kernel_rfl) rfl rfl rfl rfl rfl (OpV.load_at rfl hB OutW.wi0 Tryz.isAgg3 rfl rfl) ?_
   refine VA.le _ (Le.recast (t := 185) (y := avI (endP p o l r39 r41 q)) rfl (fun w Z u h => by rw [hg1] at h; exact h)) ?_
   refine VA.takeY (i := 24) rfl (by kernel_rfl) (by kernel_rfl) (by kernel_rfl) rfl rfl rfl rfl rfl (OpV.lss rfl rfl rfl) ?_
   refine VA.le _ (Le.boolF (t := 186) rfl (decide_eq_false (by omega))) ?_
   refine VA.take (i := 25) rfl (by kernel_rfl) (by kernel_rfl) (by kernel_rfl) rfl rfl (OpV.pickF rfl rfl rfl rfl rfl) ?_
   refine VA.take (i := 26) rfl (by kernel_rfl) (by kernel_rfl) (by kernel_rfl) rfl rfl (OpV.move (.inl rfl) rfl) ?_
   refine VA.takeY (i := 27) rfl (by kernel_rfl) (by kernel_rfl) (by kernel_rfl) rfl rfl rfl rfl rfl (OpV.move (.inl rfl) rfl) ?_
   refine VA.takeY (i := 28) rfl (by kernel_rfl) (by kernel_rfl) (by kernel_rfl) rfl rfl rfl rfl rfl (OpV.move (.inl rfl) rfl) ?_
   refine VA.takeY (i := 29) rfl (by kernel_rfl) (by kernel_rfl) (by kernel_rfl) rfl rfl rfl rfl rfl (OpV.indexAddr_E rfl Tryz.underlying53 Tryz.sizeOf72 rfl rfl (Int.toNat_of_nonneg hat.1).symm (by rw [ytl]; exact hat.2)) ?_
   refine VA.takeY (i := 30) rfl (by kernel_rfl) (by kernel_rfl) (by kernel_rfl) rfl rfl rfl rfl rfl (OpV.fieldAddr_atO 1 rfl Tryz.underlying72 rfl rfl Tryz.sizeOf3 rfl rfl) ?_
   refine VA.takeY (i := 31) rfl (by kernel_rfl) (by kernel_rfl) (by kernel_rfl) rfl rfl rfl rfl rfl (OpV.load_at rfl hB OutW.wi0 Tryz.isAgg3 rfl rfl) ?_
   refine VA.le _ (Le.recast (t := 193) (y := avI (endP p o l r39 r41 q)) rfl (fun w Z u h => by rw [hg1] at h; exact h)) ?_
   refine VA.takeY (i := 32) rfl (by kernel_rfl) (by kernel_rfl) (by kernel_rfl) rfl rfl rfl rfl rfl (OpV.move (.inl rfl) rfl) ?_
   refine VA.takeY (i := 33) rfl (by kernel_rfl) (by kernel_rfl) (by kernel_rfl) rfl rfl rfl rfl rfl (OpV.move (.inl rfl) rfl) ?_
   refine VA.takeY (i := 34) rfl (by kernel_rfl) (by kernel_rfl) (by kernel_rfl) rfl rfl rfl rfl rfl (OpV.indexAddr_E rfl Tryz.underlying53 Tryz.sizeOf72 rfl rfl (Int.toNat_of_nonneg hat.1).symm (by rw [ytl]; exact hat.2)) ?_
   refine VA.takeY (i := 35) rfl (by kernel_rfl) (by kernel_rfl) (by kernel_rfl) rfl rfl rfl rfl rfl (OpV.fieldAddr_atO 0 rfl Tryz.underlying72 rfl rfl Tryz.sizeOf3 rfl rfl) ?_
   refine VA.takeY (i := 36) rfl (by kernel_rfl) (by kernel_rfl) (by kernel_rfl) rfl rfl rfl rfl rfl (OpV.load_at rfl hB OutW.wi0 Tryz.isAgg3 rfl rfl) ?_
   refine VA.le _ (Le.recast (t := 198) (y := avI (fromP p o l r39 r41 q)) rfl (fun w Z u h => by rw [hg1] at h; exact h)) ?_
   refine VA.takeY (i := 37) rfl (by kernel_rfl) (by kernel_rfl) (by kernel_rfl) rfl rfl rfl rfl rfl (OpV.leq rfl rfl rfl) ?_
   refine VA.le _ (Le.boolF (t := 199) rfl (decide_eq_false (by omega))) ?_
   refine VA.take (i := 38) rfl (by kernel_rfl) (by kernel_rfl) (by kernel_rfl) rfl rfl (OpV.pickF rfl rfl rfl rfl rfl) ?_
   refine VA.done (by kernel_rfl) ?_
   refine VC.condF rfl rfl ?_
   refine VC.skip ?_
   refine VC.sr ?_
   refine VO.mv rfl rfl rfl rfl ?_
   refine VO.val rfl rfl (OpV.gtr rfl rfl rfl) ?_
   refine VO.nil ?_
   refine VC.cond rfl (fun h5b => ?_) (fun h5b => ?_)
   ·have h5 := h5b
    try simp only [qqT, qqF, qqN, qqM, qqL, qqE] at h5
    have hq0 : 0 < q := by omega
    have hat1 := hk.at_ (q := q - 1) (by omega)
    have hg3 : (timesR p o l r39 r41).getD (l.getD (q - 1) 0).toNat default = winP p o l r39 r41 (q - 1) := by rw [yt]; exact hk.got l.length (by omega) (Nat.le_refl _)
    have f5 := f4 hq0
    have hb1 := hk.bd (q - 1) (by omega)
    have hb2 := hk.bd q (by omega)
    have htu : 0 ≤ turnO p r41 (orA o (l.getD (q - 1) 0)) (orA o (l.getD q 0)) ∧ turnO p r41 (orA o (l.getD (q - 1) 0)) (orA o (l.getD q 0)) ≤ 10000000000 := hk.turn hat.2
    obtain ⟨ct1, ct2⟩ := chg_turn (p := p) (x := orA o (l.getD (q - 1) 0)) (y := orA o (l.getD q 0)) (bothF_0 hb).1 hk.ea (hk.has _ hat1.2) (hk.has _ hat.2)
    refine VC.sr ?_
    refine VO.mv rfl rfl rfl rfl ?_
    refine VO.mv rfl rfl rfl rfl ?_
    refine VO.val rfl rfl (OpV.sub rfl rfl rfl (by unfold fits; omega)) ?_
    refine VO.val rfl rfl (OpV.indexAddr_1 rfl Tryz.underlying22 Tryz.sizeOf3 rfl rfl (show (q : Int) - 1 = ((q - 1 : Nat) : Int) by omega) (by omega)) ?_
    refine VO.val rfl rfl (OpV.load_at rfl hB OutW.no Tryz.isAgg3 rfl rfl) ?_
    refine VO.ma rfl rfl rfl rfl ?_
    refine VO.nil ?_
    refine VC.seq ?_
    refine VC.draw (fun _ => NoB) hB (by kernel_rfl) ?_
    refine VA.take (i := 0) rfl (by kernel_rfl) (by kernel_rfl) (by kernel_rfl) rfl rfl (OpV.move (.inl rfl) rfl) ?_
    refine VA.take (i := 1) rfl (by kernel_rfl) (by kernel_rfl) (by kernel_rfl) rfl rfl (OpV.move (.inl rfl) rfl) ?_
    refine VA.take (i := 2) rfl (by kernel_rfl) (by kernel_rfl) (by kernel_rfl) rfl rfl (OpV.move (.inl rfl) rfl) ?_
    refine VA.take (i := 3) rfl (by kernel_rfl) (by kernel_rfl) (by kernel_rfl) rfl rfl (OpV.indexAddr_E rfl Tryz.underlying28 Tryz.sizeOf35 rfl rfl (Int.toNat_of_nonneg hat1.1).symm hat1.2) ?_
    refine VA.take (i := 4) rfl (by kernel_rfl) (by kernel_rfl) (by kernel_rfl) rfl rfl (OpV.fieldAddr_atO 1 rfl Tryz.underlying35 rfl rfl Tryz.sizeOf9 rfl rfl) ?_
    refine VA.take (i := 5) rfl (by kernel_rfl) (by kernel_rfl) (by kernel_rfl) rfl rfl (OpV.load_at rfl hB OutW.wi0 Tryz.isAgg9 rfl rfl) ?_
    refine VA.le _ (Le.recast (t := 214) (y := avS (orA o (l.getD (q - 1) 0)).product) rfl (fun w Z u h => h)) ?_
    refine VA.take (i := 6) rfl (by kernel_rfl) (by kernel_rfl) (by kernel_rfl) rfl rfl (OpV.move (.inl rfl) rfl) ?_
    refine VA.take (i := 7) rfl (by kernel_rfl) (by kernel_rfl) (by kernel_rfl) rfl rfl (OpV.move (.inl rfl) rfl) ?_
    refine VA.take (i := 8) rfl (by kernel_rfl) (by kernel_rfl) (by kernel_rfl) rfl rfl (OpV.indexAddr_E rfl Tryz.underlying28 Tryz.sizeOf35 rfl rfl (Int.toNat_of_nonneg hat.1).symm hat.2) ?_
    refine VA.take (i := 9) rfl (by kernel_rfl) (by kernel_rfl) (by kernel_rfl) rfl rfl (OpV.fieldAddr_atO 1 rfl Tryz.underlying35 rfl rfl Tryz.sizeOf9 rfl rfl) ?_
    refine VA.take (i := 10) rfl (by kernel_rfl) (by kernel_rfl) (by kernel_rfl) rfl rfl (OpV.load_at rfl hB OutW.wi0 Tryz.isAgg9 rfl rfl) ?_
    refine VA.le _ (Le.recast (t := 219) (y := avS (orA o (l.getD q 0)).product) rfl (fun w Z u h => h)) ?_
    refine VA.take (i := 11) rfl (by kernel_rfl) (by kernel_rfl) (by kernel_rfl) rfl rfl (OpV.move (.inl rfl) rfl) ?_
    refine VA.all (rs := [12]) (by kernel_rfl) (by decide) ?_
    refine ⟨⟨_, rfl, .inl rfl, ?_⟩, trivial⟩
    refine OpE.call rfl hB rfl Tryz.call32 rfl (SpecN.spec (plan_Changeover hps)) ?_
    rintro _ rfl
    refine VA.le _ (Le.recast (t := 221) (y := .tup [avI (turnO p r41 (orA o (l.getD (q - 1) 0)) (orA o (l.getD q 0))), avI 0]) rfl (fun w Z u h => by rw [ct1, ct2] at h; exact h)) ?_
    refine VA.take (i := 13) rfl (by kernel_rfl) (by kernel_rfl) (by kernel_rfl) rfl rfl (OpV.move (.inl rfl) rfl) ?_
    refine VA.take (i := 14) rfl (by kernel_rfl) (by kernel_rfl) (by kernel_rfl) rfl rfl (OpV.extract rfl rfl rfl) ?_
    refine VA.take (i := 15) rfl (by kernel_rfl) (by kernel_rfl) (by kernel_rfl) rfl rfl (OpV.extract rfl rfl rfl) ?_
    refine VA.take (i := 16) rfl (by kernel_rfl) (by kernel_rfl) (by kernel_rfl) rfl rfl (OpV.move (.inr rfl) rfl) ?_
    refine VA.take (i := 17) rfl (by kernel_rfl) (by kernel_rfl) (by kernel_rfl) rfl rfl (OpV.move (.inr rfl) rfl) ?_
    refine VA.done (by kernel_rfl) ?_
    refine VC.seq ?_
    refine VC.draw (fun _ => NoB) hB (by kernel_rfl) ?_
    refine VA.take (i := 0) rfl (by kernel_rfl) (by kernel_rfl) (by kernel_rfl) rfl rfl (OpV.move (.inl rfl) rfl) ?_
    refine VA.take (i := 1) rfl (by kernel_rfl) (by kernel_rfl) (by kernel_rfl) rfl rfl (OpV.neq rfl rfl rfl) ?_
    refine VA.le _ (Le.boolF (t := 225) rfl rfl) ?_
    refine VA.take (i := 2) rfl (by kernel_rfl) (by kernel_rfl) (by kernel_rfl) rfl rfl (OpV.move (.inl rfl) rfl) ?_
    refine VA.takeY (i := 3) rfl (by kernel_rfl) (by kernel_rfl) (by kernel_rfl) rfl rfl rfl rfl rfl (OpV.move (.inl rfl) rfl) ?_
    refine VA.takeY (i := 4) rfl (by kernel_rfl) (by kernel_rfl) (by kernel_rfl) rfl rfl rfl rfl rfl (OpV.move (.inl rfl) rfl) ?_
    refine VA.takeY (i := 5) rfl (by kernel_rfl) (by kernel_rfl) (by kernel_rfl) rfl rfl rfl rfl rfl (OpV.indexAddr_E rfl Tryz.underlying53 Tryz.sizeOf72 rfl rfl (Int.toNat_of_nonneg hat.1).symm (by rw [ytl]; exact hat.2)) ?_
    refine VA.takeY (i := 6) rfl (by kernel_rfl) (by kernel_rfl) (by kernel_rfl) rfl rfl rfl rfl rfl (OpV.fieldAddr_atO 0 rfl Tryz.underlying72 rfl rfl Tryz.sizeOf3 rfl rfl) ?_
    refine VA.takeY (i := 7) rfl (by kernel_rfl) (by kernel_rfl) (by kernel_rfl) rfl rfl rfl rfl rfl (OpV.load_at rfl hB OutW.wi0 Tryz.isAgg3 rfl rfl) ?_
    refine VA.le _ (Le.recast (t := 231) (y := avI (fromP p o l r39 r41 q)) rfl (fun w Z u h => by rw [hg1] at h; exact h)) ?_
    refine VA.takeY (i := 8) rfl (by kernel_rfl) (by kernel_rfl) (by kernel_rfl) rfl rfl rfl rfl rfl (OpV.move (.inl rfl) rfl) ?_
    refine VA.takeY (i := 9) rfl (by kernel_rfl) (by kernel_rfl) (by kernel_rfl) rfl rfl rfl rfl rfl (OpV.move (.inl rfl) rfl) ?_
    refine VA.takeY (i := 10) rfl (by kernel_rfl) (by kernel_rfl) (by kernel_rfl) rfl rfl rfl rfl rfl (OpV.indexAddr_E rfl Tryz.underlying53 Tryz.sizeOf72 rfl rfl (Int.toNat_of_nonneg hat1.1).symm (by rw [ytl]; exact hat1.2)) ?_
    refine VA.takeY (i := 11) rfl (by kernel_rfl) (by kernel_rfl) (by kernel_rfl) rfl rfl rfl rfl rfl (OpV.fieldAddr_atO 1 rfl Tryz.underlying72 rfl rfl Tryz.sizeOf3 rfl rfl) ?_
    refine VA.takeY (i := 12) rfl (by kernel_rfl) (by kernel_rfl) (by kernel_rfl) rfl rfl rfl rfl rfl (OpV.load_at rfl hB OutW.wi0 Tryz.isAgg3 rfl rfl) ?_
    refine VA.le _ (Le.recast (t := 236) (y := avI (endP p o l r39 r41 (q - 1))) rfl (fun w Z u h => by rw [hg3] at h; exact h)) ?_
    refine VA.takeY (i := 13) rfl (by kernel_rfl) (by kernel_rfl) (by kernel_rfl) rfl rfl rfl rfl rfl (OpV.move (.inl rfl) rfl) ?_
    refine VA.takeY (i := 14) rfl (by kernel_rfl) (by kernel_rfl) (by kernel_rfl) rfl rfl rfl rfl rfl (OpV.add rfl rfl rfl (by unfold fits; omega)) ?_
    refine VA.takeY (i := 15) rfl (by kernel_rfl) (by kernel_rfl) (by kernel_rfl) rfl rfl rfl rfl rfl (OpV.lss rfl rfl rfl) ?_
    refine VA.le _ (Le.boolF (t := 239) rfl (decide_eq_false (by omega))) ?_
    refine VA.take (i := 16) rfl (by kernel_rfl) (by kernel_rfl) (by kernel_rfl) rfl rfl (OpV.pickF rfl rfl rfl rfl rfl) ?_
    refine VA.done (by kernel_rfl) ?_
    refine VC.condF rfl rfl ?_
    refine VC.skip ?_
    refine VC.region ?_
    refine VO.val rfl rfl (OpV.add rfl rfl rfl (by unfold fits; omega)) ?_
    refine VO.mv rfl rfl rfl rfl ?_
    refine VO.nil ?_
    exact Exists.intro (⟨q + 1, by omega⟩) (And.intro (Le.mk hB [] ⟨rfl, rfl, rfl, rfl, rfl, rfl, rfl, rfl, rfl, rfl, trivial⟩ rfl rfl (Nle rfl)) (by first | omega | (show _ < _; omega) | (simp only []; omega)))
   ·have h5 := h5b
    try simp only [qqT, qqF, qqN, qqM, qqL, qqE] at h5
    refine VC.skip ?_
    refine VC.region ?_
    refine VO.val rfl rfl (OpV.add rfl rfl rfl (by unfold fits; omega)) ?_
    refine VO.mv rfl rfl rfl rfl ?_
    refine VO.nil ?_
    exact Exists.intro (⟨q + 1, by omega⟩) (And.intro (Le.mk hB [] ⟨rfl, rfl, rfl, rfl, rfl, rfl, rfl, rfl, rfl, rfl, trivial⟩ rfl rfl (Nle rfl)) (by first | omega | (show _ < _; omega) | (simp only []; omega)))
  ·have aH1 := aH1b
   try simp only [qqT, qqF, qqN, qqM, qqL, qqE] at aH1
   refine VC.exit ?_
   refine VC.sr ?_
   refine VO.op rfl (OpE.call rfl hB rfl Tryz.call51 rfl (SpecN.spec (rk_ready)) ?_)
   rintro _ rfl
   refine VO.ma rfl rfl rfl rfl ?_
   refine VO.nil ?_
   refine VC.ret ?_
   exact And.intro rfl rfl
end Go.Proofs.YtplphabekhaoaaaGreatDoor
