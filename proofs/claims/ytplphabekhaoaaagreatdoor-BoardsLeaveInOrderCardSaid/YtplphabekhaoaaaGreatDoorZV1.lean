/- Part 1 of a proof: the walks and laws that it needs. -/
import Derived.Test.YtplphabekhaoaaaGreatDoorZB5
namespace Go.Proofs.YtplphabekhaoaaaGreatDoor
open Go.RowKit
set_option linter.unusedVariables false
set_option linter.unusedSimpArgs false
set_option maxRecDepth 100000 in
set_option maxHeartbeats 40000000 in
theorem leaveInOrder_any (a0 : Option Addr) (cap0 : Nat) (L : List Int) (w : World) (hin : Inp w a0 L) :
  Calls Tryz.prog 6 #[.slice a0 L.length cap0] w fun e w' => e = .returned (.bool true) ∧ Chg NoB w w' := by
 refine law_calls Tryz.func6 rfl Tryz.ntmps6 (Nle rfl) Tryz.results6 ?_
 have hB := B0.ok w (fun _ => True) 190
 have hnew : True := trivial
 refine VC.sr ?_
 refine VO.ma rfl rfl rfl rfl ?_
 refine VO.nil ?_
 refine VC.sr ?_
 refine VO.mv rfl rfl rfl rfl ?_
 refine VO.val rfl rfl (OpV.build (pls := #[(0, 1), (1, 1)]) rfl Tryz.zeroValue25 Tryz.underlying25 (fun w => by kernel_rfl) rfl rfl) ?_
 refine VO.op rfl (OpE.box rfl hB rfl rfl rfl ?_)
 intro g
 refine VO.ma rfl rfl rfl rfl ?_
 refine VO.nil ?_
 refine VC.stream (i := 0) (sl := [(3, sp g)]) (by exact rfl) (by exact rfl) hin (by exact ⟨rfl, trivial⟩) (fun p hp => by simp at hp; subst hp; exact ⟨_, rfl⟩) (fun w1 hge hB => ?_)
 refine VC.sr ?_
 refine VO.mv rfl rfl rfl rfl ?_
 refine VO.op rfl (OpE.callT' (0) rfl rfl hB rfl Tryz.call48 rfl (line_T) (by omega) ?_)
 rintro _ ⟨c, b, hcb, rfl⟩
 refine VO.mv rfl rfl rfl rfl ?_
 refine VO.val rfl rfl (OpV.extract rfl rfl rfl) ?_
 refine VO.val rfl rfl (OpV.extract rfl rfl rfl) ?_
 refine VO.ma rfl rfl rfl rfl ?_
 refine VO.ma rfl rfl rfl rfl ?_
 refine VO.nil ?_
 refine VC.sr ?_
 refine VO.mv rfl rfl rfl rfl ?_
 refine VO.op rfl (OpE.callT' (0 + 100020) rfl rfl hB rfl Tryz.call49 rfl ((range_T (by omega) (by omega) (by omega))) (by omega) ?_)
 rintro _ ⟨r28, hr28, rfl⟩
 obtain ⟨n, rfl⟩ : ∃ n : Nat, r28 = n := ⟨r28.toNat, by omega⟩
 refine VO.ma rfl rfl rfl rfl ?_
 refine VO.nil ?_
 refine VC.seq ?_
 refine VC.sr ?_
 refine VO.mv rfl rfl rfl rfl ?_
 refine VO.mv rfl rfl rfl rfl ?_
 refine VO.mv rfl rfl rfl rfl ?_
 refine VO.op rfl (OpE.call rfl hB rfl Tryz.call50 rfl (SpecN.spec (rf_BoardsFault_S)) ?_)
 rintro _ rfl
 refine VO.val rfl rfl (OpV.neq rfl rfl rfl) ?_
 refine VO.nil ?_
 refine VC.cond rfl (fun h0b => ?_) (fun h0b => ?_)
 ·have h0 := h0b
  try simp only [qqT, qqF, qqN, qqM, qqL, qqE] at h0
  refine VC.sr ?_
  refine VO.op rfl (OpE.call rfl hB rfl Tryz.call51 rfl (SpecN.spec (rk_ready)) ?_)
  rintro _ rfl
  refine VO.ma rfl rfl rfl rfl ?_
  refine VO.nil ?_
  refine VC.ret ?_
  exact And.intro rfl rfl
 ·have h0 := h0b
  try simp only [qqT, qqF, qqN, qqM, qqL, qqE] at h0
  refine VC.skip ?_
  refine VC.seq ?_
  have hfl : flowF c b n = 0 := by omega
  obtain ⟨hr, hn1, hn2⟩ := flowF_right hfl
  have hLv := line_Leave_S (c := c) (b := b) (n := n)
  rw [leavesF, if_pos hfl, hfl, Int.toNat_natCast] at hLv
  have hBk := line_Blocked_S (c := c) (b := b) (n := n)
  rw [blkF, if_pos hfl, idlF, if_pos hfl, hfl, Int.toNat_natCast] at hBk
  have hbl := hcb.2.1
  have hcl := hr.len
  have hcp := hr.pos
  have hx1 := lv_len c b n
  have hk1 : (blkL c b n).length = c.length := by simp [blkL]
  have hk2 : (idlL c b n).length = c.length := by simp [idlL]
  refine VC.region ?_
  refine VO.mv rfl rfl rfl rfl ?_
  refine VO.mv rfl rfl rfl rfl ?_
  refine VO.mv rfl rfl rfl rfl ?_
  refine VO.op rfl (OpE.call rfl hB rfl Tryz.call52 rfl (SpecN.spec (hLv)) ?_)
  rintro _ rfl
  refine VO.mv rfl rfl rfl rfl ?_
  refine VO.val rfl rfl (OpV.extract rfl rfl rfl) ?_
  refine VO.val rfl rfl (OpV.extract rfl rfl rfl) ?_
  refine VO.ma rfl rfl rfl rfl ?_
  refine VO.ma rfl rfl rfl rfl ?_
  refine VO.nil ?_
  refine VC.sr ?_
  refine VO.mv rfl rfl rfl rfl ?_
  refine VO.op rfl (OpE.callR rfl hB rfl Tryz.call53 (slices_Clone_R (by omega)) (ArgsP.cons (ArgP.ev rfl) (ArgsP.nil)) ?_)
  intro u
  refine VO.ma rfl rfl rfl rfl ?_
  refine VO.nil ?_
  refine VC.seq ?_
  refine VC.sr ?_
  refine VO.mv rfl rfl rfl rfl ?_
  refine VO.val rfl rfl (OpV.len_row (i := 0) rfl Tryz.underlying22 rfl rfl) ?_
  refine VO.val rfl rfl (OpV.gtr rfl rfl rfl) ?_
  refine VO.nil ?_
  refine VC.cond rfl (fun aH1b => ?_) (fun aH1b => ?_)
  ·have aH1 := aH1b
   try simp only [qqT, qqF, qqN, qqM, qqL, qqE] at aH1
   refine VC.asBox (i := 0) rfl (by omega) (fun gb cap hu hcap hmx => ?_)
   subst hu
   refine VC.region ?_
   refine VO.mv rfl rfl rfl rfl ?_
   refine VO.mv rfl rfl rfl rfl ?_
   refine VO.mv rfl rfl rfl rfl ?_
   refine VO.val rfl rfl (OpV.len_v rfl Tryz.underlying22 rfl) ?_
   refine VO.op rfl (OpE.callT' (0 + 100020 + 1) rfl rfl hB rfl Tryz.call54 rfl (next_T (by omega)) (by omega) ?_)
   rintro _ ⟨r51, hr51, rfl⟩
   obtain ⟨m, rfl⟩ : ∃ m : Nat, r51 = m := ⟨r51.toNat, by omega⟩
   have hbm := hcb.2.at_ m
   refine VO.val rfl rfl (OpV.indexAddr_o rfl Tryz.underlying22 Tryz.sizeOf3 rfl rfl rfl (by omega)) ?_
   refine VO.val rfl rfl (OpV.load_own (i := 0) rfl hB Tryz.isAgg3 rfl rfl (intsL_get (by omega)) (fun h => h)) ?_
   refine VO.val rfl rfl (OpV.add rfl rfl rfl (by unfold fits; omega)) ?_
   refine VO.val rfl rfl (OpV.indexAddr_o rfl Tryz.underlying22 Tryz.sizeOf3 rfl rfl rfl (by omega)) ?_
   refine VO.op rfl (OpE.store1 (i := 0) rfl hB rfl Tryz.sizeOf3 rfl rfl rfl rfl rfl rfl (by rw [intsL_len]; omega) (intsL_set _ _ _) trivial ?_)
   refine VO.nil ?_
   refine VC.seq ?_
   refine VC.seq ?_
   (refine VC.le _ (Le.boxI (t := 9) (i := 0) (n := b.length) (xs := b.set m (b.getD m 0 + 1)) hB hnew rfl rfl (by simp) hcap hmx) ?_; obtain ⟨more, hmd, hml, hmore⟩ : ∃ more, b.set m (b.getD m 0 + 1) = more ∧ more.length = b.length ∧ ∀ k, at' b k ≤ at' more k := ⟨_, rfl, by simp, at_inc (by omega)⟩)
   refine VC.le _ (Le.recast (t := 9) (y := avInts more) rfl (fun w Z u h => by rw [← hmd]; exact h)) ?_
   refine VC.le ⟨[(4, _), (5, _), (6, _), (7, _), (8, _), (9, _)], [], 0 + 100020 + 1 + 1⟩ (Le.mk hB [] ⟨rfl, rfl, rfl, rfl, rfl, rfl, trivial⟩ rfl rfl (Nat.le_refl _)) ?_
   refine VC.region ?_
   refine VO.mv rfl rfl rfl rfl ?_
   refine VO.mv rfl rfl rfl rfl ?_
   refine VO.mv rfl rfl rfl rfl ?_
   refine VO.op rfl (OpE.call rfl hB rfl Tryz.call50 rfl (SpecN.spec (rf_BoardsFault_S)) ?_)
   rintro _ rfl
   refine VO.val rfl rfl (OpV.neq rfl rfl rfl) ?_
   refine VO.nil ?_
   refine VC.cond rfl (fun aH2b => ?_) (fun aH2b => ?_)
   ·have aH2 := aH2b
    try simp only [qqT, qqF, qqN, qqM, qqL, qqE] at aH2
    refine VC.sr ?_
    refine VO.op rfl (OpE.call rfl hB rfl Tryz.call51 rfl (SpecN.spec (rk_ready)) ?_)
    rintro _ rfl
    refine VO.ma rfl rfl rfl rfl ?_
    refine VO.nil ?_
    refine VC.ret ?_
    exact And.intro rfl rfl
   ·have aH2 := aH2b
    try simp only [qqT, qqF, qqN, qqM, qqL, qqE] at aH2
    refine VC.skip ?_
    refine VC.seq ?_
    have hfm : flowF c more n = 0 := by omega
    obtain ⟨hr2, _, _⟩ := flowF_right hfm
    have hLv2 := line_Leave_S (c := c) (b := more) (n := n)
    rw [leavesF, if_pos hfm, hfm, Int.toNat_natCast] at hLv2
    have hx2 := lv_len c more n
    refine VC.region ?_
    refine VO.mv rfl rfl rfl rfl ?_
    refine VO.mv rfl rfl rfl rfl ?_
    refine VO.mv rfl rfl rfl rfl ?_
    refine VO.op rfl (OpE.call rfl hB rfl Tryz.call52 rfl (SpecN.spec (hLv2)) ?_)
    rintro _ rfl
    refine VO.mv rfl rfl rfl rfl ?_
    refine VO.val rfl rfl (OpV.extract rfl rfl rfl) ?_
    refine VO.val rfl rfl (OpV.extract rfl rfl rfl) ?_
    refine VO.ma rfl rfl rfl rfl ?_
    refine VO.ma rfl rfl rfl rfl ?_
    refine VO.nil ?_
    refine VC.sr ?_
    refine VO.mv rfl rfl rfl rfl ?_
    refine VO.mv rfl rfl rfl rfl ?_
    refine VO.mv rfl rfl rfl rfl ?_
    refine VO.op rfl (OpE.call rfl hB rfl Tryz.call55 rfl (SpecN.spec (hBk)) ?_)
    rintro _ rfl
    refine VO.mv rfl rfl rfl rfl ?_
    refine VO.val rfl rfl (OpV.extract rfl rfl rfl) ?_
    refine VO.val rfl rfl (OpV.extract rfl rfl rfl) ?_
    refine VO.val rfl rfl (OpV.extract rfl rfl rfl) ?_
    refine VO.ma rfl rfl rfl rfl ?_
    refine VO.ma rfl rfl rfl rfl ?_
    refine VO.ma rfl rfl rfl rfl ?_
    refine VO.nil ?_
    refine VC.seq ?_
    refine VC.sr ?_
    refine VO.mv rfl rfl rfl rfl ?_
    refine VO.mv rfl rfl rfl rfl ?_
    refine VO.mv rfl rfl rfl rfl ?_
    refine VO.op rfl (OpE.buildSlice (zc := #[.int .i64 0, .int .i64 0, .int .i64 0]) rfl hB rfl Tryz.underlying130 Tryz.sizeOf38 Tryz.zeroValue38 (by decide) (by decide) (by kernel_rfl) rfl rfl ?_)
    refine VO.le _ (Le.lits (t := 80) (xs := [0, 0, 0]) rfl rfl) ?_
    refine VO.op rfl (OpE.call rfl hB rfl Tryz.call56 rfl (SpecN.spec (rk_errs (by simp))) ?_)
    rintro _ rfl
    refine VO.val rfl rfl (OpV.neq rfl rfl rfl) ?_
    refine VO.le _ (Le.boolF (t := 82) rfl rfl) ?_
    refine VO.mv rfl rfl rfl rfl ?_
    refine VO.opY rfl rfl rfl rfl rfl ?_
    refine OpE.val (W := NoB) (OpV.move (.inl rfl) rfl) rfl ?_
    refine VO.opY rfl rfl rfl rfl rfl ?_
    refine OpE.val (W := NoB) (OpV.len_im rfl Tryz.underlying22 rfl) rfl ?_
    refine VO.opY rfl rfl rfl rfl rfl ?_
    refine OpE.val (W := NoB) (OpV.move (.inl rfl) rfl) rfl ?_
    refine VO.opY rfl rfl rfl rfl rfl ?_
    refine OpE.val (W := NoB) (OpV.neq rfl rfl rfl) rfl ?_
    refine VO.le _ (Le.boolF (t := 87) rfl (decide_eq_false (by omega))) ?_
    refine VO.val rfl rfl (OpV.pickF rfl rfl rfl rfl rfl) ?_
    refine VO.mv rfl rfl rfl rfl ?_
    refine VO.opY rfl rfl rfl rfl rfl ?_
    refine OpE.val (W := NoB) (OpV.move (.inl rfl) rfl) rfl ?_
    refine VO.opY rfl rfl rfl rfl rfl ?_
    refine OpE.val (W := NoB) (OpV.len_im rfl Tryz.underlying22 rfl) rfl ?_
    refine VO.opY rfl rfl rfl rfl rfl ?_
    refine OpE.val (W := NoB) (OpV.move (.inl rfl) rfl) rfl ?_
    refine VO.opY rfl rfl rfl rfl rfl ?_
    refine OpE.val (W := NoB) (OpV.neq rfl rfl rfl) rfl ?_
    refine VO.le _ (Le.boolF (t := 93) rfl (decide_eq_false (by omega))) ?_
    refine VO.val rfl rfl (OpV.pickF rfl rfl rfl rfl rfl) ?_
    refine VO.mv rfl rfl rfl rfl ?_
    refine VO.opY rfl rfl rfl rfl rfl ?_
    refine OpE.val (W := NoB) (OpV.move (.inl rfl) rfl) rfl ?_
    refine VO.opY rfl rfl rfl rfl rfl ?_
    refine OpE.val (W := NoB) (OpV.len_im rfl Tryz.underlying22 rfl) rfl ?_
    refine VO.opY rfl rfl rfl rfl rfl ?_
    refine OpE.val (W := NoB) (OpV.move (.inl rfl) rfl) rfl ?_
    refine VO.opY rfl rfl rfl rfl rfl ?_
    refine OpE.val (W := NoB) (OpV.len_im rfl Tryz.underlying22 rfl) rfl ?_
    refine VO.opY rfl rfl rfl rfl rfl ?_
    refine OpE.val (W := NoB) (OpV.neq rfl rfl rfl) rfl ?_
    refine VO.le _ (Le.boolF (t := 100) rfl (decide_eq_false (by omega))) ?_
    refine VO.val rfl rfl (OpV.pickF rfl rfl rfl rfl rfl) ?_
    refine VO.mv rfl rfl rfl rfl ?_
    refine VO.opY rfl rfl rfl rfl rfl ?_
    refine OpE.val (W := NoB) (OpV.move (.inl rfl) rfl) rfl ?_
    refine VO.opY rfl rfl rfl rfl rfl ?_
    refine OpE.val (W := NoB) (OpV.len_im rfl Tryz.underlying22 rfl) rfl ?_
    refine VO.opY rfl rfl rfl rfl rfl ?_
    refine OpE.val (W := NoB) (OpV.move (.inl rfl) rfl) rfl ?_
    refine VO.opY rfl rfl rfl rfl rfl ?_
    refine OpE.val (W := NoB) (OpV.len_im rfl Tryz.underlying22 rfl) rfl ?_
    refine VO.opY rfl rfl rfl rfl rfl ?_
    refine OpE.val (W := NoB) (OpV.neq rfl rfl rfl) rfl ?_
    refine VO.le _ (Le.boolF (t := 107) rfl (decide_eq_false (by omega))) ?_
    refine VO.val rfl rfl (OpV.pickF rfl rfl rfl rfl rfl) ?_
    refine VO.nil ?_
    refine VC.condF rfl rfl ?_
    refine VC.skip ?_
    refine VC.sr ?_
    refine VO.ma rfl rfl rfl rfl ?_
    refine VO.nil ?_
    refine VC.seq ?_
    refine VC.sr ?_
    refine VO.mv rfl rfl rfl rfl ?_
    refine VO.val rfl rfl (OpV.len_im rfl Tryz.underlying22 rfl) ?_
    refine VO.mv rfl rfl rfl rfl ?_
    refine VO.nil ?_
    refine VC.block ?_
    refine VC.loopK [(4, _), (6, _), (7, _), (10, _), (12, _), (13, _), (109, _), (110, _)] ⟨rfl, rfl, rfl, rfl, rfl, rfl, rfl, rfl, trivial⟩ ({q : Nat // q ≤ c.length}) (fun (iZ : {q : Nat // q ≤ c.length}) => match iZ with | ⟨q, hq⟩ => [(15, avI (sumC c q)), (111, avI (q : Int))]) (fun (iZ : {q : Nat // q ≤ c.length}) => match iZ with | ⟨q, hq⟩ => []) (fun (iZ : {q : Nat // q ≤ c.length}) => match iZ with | ⟨q, hq⟩ => 200000) (fun (iZ : {q : Nat // q ≤ c.length}) => match iZ with | ⟨q, hq⟩ => c.length - q) ⟨0, Nat.zero_le _⟩ (Le.mk hB [] ⟨rfl, rfl, rfl, rfl, rfl, rfl, rfl, rfl, rfl, rfl, trivial⟩ rfl rfl (Nle rfl)) ?_
    rintro ⟨q, hq⟩
    show VC _ _ _ _ ⟨[(15, avI (sumC c q)), (111, avI (q : Int))] ++ [(4, _), (6, _), (7, _), (10, _), (12, _), (13, _), (109, _), (110, _)], [], 200000⟩
    have hsb := sumC_bd (c := c) (fun k hk => ⟨by have := hr.c1 k hk; omega, (hr.c1 k hk).2⟩) q hq
    refine VC.sr ?_
    refine VO.val rfl rfl (OpV.lss rfl rfl rfl) ?_
    refine VO.nil ?_
    refine VC.seq ?_
    refine VC.cond rfl (fun aH3b => ?_) (fun aH3b => ?_)
    ·have aH3 := aH3b
     try simp only [qqT, qqF, qqN, qqM, qqL, qqE] at aH3
     refine VC.skip ?_
     refine VC.seq ?_
     refine VC.block ?_
     refine VC.sr ?_
     refine VO.val rfl rfl (OpV.indexAddr_1 rfl Tryz.underlying22 Tryz.sizeOf3 rfl rfl rfl (by omega)) ?_
     refine VO.val rfl rfl (OpV.load_at rfl hB OutW.no Tryz.isAgg3 rfl rfl) ?_
     refine VO.ma rfl rfl rfl rfl ?_
     refine VO.nil ?_
     have hcq : 1 ≤ c.getD q 0 ∧ c.getD q 0 ≤ 10000000 := hr.c1 q (by omega)
     refine VC.region ?_
     refine VO.mv rfl rfl rfl rfl ?_
     refine VO.mv rfl rfl rfl rfl ?_
     refine VO.val rfl rfl (OpV.add rfl rfl rfl (by unfold fits; omega)) ?_
     refine VO.ma rfl rfl rfl rfl ?_
     refine VO.nil ?_
     refine VC.region ?_
     refine VO.val rfl rfl (OpV.add rfl rfl rfl (by unfold fits; omega)) ?_
     refine VO.mv rfl rfl rfl rfl ?_
     refine VO.nil ?_
     exact Exists.intro (⟨q + 1, by omega⟩) (And.intro (Le.mk hB [] ⟨rfl, rfl, rfl, rfl, rfl, rfl, rfl, rfl, rfl, rfl, trivial⟩ rfl rfl (Nle rfl)) (by first | omega | (show _ < _; omega) | (simp only []; omega)))
    ·have aH3 := aH3b
     try simp only [qqT, qqF, qqN, qqM, qqL, qqE] at aH3
     obtain rfl : q = c.length := by omega
     have hl0 : (leaves c b n).getD (Int.toNat 0) 0 = sumC c c.length := lv_first hr (n := n) (by omega)
     have hz1 := blk_zero hr n
     have hz2 : (idlL c b n).getD (Int.toNat 0) 0 = 0 := idl_zero hr n
     refine VC.exit ?_
     refine VC.seq ?_
     refine VC.sr ?_
     refine VO.mv rfl rfl rfl rfl ?_
     refine VO.val rfl rfl (OpV.indexAddr_1 rfl Tryz.underlying22 Tryz.sizeOf3 rfl rfl (Int.toNat_of_nonneg (by omega)).symm (by omega)) ?_
     refine VO.val rfl rfl (OpV.load_at rfl hB OutW.no Tryz.isAgg3 rfl rfl) ?_
     refine VO.mv rfl rfl rfl rfl ?_
     refine VO.val rfl rfl (OpV.neq rfl rfl rfl) ?_
     refine VO.le _ (Le.boolF (t := 123) rfl (decide_eq_false (by omega))) ?_
     refine VO.mv rfl rfl rfl rfl ?_
     refine VO.opY rfl rfl rfl rfl rfl ?_
     refine OpE.val (W := NoB) (OpV.move (.inl rfl) rfl) rfl ?_
     refine VO.opY rfl rfl rfl rfl rfl ?_
     refine OpE.val (W := NoB) (OpV.move (.inl rfl) rfl) rfl ?_
     refine VO.opY rfl rfl rfl rfl rfl ?_
     refine OpE.val (W := NoB) (OpV.len_im rfl Tryz.underlying22 rfl) rfl ?_
     refine VO.opY rfl rfl rfl rfl rfl ?_
     refine OpE.val (W := NoB) (OpV.sub rfl rfl rfl (by unfold fits; omega)) rfl ?_
     refine VO.opY rfl rfl rfl rfl rfl ?_
     refine OpE.val (W := NoB) (OpV.indexAddr_1 rfl Tryz.underlying22 Tryz.sizeOf3 rfl rfl (show (c.length : Int) - 1 = ((c.length - 1 : Nat) : Int) by omega) (by omega)) rfl ?_
     refine VO.opY rfl rfl rfl rfl rfl ?_
     refine OpE.val (W := NoB) (OpV.load_at rfl hB OutW.no Tryz.isAgg3 rfl rfl) rfl ?_
     refine VO.opY rfl rfl rfl rfl rfl ?_
     refine OpE.val (W := NoB) (OpV.neq rfl rfl rfl) rfl ?_
     refine VO.le _ (Le.boolF (t := 131) rfl (decide_eq_false (by omega))) ?_
     refine VO.val rfl rfl (OpV.pickF rfl rfl rfl rfl rfl) ?_
     refine VO.mv rfl rfl rfl rfl ?_
     refine VO.opY rfl rfl rfl rfl rfl ?_
     refine OpE.val (W := NoB) (OpV.move (.inl rfl) rfl) rfl ?_
     refine VO.opY rfl rfl rfl rfl rfl ?_
     refine OpE.val (W := NoB) (OpV.indexAddr_1 rfl Tryz.underlying22 Tryz.sizeOf3 rfl rfl (Int.toNat_of_nonneg (by omega)).symm (by omega)) rfl ?_
     refine VO.opY rfl rfl rfl rfl rfl ?_
     refine OpE.val (W := NoB) (OpV.load_at rfl hB OutW.no Tryz.isAgg3 rfl rfl) rfl ?_
     refine VO.opY rfl rfl rfl rfl rfl ?_
     refine OpE.val (W := NoB) (OpV.neq rfl rfl rfl) rfl ?_
     refine VO.le _ (Le.boolF (t := 137) rfl (decide_eq_false (by omega))) ?_
     refine VO.val rfl rfl (OpV.pickF rfl rfl rfl rfl rfl) ?_
     refine VO.nil ?_
     refine VC.condF rfl rfl ?_
     refine VC.skip ?_
     refine VC.seq ?_
     refine VC.sr ?_
     refine VO.mv rfl rfl rfl rfl ?_
     refine VO.mv rfl rfl rfl rfl ?_
     refine VO.nil ?_
     refine VC.block ?_
     refine VC.loopK [(4, _), (7, _), (10, _), (15, _), (139, _)] ⟨rfl, rfl, rfl, rfl, rfl, trivial⟩ ({i : Nat // i ≤ n}) (fun (iZ : {i : Nat // i ≤ n}) => match iZ with | ⟨i, hq1⟩ => [(140, avI (i : Int))]) (fun (iZ : {i : Nat // i ≤ n}) => match iZ with | ⟨i, hq1⟩ => []) (fun (iZ : {i : Nat // i ≤ n}) => match iZ with | ⟨i, hq1⟩ => 200000) (fun (iZ : {i : Nat // i ≤ n}) => match iZ with | ⟨i, hq1⟩ => n - i) ⟨0, Nat.zero_le _⟩ (Le.mk hB [] ⟨rfl, rfl, rfl, rfl, rfl, rfl, trivial⟩ rfl rfl (Nle rfl)) ?_
     rintro ⟨i, hq1⟩
     show VC _ _ _ _ ⟨[(140, avI (i : Int))] ++ [(4, _), (7, _), (10, _), (15, _), (139, _)], [], 200000⟩
     refine VC.sr ?_
     refine VO.val rfl rfl (OpV.lss rfl rfl rfl) ?_
     refine VO.nil ?_
     refine VC.seq ?_
     refine VC.cond rfl (fun aH4b => ?_) (fun aH4b => ?_)
     ·have aH4 := aH4b
      try simp only [qqT, qqF, qqN, qqM, qqL, qqE] at aH4
      refine VC.skip ?_
      refine VC.seq ?_
      refine VC.block ?_
      refine VC.sr ?_
      refine VO.mv rfl rfl rfl rfl ?_
      refine VO.ma rfl rfl rfl rfl ?_
      refine VO.nil ?_
      refine VC.seq ?_
      have hmb := maxL_at hcp
      obtain ⟨km, hkm, hkme⟩ := hmb
      have hkb := hr.c1 km hkm
      rw [hkme] at hkb
      have hmm := mul_bd (by omega : (0 : Int) ≤ (i : Int)) (by omega : (i : Int) ≤ 2000) (by omega : 0 ≤ maxL c) hkb.2
      have hb1 := lv_bd hr (n := n) (q := i) (by omega) (by omega)
      have hb2 := lv_bd hr (n := n) (q := i - 1) (by omega) (by omega)
      have hup := lv_more hr hr2 hmore (n := n) (q := i) (by omega)
      have hslow := lv_slow hr (n := n) (q := i) (by omega)
      have hstep : 0 < i → (leaves c b n).getD (i - 1) 0 + c.getD (c.length - 1) 0 ≤ (leaves c b n).getD i 0 := fun h0 => by
       have := lv_step hr (n := n) (q := i - 1) (by omega)
       rw [show i - 1 + 1 = i by omega] at this
       exact this
      refine VC.draw (fun _ => NoB) hB (by kernel_rfl) ?_
      refine VA.take (i := 0) rfl (by kernel_rfl) (by kernel_rfl) (by kernel_rfl) rfl rfl (OpV.move (.inl rfl) rfl) ?_
      refine VA.take (i := 1) rfl (by kernel_rfl) (by kernel_rfl) (by kernel_rfl) rfl rfl (OpV.move (.inl rfl) rfl) ?_
      refine VA.take (i := 2) rfl (by kernel_rfl) (by kernel_rfl) (by kernel_rfl) rfl rfl (OpV.indexAddr_1 rfl Tryz.underlying22 Tryz.sizeOf3 rfl rfl rfl (by omega)) ?_
      refine VA.take (i := 3) rfl (by kernel_rfl) (by kernel_rfl) (by kernel_rfl) rfl rfl (OpV.load_at rfl hB OutW.wi0 Tryz.isAgg3 rfl rfl) ?_
      refine VA.take (i := 4) rfl (by kernel_rfl) (by kernel_rfl) (by kernel_rfl) rfl rfl (OpV.move (.inl rfl) rfl) ?_
      refine VA.take (i := 5) rfl (by kernel_rfl) (by kernel_rfl) (by kernel_rfl) rfl rfl (OpV.move (.inl rfl) rfl) ?_
      refine VA.take (i := 6) rfl (by kernel_rfl) (by kernel_rfl) (by kernel_rfl) rfl rfl (OpV.indexAddr_1 rfl Tryz.underlying22 Tryz.sizeOf3 rfl rfl rfl (by omega)) ?_
      refine VA.take (i := 7) rfl (by kernel_rfl) (by kernel_rfl) (by kernel_rfl) rfl rfl (OpV.load_at rfl hB OutW.wi0 Tryz.isAgg3 rfl rfl) ?_
      refine VA.take (i := 8) rfl (by kernel_rfl) (by kernel_rfl) (by kernel_rfl) rfl rfl (OpV.gtr rfl rfl rfl) ?_
      refine VA.le _ (Le.boolF (t := 151) rfl (decide_eq_false (by omega))) ?_
      refine VA.take (i := 9) rfl (by kernel_rfl) (by kernel_rfl) (by kernel_rfl) rfl rfl (OpV.move (.inl rfl) rfl) ?_
      refine VA.takeY (i := 10) rfl (by kernel_rfl) (by kernel_rfl) (by kernel_rfl) rfl rfl rfl rfl rfl (OpV.move (.inl rfl) rfl) ?_
      refine VA.takeY (i := 11) rfl (by kernel_rfl) (by kernel_rfl) (by kernel_rfl) rfl rfl rfl rfl rfl (OpV.gtr rfl rfl rfl) ?_
      refine VA.takeY (i := 12) rfl (by kernel_rfl) (by kernel_rfl) (by kernel_rfl) rfl rfl rfl rfl rfl (OpV.move (.inl rfl) rfl) ?_
      refine VA.split (t := 155) rfl (fun aK5b => ?_) (fun aK5b => ?_)
      ·have aK5 := aK5b
       try simp only [qqT, qqF, qqN, qqM, qqL, qqE] at aK5
       refine VA.takeY (i := 13) rfl (by kernel_rfl) (by kernel_rfl) (by kernel_rfl) rfl rfl rfl rfl aK5b (OpV.move (.inl rfl) rfl) ?_
       refine VA.takeY (i := 14) rfl (by kernel_rfl) (by kernel_rfl) (by kernel_rfl) rfl rfl rfl rfl aK5b (OpV.move (.inl rfl) rfl) ?_
       refine VA.takeY (i := 15) rfl (by kernel_rfl) (by kernel_rfl) (by kernel_rfl) rfl rfl rfl rfl aK5b (OpV.indexAddr_1 rfl Tryz.underlying22 Tryz.sizeOf3 rfl rfl rfl (by omega)) ?_
       refine VA.takeY (i := 16) rfl (by kernel_rfl) (by kernel_rfl) (by kernel_rfl) rfl rfl rfl rfl aK5b (OpV.load_at rfl hB OutW.wi0 Tryz.isAgg3 rfl rfl) ?_
       refine VA.takeY (i := 17) rfl (by kernel_rfl) (by kernel_rfl) (by kernel_rfl) rfl rfl rfl rfl aK5b (OpV.move (.inl rfl) rfl) ?_
       refine VA.takeY (i := 18) rfl (by kernel_rfl) (by kernel_rfl) (by kernel_rfl) rfl rfl rfl rfl aK5b (OpV.move (.inl rfl) rfl) ?_
       refine VA.takeY (i := 19) rfl (by kernel_rfl) (by kernel_rfl) (by kernel_rfl) rfl rfl rfl rfl aK5b (OpV.sub rfl rfl rfl (by unfold fits; omega)) ?_
       refine VA.takeY (i := 20) rfl (by kernel_rfl) (by kernel_rfl) (by kernel_rfl) rfl rfl rfl rfl aK5b (OpV.indexAddr_1 rfl Tryz.underlying22 Tryz.sizeOf3 rfl rfl (show (i : Int) - 1 = ((i - 1 : Nat) : Int) by omega) (by omega)) ?_
       refine VA.takeY (i := 21) rfl (by kernel_rfl) (by kernel_rfl) (by kernel_rfl) rfl rfl rfl rfl aK5b (OpV.load_at rfl hB OutW.wi0 Tryz.isAgg3 rfl rfl) ?_
       refine VA.takeY (i := 22) rfl (by kernel_rfl) (by kernel_rfl) (by kernel_rfl) rfl rfl rfl rfl aK5b (OpV.sub rfl rfl rfl (by unfold fits; omega)) ?_
       refine VA.takeY (i := 23) rfl (by kernel_rfl) (by kernel_rfl) (by kernel_rfl) rfl rfl rfl rfl aK5b (OpV.move (.inl rfl) rfl) ?_
       refine VA.takeY (i := 24) rfl (by kernel_rfl) (by kernel_rfl) (by kernel_rfl) rfl rfl rfl rfl aK5b (OpV.move (.inl rfl) rfl) ?_
       refine VA.takeY (i := 25) rfl (by kernel_rfl) (by kernel_rfl) (by kernel_rfl) rfl rfl rfl rfl aK5b (OpV.len_im rfl Tryz.underlying22 rfl) ?_
       refine VA.takeY (i := 26) rfl (by kernel_rfl) (by kernel_rfl) (by kernel_rfl) rfl rfl rfl rfl aK5b (OpV.sub rfl rfl rfl (by unfold fits; omega)) ?_
       refine VA.takeY (i := 27) rfl (by kernel_rfl) (by kernel_rfl) (by kernel_rfl) rfl rfl rfl rfl aK5b (OpV.indexAddr_1 rfl Tryz.underlying22 Tryz.sizeOf3 rfl rfl (show (c.length : Int) - 1 = ((c.length - 1 : Nat) : Int) by omega) (by omega)) ?_
       refine VA.takeY (i := 28) rfl (by kernel_rfl) (by kernel_rfl) (by kernel_rfl) rfl rfl rfl rfl aK5b (OpV.load_at rfl hB OutW.wi0 Tryz.isAgg3 rfl rfl) ?_
       refine VA.takeY (i := 29) rfl (by kernel_rfl) (by kernel_rfl) (by kernel_rfl) rfl rfl rfl rfl aK5b (OpV.lss rfl rfl rfl) ?_
       refine VA.le _ (Le.boolF (t := 172) rfl (decide_eq_false (by have := hstep (by omega); omega))) ?_
       refine VA.takeY (i := 30) rfl (by kernel_rfl) (by kernel_rfl) (by kernel_rfl) rfl rfl rfl rfl rfl (OpV.pickT rfl rfl rfl rfl aK5b) ?_
       refine VA.take (i := 31) rfl (by kernel_rfl) (by kernel_rfl) (by kernel_rfl) rfl rfl (OpV.pickF rfl rfl rfl rfl rfl) ?_
       refine VA.take (i := 32) rfl (by kernel_rfl) (by kernel_rfl) (by kernel_rfl) rfl rfl (OpV.move (.inl rfl) rfl) ?_
       refine VA.takeY (i := 33) rfl (by kernel_rfl) (by kernel_rfl) (by kernel_rfl) rfl rfl rfl rfl rfl (OpV.move (.inl rfl) rfl) ?_
       refine VA.takeY (i := 34) rfl (by kernel_rfl) (by kernel_rfl) (by kernel_rfl) rfl rfl rfl rfl rfl (OpV.move (.inl rfl) rfl) ?_
       refine VA.takeY (i := 35) rfl (by kernel_rfl) (by kernel_rfl) (by kernel_rfl) rfl rfl rfl rfl rfl (OpV.indexAddr_1 rfl Tryz.underlying22 Tryz.sizeOf3 rfl rfl rfl (by omega)) ?_
       refine VA.takeY (i := 36) rfl (by kernel_rfl) (by kernel_rfl) (by kernel_rfl) rfl rfl rfl rfl rfl (OpV.load_at rfl hB OutW.wi0 Tryz.isAgg3 rfl rfl) ?_
       refine VA.takeY (i := 37) rfl (by kernel_rfl) (by kernel_rfl) (by kernel_rfl) rfl rfl rfl rfl rfl (OpV.move (.inl rfl) rfl) ?_
       refine VA.takeY (i := 38) rfl (by kernel_rfl) (by kernel_rfl) (by kernel_rfl) rfl rfl rfl rfl rfl (OpV.move (.inl rfl) rfl) ?_
       refine VA.takeY (i := 39) rfl (by kernel_rfl) (by kernel_rfl) (by kernel_rfl) rfl rfl rfl rfl rfl (OpV.move (.inl rfl) rfl) ?_
       refine VA.all (rs := [40]) (by kernel_rfl) (by decide) ?_
       refine ⟨⟨_, rfl, .inr ⟨_, _, _, rfl, rfl, rfl⟩, ?_⟩, trivial⟩
       refine OpE.call rfl hB rfl Tryz.call57 rfl (SpecN.spec (slices_Max_int (by omega) (by omega))) ?_
       rintro _ rfl
       refine VA.takeY (i := 41) rfl (by kernel_rfl) (by kernel_rfl) (by kernel_rfl) rfl rfl rfl rfl rfl (OpV.mul rfl rfl rfl (by unfold fits; omega)) ?_
       refine VA.takeY (i := 42) rfl (by kernel_rfl) (by kernel_rfl) (by kernel_rfl) rfl rfl rfl rfl rfl (OpV.add rfl rfl rfl (by unfold fits; omega)) ?_
       refine VA.takeY (i := 43) rfl (by kernel_rfl) (by kernel_rfl) (by kernel_rfl) rfl rfl rfl rfl rfl (OpV.lss rfl rfl rfl) ?_
       refine VA.le _ (Le.boolF (t := 186) rfl (decide_eq_false (by omega))) ?_
       refine VA.take (i := 44) rfl (by kernel_rfl) (by kernel_rfl) (by kernel_rfl) rfl rfl (OpV.pickF rfl rfl rfl rfl rfl) ?_
       refine VA.done (by kernel_rfl) ?_
       refine VC.condF rfl rfl ?_
       refine VC.skip ?_
       refine VC.region ?_
       refine VO.val rfl rfl (OpV.add rfl rfl rfl (by unfold fits; omega)) ?_
       refine VO.mv rfl rfl rfl rfl ?_
       refine VO.nil ?_
       exact Exists.intro (⟨i + 1, by omega⟩) (And.intro (Le.mk hB [] ⟨rfl, rfl, rfl, rfl, rfl, rfl, trivial⟩ rfl rfl (Nle rfl)) (by first | omega | (show _ < _; omega) | (simp only []; omega)))
      ·have aK5 := aK5b
       try simp only [qqT, qqF, qqN, qqM, qqL, qqE] at aK5
       refine VA.takeX (i := 13) rfl (by kernel_rfl) (by kernel_rfl) (by kernel_rfl) rfl rfl rfl rfl aK5b ?_
       refine VA.takeX (i := 14) rfl (by kernel_rfl) (by kernel_rfl) (by kernel_rfl) rfl rfl rfl rfl aK5b ?_
       refine VA.takeX (i := 15) rfl (by kernel_rfl) (by kernel_rfl) (by kernel_rfl) rfl rfl rfl rfl aK5b ?_
       refine VA.takeX (i := 16) rfl (by kernel_rfl) (by kernel_rfl) (by kernel_rfl) rfl rfl rfl rfl aK5b ?_
       refine VA.takeX (i := 17) rfl (by kernel_rfl) (by kernel_rfl) (by kernel_rfl) rfl rfl rfl rfl aK5b ?_
       refine VA.takeX (i := 18) rfl (by kernel_rfl) (by kernel_rfl) (by kernel_rfl) rfl rfl rfl rfl aK5b ?_
       refine VA.takeX (i := 19) rfl (by kernel_rfl) (by kernel_rfl) (by kernel_rfl) rfl rfl rfl rfl aK5b ?_
       refine VA.takeX (i := 20) rfl (by kernel_rfl) (by kernel_rfl) (by kernel_rfl) rfl rfl rfl rfl aK5b ?_
       refine VA.takeX (i := 21) rfl (by kernel_rfl) (by kernel_rfl) (by kernel_rfl) rfl rfl rfl rfl aK5b ?_
       refine VA.takeX (i := 22) rfl (by kernel_rfl) (by kernel_rfl) (by kernel_rfl) rfl rfl rfl rfl aK5b ?_
       refine VA.takeX (i := 23) rfl (by kernel_rfl) (by kernel_rfl) (by kernel_rfl) rfl rfl rfl rfl aK5b ?_
       refine VA.takeX (i := 24) rfl (by kernel_rfl) (by kernel_rfl) (by kernel_rfl) rfl rfl rfl rfl aK5b ?_
       refine VA.takeX (i := 25) rfl (by kernel_rfl) (by kernel_rfl) (by kernel_rfl) rfl rfl rfl rfl aK5b ?_
       refine VA.takeX (i := 26) rfl (by kernel_rfl) (by kernel_rfl) (by kernel_rfl) rfl rfl rfl rfl aK5b ?_
       refine VA.takeX (i := 27) rfl (by kernel_rfl) (by kernel_rfl) (by kernel_rfl) rfl rfl rfl rfl aK5b ?_
       refine VA.takeX (i := 28) rfl (by kernel_rfl) (by kernel_rfl) (by kernel_rfl) rfl rfl rfl rfl aK5b ?_
       refine VA.takeX (i := 29) rfl (by kernel_rfl) (by kernel_rfl) (by kernel_rfl) rfl rfl rfl rfl aK5b ?_
       refine VA.takeY (i := 30) rfl (by kernel_rfl) (by kernel_rfl) (by kernel_rfl) rfl rfl rfl rfl rfl (OpV.pickF rfl rfl rfl rfl aK5b) ?_
       refine VA.take (i := 31) rfl (by kernel_rfl) (by kernel_rfl) (by kernel_rfl) rfl rfl (OpV.pickF rfl rfl rfl rfl rfl) ?_
       refine VA.take (i := 32) rfl (by kernel_rfl) (by kernel_rfl) (by kernel_rfl) rfl rfl (OpV.move (.inl rfl) rfl) ?_
       refine VA.takeY (i := 33) rfl (by kernel_rfl) (by kernel_rfl) (by kernel_rfl) rfl rfl rfl rfl rfl (OpV.move (.inl rfl) rfl) ?_
       refine VA.takeY (i := 34) rfl (by kernel_rfl) (by kernel_rfl) (by kernel_rfl) rfl rfl rfl rfl rfl (OpV.move (.inl rfl) rfl) ?_
       refine VA.takeY (i := 35) rfl (by kernel_rfl) (by kernel_rfl) (by kernel_rfl) rfl rfl rfl rfl rfl (OpV.indexAddr_1 rfl Tryz.underlying22 Tryz.sizeOf3 rfl rfl rfl (by omega)) ?_
       refine VA.takeY (i := 36) rfl (by kernel_rfl) (by kernel_rfl) (by kernel_rfl) rfl rfl rfl rfl rfl (OpV.load_at rfl hB OutW.wi0 Tryz.isAgg3 rfl rfl) ?_
       refine VA.takeY (i := 37) rfl (by kernel_rfl) (by kernel_rfl) (by kernel_rfl) rfl rfl rfl rfl rfl (OpV.move (.inl rfl) rfl) ?_
       refine VA.takeY (i := 38) rfl (by kernel_rfl) (by kernel_rfl) (by kernel_rfl) rfl rfl rfl rfl rfl (OpV.move (.inl rfl) rfl) ?_
       refine VA.takeY (i := 39) rfl (by kernel_rfl) (by kernel_rfl) (by kernel_rfl) rfl rfl rfl rfl rfl (OpV.move (.inl rfl) rfl) ?_
       refine VA.all (rs := [40]) (by kernel_rfl) (by decide) ?_
       refine ⟨⟨_, rfl, .inr ⟨_, _, _, rfl, rfl, rfl⟩, ?_⟩, trivial⟩
       refine OpE.call rfl hB rfl Tryz.call57 rfl (SpecN.spec (slices_Max_int (by omega) (by omega))) ?_
       rintro _ rfl
       refine VA.takeY (i := 41) rfl (by kernel_rfl) (by kernel_rfl) (by kernel_rfl) rfl rfl rfl rfl rfl (OpV.mul rfl rfl rfl (by unfold fits; omega)) ?_
       refine VA.takeY (i := 42) rfl (by kernel_rfl) (by kernel_rfl) (by kernel_rfl) rfl rfl rfl rfl rfl (OpV.add rfl rfl rfl (by unfold fits; omega)) ?_
       refine VA.takeY (i := 43) rfl (by kernel_rfl) (by kernel_rfl) (by kernel_rfl) rfl rfl rfl rfl rfl (OpV.lss rfl rfl rfl) ?_
       refine VA.le _ (Le.boolF (t := 186) rfl (decide_eq_false (by omega))) ?_
       refine VA.take (i := 44) rfl (by kernel_rfl) (by kernel_rfl) (by kernel_rfl) rfl rfl (OpV.pickF rfl rfl rfl rfl rfl) ?_
       refine VA.done (by kernel_rfl) ?_
       refine VC.condF rfl rfl ?_
       refine VC.skip ?_
       refine VC.region ?_
       refine VO.val rfl rfl (OpV.add rfl rfl rfl (by unfold fits; omega)) ?_
       refine VO.mv rfl rfl rfl rfl ?_
       refine VO.nil ?_
       exact Exists.intro (⟨i + 1, by omega⟩) (And.intro (Le.mk hB [] ⟨rfl, rfl, rfl, rfl, rfl, rfl, trivial⟩ rfl rfl (Nle rfl)) (by first | omega | (show _ < _; omega) | (simp only []; omega)))
     ·have aH4 := aH4b
      try simp only [qqT, qqF, qqN, qqM, qqL, qqE] at aH4
      refine VC.exit ?_
      refine VC.sr ?_
      refine VO.op rfl (OpE.call rfl hB rfl Tryz.call51 rfl (SpecN.spec (rk_ready)) ?_)
      rintro _ rfl
      refine VO.ma rfl rfl rfl rfl ?_
      refine VO.nil ?_
      refine VC.ret ?_
      exact And.intro rfl rfl
  ·have aH1 := aH1b
   try simp only [qqT, qqF, qqN, qqM, qqL, qqE] at aH1
   refine VC.skip ?_
   refine VC.seq ?_
   refine VC.seq ?_
   (refine VC.le _ (Le.rowI (t := 9) (i := 0) hB hnew rfl rfl rfl) ?_; obtain ⟨more, hmd, hml, hmore⟩ : ∃ more, b = more ∧ more.length = b.length ∧ ∀ k, at' b k ≤ at' more k := ⟨_, rfl, rfl, fun _ => Int.le_refl _⟩)
   refine VC.le _ (Le.recast (t := 9) (y := avInts more) rfl (fun w Z u h => by rw [← hmd]; exact h)) ?_
   refine VC.le ⟨[(4, _), (5, _), (6, _), (7, _), (8, _), (9, _)], [], 0 + 100020 + 1⟩ (Le.mk hB [] ⟨rfl, rfl, rfl, rfl, rfl, rfl, trivial⟩ rfl rfl (Nat.le_refl _)) ?_
   refine VC.region ?_
   refine VO.mv rfl rfl rfl rfl ?_
   refine VO.mv rfl rfl rfl rfl ?_
   refine VO.mv rfl rfl rfl rfl ?_
   refine VO.op rfl (OpE.call rfl hB rfl Tryz.call50 rfl (SpecN.spec (rf_BoardsFault_S)) ?_)
   rintro _ rfl
   refine VO.val rfl rfl (OpV.neq rfl rfl rfl) ?_
   refine VO.nil ?_
   refine VC.cond rfl (fun aH6b => ?_) (fun aH6b => ?_)
   ·have aH6 := aH6b
    try simp only [qqT, qqF, qqN, qqM, qqL, qqE] at aH6
    refine VC.sr ?_
    refine VO.op rfl (OpE.call rfl hB rfl Tryz.call51 rfl (SpecN.spec (rk_ready)) ?_)
    rintro _ rfl
    refine VO.ma rfl rfl rfl rfl ?_
    refine VO.nil ?_
    refine VC.ret ?_
    exact And.intro rfl rfl
   ·have aH6 := aH6b
    try simp only [qqT, qqF, qqN, qqM, qqL, qqE] at aH6
    refine VC.skip ?_
    refine VC.seq ?_
    have hfm : flowF c more n = 0 := by omega
    obtain ⟨hr2, _, _⟩ := flowF_right hfm
    have hLv2 := line_Leave_S (c := c) (b := more) (n := n)
    rw [leavesF, if_pos hfm, hfm, Int.toNat_natCast] at hLv2
    have hx2 := lv_len c more n
    refine VC.region ?_
    refine VO.mv rfl rfl rfl rfl ?_
    refine VO.mv rfl rfl rfl rfl ?_
    refine VO.mv rfl rfl rfl rfl ?_
    refine VO.op rfl (OpE.call rfl hB rfl Tryz.call52 rfl (SpecN.spec (hLv2)) ?_)
    rintro _ rfl
    refine VO.mv rfl rfl rfl rfl ?_
    refine VO.val rfl rfl (OpV.extract rfl rfl rfl) ?_
    refine VO.val rfl rfl (OpV.extract rfl rfl rfl) ?_
    refine VO.ma rfl rfl rfl rfl ?_
    refine VO.ma rfl rfl rfl rfl ?_
    refine VO.nil ?_
    refine VC.sr ?_
    refine VO.mv rfl rfl rfl rfl ?_
    refine VO.mv rfl rfl rfl rfl ?_
    refine VO.mv rfl rfl rfl rfl ?_
    refine VO.op rfl (OpE.call rfl hB rfl Tryz.call55 rfl (SpecN.spec (hBk)) ?_)
    rintro _ rfl
    refine VO.mv rfl rfl rfl rfl ?_
    refine VO.val rfl rfl (OpV.extract rfl rfl rfl) ?_
    refine VO.val rfl rfl (OpV.extract rfl rfl rfl) ?_
    refine VO.val rfl rfl (OpV.extract rfl rfl rfl) ?_
    refine VO.ma rfl rfl rfl rfl ?_
    refine VO.ma rfl rfl rfl rfl ?_
    refine VO.ma rfl rfl rfl rfl ?_
    refine VO.nil ?_
    refine VC.seq ?_
    refine VC.sr ?_
    refine VO.mv rfl rfl rfl rfl ?_
    refine VO.mv rfl rfl rfl rfl ?_
    refine VO.mv rfl rfl rfl rfl ?_
    refine VO.op rfl (OpE.buildSlice (zc := #[.int .i64 0, .int .i64 0, .int .i64 0]) rfl hB rfl Tryz.underlying130 Tryz.sizeOf38 Tryz.zeroValue38 (by decide) (by decide) (by kernel_rfl) rfl rfl ?_)
    refine VO.le _ (Le.lits (t := 80) (xs := [0, 0, 0]) rfl rfl) ?_
    refine VO.op rfl (OpE.call rfl hB rfl Tryz.call56 rfl (SpecN.spec (rk_errs (by simp))) ?_)
    rintro _ rfl
    refine VO.val rfl rfl (OpV.neq rfl rfl rfl) ?_
    refine VO.le _ (Le.boolF (t := 82) rfl rfl) ?_
    refine VO.mv rfl rfl rfl rfl ?_
    refine VO.opY rfl rfl rfl rfl rfl ?_
    refine OpE.val (W := NoB) (OpV.move (.inl rfl) rfl) rfl ?_
    refine VO.opY rfl rfl rfl rfl rfl ?_
    refine OpE.val (W := NoB) (OpV.len_im rfl Tryz.underlying22 rfl) rfl ?_
    refine VO.opY rfl rfl rfl rfl rfl ?_
    refine OpE.val (W := NoB) (OpV.move (.inl rfl) rfl) rfl ?_
    refine VO.opY rfl rfl rfl rfl rfl ?_
    refine OpE.val (W := NoB) (OpV.neq rfl rfl rfl) rfl ?_
    refine VO.le _ (Le.boolF (t := 87) rfl (decide_eq_false (by omega))) ?_
    refine VO.val rfl rfl (OpV.pickF rfl rfl rfl rfl rfl) ?_
    refine VO.mv rfl rfl rfl rfl ?_
    refine VO.opY rfl rfl rfl rfl rfl ?_
    refine OpE.val (W := NoB) (OpV.move (.inl rfl) rfl) rfl ?_
    refine VO.opY rfl rfl rfl rfl rfl ?_
    refine OpE.val (W := NoB) (OpV.len_im rfl Tryz.underlying22 rfl) rfl ?_
    refine VO.opY rfl rfl rfl rfl rfl ?_
    refine OpE.val (W := NoB) (OpV.move (.inl rfl) rfl) rfl ?_
    refine VO.opY rfl rfl rfl rfl rfl ?_
    refine OpE.val (W := NoB) (OpV.neq rfl rfl rfl) rfl ?_
    refine VO.le _ (Le.boolF (t := 93) rfl (decide_eq_false (by omega))) ?_
    refine VO.val rfl rfl (OpV.pickF rfl rfl rfl rfl rfl) ?_
    refine VO.mv rfl rfl rfl rfl ?_
    refine VO.opY rfl rfl rfl rfl rfl ?_
    refine OpE.val (W := NoB) (OpV.move (.inl rfl) rfl) rfl ?_
    refine VO.opY rfl rfl rfl rfl rfl ?_
    refine OpE.val (W := NoB) (OpV.len_im rfl Tryz.underlying22 rfl) rfl ?_
    refine VO.opY rfl rfl rfl rfl rfl ?_
    refine OpE.val (W := NoB) (OpV.move (.inl rfl) rfl) rfl ?_
    refine VO.opY rfl rfl rfl rfl rfl ?_
    refine OpE.val (W := NoB) (OpV.len_im rfl Tryz.underlying22 rfl) rfl ?_
    refine VO.opY rfl rfl rfl rfl rfl ?_
    refine OpE.val (W := NoB) (OpV.neq rfl rfl rfl) rfl ?_
    refine VO.le _ (Le.boolF (t := 100) rfl (decide_eq_false (by omega))) ?_
    refine VO.val rfl rfl (OpV.pickF rfl rfl rfl rfl rfl) ?_
    refine VO.mv rfl rfl rfl rfl ?_
    refine VO.opY rfl rfl rfl rfl rfl ?_
    refine OpE.val (W := NoB) (OpV.move (.inl rfl) rfl) rfl ?_
    refine VO.opY rfl rfl rfl rfl rfl ?_
    refine OpE.val (W := NoB) (OpV.len_im rfl Tryz.underlying22 rfl) rfl ?_
    refine VO.opY rfl rfl rfl rfl rfl ?_
    refine OpE.val (W := NoB) (OpV.move (.inl rfl) rfl) rfl ?_
    refine VO.opY rfl rfl rfl rfl rfl ?_
    refine OpE.val (W := NoB) (OpV.len_im rfl Tryz.underlying22 rfl) rfl ?_
    refine VO.opY rfl rfl rfl rfl rfl ?_
    refine OpE.val (W := NoB) (OpV.neq rfl rfl rfl) rfl ?_
    refine VO.le _ (Le.boolF (t := 107) rfl (decide_eq_false (by omega))) ?_
    refine VO.val rfl rfl (OpV.pickF rfl rfl rfl rfl rfl) ?_
    refine VO.nil ?_
    refine VC.condF rfl rfl ?_
    refine VC.skip ?_
    refine VC.sr ?_
    refine VO.ma rfl rfl rfl rfl ?_
    refine VO.nil ?_
    refine VC.seq ?_
    refine VC.sr ?_
    refine VO.mv rfl rfl rfl rfl ?_
    refine VO.val rfl rfl (OpV.len_im rfl Tryz.underlying22 rfl) ?_
    refine VO.mv rfl rfl rfl rfl ?_
    refine VO.nil ?_
    refine VC.block ?_
    refine VC.loopK [(4, _), (6, _), (7, _), (10, _), (12, _), (13, _), (109, _), (110, _)] ⟨rfl, rfl, rfl, rfl, rfl, rfl, rfl, rfl, trivial⟩ ({q : Nat // q ≤ c.length}) (fun (iZ : {q : Nat // q ≤ c.length}) => match iZ with | ⟨q, hq⟩ => [(15, avI (sumC c q)), (111, avI (q : Int))]) (fun (iZ : {q : Nat // q ≤ c.length}) => match iZ with | ⟨q, hq⟩ => []) (fun (iZ : {q : Nat // q ≤ c.length}) => match iZ with | ⟨q, hq⟩ => 200000) (fun (iZ : {q : Nat // q ≤ c.length}) => match iZ with | ⟨q, hq⟩ => c.length - q) ⟨0, Nat.zero_le _⟩ (Le.mk hB [] ⟨rfl, rfl, rfl, rfl, rfl, rfl, rfl, rfl, rfl, rfl, trivial⟩ rfl rfl (Nle rfl)) ?_
    rintro ⟨q, hq⟩
    show VC _ _ _ _ ⟨[(15, avI (sumC c q)), (111, avI (q : Int))] ++ [(4, _), (6, _), (7, _), (10, _), (12, _), (13, _), (109, _), (110, _)], [], 200000⟩
    have hsb := sumC_bd (c := c) (fun k hk => ⟨by have := hr.c1 k hk; omega, (hr.c1 k hk).2⟩) q hq
    refine VC.sr ?_
    refine VO.val rfl rfl (OpV.lss rfl rfl rfl) ?_
    refine VO.nil ?_
    refine VC.seq ?_
    refine VC.cond rfl (fun aH7b => ?_) (fun aH7b => ?_)
    ·have aH7 := aH7b
     try simp only [qqT, qqF, qqN, qqM, qqL, qqE] at aH7
     refine VC.skip ?_
     refine VC.seq ?_
     refine VC.block ?_
     refine VC.sr ?_
     refine VO.val rfl rfl (OpV.indexAddr_1 rfl Tryz.underlying22 Tryz.sizeOf3 rfl rfl rfl (by omega)) ?_
     refine VO.val rfl rfl (OpV.load_at rfl hB OutW.no Tryz.isAgg3 rfl rfl) ?_
     refine VO.ma rfl rfl rfl rfl ?_
     refine VO.nil ?_
     have hcq : 1 ≤ c.getD q 0 ∧ c.getD q 0 ≤ 10000000 := hr.c1 q (by omega)
     refine VC.region ?_
     refine VO.mv rfl rfl rfl rfl ?_
     refine VO.mv rfl rfl rfl rfl ?_
     refine VO.val rfl rfl (OpV.add rfl rfl rfl (by unfold fits; omega)) ?_
     refine VO.ma rfl rfl rfl rfl ?_
     refine VO.nil ?_
     refine VC.region ?_
     refine VO.val rfl rfl (OpV.add rfl rfl rfl (by unfold fits; omega)) ?_
     refine VO.mv rfl rfl rfl rfl ?_
     refine VO.nil ?_
     exact Exists.intro (⟨q + 1, by omega⟩) (And.intro (Le.mk hB [] ⟨rfl, rfl, rfl, rfl, rfl, rfl, rfl, rfl, rfl, rfl, trivial⟩ rfl rfl (Nle rfl)) (by first | omega | (show _ < _; omega) | (simp only []; omega)))
    ·have aH7 := aH7b
     try simp only [qqT, qqF, qqN, qqM, qqL, qqE] at aH7
     obtain rfl : q = c.length := by omega
     have hl0 : (leaves c b n).getD (Int.toNat 0) 0 = sumC c c.length := lv_first hr (n := n) (by omega)
     have hz1 := blk_zero hr n
     have hz2 : (idlL c b n).getD (Int.toNat 0) 0 = 0 := idl_zero hr n
     refine VC.exit ?_
     refine VC.seq ?_
     refine VC.sr ?_
     refine VO.mv rfl rfl rfl rfl ?_
     refine VO.val rfl rfl (OpV.indexAddr_1 rfl Tryz.underlying22 Tryz.sizeOf3 rfl rfl (Int.toNat_of_nonneg (by omega)).symm (by omega)) ?_
     refine VO.val rfl rfl (OpV.load_at rfl hB OutW.no Tryz.isAgg3 rfl rfl) ?_
     refine VO.mv rfl rfl rfl rfl ?_
     refine VO.val rfl rfl (OpV.neq rfl rfl rfl) ?_
     refine VO.le _ (Le.boolF (t := 123) rfl (decide_eq_false (by omega))) ?_
     refine VO.mv rfl rfl rfl rfl ?_
     refine VO.opY rfl rfl rfl rfl rfl ?_
     refine OpE.val (W := NoB) (OpV.move (.inl rfl) rfl) rfl ?_
     refine VO.opY rfl rfl rfl rfl rfl ?_
     refine OpE.val (W := NoB) (OpV.move (.inl rfl) rfl) rfl ?_
     refine VO.opY rfl rfl rfl rfl rfl ?_
     refine OpE.val (W := NoB) (OpV.len_im rfl Tryz.underlying22 rfl) rfl ?_
     refine VO.opY rfl rfl rfl rfl rfl ?_
     refine OpE.val (W := NoB) (OpV.sub rfl rfl rfl (by unfold fits; omega)) rfl ?_
     refine VO.opY rfl rfl rfl rfl rfl ?_
     refine OpE.val (W := NoB) (OpV.indexAddr_1 rfl Tryz.underlying22 Tryz.sizeOf3 rfl rfl (show (c.length : Int) - 1 = ((c.length - 1 : Nat) : Int) by omega) (by omega)) rfl ?_
     refine VO.opY rfl rfl rfl rfl rfl ?_
     refine OpE.val (W := NoB) (OpV.load_at rfl hB OutW.no Tryz.isAgg3 rfl rfl) rfl ?_
     refine VO.opY rfl rfl rfl rfl rfl ?_
     refine OpE.val (W := NoB) (OpV.neq rfl rfl rfl) rfl ?_
     refine VO.le _ (Le.boolF (t := 131) rfl (decide_eq_false (by omega))) ?_
     refine VO.val rfl rfl (OpV.pickF rfl rfl rfl rfl rfl) ?_
     refine VO.mv rfl rfl rfl rfl ?_
     refine VO.opY rfl rfl rfl rfl rfl ?_
     refine OpE.val (W := NoB) (OpV.move (.inl rfl) rfl) rfl ?_
     refine VO.opY rfl rfl rfl rfl rfl ?_
     refine OpE.val (W := NoB) (OpV.indexAddr_1 rfl Tryz.underlying22 Tryz.sizeOf3 rfl rfl (Int.toNat_of_nonneg (by omega)).symm (by omega)) rfl ?_
     refine VO.opY rfl rfl rfl rfl rfl ?_
     refine OpE.val (W := NoB) (OpV.load_at rfl hB OutW.no Tryz.isAgg3 rfl rfl) rfl ?_
     refine VO.opY rfl rfl rfl rfl rfl ?_
     refine OpE.val (W := NoB) (OpV.neq rfl rfl rfl) rfl ?_
     refine VO.le _ (Le.boolF (t := 137) rfl (decide_eq_false (by omega))) ?_
     refine VO.val rfl rfl (OpV.pickF rfl rfl rfl rfl rfl) ?_
     refine VO.nil ?_
     refine VC.condF rfl rfl ?_
     refine VC.skip ?_
     refine VC.seq ?_
     refine VC.sr ?_
     refine VO.mv rfl rfl rfl rfl ?_
     refine VO.mv rfl rfl rfl rfl ?_
     refine VO.nil ?_
     refine VC.block ?_
     refine VC.loopK [(4, _), (7, _), (10, _), (15, _), (139, _)] ⟨rfl, rfl, rfl, rfl, rfl, trivial⟩ ({i : Nat // i ≤ n}) (fun (iZ : {i : Nat // i ≤ n}) => match iZ with | ⟨i, hq1⟩ => [(140, avI (i : Int))]) (fun (iZ : {i : Nat // i ≤ n}) => match iZ with | ⟨i, hq1⟩ => []) (fun (iZ : {i : Nat // i ≤ n}) => match iZ with | ⟨i, hq1⟩ => 200000) (fun (iZ : {i : Nat // i ≤ n}) => match iZ with | ⟨i, hq1⟩ => n - i) ⟨0, Nat.zero_le _⟩ (Le.mk hB [] ⟨rfl, rfl, rfl, rfl, rfl, rfl, trivial⟩ rfl rfl (Nle rfl)) ?_
     rintro ⟨i, hq1⟩
     show VC _ _ _ _ ⟨[(140, avI (i : Int))] ++ [(4, _), (7, _), (10, _), (15, _), (139, _)], [], 200000⟩
     refine VC.sr ?_
     refine VO.val rfl rfl (OpV.lss rfl rfl rfl) ?_
     refine VO.nil ?_
     refine VC.seq ?_
     refine VC.cond rfl (fun aH8b => ?_) (fun aH8b => ?_)
     ·have aH8 := aH8b
      try simp only [qqT, qqF, qqN, qqM, qqL, qqE] at aH8
      refine VC.skip ?_
      refine VC.seq ?_
      refine VC.block ?_
      refine VC.sr ?_
      refine VO.mv rfl rfl rfl rfl ?_
      refine VO.ma rfl rfl rfl rfl ?_
      refine VO.nil ?_
      refine VC.seq ?_
      have hmb := maxL_at hcp
      obtain ⟨km, hkm, hkme⟩ := hmb
      have hkb := hr.c1 km hkm
      rw [hkme] at hkb
      have hmm := mul_bd (by omega : (0 : Int) ≤ (i : Int)) (by omega : (i : Int) ≤ 2000) (by omega : 0 ≤ maxL c) hkb.2
      have hb1 := lv_bd hr (n := n) (q := i) (by omega) (by omega)
      have hb2 := lv_bd hr (n := n) (q := i - 1) (by omega) (by omega)
      have hup := lv_more hr hr2 hmore (n := n) (q := i) (by omega)
      have hslow := lv_slow hr (n := n) (q := i) (by omega)
      have hstep : 0 < i → (leaves c b n).getD (i - 1) 0 + c.getD (c.length - 1) 0 ≤ (leaves c b n).getD i 0 := fun h0 => by
       have := lv_step hr (n := n) (q := i - 1) (by omega)
       rw [show i - 1 + 1 = i by omega] at this
       exact this
      refine VC.draw (fun _ => NoB) hB (by kernel_rfl) ?_
      refine VA.take (i := 0) rfl (by kernel_rfl) (by kernel_rfl) (by kernel_rfl) rfl rfl (OpV.move (.inl rfl) rfl) ?_
      refine VA.take (i := 1) rfl (by kernel_rfl) (by kernel_rfl) (by kernel_rfl) rfl rfl (OpV.move (.inl rfl) rfl) ?_
      refine VA.take (i := 2) rfl (by kernel_rfl) (by kernel_rfl) (by kernel_rfl) rfl rfl (OpV.indexAddr_1 rfl Tryz.underlying22 Tryz.sizeOf3 rfl rfl rfl (by omega)) ?_
      refine VA.take (i := 3) rfl (by kernel_rfl) (by kernel_rfl) (by kernel_rfl) rfl rfl (OpV.load_at rfl hB OutW.wi0 Tryz.isAgg3 rfl rfl) ?_
      refine VA.take (i := 4) rfl (by kernel_rfl) (by kernel_rfl) (by kernel_rfl) rfl rfl (OpV.move (.inl rfl) rfl) ?_
      refine VA.take (i := 5) rfl (by kernel_rfl) (by kernel_rfl) (by kernel_rfl) rfl rfl (OpV.move (.inl rfl) rfl) ?_
      refine VA.take (i := 6) rfl (by kernel_rfl) (by kernel_rfl) (by kernel_rfl) rfl rfl (OpV.indexAddr_1 rfl Tryz.underlying22 Tryz.sizeOf3 rfl rfl rfl (by omega)) ?_
      refine VA.take (i := 7) rfl (by kernel_rfl) (by kernel_rfl) (by kernel_rfl) rfl rfl (OpV.load_at rfl hB OutW.wi0 Tryz.isAgg3 rfl rfl) ?_
      refine VA.take (i := 8) rfl (by kernel_rfl) (by kernel_rfl) (by kernel_rfl) rfl rfl (OpV.gtr rfl rfl rfl) ?_
      refine VA.le _ (Le.boolF (t := 151) rfl (decide_eq_false (by omega))) ?_
      refine VA.take (i := 9) rfl (by kernel_rfl) (by kernel_rfl) (by kernel_rfl) rfl rfl (OpV.move (.inl rfl) rfl) ?_
      refine VA.takeY (i := 10) rfl (by kernel_rfl) (by kernel_rfl) (by kernel_rfl) rfl rfl rfl rfl rfl (OpV.move (.inl rfl) rfl) ?_
      refine VA.takeY (i := 11) rfl (by kernel_rfl) (by kernel_rfl) (by kernel_rfl) rfl rfl rfl rfl rfl (OpV.gtr rfl rfl rfl) ?_
      refine VA.takeY (i := 12) rfl (by kernel_rfl) (by kernel_rfl) (by kernel_rfl) rfl rfl rfl rfl rfl (OpV.move (.inl rfl) rfl) ?_
      refine VA.split (t := 155) rfl (fun aK9b => ?_) (fun aK9b => ?_)
      ·have aK9 := aK9b
       try simp only [qqT, qqF, qqN, qqM, qqL, qqE] at aK9
       refine VA.takeY (i := 13) rfl (by kernel_rfl) (by kernel_rfl) (by kernel_rfl) rfl rfl rfl rfl aK9b (OpV.move (.inl rfl) rfl) ?_
       refine VA.takeY (i := 14) rfl (by kernel_rfl) (by kernel_rfl) (by kernel_rfl) rfl rfl rfl rfl aK9b (OpV.move (.inl rfl) rfl) ?_
       refine VA.takeY (i := 15) rfl (by kernel_rfl) (by kernel_rfl) (by kernel_rfl) rfl rfl rfl rfl aK9b (OpV.indexAddr_1 rfl Tryz.underlying22 Tryz.sizeOf3 rfl rfl rfl (by omega)) ?_
       refine VA.takeY (i := 16) rfl (by kernel_rfl) (by kernel_rfl) (by kernel_rfl) rfl rfl rfl rfl aK9b (OpV.load_at rfl hB OutW.wi0 Tryz.isAgg3 rfl rfl) ?_
       refine VA.takeY (i := 17) rfl (by kernel_rfl) (by kernel_rfl) (by kernel_rfl) rfl rfl rfl rfl aK9b (OpV.move (.inl rfl) rfl) ?_
       refine VA.takeY (i := 18) rfl (by kernel_rfl) (by kernel_rfl) (by kernel_rfl) rfl rfl rfl rfl aK9b (OpV.move (.inl rfl) rfl) ?_
       refine VA.takeY (i := 19) rfl (by kernel_rfl) (by kernel_rfl) (by kernel_rfl) rfl rfl rfl rfl aK9b (OpV.sub rfl rfl rfl (by unfold fits; omega)) ?_
       refine VA.takeY (i := 20) rfl (by kernel_rfl) (by kernel_rfl) (by kernel_rfl) rfl rfl rfl rfl aK9b (OpV.indexAddr_1 rfl Tryz.underlying22 Tryz.sizeOf3 rfl rfl (show (i : Int) - 1 = ((i - 1 : Nat) : Int) by omega) (by omega)) ?_
       refine VA.takeY (i := 21) rfl (by kernel_rfl) (by kernel_rfl) (by kernel_rfl) rfl rfl rfl rfl aK9b (OpV.load_at rfl hB OutW.wi0 Tryz.isAgg3 rfl rfl) ?_
       refine VA.takeY (i := 22) rfl (by kernel_rfl) (by kernel_rfl) (by kernel_rfl) rfl rfl rfl rfl aK9b (OpV.sub rfl rfl rfl (by unfold fits; omega)) ?_
       refine VA.takeY (i := 23) rfl (by kernel_rfl) (by kernel_rfl) (by kernel_rfl) rfl rfl rfl rfl aK9b (OpV.move (.inl rfl) rfl) ?_
       refine VA.takeY (i := 24) rfl (by kernel_rfl) (by kernel_rfl) (by kernel_rfl) rfl rfl rfl rfl aK9b (OpV.move (.inl rfl) rfl) ?_
       refine VA.takeY (i := 25) rfl (by kernel_rfl) (by kernel_rfl) (by kernel_rfl) rfl rfl rfl rfl aK9b (OpV.len_im rfl Tryz.underlying22 rfl) ?_
       refine VA.takeY (i := 26) rfl (by kernel_rfl) (by kernel_rfl) (by kernel_rfl) rfl rfl rfl rfl aK9b (OpV.sub rfl rfl rfl (by unfold fits; omega)) ?_
       refine VA.takeY (i := 27) rfl (by kernel_rfl) (by kernel_rfl) (by kernel_rfl) rfl rfl rfl rfl aK9b (OpV.indexAddr_1 rfl Tryz.underlying22 Tryz.sizeOf3 rfl rfl (show (c.length : Int) - 1 = ((c.length - 1 : Nat) : Int) by omega) (by omega)) ?_
       refine VA.takeY (i := 28) rfl (by kernel_rfl) (by kernel_rfl) (by kernel_rfl) rfl rfl rfl rfl aK9b (OpV.load_at rfl hB OutW.wi0 Tryz.isAgg3 rfl rfl) ?_
       refine VA.takeY (i := 29) rfl (by kernel_rfl) (by kernel_rfl) (by kernel_rfl) rfl rfl rfl rfl aK9b (OpV.lss rfl rfl rfl) ?_
       refine VA.le _ (Le.boolF (t := 172) rfl (decide_eq_false (by have := hstep (by omega); omega))) ?_
       refine VA.takeY (i := 30) rfl (by kernel_rfl) (by kernel_rfl) (by kernel_rfl) rfl rfl rfl rfl rfl (OpV.pickT rfl rfl rfl rfl aK9b) ?_
       refine VA.take (i := 31) rfl (by kernel_rfl) (by kernel_rfl) (by kernel_rfl) rfl rfl (OpV.pickF rfl rfl rfl rfl rfl) ?_
       refine VA.take (i := 32) rfl (by kernel_rfl) (by kernel_rfl) (by kernel_rfl) rfl rfl (OpV.move (.inl rfl) rfl) ?_
       refine VA.takeY (i := 33) rfl (by kernel_rfl) (by kernel_rfl) (by kernel_rfl) rfl rfl rfl rfl rfl (OpV.move (.inl rfl) rfl) ?_
       refine VA.takeY (i := 34) rfl (by kernel_rfl) (by kernel_rfl) (by kernel_rfl) rfl rfl rfl rfl rfl (OpV.move (.inl rfl) rfl) ?_
       refine VA.takeY (i := 35) rfl (by kernel_rfl) (by kernel_rfl) (by kernel_rfl) rfl rfl rfl rfl rfl (OpV.indexAddr_1 rfl Tryz.underlying22 Tryz.sizeOf3 rfl rfl rfl (by omega)) ?_
       refine VA.takeY (i := 36) rfl (by kernel_rfl) (by kernel_rfl) (by kernel_rfl) rfl rfl rfl rfl rfl (OpV.load_at rfl hB OutW.wi0 Tryz.isAgg3 rfl rfl) ?_
       refine VA.takeY (i := 37) rfl (by kernel_rfl) (by kernel_rfl) (by kernel_rfl) rfl rfl rfl rfl rfl (OpV.move (.inl rfl) rfl) ?_
       refine VA.takeY (i := 38) rfl (by kernel_rfl) (by kernel_rfl) (by kernel_rfl) rfl rfl rfl rfl rfl (OpV.move (.inl rfl) rfl) ?_
       refine VA.takeY (i := 39) rfl (by kernel_rfl) (by kernel_rfl) (by kernel_rfl) rfl rfl rfl rfl rfl (OpV.move (.inl rfl) rfl) ?_
       refine VA.all (rs := [40]) (by kernel_rfl) (by decide) ?_
       refine ⟨⟨_, rfl, .inr ⟨_, _, _, rfl, rfl, rfl⟩, ?_⟩, trivial⟩
       refine OpE.call rfl hB rfl Tryz.call57 rfl (SpecN.spec (slices_Max_int (by omega) (by omega))) ?_
       rintro _ rfl
       refine VA.takeY (i := 41) rfl (by kernel_rfl) (by kernel_rfl) (by kernel_rfl) rfl rfl rfl rfl rfl (OpV.mul rfl rfl rfl (by unfold fits; omega)) ?_
       refine VA.takeY (i := 42) rfl (by kernel_rfl) (by kernel_rfl) (by kernel_rfl) rfl rfl rfl rfl rfl (OpV.add rfl rfl rfl (by unfold fits; omega)) ?_
       refine VA.takeY (i := 43) rfl (by kernel_rfl) (by kernel_rfl) (by kernel_rfl) rfl rfl rfl rfl rfl (OpV.lss rfl rfl rfl) ?_
       refine VA.le _ (Le.boolF (t := 186) rfl (decide_eq_false (by omega))) ?_
       refine VA.take (i := 44) rfl (by kernel_rfl) (by kernel_rfl) (by kernel_rfl) rfl rfl (OpV.pickF rfl rfl rfl rfl rfl) ?_
       refine VA.done (by kernel_rfl) ?_
       refine VC.condF rfl rfl ?_
       refine VC.skip ?_
       refine VC.region ?_
       refine VO.val rfl rfl (OpV.add rfl rfl rfl (by unfold fits; omega)) ?_
       refine VO.mv rfl rfl rfl rfl ?_
       refine VO.nil ?_
       exact Exists.intro (⟨i + 1, by omega⟩) (And.intro (Le.mk hB [] ⟨rfl, rfl, rfl, rfl, rfl, rfl, trivial⟩ rfl rfl (Nle rfl)) (by first | omega | (show _ < _; omega) | (simp only []; omega)))
      ·have aK9 := aK9b
       try simp only [qqT, qqF, qqN, qqM, qqL, qqE] at aK9
       refine VA.takeX (i := 13) rfl (by kernel_rfl) (by kernel_rfl) (by kernel_rfl) rfl rfl rfl rfl aK9b ?_
       refine VA.takeX (i := 14) rfl (by kernel_rfl) (by kernel_rfl) (by kernel_rfl) rfl rfl rfl rfl aK9b ?_
       refine VA.takeX (i := 15) rfl (by kernel_rfl) (by kernel_rfl) (by kernel_rfl) rfl rfl rfl rfl aK9b ?_
       refine VA.takeX (i := 16) rfl (by kernel_rfl) (by kernel_rfl) (by kernel_rfl) rfl rfl rfl rfl aK9b ?_
       refine VA.takeX (i := 17) rfl (by kernel_rfl) (by kernel_rfl) (by kernel_rfl) rfl rfl rfl rfl aK9b ?_
       refine VA.takeX (i := 18) rfl (by kernel_rfl) (by kernel_rfl) (by kernel_rfl) rfl rfl rfl rfl aK9b ?_
       refine VA.takeX (i := 19) rfl (by kernel_rfl) (by kernel_rfl) (by kernel_rfl) rfl rfl rfl rfl aK9b ?_
       refine VA.takeX (i := 20) rfl (by kernel_rfl) (by kernel_rfl) (by kernel_rfl) rfl rfl rfl rfl aK9b ?_
       refine VA.takeX (i := 21) rfl (by kernel_rfl) (by kernel_rfl) (by kernel_rfl) rfl rfl rfl rfl aK9b ?_
       refine VA.takeX (i := 22) rfl (by kernel_rfl) (by kernel_rfl) (by kernel_rfl) rfl rfl rfl rfl aK9b ?_
       refine VA.takeX (i := 23) rfl (by kernel_rfl) (by kernel_rfl) (by kernel_rfl) rfl rfl rfl rfl aK9b ?_
       refine VA.takeX (i := 24) rfl (by kernel_rfl) (by kernel_rfl) (by kernel_rfl) rfl rfl rfl rfl aK9b ?_
       refine VA.takeX (i := 25) rfl (by kernel_rfl) (by kernel_rfl) (by kernel_rfl) rfl rfl rfl rfl aK9b ?_
       refine VA.takeX (i := 26) rfl (by kernel_rfl) (by kernel_rfl) (by kernel_rfl) rfl rfl rfl rfl aK9b ?_
       refine VA.takeX (i := 27) rfl (by kernel_rfl) (by kernel_rfl) (by kernel_rfl) rfl rfl rfl rfl aK9b ?_
       refine VA.takeX (i := 28) rfl (by kernel_rfl) (by kernel_rfl) (by kernel_rfl) rfl rfl rfl rfl aK9b ?_
       refine VA.takeX (i := 29) rfl (by kernel_rfl) (by kernel_rfl) (by kernel_rfl) rfl rfl rfl rfl aK9b ?_
       refine VA.takeY (i := 30) rfl (by kernel_rfl) (by kernel_rfl) (by kernel_rfl) rfl rfl rfl rfl rfl (OpV.pickF rfl rfl rfl rfl aK9b) ?_
       refine VA.take (i := 31) rfl (by kernel_rfl) (by kernel_rfl) (by kernel_rfl) rfl rfl (OpV.pickF rfl rfl rfl rfl rfl) ?_
       refine VA.take (i := 32) rfl (by kernel_rfl) (by kernel_rfl) (by kernel_rfl) rfl rfl (OpV.move (.inl rfl) rfl) ?_
       refine VA.takeY (i := 33) rfl (by kernel_rfl) (by kernel_rfl) (by kernel_rfl) rfl rfl rfl rfl rfl (OpV.move (.inl rfl) rfl) ?_
       refine VA.takeY (i := 34) rfl (by kernel_rfl) (by kernel_rfl) (by kernel_rfl) rfl rfl rfl rfl rfl (OpV.move (.inl rfl) rfl) ?_
       refine VA.takeY (i := 35) rfl (by kernel_rfl) (by kernel_rfl) (by kernel_rfl) rfl rfl rfl rfl rfl (OpV.indexAddr_1 rfl Tryz.underlying22 Tryz.sizeOf3 rfl rfl rfl (by omega)) ?_
       refine VA.takeY (i := 36) rfl (by kernel_rfl) (by kernel_rfl) (by kernel_rfl) rfl rfl rfl rfl rfl (OpV.load_at rfl hB OutW.wi0 Tryz.isAgg3 rfl rfl) ?_
       refine VA.takeY (i := 37) rfl (by kernel_rfl) (by kernel_rfl) (by kernel_rfl) rfl rfl rfl rfl rfl (OpV.move (.inl rfl) rfl) ?_
       refine VA.takeY (i := 38) rfl (by kernel_rfl) (by kernel_rfl) (by kernel_rfl) rfl rfl rfl rfl rfl (OpV.move (.inl rfl) rfl) ?_
       refine VA.takeY (i := 39) rfl (by kernel_rfl) (by kernel_rfl) (by kernel_rfl) rfl rfl rfl rfl rfl (OpV.move (.inl rfl) rfl) ?_
       refine VA.all (rs := [40]) (by kernel_rfl) (by decide) ?_
       refine ⟨⟨_, rfl, .inr ⟨_, _, _, rfl, rfl, rfl⟩, ?_⟩, trivial⟩
       refine OpE.call rfl hB rfl Tryz.call57 rfl (SpecN.spec (slices_Max_int (by omega) (by omega))) ?_
       rintro _ rfl
       refine VA.takeY (i := 41) rfl (by kernel_rfl) (by kernel_rfl) (by kernel_rfl) rfl rfl rfl rfl rfl (OpV.mul rfl rfl rfl (by unfold fits; omega)) ?_
       refine VA.takeY (i := 42) rfl (by kernel_rfl) (by kernel_rfl) (by kernel_rfl) rfl rfl rfl rfl rfl (OpV.add rfl rfl rfl (by unfold fits; omega)) ?_
       refine VA.takeY (i := 43) rfl (by kernel_rfl) (by kernel_rfl) (by kernel_rfl) rfl rfl rfl rfl rfl (OpV.lss rfl rfl rfl) ?_
       refine VA.le _ (Le.boolF (t := 186) rfl (decide_eq_false (by omega))) ?_
       refine VA.take (i := 44) rfl (by kernel_rfl) (by kernel_rfl) (by kernel_rfl) rfl rfl (OpV.pickF rfl rfl rfl rfl rfl) ?_
       refine VA.done (by kernel_rfl) ?_
       refine VC.condF rfl rfl ?_
       refine VC.skip ?_
       refine VC.region ?_
       refine VO.val rfl rfl (OpV.add rfl rfl rfl (by unfold fits; omega)) ?_
       refine VO.mv rfl rfl rfl rfl ?_
       refine VO.nil ?_
       exact Exists.intro (⟨i + 1, by omega⟩) (And.intro (Le.mk hB [] ⟨rfl, rfl, rfl, rfl, rfl, rfl, trivial⟩ rfl rfl (Nle rfl)) (by first | omega | (show _ < _; omega) | (simp only []; omega)))
     ·have aH8 := aH8b
      try simp only [qqT, qqF, qqN, qqM, qqL, qqE] at aH8
      refine VC.exit ?_
      refine VC.sr ?_
      refine VO.op rfl (OpE.call rfl hB rfl Tryz.call51 rfl (SpecN.spec (rk_ready)) ?_)
      rintro _ rfl
      refine VO.ma rfl rfl rfl rfl ?_
      refine VO.nil ?_
      refine VC.ret ?_
      exact And.intro rfl rfl
end Go.Proofs.YtplphabekhaoaaaGreatDoor
