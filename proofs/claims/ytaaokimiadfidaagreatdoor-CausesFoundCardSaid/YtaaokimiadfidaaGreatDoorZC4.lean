/- Part 4 of a proof: the walks and laws that it needs. -/
import Derived.Test.YtaaokimiadfidaaGreatDoorZC3
namespace Go.Proofs.YtaaokimiadfidaaGreatDoor
open Go.RowKit
set_option linter.unusedVariables false
set_option linter.unusedSimpArgs false
theorem trB {l : List LookS} {n : Int} (h0 : lookF l = 0) (hn : 1 ≤ n) (k : Int) : badN (l.filter (pTr n k)) = cntL (fun x => x.bad && decide (qat n x = k)) l := by
 rw [badN_filter]
 unfold cntL
 congr 1
 refine List.filter_congr fun x hx => ?_
 obtain ⟨i, hi, rfl⟩ := List.getElem_of_mem hx
 have h1 := quo_fit (i := i) h0 hn hi
 have e : l.getD i default = l[i] := by simp [hi]
 rw [e] at h1
 have h2 : qW l[i].at_ n = qat n l[i] := qW_in (by unfold fits; unfold qat at h1; omega)
 show (decide (qW l[i].at_ n = k) && l[i].bad) = _
 rw [h2, Bool.and_comm]
theorem trQ_take {l : List LookS} {n : Int} {N j : Nat} (h : j < N) : (trQ l n N l.length).take (j + 1) = (trQ l n N l.length).take j ++ [(cntL (fun x => x.bad && decide (qat n x = trF l n + (j : Int))) l : Int)] := by
 rw [List.take_succ_eq_append_getElem (by rw [trQ_len]; exact h)]
 have := trQ_get (l := l) (s := n) (q := l.length) h
 rw [List.take_length] at this
 rw [← this]
 congr 2
 simp [trQ, h]
theorem trQ_all {l : List LookS} {n : Int} {N : Nat} : (trQ l n N l.length).take N = trQ l n N l.length := List.take_of_length_le (by rw [trQ_len]; exact Nat.le_refl _)
set_option maxRecDepth 100000 in
set_option maxHeartbeats 8000000 in
theorem rf_TrendOf {l : List LookS} {n : Int} (hs : SmLk l) (h00 : lookF l = 0) (h9 : outR n 1 86400000 = false) :
  SpecN Tryz.prog 31 [avL l, avI n] (fun y => y = .tup [avInts (trL l n), avI (trE l n)]) := by
 refine SpecN.of_VCN Tryz.func31 rfl Tryz.ntmps31 (Nle rfl) fun w A hB => ?_
 have hnew : True := trivial
 refine VC.seq ?_
 have hl := hs.len
 have hn := outR_inL (fun h => by rw [h9] at h; cases h)
 have hl5 := (lookOk h00).len
 refine VC.region ?_
 refine VO.op rfl (OpE.box rfl hB rfl rfl rfl ?_)
 intro g3
 refine VO.ma rfl rfl rfl rfl ?_
 refine VO.ma rfl rfl rfl rfl ?_
 refine VO.nil ?_
 refine VC.seq ?_
 refine VC.sr ?_
 refine VO.mv rfl rfl rfl rfl ?_
 refine VO.val rfl rfl (OpV.len_im rfl Tryz.underlying26 rfl) ?_
 refine VO.val rfl rfl (OpV.eql rfl rfl rfl) ?_
 refine VO.nil ?_
 refine VC.cond rfl (fun h0b => ?_) (fun h0b => ?_)
 ·have h0 := h0b
  try simp only [qqT, qqF, qqN, qqM, qqL, qqE] at h0
  refine VC.sr ?_
  refine VO.ma rfl rfl rfl rfl ?_
  refine VO.ma rfl rfl rfl rfl ?_
  refine VO.nil ?_
  refine VC.ret ?_
  exact Exists.intro _ (And.intro (RetN.two Tryz.results31 (ResN.nilI rfl) (ResN.v rfl)) (by rw [trL, if_neg (fun h => h.2 (by omega)), trE_3 h00 h9 (by omega)]))
 ·have h0 := h0b
  try simp only [qqT, qqF, qqN, qqM, qqL, qqE] at h0
  refine VC.skip ?_
  refine VC.seq ?_
  have hf0 := quo_fit (i := 0) h00 hn.1 (by omega)
  have hf1 := quo_fit (i := l.length - 1) h00 hn.1 (by omega)
  have htp := trM_pos h00 hn.1 (by omega)
  have hto : qat n (l.getD (l.length - 1) default) = trM l n + trF l n - 1 := by unfold trM; omega
  have hf2 : 0 ≤ trF l n ∧ trF l n ≤ 345686399999 := hf0
  refine VC.draw (fun _ => NoB) hB (by kernel_rfl) ?_
  refine VA.take (i := 0) rfl (by kernel_rfl) (by kernel_rfl) (by kernel_rfl) rfl rfl (OpV.move (.inl rfl) rfl) ?_
  refine VA.take (i := 1) rfl (by kernel_rfl) (by kernel_rfl) (by kernel_rfl) rfl rfl (OpV.indexAddr_E rfl Tryz.underlying26 Tryz.sizeOf33 rfl rfl (Int.toNat_of_nonneg (by omega)).symm (by omega)) ?_
  refine VA.take (i := 2) rfl (by kernel_rfl) (by kernel_rfl) (by kernel_rfl) rfl rfl (OpV.fieldAddr_atO 2 rfl Tryz.underlying33 rfl rfl Tryz.sizeOf3 rfl rfl) ?_
  refine VA.take (i := 3) rfl (by kernel_rfl) (by kernel_rfl) (by kernel_rfl) rfl rfl (OpV.load_at rfl hB OutW.wi0 Tryz.isAgg3 rfl rfl) ?_
  refine VA.take (i := 4) rfl (by kernel_rfl) (by kernel_rfl) (by kernel_rfl) rfl rfl (OpV.load_own (i := 0) rfl hB Tryz.isAgg3 rfl rfl rfl Wi.not0) ?_
  refine VA.take (i := 5) rfl (by kernel_rfl) (by kernel_rfl) (by kernel_rfl) rfl rfl (OpV.quo rfl rfl rfl (by omega) (by have h : fits (qat n (l.getD 0 default)) := by { unfold fits; omega }; exact h)) ?_
  refine VA.le _ (Le.recast (t := 18) (y := avI (trF l n)) rfl (fun w Z u h => h)) ?_
  refine VA.take (i := 6) rfl (by kernel_rfl) (by kernel_rfl) (by kernel_rfl) rfl rfl (OpV.move (.inl rfl) rfl) ?_
  refine VA.take (i := 7) rfl (by kernel_rfl) (by kernel_rfl) (by kernel_rfl) rfl rfl (OpV.move (.inl rfl) rfl) ?_
  refine VA.take (i := 8) rfl (by kernel_rfl) (by kernel_rfl) (by kernel_rfl) rfl rfl (OpV.len_im rfl Tryz.underlying26 rfl) ?_
  refine VA.take (i := 9) rfl (by kernel_rfl) (by kernel_rfl) (by kernel_rfl) rfl rfl (OpV.sub rfl rfl rfl (by unfold fits; omega)) ?_
  refine VA.take (i := 10) rfl (by kernel_rfl) (by kernel_rfl) (by kernel_rfl) rfl rfl (OpV.indexAddr_E rfl Tryz.underlying26 Tryz.sizeOf33 rfl rfl (show ((l.length : Int) - 1) = ((l.length - 1 : Nat) : Int) by omega) (by omega)) ?_
  refine VA.take (i := 11) rfl (by kernel_rfl) (by kernel_rfl) (by kernel_rfl) rfl rfl (OpV.fieldAddr_atO 2 rfl Tryz.underlying33 rfl rfl Tryz.sizeOf3 rfl rfl) ?_
  refine VA.take (i := 12) rfl (by kernel_rfl) (by kernel_rfl) (by kernel_rfl) rfl rfl (OpV.load_at rfl hB OutW.wi0 Tryz.isAgg3 rfl rfl) ?_
  refine VA.take (i := 13) rfl (by kernel_rfl) (by kernel_rfl) (by kernel_rfl) rfl rfl (OpV.load_own (i := 0) rfl hB Tryz.isAgg3 rfl rfl rfl Wi.not0) ?_
  refine VA.take (i := 14) rfl (by kernel_rfl) (by kernel_rfl) (by kernel_rfl) rfl rfl (OpV.quo rfl rfl rfl (by omega) (by have h : fits (qat n (l.getD (l.length - 1) default)) := by { unfold fits; omega }; exact h)) ?_
  refine VA.le _ (Le.recast (t := 27) (y := avI (trM l n + trF l n - 1)) rfl (fun w Z u h => by rw [← hto]; exact h)) ?_
  refine VA.take (i := 15) rfl (by kernel_rfl) (by kernel_rfl) (by kernel_rfl) rfl rfl (OpV.move (.inr rfl) rfl) ?_
  refine VA.take (i := 16) rfl (by kernel_rfl) (by kernel_rfl) (by kernel_rfl) rfl rfl (OpV.move (.inr rfl) rfl) ?_
  refine VA.done (by kernel_rfl) ?_
  refine VC.seq ?_
  refine VC.sr ?_
  refine VO.mv rfl rfl rfl rfl ?_
  refine VO.mv rfl rfl rfl rfl ?_
  refine VO.val rfl rfl (OpV.sub rfl rfl rfl (by unfold fits; omega)) ?_
  refine VO.val rfl rfl (OpV.add rfl rfl rfl (by unfold fits; omega)) ?_
  refine VO.le _ (Le.recast (t := 31) (y := avI (trM l n)) rfl (fun w Z u h => by rw [show trM l n = trM l n + trF l n - 1 - trF l n + 1 by omega]; exact h)) ?_
  refine VO.val rfl rfl (OpV.gtr rfl rfl rfl) ?_
  refine VO.nil ?_
  refine VC.cond rfl (fun h1b => ?_) (fun h1b => ?_)
  ·have h1 := h1b
   try simp only [qqT, qqF, qqN, qqM, qqL, qqE] at h1
   refine VC.sr ?_
   refine VO.ma rfl rfl rfl rfl ?_
   refine VO.ma rfl rfl rfl rfl ?_
   refine VO.nil ?_
   refine VC.ret ?_
   exact Exists.intro _ (And.intro (RetN.two Tryz.results31 (ResN.nilI rfl) (ResN.v rfl)) (by rw [trL, if_neg (fun h => by have e := trE_4 (l := l) (s := n) h00 h9 (by omega) (by omega); omega), trE_4 h00 h9 (by omega) (by omega)]))
  ·have h1 := h1b
   try simp only [qqT, qqF, qqN, qqM, qqL, qqE] at h1
   refine VC.skip ?_
   refine VC.seq ?_
   obtain ⟨N, hN⟩ : ∃ N : Nat, trM l n = N := ⟨(trM l n).toNat, by omega⟩
   refine VC.region ?_
   refine VO.ma rfl rfl rfl rfl ?_
   refine VO.nil ?_
   refine VC.seq ?_
   refine VC.sr ?_
   refine VO.mv rfl rfl rfl rfl ?_
   refine VO.op rfl (OpE.alloc rfl hB rfl Tryz.zeroValue3 rfl ?_)
   intro g9
   refine VO.op rfl (OpE.store (i := 1) rfl hB rfl Tryz.sizeOf3 rfl rfl rfl rfl rfl rfl (Nle rfl) trivial ?_)
   refine VO.nil ?_
   refine VC.block ?_
   refine VC.le _ (Le.nilRow 1 3) ?_
   refine VC.loopK [(0, _), (3, _), (7, _)] ⟨rfl, rfl, rfl, trivial⟩ ({t : Nat × Value × Nat // t.1 ≤ N}) (fun (iZ : {t : Nat × Value × Nat // t.1 ≤ N}) => match iZ with | ⟨⟨j, u, g⟩, hj⟩ => [(8, .v u), (9, pt g)]) (fun (iZ : {t : Nat × Value × Nat // t.1 ≤ N}) => match iZ with | ⟨⟨j, u, g⟩, hj⟩ => [bxI g3 n, bxI g (trF l n + (j : Int)), .row u j 1 (intsL ((trQ l n N l.length).take j)) 3]) (fun (iZ : {t : Nat × Value × Nat // t.1 ≤ N}) => match iZ with | ⟨⟨j, u, g⟩, hj⟩ => 0) (fun (iZ : {t : Nat × Value × Nat // t.1 ≤ N}) => match iZ with | ⟨⟨j, u, g⟩, hj⟩ => N - j) ⟨(0, .slice none 0 0, g9), Nat.zero_le _⟩ (Le.mk hB [0, 1, 2] ⟨rfl, rfl, rfl, rfl, rfl, trivial⟩ rfl (by dsimp only; rw [show trF l n + ((0 : Nat) : Int) = trF l n by omega]; rfl) (Nat.le_refl _)) ?_
   rintro ⟨⟨j, u, g⟩, hj⟩
   show VC _ _ _ _ ⟨[(8, .v u), (9, pt g)] ++ [(0, _), (3, _), (7, _)], [bxI g3 n, bxI g (trF l n + (j : Int)), .row u j 1 (intsL ((trQ l n N l.length).take j)) 3], 0⟩
   simp only at hj
   refine VC.seq ?_
   refine VC.sr ?_
   refine VO.val rfl rfl (OpV.load_own (i := 1) rfl hB Tryz.isAgg3 rfl rfl rfl (fun h => h)) ?_
   refine VO.mv rfl rfl rfl rfl ?_
   refine VO.val rfl rfl (OpV.leq rfl rfl rfl) ?_
   refine VO.nil ?_
   refine VC.cond rfl (fun aH1b => ?_) (fun aH1b => ?_)
   ·have aH1 := aH1b
    try simp only [qqT, qqF, qqN, qqM, qqL, qqE] at aH1
    refine VC.skip ?_
    refine VC.seq ?_
    refine VC.block ?_
    refine VC.region ?_
    refine VO.mv rfl rfl rfl rfl ?_
    refine VO.mv rfl rfl rfl rfl ?_
    refine VO.val rfl rfl (OpV.makeFunc2 rfl rfl rfl) ?_
    refine VO.op rfl (OpE.callH (hp := [_, _]) (rest := [_]) rfl hB rfl Tryz.call128 rfl rfl (rf_which (l := l) (hpC := [bxI g3 n, bxI g (trF l n + (j : Int))]) (p := pTr n (trF l n + (j : Int))) hl Tryz.call136 (fun x => rf_TrendOf1 (by omega))) (List.Perm.refl _) (fun _ _ => trivial) ?_)
    rintro _ _ ⟨u42, rfl, rfl⟩
    refine VO.le _ (Le.rowT (t := 42) (xs := l.filter (pTr n (trF l n + (j : Int)))) (i := 0) hB hnew rfl rfl rfl) ?_
    refine VO.op rfl (OpE.call rfl hB rfl Tryz.call130 rfl (SpecN.spec (rf_bad (by have h := List.length_filter_le (pTr n (trF l n + (j : Int))) l; omega))) ?_)
    rintro _ rfl
    refine VO.le _ (Le.recast (t := 43) (y := avI (cntL (fun x => x.bad && decide (qat n x = trF l n + (j : Int))) l : Int)) rfl (fun w Z u h => by rw [← trB h00 hn.1]; exact h)) ?_
    refine VO.op rfl (OpE.buildSlice (zc := #[.int .i64 0]) rfl hB rfl Tryz.underlying22 Tryz.sizeOf3 Tryz.zeroValue3 (by decide) (by decide) (by kernel_rfl) rfl rfl ?_)
    refine VO.op rfl (OpE.append1 (i := 2) rfl hB rfl Tryz.underlying22 (infoOf Tryz.t3 1 (by kernel_rfl) rfl rfl) rfl (by decide) (by decide) rfl rfl rfl rfl (intsL_snoc _ _) (by omega) (fun _ _ => trivial) ?_)
    intro u45
    refine VO.ma rfl rfl rfl rfl ?_
    refine VO.nil ?_
    refine VC.seq ?_
    refine VC.sr ?_
    refine VO.val rfl rfl (OpV.load_own (i := 1) rfl hB Tryz.isAgg3 rfl rfl rfl (fun h => h)) ?_
    refine VO.nil ?_
    refine VC.region ?_
    refine VO.op rfl (OpE.alloc rfl hB rfl Tryz.zeroValue3 rfl ?_)
    intro g9
    refine VO.op rfl (OpE.store (i := 3) rfl hB rfl Tryz.sizeOf3 rfl rfl rfl rfl rfl rfl (Nle rfl) trivial ?_)
    refine VO.nil ?_
    refine VC.region ?_
    refine VO.val rfl rfl (OpV.load_own (i := 3) rfl hB Tryz.isAgg3 rfl rfl rfl (fun h => h)) ?_
    refine VO.val rfl rfl (OpV.add rfl rfl rfl (by unfold fits; omega)) ?_
    refine VO.op rfl (OpE.store (i := 3) rfl hB rfl Tryz.sizeOf3 rfl rfl rfl rfl rfl rfl (Nle rfl) trivial ?_)
    refine VO.nil ?_
    exact Exists.intro (⟨(j + 1, u45, g9), by show _ ≤ _; omega⟩) (And.intro (Le.pick hB [0, 3, 2] ⟨rfl, rfl, rfl, rfl, rfl, trivial⟩ rfl (by dsimp only; rw [trQ_take (by omega), show trF l n + ((j + 1 : Nat) : Int) = trF l n + (j : Int) + 1 by omega]; rfl) (Nat.le_refl _)) (by first | omega | (show _ < _; omega) | (simp only []; omega)))
   ·have aH1 := aH1b
    try simp only [qqT, qqF, qqN, qqM, qqL, qqE] at aH1
    obtain rfl : j = N := by omega
    rw [trQ_all]
    refine VC.exit ?_
    refine VC.sr ?_
    refine VO.mv rfl rfl rfl rfl ?_
    refine VO.ma rfl rfl rfl rfl ?_
    refine VO.ma rfl rfl rfl rfl ?_
    refine VO.nil ?_
    refine VC.ret ?_
    exact Exists.intro _ (And.intro (RetN.two Tryz.results31 (ResN.rowI (i := 2) rfl rfl trQ_len.symm) (ResN.v rfl)) (by rw [trL, if_pos ⟨trE_5 h00 h9 (by omega) (by omega), by omega⟩, trE_5 h00 h9 (by omega) (by omega), show (trM l n).toNat = j by omega]))
end Go.Proofs.YtaaokimiadfidaaGreatDoor
namespace Go.Proofs.YtaaokimiadfidaaGreatDoor
open Go.RowKit
set_option linter.unusedVariables false
set_option linter.unusedSimpArgs false
def setAt (l : List LookS) (t : Int) : List LookS := l.set (l.length - 1) ({l.getD (l.length - 1) default with at_ := t} : LookS)
theorem setAt_len (l : List LookS) (t : Int) : (setAt l t).length = l.length := by simp [setAt]
theorem SmLk.setAt {l : List LookS} (h : SmLk l) (t : Int) : SmLk (setAt l t) := by
 have key : ∀ i, ∃ y : LookS, (Go.Proofs.YtaaokimiadfidaaGreatDoor.setAt l t).getD i default = y ∧ y.board = (l.getD i default).board ∧ y.name = (l.getD i default).name ∧ y.machine = (l.getD i default).machine ∧ y.nozzle = (l.getD i default).nozzle ∧ y.reel = (l.getD i default).reel := fun i => by
  refine ⟨_, rfl, ?_⟩
  unfold Go.Proofs.YtaaokimiadfidaaGreatDoor.setAt
  by_cases hi : i = l.length - 1
  ·subst hi
   by_cases hl : l.length - 1 < l.length
   ·simp [hl]
   ·have : l = [] := List.eq_nil_of_length_eq_zero (by omega)
    subst this
    simp
  ·simp only [List.getD_eq_getElem?_getD, List.getElem?_set, if_neg (Ne.symm hi)]
   simp
 refine ⟨by rw [setAt_len]; exact h.len, fun i => ?_, fun i => ?_, fun i => ?_, fun i => ?_, fun i => ?_⟩ <;> obtain ⟨y, e, h1, h2, h3, h4, h5⟩ := key i <;> rw [e]
 ·rw [h1]; exact h.board i
 ·rw [h2]; exact h.name i
 ·rw [h3]; exact h.machine i
 ·rw [h4]; exact h.nozzle i
 ·rw [h5]; exact h.reel i
def thrE (l : List LookS) (n : Int) : Int := if lookF l ≠ 0 then lookF l else if outR n 1 86400000 = true then 1 else 0
theorem thr_no {l : List LookS} {n : Int} (h : thrE l n ≠ 0) : trE l n = thrE l n ∧ trL l n = [] := by
 have e : trE l n = thrE l n := by
  unfold thrE at h ⊢
  by_cases h0 : lookF l ≠ 0
  ·rw [if_pos h0, trE_1 h0]
  ·rw [if_neg h0] at h ⊢
   by_cases h1 : outR n 1 86400000 = true
   ·rw [if_pos h1, trE_2 (by omega) h1]
   ·rw [if_neg h1] at h; cases h rfl
 exact ⟨e, by rw [trL, if_neg (fun h' => h (by rw [← e]; exact h'.1))]⟩
theorem thr_ok {l : List LookS} {n : Int} (h : thrE l n = 0) : lookF l = 0 ∧ outR n 1 86400000 = false := by
 unfold thrE at h
 by_cases h0 : lookF l ≠ 0
 ·rw [if_pos h0] at h; exact absurd h h0
 ·rw [if_neg h0] at h
  refine ⟨by omega, ?_⟩
  cases h1 : outR n 1 86400000 with
  | false => rfl
  | true => rw [if_pos h1] at h; cases h
theorem cau_2 (a b : Int) : errsF [a, b] = if a ≠ 0 then a else b := by
 by_cases h1 : a = 0 <;> by_cases h2 : b = 0 <;> simp [errsF, h1, h2]
theorem cau_3 (a b c : Int) : errsF [a, b, c] = if a ≠ 0 then a else if b ≠ 0 then b else c := by
 by_cases h1 : a = 0 <;> by_cases h2 : b = 0 <;> by_cases h3 : c = 0 <;> simp [errsF, h1, h2, h3]
theorem cau_e1 {a : List LookS} {n : Int} : errsF [lookF a, if outR n 1 5000 = true then 1 else 0] = leastE a n := by rw [cau_2]; rfl
theorem cau_e2 {a : List LookS} {s : Int} {r : ByteArray} : errsF [lookF a, if (!keyF r) = true then 5 else 0, if (!(decide (0 ≤ s) && decide (s ≤ 345686399999))) = true then 1 else 0] = worE a s r := by
 rw [cau_3, worE, ← outR_in]
 cases keyF r <;> simp
theorem cau_e3 {a : List LookS} {n x : Int} (hx : x = if outR n 1 86400000 = true then 1 else 0) : errsF [lookF a, x] = thrE a n := by rw [cau_2, hx]; rfl
theorem cau_s1 {n : Int} (h : n < 1) : (if true = true then (1 : Int) else 0) = if outR n 1 86400000 = true then 1 else 0 := by
 have : outR n 1 86400000 = true := by unfold outR; simp [h]
 rw [this]
theorem cau_s2 {n : Int} (h : 1 ≤ n) : (if decide (86400000 < n) = true then (1 : Int) else 0) = if outR n 1 86400000 = true then 1 else 0 := by
 have : outR n 1 86400000 = decide (86400000 < n) := by unfold outR; rw [decide_eq_false (by omega : ¬ n < 1), Bool.false_or]
 rw [this]
theorem worE_zero {l : List LookS} {s : Int} {r : ByteArray} (h : worE l s r = 0) : lookF l = 0 := by
 unfold worE at h
 split at h
 ·contradiction
 ·rename_i h1; omega
theorem trL_bd (l : List LookS) (n : Int) : (trL l n).length ≤ 5000 := by
 unfold trL
 split
 ·rename_i h
  rw [trQ_len]
  have h2 := h.1
  unfold trE at h2
  split at h2
  ·contradiction
  ·split at h2
   ·cases h2
   ·rw [if_neg h.2] at h2
    split at h2
    ·cases h2
    ·omega
 ·exact Nat.zero_le _
end Go.Proofs.YtaaokimiadfidaaGreatDoor
namespace Go.Proofs.YtaaokimiadfidaaGreatDoor
open Go.RowKit
set_option linter.unusedVariables false
set_option linter.unusedSimpArgs false
set_option maxRecDepth 100000 in
set_option maxHeartbeats 40000000 in
theorem causesFound_any (a0 : Option Addr) (cap0 : Nat) (L : List Int) (w : World) (hin : Inp w a0 L) :
    Calls Tryz.prog 3 #[.slice a0 L.length cap0] w fun e w' => e = .returned (.bool true) ∧ Chg NoB w w' := by
  refine law_calls Tryz.func3 rfl Tryz.ntmps3 (Nle rfl) Tryz.results3 ?_
  have hB := B0.ok w (fun _ => True) 208
  have hnew : True := trivial
  refine VC.sr ?_
  refine VO.ma rfl rfl rfl rfl ?_
  refine VO.nil ?_
  refine VC.sr ?_
  refine VO.mv rfl rfl rfl rfl ?_
  refine VO.val rfl rfl (OpV.build (pls := #[(0, 1), (1, 1)]) rfl Tryz.zeroValue25 Tryz.underlying25 (fun w => by kernel_rfl) rfl rfl) ?_
  refine VO.op rfl (OpE.box rfl hB rfl rfl rfl ?_)
  intro g
  refine VO.ma rfl rfl rfl rfl ?_
  refine VO.nil ?_
  refine VC.stream (i := 0) (sl := [(3, sp g)]) (by exact rfl) (by exact rfl) hin (by exact ⟨rfl, trivial⟩) (fun p hp => by simp at hp; subst hp; exact ⟨_, rfl⟩) (fun w1 hge hB => ?_)
  refine VC.sr ?_
  refine VO.mv rfl rfl rfl rfl ?_
  refine VO.mv rfl rfl rfl rfl ?_
  refine VO.op rfl (OpE.callT' (0) rfl rfl hB rfl Tryz.call14 rfl ((range_T (by omega) (by omega) (by omega))) (by omega) ?_)
  rintro _ ⟨r34, hr34, rfl⟩
  obtain ⟨na, rfl⟩ : ∃ na : Nat, r34 = na := ⟨r34.toNat, by omega⟩
  refine VO.op rfl (OpE.callTO (0 + 1) rfl rfl hB rfl Tryz.call13 rfl (looks_O (by omega)) (by omega) ?_)
  rintro _ _ ⟨a0, ua, hal, rfl, rfl⟩
  refine VO.mv rfl rfl rfl rfl ?_
  refine VO.op rfl (OpE.buildSlice (zc := #[.int .i64 0, .int .i64 0, .int .i64 0, .int .i64 0]) rfl hB rfl Tryz.underlying22 Tryz.sizeOf3 Tryz.zeroValue3 (by decide) (by decide) (by kernel_rfl) rfl rfl ?_)
  refine VO.op rfl (OpE.callT' (0 + 1 + 200) rfl rfl hB rfl Tryz.call15 rfl (pick_X (by rfl) (by decide) (by decide) (by repeat (first | exact AllX.nil | refine AllX.cons ?_))) (by omega) ?_)
  rintro _ ⟨least, rfl⟩
  refine VO.mv rfl rfl rfl rfl ?_
  refine VO.op rfl (OpE.buildSlice (zc := #[.int .i64 0, .int .i64 0, .int .i64 0, .int .i64 0, .int .i64 0]) rfl hB rfl Tryz.underlying22 Tryz.sizeOf3 Tryz.zeroValue3 (by decide) (by decide) (by kernel_rfl) rfl rfl ?_)
  refine VO.op rfl (OpE.callT' (0 + 1 + 200 + 1) rfl rfl hB rfl Tryz.call15 rfl (pick_X (by rfl) (by decide) (by decide) (by repeat (first | exact AllX.nil | refine AllX.cons ?_))) (by omega) ?_)
  rintro _ ⟨spl, rfl⟩
  refine VO.mv rfl rfl rfl rfl ?_
  refine VO.op rfl (OpE.buildSlice (zc := #[.string ⟨#[]⟩, .string ⟨#[]⟩, .string ⟨#[]⟩, .string ⟨#[]⟩]) rfl hB rfl Tryz.underlying67 Tryz.sizeOf9 Tryz.zeroValue9 (by decide) (by decide) (by kernel_rfl) rfl rfl ?_)
  refine VO.op rfl (OpE.callT' (0 + 1 + 200 + 1 + 1) rfl rfl hB rfl Tryz.call16 rfl (some_T 1000 (by rfl) (by decide) (by decide) (AllS.cons (by decide) (AllS.cons (by decide) (AllS.cons (by decide) (AllS.cons (by decide) AllS.nil))))) (by omega) ?_)
  rintro _ ⟨r44, hr44, rfl⟩
  refine VO.mv rfl rfl rfl rfl ?_
  refine VO.op rfl (OpE.buildSlice (zc := #[.int .i64 0, .int .i64 0, .int .i64 0, .int .i64 0, .int .i64 0, .int .i64 0]) rfl hB rfl Tryz.underlying22 Tryz.sizeOf3 Tryz.zeroValue3 (by decide) (by decide) (by kernel_rfl) rfl rfl ?_)
  refine VO.op rfl (OpE.callT' (0 + 1 + 200 + 1 + 1 + 1) rfl rfl hB rfl Tryz.call15 rfl (pick_X (by rfl) (by decide) (by decide) (by repeat (first | exact AllX.nil | refine AllX.cons ?_))) (by omega) ?_)
  rintro _ ⟨stp, rfl⟩
  refine VO.ma rfl rfl rfl rfl ?_
  refine VO.ma rfl rfl rfl rfl ?_
  refine VO.ma rfl rfl rfl rfl ?_
  refine VO.ma rfl rfl rfl rfl ?_
  refine VO.ma rfl rfl rfl rfl ?_
  refine VO.nil ?_
  refine VC.joinI ({z : List LookS × Int // SmLk z.1 ∧ z.1.length ≤ 18}) (fun (iZ : {z : List LookS × Int // SmLk z.1 ∧ z.1.length ≤ 18}) => match iZ with | ⟨⟨a, st⟩, hs, ha18⟩ => ⟨[(4, avL a), (5, avI least), (6, avI spl), (7, avS r44), (8, avI st)], [], 1000⟩) ?_ ?_
  ·
    refine VC.seq ?_
    have hak : ∀ x ∈ a0, LkG 6 x := fun x hx => (hal.2 x hx).mono (by omega)
    have ha18 : a0.length ≤ 18 := by omega
    have hs0 := LkG.sm hak (by omega)
    refine VC.region ?_
    refine VO.mv rfl rfl rfl rfl ?_
    refine VO.val rfl rfl (OpV.len_row (i := 0) rfl Tryz.underlying26 rfl rfl) ?_
    refine VO.val rfl rfl (OpV.gtr rfl rfl rfl) ?_
    refine VO.mv rfl rfl rfl rfl ?_
    refine VO.opG rfl rfl rfl rfl (fun aK1b => ?_) (fun aK1b => ?_)
    · replace aK1b : _ = true := aK1b
      have aK1 := aK1b
      try simp only [qqT, qqF, qqN, qqM, qqL, qqE] at aK1
      refine OpE.val (W := NoB) (OpV.move (.inl rfl) rfl) rfl ?_
      refine VO.opY rfl rfl rfl rfl aK1b ?_
      refine OpE.callT' (0 + 1 + 200 + 1 + 1 + 1 + 1) rfl rfl hB rfl Tryz.call17 rfl (flip_T (by decide)) (by omega) ?_
      rintro _ ⟨r53, rfl⟩
      refine VO.val rfl rfl (OpV.pickT rfl rfl rfl rfl aK1b) ?_
      refine VO.nil ?_
      refine VC.cond rfl (fun aH2b => ?_) (fun aH2b => ?_)
      · have aH2 := aH2b
        try simp only [qqT, qqF, qqN, qqM, qqL, qqE] at aH2
        refine VC.seq ?_
        have hp0 : 0 < a0.length := by omega
        have hat := (LkG.getD hak 0).at_.1
        refine VC.asBox (i := 0) rfl hp0 (fun gb cap hu hcap hmx => ?_)
        subst hu
        refine VC.draw (fun j b => j = 20 ∧ b = gb) hB (by kernel_rfl) ?_
        refine VA.take (i := 0) rfl (by kernel_rfl) (by kernel_rfl) (by kernel_rfl) rfl rfl (OpV.move (.inl rfl) rfl) ?_
        refine VA.take (i := 1) rfl (by kernel_rfl) (by kernel_rfl) (by kernel_rfl) rfl rfl (OpV.move (.inl rfl) rfl) ?_
        refine VA.take (i := 2) rfl (by kernel_rfl) (by kernel_rfl) (by kernel_rfl) rfl rfl (OpV.len_v rfl Tryz.underlying26 rfl) ?_
        refine VA.take (i := 3) rfl (by kernel_rfl) (by kernel_rfl) (by kernel_rfl) rfl rfl (OpV.sub rfl rfl rfl (by unfold fits; omega)) ?_
        refine VA.take (i := 4) rfl (by kernel_rfl) (by kernel_rfl) (by kernel_rfl) rfl rfl (OpV.move (.inl rfl) rfl) ?_
        refine VA.take (i := 5) rfl (by kernel_rfl) (by kernel_rfl) (by kernel_rfl) rfl rfl (OpV.move (.inl rfl) rfl) ?_
        refine VA.take (i := 6) rfl (by kernel_rfl) (by kernel_rfl) (by kernel_rfl) rfl rfl (OpV.indexAddr_q rfl Tryz.underlying26 Tryz.sizeOf33 rfl rfl (show (0 : Int) = ((0 : Nat) : Int) from rfl) (by omega)) ?_
        refine VA.take (i := 7) rfl (by kernel_rfl) (by kernel_rfl) (by kernel_rfl) rfl rfl (OpV.fieldAddrO 2 rfl Tryz.underlying33 rfl rfl Tryz.sizeOf3 rfl) ?_
        refine VA.takeT [8, 9, 10, 16, 17, 20] (i := 8) (by kernel_rfl) (by kernel_rfl) rfl (by kernel_rfl) (by kernel_rfl) (by kernel_rfl) rfl rfl (OpV.load_own (i := 0) rfl hB Tryz.isAgg3 rfl rfl (rowL_at rfl (by omega) (by decide)) (fun ⟨j, h1, h2, _⟩ => by subst h2; cases h1)) ?_
        refine VA.take (i := 9) rfl (by kernel_rfl) (by kernel_rfl) (by kernel_rfl) rfl rfl (OpV.add rfl rfl rfl (by unfold fits; omega)) ?_
        refine VA.take (i := 10) rfl (by kernel_rfl) (by kernel_rfl) (by kernel_rfl) rfl rfl (OpV.sub rfl rfl rfl (by unfold fits; omega)) ?_
        refine VA.take (i := 11) rfl (by kernel_rfl) (by kernel_rfl) (by kernel_rfl) rfl rfl (OpV.move (.inl rfl) rfl) ?_
        refine VA.take (i := 12) rfl (by kernel_rfl) (by kernel_rfl) (by kernel_rfl) rfl rfl (OpV.indexAddr_q rfl Tryz.underlying26 Tryz.sizeOf33 rfl rfl (show (0 : Int) = ((0 : Nat) : Int) from rfl) (by omega)) ?_
        refine VA.take (i := 13) rfl (by kernel_rfl) (by kernel_rfl) (by kernel_rfl) rfl rfl (OpV.fieldAddrO 2 rfl Tryz.underlying33 rfl rfl Tryz.sizeOf3 rfl) ?_
        refine VA.takeT [14, 15, 16, 17, 20] (i := 14) (by kernel_rfl) (by kernel_rfl) rfl (by kernel_rfl) (by kernel_rfl) (by kernel_rfl) rfl rfl (OpV.load_own (i := 0) rfl hB Tryz.isAgg3 rfl rfl (rowL_at rfl (by omega) (by decide)) (fun ⟨j, h1, h2, _⟩ => by subst h2; cases h1)) ?_
        refine VA.take (i := 15) rfl (by kernel_rfl) (by kernel_rfl) (by kernel_rfl) rfl rfl (OpV.add rfl rfl rfl (by unfold fits; omega)) ?_
        refine VA.all (rs := [16]) (by kernel_rfl) (by decide) ?_
        refine ⟨⟨_, rfl, .inl rfl, ?_⟩, trivial⟩
        refine OpE.buildSlice (zc := #[.int .i64 0, .int .i64 0, .int .i64 0]) rfl hB rfl Tryz.underlying22 Tryz.sizeOf3 Tryz.zeroValue3 (by decide) (by decide) (by kernel_rfl) rfl rfl ?_
        refine VA.all (rs := [17]) (by kernel_rfl) (by decide) ?_
        refine ⟨⟨_, rfl, .inl rfl, ?_⟩, trivial⟩
        refine OpE.callT' (0 + 1 + 200 + 1 + 1 + 1 + 1 + 1) rfl rfl hB rfl Tryz.call15 rfl (pick_X (by rfl) (by decide) (by decide) (by repeat (first | exact AllX.nil | refine AllX.cons ?_))) (by omega) ?_
        rintro _ ⟨tm, rfl⟩
        refine VA.take (i := 18) rfl (by kernel_rfl) (by kernel_rfl) (by kernel_rfl) rfl rfl (OpV.indexAddr_q rfl Tryz.underlying26 Tryz.sizeOf33 rfl rfl (show (a0.length : Int) - 1 = ((a0.length - 1 : Nat) : Int) by omega) (by omega)) ?_
        refine VA.take (i := 19) rfl (by kernel_rfl) (by kernel_rfl) (by kernel_rfl) rfl rfl (OpV.fieldAddrO 2 rfl Tryz.underlying33 rfl rfl Tryz.sizeOf3 rfl) ?_
        refine VA.all (rs := [20]) (by kernel_rfl) (by decide) ?_
        refine ⟨⟨_, rfl, .inl rfl, ?_⟩, trivial⟩
        refine OpE.store1 (i := 0) rfl hB rfl Tryz.sizeOf3 rfl rfl rfl rfl rfl rfl (rowL_in rfl (by omega) (by decide)) (rowL_set (x := ({a0.getD (a0.length - 1) default with at_ := tm} : LookS)) rfl (by omega) (by decide) rfl (fun i hi hn => lk_upd (by simp) (by simp) (by simp) (by simp) (by simp) (by simp) (by simp) (by simp) i hi hn)) (by first | exact ⟨rfl, rfl⟩ | exact .inl ⟨rfl, rfl⟩ | exact .inr ⟨rfl, rfl⟩ | exact ⟨rfl, trivial⟩ | exact .inl ⟨rfl, trivial⟩ | exact .inr ⟨rfl, trivial⟩ | exact ⟨by decide, rfl⟩) ?_
        refine VA.done (by kernel_rfl) ?_
        refine VC.le _ (Le.boxT (t := 4) (i := 0) (n := a0.length) (xs := setAt a0 tm) hB hnew rfl rfl (by simp [setAt]) hcap hmx) ?_
        refine VC.region ?_
        refine VO.ma rfl rfl rfl rfl ?_
        refine VO.nil ?_
        exact Exists.intro (⟨(setAt a0 tm, 1), hs0.setAt tm, by show (setAt a0 tm).length ≤ 18; rw [setAt_len]; exact ha18⟩) (Le.mk hB [] ⟨rfl, rfl, rfl, rfl, rfl, trivial⟩ rfl rfl (show 0 + 1 + 200 + 1 + 1 + 1 + 1 + 1 + 1 ≤ 1000 by omega))
      · have aH2 := aH2b
        try simp only [qqT, qqF, qqN, qqM, qqL, qqE] at aH2
        refine VC.le _ (Le.rowT (t := 4) (i := 0) (n := a0.length) (xs := a0) hB hnew rfl rfl rfl) ?_
        refine VC.skip ?_
        exact Exists.intro (⟨(a0, stp), hs0, ha18⟩) (Le.mk hB [] ⟨rfl, rfl, rfl, rfl, rfl, trivial⟩ rfl rfl (show 0 + 1 + 200 + 1 + 1 + 1 + 1 + 1 ≤ 1000 by omega))
    · replace aK1b : _ = false := aK1b
      have aK1 := aK1b
      try simp only [qqT, qqF, qqN, qqM, qqL, qqE] at aK1
      refine VO.opX rfl rfl rfl rfl aK1b ?_
      refine VO.val rfl rfl (OpV.pickF rfl rfl rfl rfl aK1b) ?_
      refine VO.nil ?_
      refine VC.condF rfl rfl ?_
      refine VC.le _ (Le.rowT (t := 4) (i := 0) (n := a0.length) (xs := a0) hB hnew rfl rfl rfl) ?_
      refine VC.skip ?_
      exact Exists.intro (⟨(a0, stp), hs0, ha18⟩) (Le.mk hB [] ⟨rfl, rfl, rfl, rfl, rfl, trivial⟩ rfl rfl (show 0 + 1 + 200 + 1 + 1 + 1 + 1 ≤ 1000 by omega))
  ·
    rintro ⟨⟨a, st⟩, hs, ha18⟩
    show VC _ _ _ _ ⟨[(4, avL a), (5, avI least), (6, avI spl), (7, avS r44), (8, avI st)], [], 1000⟩
    simp only at hs ha18
    refine VC.sr ?_
    refine VO.mv rfl rfl rfl rfl ?_
    refine VO.op rfl (OpE.call rfl hB rfl Tryz.call18 rfl (SpecN.spec (inspect_ByMachine hs (by omega))) ?_)
    rintro _ rfl
    obtain ⟨bm, hbm, hbl⟩ : ∃ bm, (if lookF a = 0 then byM a else []) = bm ∧ bm.length ≤ 18 := ⟨_, rfl, by split; (rw [byM_len]; have := mcK_len a; omega); exact Nat.zero_le _⟩
    refine VO.le _ (Le.recast (t := 77) (y := .tup [avL bm, avI (lookF a)]) rfl (fun w Z u h => by rw [← hbm]; exact h)) ?_
    refine VO.mv rfl rfl rfl rfl ?_
    refine VO.val rfl rfl (OpV.extract rfl rfl rfl) ?_
    refine VO.val rfl rfl (OpV.extract rfl rfl rfl) ?_
    refine VO.ma rfl rfl rfl rfl ?_
    refine VO.ma rfl rfl rfl rfl ?_
    refine VO.nil ?_
    refine VC.sr ?_
    refine VO.mv rfl rfl rfl rfl ?_
    refine VO.mv rfl rfl rfl rfl ?_
    refine VO.op rfl (OpE.call rfl hB rfl Tryz.call19 rfl (SpecN.spec (inspect_Suspect hs)) ?_)
    rintro _ rfl
    refine VO.mv rfl rfl rfl rfl ?_
    refine VO.val rfl rfl (OpV.extract rfl rfl rfl) ?_
    refine VO.val rfl rfl (OpV.extract rfl rfl rfl) ?_
    refine VO.val rfl rfl (OpV.extract rfl rfl rfl) ?_
    refine VO.val rfl rfl (OpV.extract rfl rfl rfl) ?_
    refine VO.op rfl (OpE.alloc rfl hB rfl Tryz.zeroValue39 rfl ?_)
    intro g12
    refine VO.ma rfl rfl rfl rfl ?_
    refine VO.op rfl (OpE.store (i := 0) rfl hB rfl Tryz.sizeOf39 rfl rfl rfl rfl rfl rfl (Nle rfl) trivial ?_)
    refine VO.ma rfl rfl rfl rfl ?_
    refine VO.ma rfl rfl rfl rfl ?_
    refine VO.nil ?_
    refine VC.sr ?_
    refine VO.mv rfl rfl rfl rfl ?_
    refine VO.mv rfl rfl rfl rfl ?_
    refine VO.mv rfl rfl rfl rfl ?_
    refine VO.op rfl (OpE.call rfl hB rfl Tryz.call20 rfl (SpecN.spec (inspect_Worse hs (by omega))) ?_)
    rintro _ rfl
    refine VO.mv rfl rfl rfl rfl ?_
    refine VO.val rfl rfl (OpV.extract rfl rfl rfl) ?_
    refine VO.val rfl rfl (OpV.extract rfl rfl rfl) ?_
    refine VO.ma rfl rfl rfl rfl ?_
    refine VO.ma rfl rfl rfl rfl ?_
    refine VO.nil ?_
    refine VC.sr ?_
    refine VO.mv rfl rfl rfl rfl ?_
    refine VO.mv rfl rfl rfl rfl ?_
    refine VO.op rfl (OpE.call rfl hB rfl Tryz.call21 rfl (SpecN.spec (inspect_Trend hs)) ?_)
    rintro _ rfl
    refine VO.mv rfl rfl rfl rfl ?_
    refine VO.val rfl rfl (OpV.extract rfl rfl rfl) ?_
    refine VO.val rfl rfl (OpV.extract rfl rfl rfl) ?_
    refine VO.ma rfl rfl rfl rfl ?_
    refine VO.ma rfl rfl rfl rfl ?_
    refine VO.nil ?_
    refine VC.sr ?_
    refine VO.mv rfl rfl rfl rfl ?_
    refine VO.op rfl (OpE.call rfl hB rfl Tryz.call22 rfl (SpecN.spec (rf_LooksFault hs)) ?_)
    rintro _ rfl
    refine VO.ma rfl rfl rfl rfl ?_
    refine VO.nil ?_
    refine VC.sr ?_
    refine VO.mv rfl rfl rfl rfl ?_
    refine VO.mv rfl rfl rfl rfl ?_
    refine VO.op rfl (OpE.call rfl hB rfl Tryz.call24 rfl (SpecN.spec (rf_LeastFault)) ?_)
    rintro _ rfl
    refine VO.op rfl (OpE.buildSlice (zc := #[.int .i64 0, .int .i64 0]) rfl hB rfl Tryz.underlying174 Tryz.sizeOf35 Tryz.zeroValue35 (by decide) (by decide) (by kernel_rfl) rfl rfl ?_)
    refine VO.le _ (Le.lits (t := 106) (xs := [lookF a, if outR least 1 5000 = true then 1 else 0]) rfl rfl) ?_
    refine VO.op rfl (OpE.call rfl hB rfl Tryz.call23 rfl (SpecN.spec (rl_errsL (by simp))) ?_)
    rintro _ rfl
    refine VO.le _ (Le.recast (t := 107) (y := avI (leastE a least)) rfl (fun w Z u h => by rw [← cau_e1]; exact h)) ?_
    refine VO.mv rfl rfl rfl rfl ?_
    refine VO.mv rfl rfl rfl rfl ?_
    refine VO.op rfl (OpE.call rfl hB rfl Tryz.call26 rfl (SpecN.spec (rf_Key (by omega))) ?_)
    rintro _ rfl
    refine VO.val rfl rfl (OpV.not rfl rfl) ?_
    refine VO.op rfl (OpE.call rfl hB rfl Tryz.call25 rfl (SpecN.spec (rl_whenL)) ?_)
    rintro _ rfl
    refine VO.mv rfl rfl rfl rfl ?_
    refine VO.op rfl (OpE.call rfl hB rfl Tryz.call27 rfl (SpecN.spec (rf_MomentL)) ?_)
    rintro _ rfl
    refine VO.val rfl rfl (OpV.not rfl rfl) ?_
    refine VO.op rfl (OpE.call rfl hB rfl Tryz.call25 rfl (SpecN.spec (rl_whenL)) ?_)
    rintro _ rfl
    refine VO.op rfl (OpE.buildSlice (zc := #[.int .i64 0, .int .i64 0, .int .i64 0]) rfl hB rfl Tryz.underlying174 Tryz.sizeOf35 Tryz.zeroValue35 (by decide) (by decide) (by kernel_rfl) rfl rfl ?_)
    refine VO.le _ (Le.lits (t := 117) (xs := [lookF a, if (!keyF r44) = true then 5 else 0, if (!(decide (0 ≤ spl) && decide (spl ≤ 345686399999))) = true then 1 else 0]) rfl rfl) ?_
    refine VO.op rfl (OpE.call rfl hB rfl Tryz.call23 rfl (SpecN.spec (rl_errsL (by simp))) ?_)
    rintro _ rfl
    refine VO.le _ (Le.recast (t := 118) (y := avI (worE a spl r44)) rfl (fun w Z u h => by rw [← cau_e2]; exact h)) ?_
    refine VO.ma rfl rfl rfl rfl ?_
    refine VO.ma rfl rfl rfl rfl ?_
    refine VO.nil ?_
    refine VC.sr ?_
    refine VO.mv rfl rfl rfl rfl ?_
    refine VO.mv rfl rfl rfl rfl ?_
    refine VO.val rfl rfl (OpV.lss rfl rfl rfl) ?_
    refine VO.mv rfl rfl rfl rfl ?_
    refine VO.opG rfl rfl rfl rfl (fun aK3b => ?_) (fun aK3b => ?_)
    · replace aK3b : _ = false := aK3b
      have aK3 := aK3b
      try simp only [qqT, qqF, qqN, qqM, qqL, qqE] at aK3
      refine OpE.val (W := NoB) (OpV.move (.inl rfl) rfl) rfl ?_
      refine VO.opY rfl rfl rfl rfl aK3b ?_
      refine OpE.val (W := NoB) (OpV.gtr rfl rfl rfl) rfl ?_
      refine VO.val rfl rfl (OpV.pickF rfl rfl rfl rfl aK3b) ?_
      refine VO.op rfl (OpE.call rfl hB rfl Tryz.call25 rfl (SpecN.spec (rl_whenL)) ?_)
      rintro _ rfl
      refine VO.op rfl (OpE.buildSlice (zc := #[.int .i64 0, .int .i64 0]) rfl hB rfl Tryz.underlying174 Tryz.sizeOf35 Tryz.zeroValue35 (by decide) (by decide) (by kernel_rfl) rfl rfl ?_)
      refine VO.le _ (Le.lits (t := 127) (xs := [lookF a, if decide (86400000 < st) = true then 1 else 0]) rfl rfl) ?_
      refine VO.op rfl (OpE.call rfl hB rfl Tryz.call23 rfl (SpecN.spec (rl_errsL (by simp))) ?_)
      rintro _ rfl
      refine VO.le _ (Le.recast (t := 128) (y := avI (thrE a st)) rfl (fun w Z u h => by rw [← cau_e3 (x := if decide (86400000 < st) = true then 1 else 0) (cau_s2 (by assumption))]; exact h)) ?_
      refine VO.ma rfl rfl rfl rfl ?_
      refine VO.nil ?_
      refine VC.sr ?_
      refine VO.ma rfl rfl rfl rfl ?_
      refine VO.nil ?_
      refine VC.seq ?_
      refine VC.sr ?_
      refine VO.mv rfl rfl rfl rfl ?_
      refine VO.val rfl rfl (OpV.eql rfl rfl rfl) ?_
      refine VO.nil ?_
      refine VC.cond rfl (fun k1b => ?_) (fun k1b => ?_)
      · have k1 := k1b
        try simp only [qqT, qqF, qqN, qqM, qqL, qqE] at k1
        refine VC.region ?_
        refine VO.mv rfl rfl rfl rfl ?_
        refine VO.op rfl (OpE.call rfl hB rfl Tryz.call28 rfl (SpecN.spec (rf_ByMachineOf hs (by omega))) ?_)
        rintro _ rfl
        refine VO.le _ (Le.recast (t := 132) (y := avL bm) rfl (fun w Z u h => by rw [← hbm, if_pos k1]; exact h)) ?_
        refine VO.ma rfl rfl rfl rfl ?_
        refine VO.nil ?_
        refine VC.sr ?_
        refine VO.val rfl rfl (OpV.build (pls := #[(0, 1), (1, 1)]) rfl Tryz.zeroValue39 Tryz.underlying39 (fun w => by kernel_rfl) rfl rfl) ?_
        refine VO.op rfl (OpE.alloc rfl hB rfl Tryz.zeroValue39 rfl ?_)
        intro g25
        refine VO.ma rfl rfl rfl rfl ?_
        refine VO.op rfl (OpE.store (i := 1) rfl hB rfl Tryz.sizeOf39 rfl rfl rfl rfl rfl rfl (Nle rfl) trivial ?_)
        refine VO.ma rfl rfl rfl rfl ?_
        refine VO.ma rfl rfl rfl rfl ?_
        refine VO.nil ?_
        refine VC.seq ?_
        refine VC.sr ?_
        refine VO.mv rfl rfl rfl rfl ?_
        refine VO.val rfl rfl (OpV.eql rfl rfl rfl) ?_
        refine VO.nil ?_
        refine VC.cond rfl (fun k2b => ?_) (fun k2b => ?_)
        · have k2 := k2b
          try simp only [qqT, qqF, qqN, qqM, qqL, qqE] at k2
          refine VC.region ?_
          refine VO.mv rfl rfl rfl rfl ?_
          refine VO.mv rfl rfl rfl rfl ?_
          refine VO.op rfl (OpE.call rfl hB rfl Tryz.call29 rfl (SpecN.spec (rf_SuspectOf hs)) ?_)
          rintro _ rfl
          refine VO.mv rfl rfl rfl rfl ?_
          refine VO.val rfl rfl (OpV.extract rfl rfl rfl) ?_
          refine VO.val rfl rfl (OpV.extract rfl rfl rfl) ?_
          refine VO.val rfl rfl (OpV.extract rfl rfl rfl) ?_
          refine VO.ma rfl rfl rfl rfl ?_
          refine VO.op rfl (OpE.store (i := 1) rfl hB rfl Tryz.sizeOf39 rfl rfl rfl rfl rfl rfl (Nle rfl) trivial ?_)
          refine VO.ma rfl rfl rfl rfl ?_
          refine VO.nil ?_
          refine VC.seq ?_
          refine VC.sr ?_
          refine VO.mv rfl rfl rfl rfl ?_
          refine VO.val rfl rfl (OpV.eql rfl rfl rfl) ?_
          refine VO.nil ?_
          refine VC.cond rfl (fun k3b => ?_) (fun k3b => ?_)
          · have k3 := k3b
            try simp only [qqT, qqF, qqN, qqM, qqL, qqE] at k3
            refine VC.region ?_
            refine VO.mv rfl rfl rfl rfl ?_
            refine VO.mv rfl rfl rfl rfl ?_
            refine VO.mv rfl rfl rfl rfl ?_
            refine VO.op rfl (OpE.call rfl hB rfl Tryz.call30 rfl (SpecN.spec (rf_WorseOf hs)) ?_)
            rintro _ rfl
            refine VO.ma rfl rfl rfl rfl ?_
            refine VO.nil ?_
            refine VC.sr ?_
            refine VO.ma rfl rfl rfl rfl ?_
            refine VO.nil ?_
            refine VC.seq ?_
            refine VC.sr ?_
            refine VO.mv rfl rfl rfl rfl ?_
            refine VO.val rfl rfl (OpV.eql rfl rfl rfl) ?_
            refine VO.nil ?_
            refine VC.cond rfl (fun k4b => ?_) (fun k4b => ?_)
            · have k4 := k4b
              try simp only [qqT, qqF, qqN, qqM, qqL, qqE] at k4
              refine VC.region ?_
              refine VO.mv rfl rfl rfl rfl ?_
              refine VO.mv rfl rfl rfl rfl ?_
              refine VO.op rfl (OpE.call rfl hB rfl Tryz.call31 rfl (SpecN.spec (rf_TrendOf hs (thr_ok k4).1 (thr_ok k4).2)) ?_)
              rintro _ rfl
              refine VO.mv rfl rfl rfl rfl ?_
              refine VO.val rfl rfl (OpV.extract rfl rfl rfl) ?_
              refine VO.val rfl rfl (OpV.extract rfl rfl rfl) ?_
              refine VO.ma rfl rfl rfl rfl ?_
              refine VO.ma rfl rfl rfl rfl ?_
              refine VO.nil ?_
              refine VC.seq ?_
              have htl := trL_bd a st
              refine VC.region ?_
              refine VO.mv rfl rfl rfl rfl ?_
              refine VO.mv rfl rfl rfl rfl ?_
              refine VO.val rfl rfl (OpV.eql rfl rfl rfl) ?_
              refine VO.le _ (Le.boolT (t := 159) rfl (decide_eq_true rfl)) ?_
              refine VO.mv rfl rfl rfl rfl ?_
              refine VO.opY rfl rfl rfl rfl rfl ?_
              refine OpE.val (W := NoB) (OpV.move (.inl rfl) rfl) rfl ?_
              refine VO.opY rfl rfl rfl rfl rfl ?_
              refine OpE.val (W := NoB) (OpV.move (.inl rfl) rfl) rfl ?_
              refine VO.opY rfl rfl rfl rfl rfl ?_
              refine OpE.call rfl hB rfl Tryz.call32 rfl (SpecN.spec (slices_Equal_pair (by omega) (by omega))) ?_
              rintro _ rfl
              refine VO.le _ (Le.boolT (t := 163) rfl (eqLs_self eqPr_self _)) ?_
              refine VO.val rfl rfl (OpV.pickT rfl rfl rfl rfl rfl) ?_
              refine VO.mv rfl rfl rfl rfl ?_
              refine VO.opY rfl rfl rfl rfl rfl ?_
              refine OpE.val (W := NoB) (OpV.move (.inl rfl) rfl) rfl ?_
              refine VO.opY rfl rfl rfl rfl rfl ?_
              refine OpE.val (W := NoB) (OpV.move (.inl rfl) rfl) rfl ?_
              refine VO.opY rfl rfl rfl rfl rfl ?_
              refine OpE.val (W := NoB) (OpV.eql rfl rfl rfl) rfl ?_
              refine VO.le _ (Le.boolT (t := 168) rfl (decide_eq_true rfl)) ?_
              refine VO.val rfl rfl (OpV.pickT rfl rfl rfl rfl rfl) ?_
              refine VO.mv rfl rfl rfl rfl ?_
              refine VO.opY rfl rfl rfl rfl rfl ?_
              refine OpE.val (W := NoB) (OpV.move (.inl rfl) rfl) rfl ?_
              refine VO.opY rfl rfl rfl rfl rfl ?_
              refine OpE.val (W := NoB) (OpV.move (.inl rfl) rfl) rfl ?_
              refine VO.opY rfl rfl rfl rfl rfl ?_
              refine OpE.val (W := NoB) (OpV.seql rfl rfl rfl) rfl ?_
              refine VO.le _ (Le.boolT (t := 173) rfl (by first | (rw [susR_eq k2]; exact sEq_refl _) | (rw [susR_no k2]; exact sEq_refl _))) ?_
              refine VO.val rfl rfl (OpV.pickT rfl rfl rfl rfl rfl) ?_
              refine VO.mv rfl rfl rfl rfl ?_
              refine VO.opY rfl rfl rfl rfl rfl ?_
              refine OpE.val (W := NoB) (OpV.loadK_own (i := 0) rfl hB Tryz.isAgg39 Tryz.sizeOf39 rfl rfl rfl (fun h => h)) rfl ?_
              refine VO.opY rfl rfl rfl rfl rfl ?_
              refine OpE.val (W := NoB) (OpV.loadK_own (i := 1) rfl hB Tryz.isAgg39 Tryz.sizeOf39 rfl rfl rfl (fun h => h)) rfl ?_
              refine VO.opY rfl rfl rfl rfl rfl ?_
              refine OpE.val (W := NoB) (OpV.aeql rfl Tryz.underlying39 (by kernel_rfl) (by kernel_rfl) rfl rfl (EqFs.int Tryz.underlying3 Tryz.isAgg3 rfl (by decide) (EqFs.int Tryz.underlying3 Tryz.isAgg3 rfl (by decide) (EqFs.nil _)))) rfl ?_
              refine VO.le _ (Le.boolT (t := 178) rfl (by first | (rw [susR_eq k2]; simp; done) | (rw [susR_no k2]; rfl))) ?_
              refine VO.val rfl rfl (OpV.pickT rfl rfl rfl rfl rfl) ?_
              refine VO.mv rfl rfl rfl rfl ?_
              refine VO.opY rfl rfl rfl rfl rfl ?_
              refine OpE.val (W := NoB) (OpV.move (.inl rfl) rfl) rfl ?_
              refine VO.opY rfl rfl rfl rfl rfl ?_
              refine OpE.val (W := NoB) (OpV.move (.inl rfl) rfl) rfl ?_
              refine VO.opY rfl rfl rfl rfl rfl ?_
              refine OpE.val (W := NoB) (OpV.beql rfl Tryz.underlying4 rfl rfl) rfl ?_
              refine VO.le _ (Le.boolT (t := 183) rfl (by first | (rw [susR_eq k2]; simp; done) | (rw [susR_no k2]; rfl))) ?_
              refine VO.val rfl rfl (OpV.pickT rfl rfl rfl rfl rfl) ?_
              refine VO.mv rfl rfl rfl rfl ?_
              refine VO.opY rfl rfl rfl rfl rfl ?_
              refine OpE.val (W := NoB) (OpV.move (.inl rfl) rfl) rfl ?_
              refine VO.opY rfl rfl rfl rfl rfl ?_
              refine OpE.val (W := NoB) (OpV.move (.inl rfl) rfl) rfl ?_
              refine VO.opY rfl rfl rfl rfl rfl ?_
              refine OpE.val (W := NoB) (OpV.eql rfl rfl rfl) rfl ?_
              refine VO.le _ (Le.boolT (t := 188) rfl (decide_eq_true rfl)) ?_
              refine VO.val rfl rfl (OpV.pickT rfl rfl rfl rfl rfl) ?_
              refine VO.mv rfl rfl rfl rfl ?_
              refine VO.opY rfl rfl rfl rfl rfl ?_
              refine OpE.val (W := NoB) (OpV.move (.inl rfl) rfl) rfl ?_
              refine VO.opY rfl rfl rfl rfl rfl ?_
              refine OpE.val (W := NoB) (OpV.move (.inl rfl) rfl) rfl ?_
              refine VO.opY rfl rfl rfl rfl rfl ?_
              refine OpE.val (W := NoB) (OpV.beql rfl Tryz.underlying4 rfl rfl) rfl ?_
              refine VO.le _ (Le.boolT (t := 193) rfl (by first | (rw [worV, if_pos k3]; simp; done) | (rw [worV, if_neg k3]; rfl))) ?_
              refine VO.val rfl rfl (OpV.pickT rfl rfl rfl rfl rfl) ?_
              refine VO.mv rfl rfl rfl rfl ?_
              refine VO.opY rfl rfl rfl rfl rfl ?_
              refine OpE.val (W := NoB) (OpV.move (.inl rfl) rfl) rfl ?_
              refine VO.opY rfl rfl rfl rfl rfl ?_
              refine OpE.val (W := NoB) (OpV.move (.inl rfl) rfl) rfl ?_
              refine VO.opY rfl rfl rfl rfl rfl ?_
              refine OpE.val (W := NoB) (OpV.eql rfl rfl rfl) rfl ?_
              refine VO.le _ (Le.boolT (t := 198) rfl (decide_eq_true rfl)) ?_
              refine VO.val rfl rfl (OpV.pickT rfl rfl rfl rfl rfl) ?_
              refine VO.mv rfl rfl rfl rfl ?_
              refine VO.opY rfl rfl rfl rfl rfl ?_
              refine OpE.val (W := NoB) (OpV.move (.inl rfl) rfl) rfl ?_
              refine VO.opY rfl rfl rfl rfl rfl ?_
              refine OpE.val (W := NoB) (OpV.move (.inl rfl) rfl) rfl ?_
              refine VO.opY rfl rfl rfl rfl rfl ?_
              refine OpE.call rfl hB rfl Tryz.call33 rfl (SpecN.spec (slices_Equal_int (by omega) (by omega))) ?_
              rintro _ rfl
              refine VO.le _ (Le.boolT (t := 203) rfl (decide_eq_true rfl)) ?_
              refine VO.val rfl rfl (OpV.pickT rfl rfl rfl rfl rfl) ?_
              refine VO.mv rfl rfl rfl rfl ?_
              refine VO.opY rfl rfl rfl rfl rfl ?_
              refine OpE.call rfl hB rfl Tryz.call34 rfl (SpecN.spec (rl_looked)) ?_
              rintro _ rfl
              refine VO.val rfl rfl (OpV.pickT rfl rfl rfl rfl rfl) ?_
              refine VO.ma rfl rfl rfl rfl ?_
              refine VO.nil ?_
              refine VC.ret ?_
              exact And.intro rfl rfl
            · have k4 := k4b
              try simp only [qqT, qqF, qqN, qqM, qqL, qqE] at k4
              have e4 := thr_no k4
              refine VC.le _ (Le.recast (t := 28) (y := avInts (trL a st)) rfl (fun w Z u h => by rw [e4.2, h.eq_v]; exact .nil _ _)) ?_
              refine VC.le _ (Le.recast (t := 22) (y := avI (trE a st)) rfl (fun w Z u h => by rw [e4.1]; exact h)) ?_
              refine VC.skip ?_
              refine VC.seq ?_
              have htl := trL_bd a st
              refine VC.region ?_
              refine VO.mv rfl rfl rfl rfl ?_
              refine VO.mv rfl rfl rfl rfl ?_
              refine VO.val rfl rfl (OpV.eql rfl rfl rfl) ?_
              refine VO.le _ (Le.boolT (t := 159) rfl (decide_eq_true rfl)) ?_
              refine VO.mv rfl rfl rfl rfl ?_
              refine VO.opY rfl rfl rfl rfl rfl ?_
              refine OpE.val (W := NoB) (OpV.move (.inl rfl) rfl) rfl ?_
              refine VO.opY rfl rfl rfl rfl rfl ?_
              refine OpE.val (W := NoB) (OpV.move (.inl rfl) rfl) rfl ?_
              refine VO.opY rfl rfl rfl rfl rfl ?_
              refine OpE.call rfl hB rfl Tryz.call32 rfl (SpecN.spec (slices_Equal_pair (by omega) (by omega))) ?_
              rintro _ rfl
              refine VO.le _ (Le.boolT (t := 163) rfl (eqLs_self eqPr_self _)) ?_
              refine VO.val rfl rfl (OpV.pickT rfl rfl rfl rfl rfl) ?_
              refine VO.mv rfl rfl rfl rfl ?_
              refine VO.opY rfl rfl rfl rfl rfl ?_
              refine OpE.val (W := NoB) (OpV.move (.inl rfl) rfl) rfl ?_
              refine VO.opY rfl rfl rfl rfl rfl ?_
              refine OpE.val (W := NoB) (OpV.move (.inl rfl) rfl) rfl ?_
              refine VO.opY rfl rfl rfl rfl rfl ?_
              refine OpE.val (W := NoB) (OpV.eql rfl rfl rfl) rfl ?_
              refine VO.le _ (Le.boolT (t := 168) rfl (decide_eq_true rfl)) ?_
              refine VO.val rfl rfl (OpV.pickT rfl rfl rfl rfl rfl) ?_
              refine VO.mv rfl rfl rfl rfl ?_
              refine VO.opY rfl rfl rfl rfl rfl ?_
              refine OpE.val (W := NoB) (OpV.move (.inl rfl) rfl) rfl ?_
              refine VO.opY rfl rfl rfl rfl rfl ?_
              refine OpE.val (W := NoB) (OpV.move (.inl rfl) rfl) rfl ?_
              refine VO.opY rfl rfl rfl rfl rfl ?_
              refine OpE.val (W := NoB) (OpV.seql rfl rfl rfl) rfl ?_
              refine VO.le _ (Le.boolT (t := 173) rfl (by first | (rw [susR_eq k2]; exact sEq_refl _) | (rw [susR_no k2]; exact sEq_refl _))) ?_
              refine VO.val rfl rfl (OpV.pickT rfl rfl rfl rfl rfl) ?_
              refine VO.mv rfl rfl rfl rfl ?_
              refine VO.opY rfl rfl rfl rfl rfl ?_
              refine OpE.val (W := NoB) (OpV.loadK_own (i := 0) rfl hB Tryz.isAgg39 Tryz.sizeOf39 rfl rfl rfl (fun h => h)) rfl ?_
              refine VO.opY rfl rfl rfl rfl rfl ?_
              refine OpE.val (W := NoB) (OpV.loadK_own (i := 1) rfl hB Tryz.isAgg39 Tryz.sizeOf39 rfl rfl rfl (fun h => h)) rfl ?_
              refine VO.opY rfl rfl rfl rfl rfl ?_
              refine OpE.val (W := NoB) (OpV.aeql rfl Tryz.underlying39 (by kernel_rfl) (by kernel_rfl) rfl rfl (EqFs.int Tryz.underlying3 Tryz.isAgg3 rfl (by decide) (EqFs.int Tryz.underlying3 Tryz.isAgg3 rfl (by decide) (EqFs.nil _)))) rfl ?_
              refine VO.le _ (Le.boolT (t := 178) rfl (by first | (rw [susR_eq k2]; simp; done) | (rw [susR_no k2]; rfl))) ?_
              refine VO.val rfl rfl (OpV.pickT rfl rfl rfl rfl rfl) ?_
              refine VO.mv rfl rfl rfl rfl ?_
              refine VO.opY rfl rfl rfl rfl rfl ?_
              refine OpE.val (W := NoB) (OpV.move (.inl rfl) rfl) rfl ?_
              refine VO.opY rfl rfl rfl rfl rfl ?_
              refine OpE.val (W := NoB) (OpV.move (.inl rfl) rfl) rfl ?_
              refine VO.opY rfl rfl rfl rfl rfl ?_
              refine OpE.val (W := NoB) (OpV.beql rfl Tryz.underlying4 rfl rfl) rfl ?_
              refine VO.le _ (Le.boolT (t := 183) rfl (by first | (rw [susR_eq k2]; simp; done) | (rw [susR_no k2]; rfl))) ?_
              refine VO.val rfl rfl (OpV.pickT rfl rfl rfl rfl rfl) ?_
              refine VO.mv rfl rfl rfl rfl ?_
              refine VO.opY rfl rfl rfl rfl rfl ?_
              refine OpE.val (W := NoB) (OpV.move (.inl rfl) rfl) rfl ?_
              refine VO.opY rfl rfl rfl rfl rfl ?_
              refine OpE.val (W := NoB) (OpV.move (.inl rfl) rfl) rfl ?_
              refine VO.opY rfl rfl rfl rfl rfl ?_
              refine OpE.val (W := NoB) (OpV.eql rfl rfl rfl) rfl ?_
              refine VO.le _ (Le.boolT (t := 188) rfl (decide_eq_true rfl)) ?_
              refine VO.val rfl rfl (OpV.pickT rfl rfl rfl rfl rfl) ?_
              refine VO.mv rfl rfl rfl rfl ?_
              refine VO.opY rfl rfl rfl rfl rfl ?_
              refine OpE.val (W := NoB) (OpV.move (.inl rfl) rfl) rfl ?_
              refine VO.opY rfl rfl rfl rfl rfl ?_
              refine OpE.val (W := NoB) (OpV.move (.inl rfl) rfl) rfl ?_
              refine VO.opY rfl rfl rfl rfl rfl ?_
              refine OpE.val (W := NoB) (OpV.beql rfl Tryz.underlying4 rfl rfl) rfl ?_
              refine VO.le _ (Le.boolT (t := 193) rfl (by first | (rw [worV, if_pos k3]; simp; done) | (rw [worV, if_neg k3]; rfl))) ?_
              refine VO.val rfl rfl (OpV.pickT rfl rfl rfl rfl rfl) ?_
              refine VO.mv rfl rfl rfl rfl ?_
              refine VO.opY rfl rfl rfl rfl rfl ?_
              refine OpE.val (W := NoB) (OpV.move (.inl rfl) rfl) rfl ?_
              refine VO.opY rfl rfl rfl rfl rfl ?_
              refine OpE.val (W := NoB) (OpV.move (.inl rfl) rfl) rfl ?_
              refine VO.opY rfl rfl rfl rfl rfl ?_
              refine OpE.val (W := NoB) (OpV.eql rfl rfl rfl) rfl ?_
              refine VO.le _ (Le.boolT (t := 198) rfl (decide_eq_true rfl)) ?_
              refine VO.val rfl rfl (OpV.pickT rfl rfl rfl rfl rfl) ?_
              refine VO.mv rfl rfl rfl rfl ?_
              refine VO.opY rfl rfl rfl rfl rfl ?_
              refine OpE.val (W := NoB) (OpV.move (.inl rfl) rfl) rfl ?_
              refine VO.opY rfl rfl rfl rfl rfl ?_
              refine OpE.val (W := NoB) (OpV.move (.inl rfl) rfl) rfl ?_
              refine VO.opY rfl rfl rfl rfl rfl ?_
              refine OpE.call rfl hB rfl Tryz.call33 rfl (SpecN.spec (slices_Equal_int (by omega) (by omega))) ?_
              rintro _ rfl
              refine VO.le _ (Le.boolT (t := 203) rfl (decide_eq_true rfl)) ?_
              refine VO.val rfl rfl (OpV.pickT rfl rfl rfl rfl rfl) ?_
              refine VO.mv rfl rfl rfl rfl ?_
              refine VO.opY rfl rfl rfl rfl rfl ?_
              refine OpE.call rfl hB rfl Tryz.call34 rfl (SpecN.spec (rl_looked)) ?_
              rintro _ rfl
              refine VO.val rfl rfl (OpV.pickT rfl rfl rfl rfl rfl) ?_
              refine VO.ma rfl rfl rfl rfl ?_
              refine VO.nil ?_
              refine VC.ret ?_
              exact And.intro rfl rfl
          · have k3 := k3b
            try simp only [qqT, qqF, qqN, qqM, qqL, qqE] at k3
            refine VC.skip ?_
            refine VC.sr ?_
            refine VO.ma rfl rfl rfl rfl ?_
            refine VO.nil ?_
            refine VC.seq ?_
            refine VC.sr ?_
            refine VO.mv rfl rfl rfl rfl ?_
            refine VO.val rfl rfl (OpV.eql rfl rfl rfl) ?_
            refine VO.nil ?_
            refine VC.cond rfl (fun k4b => ?_) (fun k4b => ?_)
            · have k4 := k4b
              try simp only [qqT, qqF, qqN, qqM, qqL, qqE] at k4
              refine VC.region ?_
              refine VO.mv rfl rfl rfl rfl ?_
              refine VO.mv rfl rfl rfl rfl ?_
              refine VO.op rfl (OpE.call rfl hB rfl Tryz.call31 rfl (SpecN.spec (rf_TrendOf hs (thr_ok k4).1 (thr_ok k4).2)) ?_)
              rintro _ rfl
              refine VO.mv rfl rfl rfl rfl ?_
              refine VO.val rfl rfl (OpV.extract rfl rfl rfl) ?_
              refine VO.val rfl rfl (OpV.extract rfl rfl rfl) ?_
              refine VO.ma rfl rfl rfl rfl ?_
              refine VO.ma rfl rfl rfl rfl ?_
              refine VO.nil ?_
              refine VC.seq ?_
              have htl := trL_bd a st
              refine VC.region ?_
              refine VO.mv rfl rfl rfl rfl ?_
              refine VO.mv rfl rfl rfl rfl ?_
              refine VO.val rfl rfl (OpV.eql rfl rfl rfl) ?_
              refine VO.le _ (Le.boolT (t := 159) rfl (decide_eq_true rfl)) ?_
              refine VO.mv rfl rfl rfl rfl ?_
              refine VO.opY rfl rfl rfl rfl rfl ?_
              refine OpE.val (W := NoB) (OpV.move (.inl rfl) rfl) rfl ?_
              refine VO.opY rfl rfl rfl rfl rfl ?_
              refine OpE.val (W := NoB) (OpV.move (.inl rfl) rfl) rfl ?_
              refine VO.opY rfl rfl rfl rfl rfl ?_
              refine OpE.call rfl hB rfl Tryz.call32 rfl (SpecN.spec (slices_Equal_pair (by omega) (by omega))) ?_
              rintro _ rfl
              refine VO.le _ (Le.boolT (t := 163) rfl (eqLs_self eqPr_self _)) ?_
              refine VO.val rfl rfl (OpV.pickT rfl rfl rfl rfl rfl) ?_
              refine VO.mv rfl rfl rfl rfl ?_
              refine VO.opY rfl rfl rfl rfl rfl ?_
              refine OpE.val (W := NoB) (OpV.move (.inl rfl) rfl) rfl ?_
              refine VO.opY rfl rfl rfl rfl rfl ?_
              refine OpE.val (W := NoB) (OpV.move (.inl rfl) rfl) rfl ?_
              refine VO.opY rfl rfl rfl rfl rfl ?_
              refine OpE.val (W := NoB) (OpV.eql rfl rfl rfl) rfl ?_
              refine VO.le _ (Le.boolT (t := 168) rfl (decide_eq_true rfl)) ?_
              refine VO.val rfl rfl (OpV.pickT rfl rfl rfl rfl rfl) ?_
              refine VO.mv rfl rfl rfl rfl ?_
              refine VO.opY rfl rfl rfl rfl rfl ?_
              refine OpE.val (W := NoB) (OpV.move (.inl rfl) rfl) rfl ?_
              refine VO.opY rfl rfl rfl rfl rfl ?_
              refine OpE.val (W := NoB) (OpV.move (.inl rfl) rfl) rfl ?_
              refine VO.opY rfl rfl rfl rfl rfl ?_
              refine OpE.val (W := NoB) (OpV.seql rfl rfl rfl) rfl ?_
              refine VO.le _ (Le.boolT (t := 173) rfl (by first | (rw [susR_eq k2]; exact sEq_refl _) | (rw [susR_no k2]; exact sEq_refl _))) ?_
              refine VO.val rfl rfl (OpV.pickT rfl rfl rfl rfl rfl) ?_
              refine VO.mv rfl rfl rfl rfl ?_
              refine VO.opY rfl rfl rfl rfl rfl ?_
              refine OpE.val (W := NoB) (OpV.loadK_own (i := 0) rfl hB Tryz.isAgg39 Tryz.sizeOf39 rfl rfl rfl (fun h => h)) rfl ?_
              refine VO.opY rfl rfl rfl rfl rfl ?_
              refine OpE.val (W := NoB) (OpV.loadK_own (i := 1) rfl hB Tryz.isAgg39 Tryz.sizeOf39 rfl rfl rfl (fun h => h)) rfl ?_
              refine VO.opY rfl rfl rfl rfl rfl ?_
              refine OpE.val (W := NoB) (OpV.aeql rfl Tryz.underlying39 (by kernel_rfl) (by kernel_rfl) rfl rfl (EqFs.int Tryz.underlying3 Tryz.isAgg3 rfl (by decide) (EqFs.int Tryz.underlying3 Tryz.isAgg3 rfl (by decide) (EqFs.nil _)))) rfl ?_
              refine VO.le _ (Le.boolT (t := 178) rfl (by first | (rw [susR_eq k2]; simp; done) | (rw [susR_no k2]; rfl))) ?_
              refine VO.val rfl rfl (OpV.pickT rfl rfl rfl rfl rfl) ?_
              refine VO.mv rfl rfl rfl rfl ?_
              refine VO.opY rfl rfl rfl rfl rfl ?_
              refine OpE.val (W := NoB) (OpV.move (.inl rfl) rfl) rfl ?_
              refine VO.opY rfl rfl rfl rfl rfl ?_
              refine OpE.val (W := NoB) (OpV.move (.inl rfl) rfl) rfl ?_
              refine VO.opY rfl rfl rfl rfl rfl ?_
              refine OpE.val (W := NoB) (OpV.beql rfl Tryz.underlying4 rfl rfl) rfl ?_
              refine VO.le _ (Le.boolT (t := 183) rfl (by first | (rw [susR_eq k2]; simp; done) | (rw [susR_no k2]; rfl))) ?_
              refine VO.val rfl rfl (OpV.pickT rfl rfl rfl rfl rfl) ?_
              refine VO.mv rfl rfl rfl rfl ?_
              refine VO.opY rfl rfl rfl rfl rfl ?_
              refine OpE.val (W := NoB) (OpV.move (.inl rfl) rfl) rfl ?_
              refine VO.opY rfl rfl rfl rfl rfl ?_
              refine OpE.val (W := NoB) (OpV.move (.inl rfl) rfl) rfl ?_
              refine VO.opY rfl rfl rfl rfl rfl ?_
              refine OpE.val (W := NoB) (OpV.eql rfl rfl rfl) rfl ?_
              refine VO.le _ (Le.boolT (t := 188) rfl (decide_eq_true rfl)) ?_
              refine VO.val rfl rfl (OpV.pickT rfl rfl rfl rfl rfl) ?_
              refine VO.mv rfl rfl rfl rfl ?_
              refine VO.opY rfl rfl rfl rfl rfl ?_
              refine OpE.val (W := NoB) (OpV.move (.inl rfl) rfl) rfl ?_
              refine VO.opY rfl rfl rfl rfl rfl ?_
              refine OpE.val (W := NoB) (OpV.move (.inl rfl) rfl) rfl ?_
              refine VO.opY rfl rfl rfl rfl rfl ?_
              refine OpE.val (W := NoB) (OpV.beql rfl Tryz.underlying4 rfl rfl) rfl ?_
              refine VO.le _ (Le.boolT (t := 193) rfl (by first | (rw [worV, if_pos k3]; simp; done) | (rw [worV, if_neg k3]; rfl))) ?_
              refine VO.val rfl rfl (OpV.pickT rfl rfl rfl rfl rfl) ?_
              refine VO.mv rfl rfl rfl rfl ?_
              refine VO.opY rfl rfl rfl rfl rfl ?_
              refine OpE.val (W := NoB) (OpV.move (.inl rfl) rfl) rfl ?_
              refine VO.opY rfl rfl rfl rfl rfl ?_
              refine OpE.val (W := NoB) (OpV.move (.inl rfl) rfl) rfl ?_
              refine VO.opY rfl rfl rfl rfl rfl ?_
              refine OpE.val (W := NoB) (OpV.eql rfl rfl rfl) rfl ?_
              refine VO.le _ (Le.boolT (t := 198) rfl (decide_eq_true rfl)) ?_
              refine VO.val rfl rfl (OpV.pickT rfl rfl rfl rfl rfl) ?_
              refine VO.mv rfl rfl rfl rfl ?_
              refine VO.opY rfl rfl rfl rfl rfl ?_
              refine OpE.val (W := NoB) (OpV.move (.inl rfl) rfl) rfl ?_
              refine VO.opY rfl rfl rfl rfl rfl ?_
              refine OpE.val (W := NoB) (OpV.move (.inl rfl) rfl) rfl ?_
              refine VO.opY rfl rfl rfl rfl rfl ?_
              refine OpE.call rfl hB rfl Tryz.call33 rfl (SpecN.spec (slices_Equal_int (by omega) (by omega))) ?_
              rintro _ rfl
              refine VO.le _ (Le.boolT (t := 203) rfl (decide_eq_true rfl)) ?_
              refine VO.val rfl rfl (OpV.pickT rfl rfl rfl rfl rfl) ?_
              refine VO.mv rfl rfl rfl rfl ?_
              refine VO.opY rfl rfl rfl rfl rfl ?_
              refine OpE.call rfl hB rfl Tryz.call34 rfl (SpecN.spec (rl_looked)) ?_
              rintro _ rfl
              refine VO.val rfl rfl (OpV.pickT rfl rfl rfl rfl rfl) ?_
              refine VO.ma rfl rfl rfl rfl ?_
              refine VO.nil ?_
              refine VC.ret ?_
              exact And.intro rfl rfl
            · have k4 := k4b
              try simp only [qqT, qqF, qqN, qqM, qqL, qqE] at k4
              have e4 := thr_no k4
              refine VC.le _ (Le.recast (t := 28) (y := avInts (trL a st)) rfl (fun w Z u h => by rw [e4.2, h.eq_v]; exact .nil _ _)) ?_
              refine VC.le _ (Le.recast (t := 22) (y := avI (trE a st)) rfl (fun w Z u h => by rw [e4.1]; exact h)) ?_
              refine VC.skip ?_
              refine VC.seq ?_
              have htl := trL_bd a st
              refine VC.region ?_
              refine VO.mv rfl rfl rfl rfl ?_
              refine VO.mv rfl rfl rfl rfl ?_
              refine VO.val rfl rfl (OpV.eql rfl rfl rfl) ?_
              refine VO.le _ (Le.boolT (t := 159) rfl (decide_eq_true rfl)) ?_
              refine VO.mv rfl rfl rfl rfl ?_
              refine VO.opY rfl rfl rfl rfl rfl ?_
              refine OpE.val (W := NoB) (OpV.move (.inl rfl) rfl) rfl ?_
              refine VO.opY rfl rfl rfl rfl rfl ?_
              refine OpE.val (W := NoB) (OpV.move (.inl rfl) rfl) rfl ?_
              refine VO.opY rfl rfl rfl rfl rfl ?_
              refine OpE.call rfl hB rfl Tryz.call32 rfl (SpecN.spec (slices_Equal_pair (by omega) (by omega))) ?_
              rintro _ rfl
              refine VO.le _ (Le.boolT (t := 163) rfl (eqLs_self eqPr_self _)) ?_
              refine VO.val rfl rfl (OpV.pickT rfl rfl rfl rfl rfl) ?_
              refine VO.mv rfl rfl rfl rfl ?_
              refine VO.opY rfl rfl rfl rfl rfl ?_
              refine OpE.val (W := NoB) (OpV.move (.inl rfl) rfl) rfl ?_
              refine VO.opY rfl rfl rfl rfl rfl ?_
              refine OpE.val (W := NoB) (OpV.move (.inl rfl) rfl) rfl ?_
              refine VO.opY rfl rfl rfl rfl rfl ?_
              refine OpE.val (W := NoB) (OpV.eql rfl rfl rfl) rfl ?_
              refine VO.le _ (Le.boolT (t := 168) rfl (decide_eq_true rfl)) ?_
              refine VO.val rfl rfl (OpV.pickT rfl rfl rfl rfl rfl) ?_
              refine VO.mv rfl rfl rfl rfl ?_
              refine VO.opY rfl rfl rfl rfl rfl ?_
              refine OpE.val (W := NoB) (OpV.move (.inl rfl) rfl) rfl ?_
              refine VO.opY rfl rfl rfl rfl rfl ?_
              refine OpE.val (W := NoB) (OpV.move (.inl rfl) rfl) rfl ?_
              refine VO.opY rfl rfl rfl rfl rfl ?_
              refine OpE.val (W := NoB) (OpV.seql rfl rfl rfl) rfl ?_
              refine VO.le _ (Le.boolT (t := 173) rfl (by first | (rw [susR_eq k2]; exact sEq_refl _) | (rw [susR_no k2]; exact sEq_refl _))) ?_
              refine VO.val rfl rfl (OpV.pickT rfl rfl rfl rfl rfl) ?_
              refine VO.mv rfl rfl rfl rfl ?_
              refine VO.opY rfl rfl rfl rfl rfl ?_
              refine OpE.val (W := NoB) (OpV.loadK_own (i := 0) rfl hB Tryz.isAgg39 Tryz.sizeOf39 rfl rfl rfl (fun h => h)) rfl ?_
              refine VO.opY rfl rfl rfl rfl rfl ?_
              refine OpE.val (W := NoB) (OpV.loadK_own (i := 1) rfl hB Tryz.isAgg39 Tryz.sizeOf39 rfl rfl rfl (fun h => h)) rfl ?_
              refine VO.opY rfl rfl rfl rfl rfl ?_
              refine OpE.val (W := NoB) (OpV.aeql rfl Tryz.underlying39 (by kernel_rfl) (by kernel_rfl) rfl rfl (EqFs.int Tryz.underlying3 Tryz.isAgg3 rfl (by decide) (EqFs.int Tryz.underlying3 Tryz.isAgg3 rfl (by decide) (EqFs.nil _)))) rfl ?_
              refine VO.le _ (Le.boolT (t := 178) rfl (by first | (rw [susR_eq k2]; simp; done) | (rw [susR_no k2]; rfl))) ?_
              refine VO.val rfl rfl (OpV.pickT rfl rfl rfl rfl rfl) ?_
              refine VO.mv rfl rfl rfl rfl ?_
              refine VO.opY rfl rfl rfl rfl rfl ?_
              refine OpE.val (W := NoB) (OpV.move (.inl rfl) rfl) rfl ?_
              refine VO.opY rfl rfl rfl rfl rfl ?_
              refine OpE.val (W := NoB) (OpV.move (.inl rfl) rfl) rfl ?_
              refine VO.opY rfl rfl rfl rfl rfl ?_
              refine OpE.val (W := NoB) (OpV.beql rfl Tryz.underlying4 rfl rfl) rfl ?_
              refine VO.le _ (Le.boolT (t := 183) rfl (by first | (rw [susR_eq k2]; simp; done) | (rw [susR_no k2]; rfl))) ?_
              refine VO.val rfl rfl (OpV.pickT rfl rfl rfl rfl rfl) ?_
              refine VO.mv rfl rfl rfl rfl ?_
              refine VO.opY rfl rfl rfl rfl rfl ?_
              refine OpE.val (W := NoB) (OpV.move (.inl rfl) rfl) rfl ?_
              refine VO.opY rfl rfl rfl rfl rfl ?_
              refine OpE.val (W := NoB) (OpV.move (.inl rfl) rfl) rfl ?_
              refine VO.opY rfl rfl rfl rfl rfl ?_
              refine OpE.val (W := NoB) (OpV.eql rfl rfl rfl) rfl ?_
              refine VO.le _ (Le.boolT (t := 188) rfl (decide_eq_true rfl)) ?_
              refine VO.val rfl rfl (OpV.pickT rfl rfl rfl rfl rfl) ?_
              refine VO.mv rfl rfl rfl rfl ?_
              refine VO.opY rfl rfl rfl rfl rfl ?_
              refine OpE.val (W := NoB) (OpV.move (.inl rfl) rfl) rfl ?_
              refine VO.opY rfl rfl rfl rfl rfl ?_
              refine OpE.val (W := NoB) (OpV.move (.inl rfl) rfl) rfl ?_
              refine VO.opY rfl rfl rfl rfl rfl ?_
              refine OpE.val (W := NoB) (OpV.beql rfl Tryz.underlying4 rfl rfl) rfl ?_
              refine VO.le _ (Le.boolT (t := 193) rfl (by first | (rw [worV, if_pos k3]; simp; done) | (rw [worV, if_neg k3]; rfl))) ?_
              refine VO.val rfl rfl (OpV.pickT rfl rfl rfl rfl rfl) ?_
              refine VO.mv rfl rfl rfl rfl ?_
              refine VO.opY rfl rfl rfl rfl rfl ?_
              refine OpE.val (W := NoB) (OpV.move (.inl rfl) rfl) rfl ?_
              refine VO.opY rfl rfl rfl rfl rfl ?_
              refine OpE.val (W := NoB) (OpV.move (.inl rfl) rfl) rfl ?_
              refine VO.opY rfl rfl rfl rfl rfl ?_
              refine OpE.val (W := NoB) (OpV.eql rfl rfl rfl) rfl ?_
              refine VO.le _ (Le.boolT (t := 198) rfl (decide_eq_true rfl)) ?_
              refine VO.val rfl rfl (OpV.pickT rfl rfl rfl rfl rfl) ?_
              refine VO.mv rfl rfl rfl rfl ?_
              refine VO.opY rfl rfl rfl rfl rfl ?_
              refine OpE.val (W := NoB) (OpV.move (.inl rfl) rfl) rfl ?_
              refine VO.opY rfl rfl rfl rfl rfl ?_
              refine OpE.val (W := NoB) (OpV.move (.inl rfl) rfl) rfl ?_
              refine VO.opY rfl rfl rfl rfl rfl ?_
              refine OpE.call rfl hB rfl Tryz.call33 rfl (SpecN.spec (slices_Equal_int (by omega) (by omega))) ?_
              rintro _ rfl
              refine VO.le _ (Le.boolT (t := 203) rfl (decide_eq_true rfl)) ?_
              refine VO.val rfl rfl (OpV.pickT rfl rfl rfl rfl rfl) ?_
              refine VO.mv rfl rfl rfl rfl ?_
              refine VO.opY rfl rfl rfl rfl rfl ?_
              refine OpE.call rfl hB rfl Tryz.call34 rfl (SpecN.spec (rl_looked)) ?_
              rintro _ rfl
              refine VO.val rfl rfl (OpV.pickT rfl rfl rfl rfl rfl) ?_
              refine VO.ma rfl rfl rfl rfl ?_
              refine VO.nil ?_
              refine VC.ret ?_
              exact And.intro rfl rfl
        · have k2 := k2b
          try simp only [qqT, qqF, qqN, qqM, qqL, qqE] at k2
          refine VC.skip ?_
          refine VC.seq ?_
          refine VC.sr ?_
          refine VO.mv rfl rfl rfl rfl ?_
          refine VO.val rfl rfl (OpV.eql rfl rfl rfl) ?_
          refine VO.nil ?_
          refine VC.cond rfl (fun k3b => ?_) (fun k3b => ?_)
          · have k3 := k3b
            try simp only [qqT, qqF, qqN, qqM, qqL, qqE] at k3
            refine VC.region ?_
            refine VO.mv rfl rfl rfl rfl ?_
            refine VO.mv rfl rfl rfl rfl ?_
            refine VO.mv rfl rfl rfl rfl ?_
            refine VO.op rfl (OpE.call rfl hB rfl Tryz.call30 rfl (SpecN.spec (rf_WorseOf hs)) ?_)
            rintro _ rfl
            refine VO.ma rfl rfl rfl rfl ?_
            refine VO.nil ?_
            refine VC.sr ?_
            refine VO.ma rfl rfl rfl rfl ?_
            refine VO.nil ?_
            refine VC.seq ?_
            refine VC.sr ?_
            refine VO.mv rfl rfl rfl rfl ?_
            refine VO.val rfl rfl (OpV.eql rfl rfl rfl) ?_
            refine VO.nil ?_
            refine VC.cond rfl (fun k4b => ?_) (fun k4b => ?_)
            · have k4 := k4b
              try simp only [qqT, qqF, qqN, qqM, qqL, qqE] at k4
              refine VC.region ?_
              refine VO.mv rfl rfl rfl rfl ?_
              refine VO.mv rfl rfl rfl rfl ?_
              refine VO.op rfl (OpE.call rfl hB rfl Tryz.call31 rfl (SpecN.spec (rf_TrendOf hs (thr_ok k4).1 (thr_ok k4).2)) ?_)
              rintro _ rfl
              refine VO.mv rfl rfl rfl rfl ?_
              refine VO.val rfl rfl (OpV.extract rfl rfl rfl) ?_
              refine VO.val rfl rfl (OpV.extract rfl rfl rfl) ?_
              refine VO.ma rfl rfl rfl rfl ?_
              refine VO.ma rfl rfl rfl rfl ?_
              refine VO.nil ?_
              refine VC.seq ?_
              have htl := trL_bd a st
              refine VC.region ?_
              refine VO.mv rfl rfl rfl rfl ?_
              refine VO.mv rfl rfl rfl rfl ?_
              refine VO.val rfl rfl (OpV.eql rfl rfl rfl) ?_
              refine VO.le _ (Le.boolT (t := 159) rfl (decide_eq_true rfl)) ?_
              refine VO.mv rfl rfl rfl rfl ?_
              refine VO.opY rfl rfl rfl rfl rfl ?_
              refine OpE.val (W := NoB) (OpV.move (.inl rfl) rfl) rfl ?_
              refine VO.opY rfl rfl rfl rfl rfl ?_
              refine OpE.val (W := NoB) (OpV.move (.inl rfl) rfl) rfl ?_
              refine VO.opY rfl rfl rfl rfl rfl ?_
              refine OpE.call rfl hB rfl Tryz.call32 rfl (SpecN.spec (slices_Equal_pair (by omega) (by omega))) ?_
              rintro _ rfl
              refine VO.le _ (Le.boolT (t := 163) rfl (eqLs_self eqPr_self _)) ?_
              refine VO.val rfl rfl (OpV.pickT rfl rfl rfl rfl rfl) ?_
              refine VO.mv rfl rfl rfl rfl ?_
              refine VO.opY rfl rfl rfl rfl rfl ?_
              refine OpE.val (W := NoB) (OpV.move (.inl rfl) rfl) rfl ?_
              refine VO.opY rfl rfl rfl rfl rfl ?_
              refine OpE.val (W := NoB) (OpV.move (.inl rfl) rfl) rfl ?_
              refine VO.opY rfl rfl rfl rfl rfl ?_
              refine OpE.val (W := NoB) (OpV.eql rfl rfl rfl) rfl ?_
              refine VO.le _ (Le.boolT (t := 168) rfl (decide_eq_true rfl)) ?_
              refine VO.val rfl rfl (OpV.pickT rfl rfl rfl rfl rfl) ?_
              refine VO.mv rfl rfl rfl rfl ?_
              refine VO.opY rfl rfl rfl rfl rfl ?_
              refine OpE.val (W := NoB) (OpV.move (.inl rfl) rfl) rfl ?_
              refine VO.opY rfl rfl rfl rfl rfl ?_
              refine OpE.val (W := NoB) (OpV.move (.inl rfl) rfl) rfl ?_
              refine VO.opY rfl rfl rfl rfl rfl ?_
              refine OpE.val (W := NoB) (OpV.seql rfl rfl rfl) rfl ?_
              refine VO.le _ (Le.boolT (t := 173) rfl (by first | (rw [susR_eq k2]; exact sEq_refl _) | (rw [susR_no k2]; exact sEq_refl _))) ?_
              refine VO.val rfl rfl (OpV.pickT rfl rfl rfl rfl rfl) ?_
              refine VO.mv rfl rfl rfl rfl ?_
              refine VO.opY rfl rfl rfl rfl rfl ?_
              refine OpE.val (W := NoB) (OpV.loadK_own (i := 0) rfl hB Tryz.isAgg39 Tryz.sizeOf39 rfl rfl rfl (fun h => h)) rfl ?_
              refine VO.opY rfl rfl rfl rfl rfl ?_
              refine OpE.val (W := NoB) (OpV.loadK_own (i := 1) rfl hB Tryz.isAgg39 Tryz.sizeOf39 rfl rfl rfl (fun h => h)) rfl ?_
              refine VO.opY rfl rfl rfl rfl rfl ?_
              refine OpE.val (W := NoB) (OpV.aeql rfl Tryz.underlying39 (by kernel_rfl) (by kernel_rfl) rfl rfl (EqFs.int Tryz.underlying3 Tryz.isAgg3 rfl (by decide) (EqFs.int Tryz.underlying3 Tryz.isAgg3 rfl (by decide) (EqFs.nil _)))) rfl ?_
              refine VO.le _ (Le.boolT (t := 178) rfl (by first | (rw [susR_eq k2]; simp; done) | (rw [susR_no k2]; rfl))) ?_
              refine VO.val rfl rfl (OpV.pickT rfl rfl rfl rfl rfl) ?_
              refine VO.mv rfl rfl rfl rfl ?_
              refine VO.opY rfl rfl rfl rfl rfl ?_
              refine OpE.val (W := NoB) (OpV.move (.inl rfl) rfl) rfl ?_
              refine VO.opY rfl rfl rfl rfl rfl ?_
              refine OpE.val (W := NoB) (OpV.move (.inl rfl) rfl) rfl ?_
              refine VO.opY rfl rfl rfl rfl rfl ?_
              refine OpE.val (W := NoB) (OpV.beql rfl Tryz.underlying4 rfl rfl) rfl ?_
              refine VO.le _ (Le.boolT (t := 183) rfl (by first | (rw [susR_eq k2]; simp; done) | (rw [susR_no k2]; rfl))) ?_
              refine VO.val rfl rfl (OpV.pickT rfl rfl rfl rfl rfl) ?_
              refine VO.mv rfl rfl rfl rfl ?_
              refine VO.opY rfl rfl rfl rfl rfl ?_
              refine OpE.val (W := NoB) (OpV.move (.inl rfl) rfl) rfl ?_
              refine VO.opY rfl rfl rfl rfl rfl ?_
              refine OpE.val (W := NoB) (OpV.move (.inl rfl) rfl) rfl ?_
              refine VO.opY rfl rfl rfl rfl rfl ?_
              refine OpE.val (W := NoB) (OpV.eql rfl rfl rfl) rfl ?_
              refine VO.le _ (Le.boolT (t := 188) rfl (decide_eq_true rfl)) ?_
              refine VO.val rfl rfl (OpV.pickT rfl rfl rfl rfl rfl) ?_
              refine VO.mv rfl rfl rfl rfl ?_
              refine VO.opY rfl rfl rfl rfl rfl ?_
              refine OpE.val (W := NoB) (OpV.move (.inl rfl) rfl) rfl ?_
              refine VO.opY rfl rfl rfl rfl rfl ?_
              refine OpE.val (W := NoB) (OpV.move (.inl rfl) rfl) rfl ?_
              refine VO.opY rfl rfl rfl rfl rfl ?_
              refine OpE.val (W := NoB) (OpV.beql rfl Tryz.underlying4 rfl rfl) rfl ?_
              refine VO.le _ (Le.boolT (t := 193) rfl (by first | (rw [worV, if_pos k3]; simp; done) | (rw [worV, if_neg k3]; rfl))) ?_
              refine VO.val rfl rfl (OpV.pickT rfl rfl rfl rfl rfl) ?_
              refine VO.mv rfl rfl rfl rfl ?_
              refine VO.opY rfl rfl rfl rfl rfl ?_
              refine OpE.val (W := NoB) (OpV.move (.inl rfl) rfl) rfl ?_
              refine VO.opY rfl rfl rfl rfl rfl ?_
              refine OpE.val (W := NoB) (OpV.move (.inl rfl) rfl) rfl ?_
              refine VO.opY rfl rfl rfl rfl rfl ?_
              refine OpE.val (W := NoB) (OpV.eql rfl rfl rfl) rfl ?_
              refine VO.le _ (Le.boolT (t := 198) rfl (decide_eq_true rfl)) ?_
              refine VO.val rfl rfl (OpV.pickT rfl rfl rfl rfl rfl) ?_
              refine VO.mv rfl rfl rfl rfl ?_
              refine VO.opY rfl rfl rfl rfl rfl ?_
              refine OpE.val (W := NoB) (OpV.move (.inl rfl) rfl) rfl ?_
              refine VO.opY rfl rfl rfl rfl rfl ?_
              refine OpE.val (W := NoB) (OpV.move (.inl rfl) rfl) rfl ?_
              refine VO.opY rfl rfl rfl rfl rfl ?_
              refine OpE.call rfl hB rfl Tryz.call33 rfl (SpecN.spec (slices_Equal_int (by omega) (by omega))) ?_
              rintro _ rfl
              refine VO.le _ (Le.boolT (t := 203) rfl (decide_eq_true rfl)) ?_
              refine VO.val rfl rfl (OpV.pickT rfl rfl rfl rfl rfl) ?_
              refine VO.mv rfl rfl rfl rfl ?_
              refine VO.opY rfl rfl rfl rfl rfl ?_
              refine OpE.call rfl hB rfl Tryz.call34 rfl (SpecN.spec (rl_looked)) ?_
              rintro _ rfl
              refine VO.val rfl rfl (OpV.pickT rfl rfl rfl rfl rfl) ?_
              refine VO.ma rfl rfl rfl rfl ?_
              refine VO.nil ?_
              refine VC.ret ?_
              exact And.intro rfl rfl
            · have k4 := k4b
              try simp only [qqT, qqF, qqN, qqM, qqL, qqE] at k4
              have e4 := thr_no k4
              refine VC.le _ (Le.recast (t := 28) (y := avInts (trL a st)) rfl (fun w Z u h => by rw [e4.2, h.eq_v]; exact .nil _ _)) ?_
              refine VC.le _ (Le.recast (t := 22) (y := avI (trE a st)) rfl (fun w Z u h => by rw [e4.1]; exact h)) ?_
              refine VC.skip ?_
              refine VC.seq ?_
              have htl := trL_bd a st
              refine VC.region ?_
              refine VO.mv rfl rfl rfl rfl ?_
              refine VO.mv rfl rfl rfl rfl ?_
              refine VO.val rfl rfl (OpV.eql rfl rfl rfl) ?_
              refine VO.le _ (Le.boolT (t := 159) rfl (decide_eq_true rfl)) ?_
              refine VO.mv rfl rfl rfl rfl ?_
              refine VO.opY rfl rfl rfl rfl rfl ?_
              refine OpE.val (W := NoB) (OpV.move (.inl rfl) rfl) rfl ?_
              refine VO.opY rfl rfl rfl rfl rfl ?_
              refine OpE.val (W := NoB) (OpV.move (.inl rfl) rfl) rfl ?_
              refine VO.opY rfl rfl rfl rfl rfl ?_
              refine OpE.call rfl hB rfl Tryz.call32 rfl (SpecN.spec (slices_Equal_pair (by omega) (by omega))) ?_
              rintro _ rfl
              refine VO.le _ (Le.boolT (t := 163) rfl (eqLs_self eqPr_self _)) ?_
              refine VO.val rfl rfl (OpV.pickT rfl rfl rfl rfl rfl) ?_
              refine VO.mv rfl rfl rfl rfl ?_
              refine VO.opY rfl rfl rfl rfl rfl ?_
              refine OpE.val (W := NoB) (OpV.move (.inl rfl) rfl) rfl ?_
              refine VO.opY rfl rfl rfl rfl rfl ?_
              refine OpE.val (W := NoB) (OpV.move (.inl rfl) rfl) rfl ?_
              refine VO.opY rfl rfl rfl rfl rfl ?_
              refine OpE.val (W := NoB) (OpV.eql rfl rfl rfl) rfl ?_
              refine VO.le _ (Le.boolT (t := 168) rfl (decide_eq_true rfl)) ?_
              refine VO.val rfl rfl (OpV.pickT rfl rfl rfl rfl rfl) ?_
              refine VO.mv rfl rfl rfl rfl ?_
              refine VO.opY rfl rfl rfl rfl rfl ?_
              refine OpE.val (W := NoB) (OpV.move (.inl rfl) rfl) rfl ?_
              refine VO.opY rfl rfl rfl rfl rfl ?_
              refine OpE.val (W := NoB) (OpV.move (.inl rfl) rfl) rfl ?_
              refine VO.opY rfl rfl rfl rfl rfl ?_
              refine OpE.val (W := NoB) (OpV.seql rfl rfl rfl) rfl ?_
              refine VO.le _ (Le.boolT (t := 173) rfl (by first | (rw [susR_eq k2]; exact sEq_refl _) | (rw [susR_no k2]; exact sEq_refl _))) ?_
              refine VO.val rfl rfl (OpV.pickT rfl rfl rfl rfl rfl) ?_
              refine VO.mv rfl rfl rfl rfl ?_
              refine VO.opY rfl rfl rfl rfl rfl ?_
              refine OpE.val (W := NoB) (OpV.loadK_own (i := 0) rfl hB Tryz.isAgg39 Tryz.sizeOf39 rfl rfl rfl (fun h => h)) rfl ?_
              refine VO.opY rfl rfl rfl rfl rfl ?_
              refine OpE.val (W := NoB) (OpV.loadK_own (i := 1) rfl hB Tryz.isAgg39 Tryz.sizeOf39 rfl rfl rfl (fun h => h)) rfl ?_
              refine VO.opY rfl rfl rfl rfl rfl ?_
              refine OpE.val (W := NoB) (OpV.aeql rfl Tryz.underlying39 (by kernel_rfl) (by kernel_rfl) rfl rfl (EqFs.int Tryz.underlying3 Tryz.isAgg3 rfl (by decide) (EqFs.int Tryz.underlying3 Tryz.isAgg3 rfl (by decide) (EqFs.nil _)))) rfl ?_
              refine VO.le _ (Le.boolT (t := 178) rfl (by first | (rw [susR_eq k2]; simp; done) | (rw [susR_no k2]; rfl))) ?_
              refine VO.val rfl rfl (OpV.pickT rfl rfl rfl rfl rfl) ?_
              refine VO.mv rfl rfl rfl rfl ?_
              refine VO.opY rfl rfl rfl rfl rfl ?_
              refine OpE.val (W := NoB) (OpV.move (.inl rfl) rfl) rfl ?_
              refine VO.opY rfl rfl rfl rfl rfl ?_
              refine OpE.val (W := NoB) (OpV.move (.inl rfl) rfl) rfl ?_
              refine VO.opY rfl rfl rfl rfl rfl ?_
              refine OpE.val (W := NoB) (OpV.beql rfl Tryz.underlying4 rfl rfl) rfl ?_
              refine VO.le _ (Le.boolT (t := 183) rfl (by first | (rw [susR_eq k2]; simp; done) | (rw [susR_no k2]; rfl))) ?_
              refine VO.val rfl rfl (OpV.pickT rfl rfl rfl rfl rfl) ?_
              refine VO.mv rfl rfl rfl rfl ?_
              refine VO.opY rfl rfl rfl rfl rfl ?_
              refine OpE.val (W := NoB) (OpV.move (.inl rfl) rfl) rfl ?_
              refine VO.opY rfl rfl rfl rfl rfl ?_
              refine OpE.val (W := NoB) (OpV.move (.inl rfl) rfl) rfl ?_
              refine VO.opY rfl rfl rfl rfl rfl ?_
              refine OpE.val (W := NoB) (OpV.eql rfl rfl rfl) rfl ?_
              refine VO.le _ (Le.boolT (t := 188) rfl (decide_eq_true rfl)) ?_
              refine VO.val rfl rfl (OpV.pickT rfl rfl rfl rfl rfl) ?_
              refine VO.mv rfl rfl rfl rfl ?_
              refine VO.opY rfl rfl rfl rfl rfl ?_
              refine OpE.val (W := NoB) (OpV.move (.inl rfl) rfl) rfl ?_
              refine VO.opY rfl rfl rfl rfl rfl ?_
              refine OpE.val (W := NoB) (OpV.move (.inl rfl) rfl) rfl ?_
              refine VO.opY rfl rfl rfl rfl rfl ?_
              refine OpE.val (W := NoB) (OpV.beql rfl Tryz.underlying4 rfl rfl) rfl ?_
              refine VO.le _ (Le.boolT (t := 193) rfl (by first | (rw [worV, if_pos k3]; simp; done) | (rw [worV, if_neg k3]; rfl))) ?_
              refine VO.val rfl rfl (OpV.pickT rfl rfl rfl rfl rfl) ?_
              refine VO.mv rfl rfl rfl rfl ?_
              refine VO.opY rfl rfl rfl rfl rfl ?_
              refine OpE.val (W := NoB) (OpV.move (.inl rfl) rfl) rfl ?_
              refine VO.opY rfl rfl rfl rfl rfl ?_
              refine OpE.val (W := NoB) (OpV.move (.inl rfl) rfl) rfl ?_
              refine VO.opY rfl rfl rfl rfl rfl ?_
              refine OpE.val (W := NoB) (OpV.eql rfl rfl rfl) rfl ?_
              refine VO.le _ (Le.boolT (t := 198) rfl (decide_eq_true rfl)) ?_
              refine VO.val rfl rfl (OpV.pickT rfl rfl rfl rfl rfl) ?_
              refine VO.mv rfl rfl rfl rfl ?_
              refine VO.opY rfl rfl rfl rfl rfl ?_
              refine OpE.val (W := NoB) (OpV.move (.inl rfl) rfl) rfl ?_
              refine VO.opY rfl rfl rfl rfl rfl ?_
              refine OpE.val (W := NoB) (OpV.move (.inl rfl) rfl) rfl ?_
              refine VO.opY rfl rfl rfl rfl rfl ?_
              refine OpE.call rfl hB rfl Tryz.call33 rfl (SpecN.spec (slices_Equal_int (by omega) (by omega))) ?_
              rintro _ rfl
              refine VO.le _ (Le.boolT (t := 203) rfl (decide_eq_true rfl)) ?_
              refine VO.val rfl rfl (OpV.pickT rfl rfl rfl rfl rfl) ?_
              refine VO.mv rfl rfl rfl rfl ?_
              refine VO.opY rfl rfl rfl rfl rfl ?_
              refine OpE.call rfl hB rfl Tryz.call34 rfl (SpecN.spec (rl_looked)) ?_
              rintro _ rfl
              refine VO.val rfl rfl (OpV.pickT rfl rfl rfl rfl rfl) ?_
              refine VO.ma rfl rfl rfl rfl ?_
              refine VO.nil ?_
              refine VC.ret ?_
              exact And.intro rfl rfl
          · have k3 := k3b
            try simp only [qqT, qqF, qqN, qqM, qqL, qqE] at k3
            refine VC.skip ?_
            refine VC.sr ?_
            refine VO.ma rfl rfl rfl rfl ?_
            refine VO.nil ?_
            refine VC.seq ?_
            refine VC.sr ?_
            refine VO.mv rfl rfl rfl rfl ?_
            refine VO.val rfl rfl (OpV.eql rfl rfl rfl) ?_
            refine VO.nil ?_
            refine VC.cond rfl (fun k4b => ?_) (fun k4b => ?_)
            · have k4 := k4b
              try simp only [qqT, qqF, qqN, qqM, qqL, qqE] at k4
              refine VC.region ?_
              refine VO.mv rfl rfl rfl rfl ?_
              refine VO.mv rfl rfl rfl rfl ?_
              refine VO.op rfl (OpE.call rfl hB rfl Tryz.call31 rfl (SpecN.spec (rf_TrendOf hs (thr_ok k4).1 (thr_ok k4).2)) ?_)
              rintro _ rfl
              refine VO.mv rfl rfl rfl rfl ?_
              refine VO.val rfl rfl (OpV.extract rfl rfl rfl) ?_
              refine VO.val rfl rfl (OpV.extract rfl rfl rfl) ?_
              refine VO.ma rfl rfl rfl rfl ?_
              refine VO.ma rfl rfl rfl rfl ?_
              refine VO.nil ?_
              refine VC.seq ?_
              have htl := trL_bd a st
              refine VC.region ?_
              refine VO.mv rfl rfl rfl rfl ?_
              refine VO.mv rfl rfl rfl rfl ?_
              refine VO.val rfl rfl (OpV.eql rfl rfl rfl) ?_
              refine VO.le _ (Le.boolT (t := 159) rfl (decide_eq_true rfl)) ?_
              refine VO.mv rfl rfl rfl rfl ?_
              refine VO.opY rfl rfl rfl rfl rfl ?_
              refine OpE.val (W := NoB) (OpV.move (.inl rfl) rfl) rfl ?_
              refine VO.opY rfl rfl rfl rfl rfl ?_
              refine OpE.val (W := NoB) (OpV.move (.inl rfl) rfl) rfl ?_
              refine VO.opY rfl rfl rfl rfl rfl ?_
              refine OpE.call rfl hB rfl Tryz.call32 rfl (SpecN.spec (slices_Equal_pair (by omega) (by omega))) ?_
              rintro _ rfl
              refine VO.le _ (Le.boolT (t := 163) rfl (eqLs_self eqPr_self _)) ?_
              refine VO.val rfl rfl (OpV.pickT rfl rfl rfl rfl rfl) ?_
              refine VO.mv rfl rfl rfl rfl ?_
              refine VO.opY rfl rfl rfl rfl rfl ?_
              refine OpE.val (W := NoB) (OpV.move (.inl rfl) rfl) rfl ?_
              refine VO.opY rfl rfl rfl rfl rfl ?_
              refine OpE.val (W := NoB) (OpV.move (.inl rfl) rfl) rfl ?_
              refine VO.opY rfl rfl rfl rfl rfl ?_
              refine OpE.val (W := NoB) (OpV.eql rfl rfl rfl) rfl ?_
              refine VO.le _ (Le.boolT (t := 168) rfl (decide_eq_true rfl)) ?_
              refine VO.val rfl rfl (OpV.pickT rfl rfl rfl rfl rfl) ?_
              refine VO.mv rfl rfl rfl rfl ?_
              refine VO.opY rfl rfl rfl rfl rfl ?_
              refine OpE.val (W := NoB) (OpV.move (.inl rfl) rfl) rfl ?_
              refine VO.opY rfl rfl rfl rfl rfl ?_
              refine OpE.val (W := NoB) (OpV.move (.inl rfl) rfl) rfl ?_
              refine VO.opY rfl rfl rfl rfl rfl ?_
              refine OpE.val (W := NoB) (OpV.seql rfl rfl rfl) rfl ?_
              refine VO.le _ (Le.boolT (t := 173) rfl (by first | (rw [susR_eq k2]; exact sEq_refl _) | (rw [susR_no k2]; exact sEq_refl _))) ?_
              refine VO.val rfl rfl (OpV.pickT rfl rfl rfl rfl rfl) ?_
              refine VO.mv rfl rfl rfl rfl ?_
              refine VO.opY rfl rfl rfl rfl rfl ?_
              refine OpE.val (W := NoB) (OpV.loadK_own (i := 0) rfl hB Tryz.isAgg39 Tryz.sizeOf39 rfl rfl rfl (fun h => h)) rfl ?_
              refine VO.opY rfl rfl rfl rfl rfl ?_
              refine OpE.val (W := NoB) (OpV.loadK_own (i := 1) rfl hB Tryz.isAgg39 Tryz.sizeOf39 rfl rfl rfl (fun h => h)) rfl ?_
              refine VO.opY rfl rfl rfl rfl rfl ?_
              refine OpE.val (W := NoB) (OpV.aeql rfl Tryz.underlying39 (by kernel_rfl) (by kernel_rfl) rfl rfl (EqFs.int Tryz.underlying3 Tryz.isAgg3 rfl (by decide) (EqFs.int Tryz.underlying3 Tryz.isAgg3 rfl (by decide) (EqFs.nil _)))) rfl ?_
              refine VO.le _ (Le.boolT (t := 178) rfl (by first | (rw [susR_eq k2]; simp; done) | (rw [susR_no k2]; rfl))) ?_
              refine VO.val rfl rfl (OpV.pickT rfl rfl rfl rfl rfl) ?_
              refine VO.mv rfl rfl rfl rfl ?_
              refine VO.opY rfl rfl rfl rfl rfl ?_
              refine OpE.val (W := NoB) (OpV.move (.inl rfl) rfl) rfl ?_
              refine VO.opY rfl rfl rfl rfl rfl ?_
              refine OpE.val (W := NoB) (OpV.move (.inl rfl) rfl) rfl ?_
              refine VO.opY rfl rfl rfl rfl rfl ?_
              refine OpE.val (W := NoB) (OpV.beql rfl Tryz.underlying4 rfl rfl) rfl ?_
              refine VO.le _ (Le.boolT (t := 183) rfl (by first | (rw [susR_eq k2]; simp; done) | (rw [susR_no k2]; rfl))) ?_
              refine VO.val rfl rfl (OpV.pickT rfl rfl rfl rfl rfl) ?_
              refine VO.mv rfl rfl rfl rfl ?_
              refine VO.opY rfl rfl rfl rfl rfl ?_
              refine OpE.val (W := NoB) (OpV.move (.inl rfl) rfl) rfl ?_
              refine VO.opY rfl rfl rfl rfl rfl ?_
              refine OpE.val (W := NoB) (OpV.move (.inl rfl) rfl) rfl ?_
              refine VO.opY rfl rfl rfl rfl rfl ?_
              refine OpE.val (W := NoB) (OpV.eql rfl rfl rfl) rfl ?_
              refine VO.le _ (Le.boolT (t := 188) rfl (decide_eq_true rfl)) ?_
              refine VO.val rfl rfl (OpV.pickT rfl rfl rfl rfl rfl) ?_
              refine VO.mv rfl rfl rfl rfl ?_
              refine VO.opY rfl rfl rfl rfl rfl ?_
              refine OpE.val (W := NoB) (OpV.move (.inl rfl) rfl) rfl ?_
              refine VO.opY rfl rfl rfl rfl rfl ?_
              refine OpE.val (W := NoB) (OpV.move (.inl rfl) rfl) rfl ?_
              refine VO.opY rfl rfl rfl rfl rfl ?_
              refine OpE.val (W := NoB) (OpV.beql rfl Tryz.underlying4 rfl rfl) rfl ?_
              refine VO.le _ (Le.boolT (t := 193) rfl (by first | (rw [worV, if_pos k3]; simp; done) | (rw [worV, if_neg k3]; rfl))) ?_
              refine VO.val rfl rfl (OpV.pickT rfl rfl rfl rfl rfl) ?_
              refine VO.mv rfl rfl rfl rfl ?_
              refine VO.opY rfl rfl rfl rfl rfl ?_
              refine OpE.val (W := NoB) (OpV.move (.inl rfl) rfl) rfl ?_
              refine VO.opY rfl rfl rfl rfl rfl ?_
              refine OpE.val (W := NoB) (OpV.move (.inl rfl) rfl) rfl ?_
              refine VO.opY rfl rfl rfl rfl rfl ?_
              refine OpE.val (W := NoB) (OpV.eql rfl rfl rfl) rfl ?_
              refine VO.le _ (Le.boolT (t := 198) rfl (decide_eq_true rfl)) ?_
              refine VO.val rfl rfl (OpV.pickT rfl rfl rfl rfl rfl) ?_
              refine VO.mv rfl rfl rfl rfl ?_
              refine VO.opY rfl rfl rfl rfl rfl ?_
              refine OpE.val (W := NoB) (OpV.move (.inl rfl) rfl) rfl ?_
              refine VO.opY rfl rfl rfl rfl rfl ?_
              refine OpE.val (W := NoB) (OpV.move (.inl rfl) rfl) rfl ?_
              refine VO.opY rfl rfl rfl rfl rfl ?_
              refine OpE.call rfl hB rfl Tryz.call33 rfl (SpecN.spec (slices_Equal_int (by omega) (by omega))) ?_
              rintro _ rfl
              refine VO.le _ (Le.boolT (t := 203) rfl (decide_eq_true rfl)) ?_
              refine VO.val rfl rfl (OpV.pickT rfl rfl rfl rfl rfl) ?_
              refine VO.mv rfl rfl rfl rfl ?_
              refine VO.opY rfl rfl rfl rfl rfl ?_
              refine OpE.call rfl hB rfl Tryz.call34 rfl (SpecN.spec (rl_looked)) ?_
              rintro _ rfl
              refine VO.val rfl rfl (OpV.pickT rfl rfl rfl rfl rfl) ?_
              refine VO.ma rfl rfl rfl rfl ?_
              refine VO.nil ?_
              refine VC.ret ?_
              exact And.intro rfl rfl
            · have k4 := k4b
              try simp only [qqT, qqF, qqN, qqM, qqL, qqE] at k4
              have e4 := thr_no k4
              refine VC.le _ (Le.recast (t := 28) (y := avInts (trL a st)) rfl (fun w Z u h => by rw [e4.2, h.eq_v]; exact .nil _ _)) ?_
              refine VC.le _ (Le.recast (t := 22) (y := avI (trE a st)) rfl (fun w Z u h => by rw [e4.1]; exact h)) ?_
              refine VC.skip ?_
              refine VC.seq ?_
              have htl := trL_bd a st
              refine VC.region ?_
              refine VO.mv rfl rfl rfl rfl ?_
              refine VO.mv rfl rfl rfl rfl ?_
              refine VO.val rfl rfl (OpV.eql rfl rfl rfl) ?_
              refine VO.le _ (Le.boolT (t := 159) rfl (decide_eq_true rfl)) ?_
              refine VO.mv rfl rfl rfl rfl ?_
              refine VO.opY rfl rfl rfl rfl rfl ?_
              refine OpE.val (W := NoB) (OpV.move (.inl rfl) rfl) rfl ?_
              refine VO.opY rfl rfl rfl rfl rfl ?_
              refine OpE.val (W := NoB) (OpV.move (.inl rfl) rfl) rfl ?_
              refine VO.opY rfl rfl rfl rfl rfl ?_
              refine OpE.call rfl hB rfl Tryz.call32 rfl (SpecN.spec (slices_Equal_pair (by omega) (by omega))) ?_
              rintro _ rfl
              refine VO.le _ (Le.boolT (t := 163) rfl (eqLs_self eqPr_self _)) ?_
              refine VO.val rfl rfl (OpV.pickT rfl rfl rfl rfl rfl) ?_
              refine VO.mv rfl rfl rfl rfl ?_
              refine VO.opY rfl rfl rfl rfl rfl ?_
              refine OpE.val (W := NoB) (OpV.move (.inl rfl) rfl) rfl ?_
              refine VO.opY rfl rfl rfl rfl rfl ?_
              refine OpE.val (W := NoB) (OpV.move (.inl rfl) rfl) rfl ?_
              refine VO.opY rfl rfl rfl rfl rfl ?_
              refine OpE.val (W := NoB) (OpV.eql rfl rfl rfl) rfl ?_
              refine VO.le _ (Le.boolT (t := 168) rfl (decide_eq_true rfl)) ?_
              refine VO.val rfl rfl (OpV.pickT rfl rfl rfl rfl rfl) ?_
              refine VO.mv rfl rfl rfl rfl ?_
              refine VO.opY rfl rfl rfl rfl rfl ?_
              refine OpE.val (W := NoB) (OpV.move (.inl rfl) rfl) rfl ?_
              refine VO.opY rfl rfl rfl rfl rfl ?_
              refine OpE.val (W := NoB) (OpV.move (.inl rfl) rfl) rfl ?_
              refine VO.opY rfl rfl rfl rfl rfl ?_
              refine OpE.val (W := NoB) (OpV.seql rfl rfl rfl) rfl ?_
              refine VO.le _ (Le.boolT (t := 173) rfl (by first | (rw [susR_eq k2]; exact sEq_refl _) | (rw [susR_no k2]; exact sEq_refl _))) ?_
              refine VO.val rfl rfl (OpV.pickT rfl rfl rfl rfl rfl) ?_
              refine VO.mv rfl rfl rfl rfl ?_
              refine VO.opY rfl rfl rfl rfl rfl ?_
              refine OpE.val (W := NoB) (OpV.loadK_own (i := 0) rfl hB Tryz.isAgg39 Tryz.sizeOf39 rfl rfl rfl (fun h => h)) rfl ?_
              refine VO.opY rfl rfl rfl rfl rfl ?_
              refine OpE.val (W := NoB) (OpV.loadK_own (i := 1) rfl hB Tryz.isAgg39 Tryz.sizeOf39 rfl rfl rfl (fun h => h)) rfl ?_
              refine VO.opY rfl rfl rfl rfl rfl ?_
              refine OpE.val (W := NoB) (OpV.aeql rfl Tryz.underlying39 (by kernel_rfl) (by kernel_rfl) rfl rfl (EqFs.int Tryz.underlying3 Tryz.isAgg3 rfl (by decide) (EqFs.int Tryz.underlying3 Tryz.isAgg3 rfl (by decide) (EqFs.nil _)))) rfl ?_
              refine VO.le _ (Le.boolT (t := 178) rfl (by first | (rw [susR_eq k2]; simp; done) | (rw [susR_no k2]; rfl))) ?_
              refine VO.val rfl rfl (OpV.pickT rfl rfl rfl rfl rfl) ?_
              refine VO.mv rfl rfl rfl rfl ?_
              refine VO.opY rfl rfl rfl rfl rfl ?_
              refine OpE.val (W := NoB) (OpV.move (.inl rfl) rfl) rfl ?_
              refine VO.opY rfl rfl rfl rfl rfl ?_
              refine OpE.val (W := NoB) (OpV.move (.inl rfl) rfl) rfl ?_
              refine VO.opY rfl rfl rfl rfl rfl ?_
              refine OpE.val (W := NoB) (OpV.beql rfl Tryz.underlying4 rfl rfl) rfl ?_
              refine VO.le _ (Le.boolT (t := 183) rfl (by first | (rw [susR_eq k2]; simp; done) | (rw [susR_no k2]; rfl))) ?_
              refine VO.val rfl rfl (OpV.pickT rfl rfl rfl rfl rfl) ?_
              refine VO.mv rfl rfl rfl rfl ?_
              refine VO.opY rfl rfl rfl rfl rfl ?_
              refine OpE.val (W := NoB) (OpV.move (.inl rfl) rfl) rfl ?_
              refine VO.opY rfl rfl rfl rfl rfl ?_
              refine OpE.val (W := NoB) (OpV.move (.inl rfl) rfl) rfl ?_
              refine VO.opY rfl rfl rfl rfl rfl ?_
              refine OpE.val (W := NoB) (OpV.eql rfl rfl rfl) rfl ?_
              refine VO.le _ (Le.boolT (t := 188) rfl (decide_eq_true rfl)) ?_
              refine VO.val rfl rfl (OpV.pickT rfl rfl rfl rfl rfl) ?_
              refine VO.mv rfl rfl rfl rfl ?_
              refine VO.opY rfl rfl rfl rfl rfl ?_
              refine OpE.val (W := NoB) (OpV.move (.inl rfl) rfl) rfl ?_
              refine VO.opY rfl rfl rfl rfl rfl ?_
              refine OpE.val (W := NoB) (OpV.move (.inl rfl) rfl) rfl ?_
              refine VO.opY rfl rfl rfl rfl rfl ?_
              refine OpE.val (W := NoB) (OpV.beql rfl Tryz.underlying4 rfl rfl) rfl ?_
              refine VO.le _ (Le.boolT (t := 193) rfl (by first | (rw [worV, if_pos k3]; simp; done) | (rw [worV, if_neg k3]; rfl))) ?_
              refine VO.val rfl rfl (OpV.pickT rfl rfl rfl rfl rfl) ?_
              refine VO.mv rfl rfl rfl rfl ?_
              refine VO.opY rfl rfl rfl rfl rfl ?_
              refine OpE.val (W := NoB) (OpV.move (.inl rfl) rfl) rfl ?_
              refine VO.opY rfl rfl rfl rfl rfl ?_
              refine OpE.val (W := NoB) (OpV.move (.inl rfl) rfl) rfl ?_
              refine VO.opY rfl rfl rfl rfl rfl ?_
              refine OpE.val (W := NoB) (OpV.eql rfl rfl rfl) rfl ?_
              refine VO.le _ (Le.boolT (t := 198) rfl (decide_eq_true rfl)) ?_
              refine VO.val rfl rfl (OpV.pickT rfl rfl rfl rfl rfl) ?_
              refine VO.mv rfl rfl rfl rfl ?_
              refine VO.opY rfl rfl rfl rfl rfl ?_
              refine OpE.val (W := NoB) (OpV.move (.inl rfl) rfl) rfl ?_
              refine VO.opY rfl rfl rfl rfl rfl ?_
              refine OpE.val (W := NoB) (OpV.move (.inl rfl) rfl) rfl ?_
              refine VO.opY rfl rfl rfl rfl rfl ?_
              refine OpE.call rfl hB rfl Tryz.call33 rfl (SpecN.spec (slices_Equal_int (by omega) (by omega))) ?_
              rintro _ rfl
              refine VO.le _ (Le.boolT (t := 203) rfl (decide_eq_true rfl)) ?_
              refine VO.val rfl rfl (OpV.pickT rfl rfl rfl rfl rfl) ?_
              refine VO.mv rfl rfl rfl rfl ?_
              refine VO.opY rfl rfl rfl rfl rfl ?_
              refine OpE.call rfl hB rfl Tryz.call34 rfl (SpecN.spec (rl_looked)) ?_
              rintro _ rfl
              refine VO.val rfl rfl (OpV.pickT rfl rfl rfl rfl rfl) ?_
              refine VO.ma rfl rfl rfl rfl ?_
              refine VO.nil ?_
              refine VC.ret ?_
              exact And.intro rfl rfl
      · have k1 := k1b
        try simp only [qqT, qqF, qqN, qqM, qqL, qqE] at k1
        refine VC.le _ (Le.recast (t := 23) (y := avL bm) rfl (fun w Z u h => by rw [← hbm, if_neg k1, h.eq_v]; exact .nil _ _)) ?_
        refine VC.skip ?_
        refine VC.sr ?_
        refine VO.val rfl rfl (OpV.build (pls := #[(0, 1), (1, 1)]) rfl Tryz.zeroValue39 Tryz.underlying39 (fun w => by kernel_rfl) rfl rfl) ?_
        refine VO.op rfl (OpE.alloc rfl hB rfl Tryz.zeroValue39 rfl ?_)
        intro g25
        refine VO.ma rfl rfl rfl rfl ?_
        refine VO.op rfl (OpE.store (i := 1) rfl hB rfl Tryz.sizeOf39 rfl rfl rfl rfl rfl rfl (Nle rfl) trivial ?_)
        refine VO.ma rfl rfl rfl rfl ?_
        refine VO.ma rfl rfl rfl rfl ?_
        refine VO.nil ?_
        refine VC.seq ?_
        refine VC.sr ?_
        refine VO.mv rfl rfl rfl rfl ?_
        refine VO.val rfl rfl (OpV.eql rfl rfl rfl) ?_
        refine VO.nil ?_
        refine VC.cond rfl (fun k2b => ?_) (fun k2b => ?_)
        · have k2 := k2b
          try simp only [qqT, qqF, qqN, qqM, qqL, qqE] at k2
          exact VC.absurd (k1 (leastE_zero k2).1)
        · have k2 := k2b
          try simp only [qqT, qqF, qqN, qqM, qqL, qqE] at k2
          refine VC.skip ?_
          refine VC.seq ?_
          refine VC.sr ?_
          refine VO.mv rfl rfl rfl rfl ?_
          refine VO.val rfl rfl (OpV.eql rfl rfl rfl) ?_
          refine VO.nil ?_
          refine VC.cond rfl (fun k3b => ?_) (fun k3b => ?_)
          · have k3 := k3b
            try simp only [qqT, qqF, qqN, qqM, qqL, qqE] at k3
            exact VC.absurd (k1 (worE_zero k3))
          · have k3 := k3b
            try simp only [qqT, qqF, qqN, qqM, qqL, qqE] at k3
            refine VC.skip ?_
            refine VC.sr ?_
            refine VO.ma rfl rfl rfl rfl ?_
            refine VO.nil ?_
            refine VC.seq ?_
            refine VC.sr ?_
            refine VO.mv rfl rfl rfl rfl ?_
            refine VO.val rfl rfl (OpV.eql rfl rfl rfl) ?_
            refine VO.nil ?_
            refine VC.cond rfl (fun k4b => ?_) (fun k4b => ?_)
            · have k4 := k4b
              try simp only [qqT, qqF, qqN, qqM, qqL, qqE] at k4
              exact VC.absurd (k1 (thr_ok k4).1)
            · have k4 := k4b
              try simp only [qqT, qqF, qqN, qqM, qqL, qqE] at k4
              have e4 := thr_no k4
              refine VC.le _ (Le.recast (t := 28) (y := avInts (trL a st)) rfl (fun w Z u h => by rw [e4.2, h.eq_v]; exact .nil _ _)) ?_
              refine VC.le _ (Le.recast (t := 22) (y := avI (trE a st)) rfl (fun w Z u h => by rw [e4.1]; exact h)) ?_
              refine VC.skip ?_
              refine VC.seq ?_
              have htl := trL_bd a st
              refine VC.region ?_
              refine VO.mv rfl rfl rfl rfl ?_
              refine VO.mv rfl rfl rfl rfl ?_
              refine VO.val rfl rfl (OpV.eql rfl rfl rfl) ?_
              refine VO.le _ (Le.boolT (t := 159) rfl (decide_eq_true rfl)) ?_
              refine VO.mv rfl rfl rfl rfl ?_
              refine VO.opY rfl rfl rfl rfl rfl ?_
              refine OpE.val (W := NoB) (OpV.move (.inl rfl) rfl) rfl ?_
              refine VO.opY rfl rfl rfl rfl rfl ?_
              refine OpE.val (W := NoB) (OpV.move (.inl rfl) rfl) rfl ?_
              refine VO.opY rfl rfl rfl rfl rfl ?_
              refine OpE.call rfl hB rfl Tryz.call32 rfl (SpecN.spec (slices_Equal_pair (by omega) (by omega))) ?_
              rintro _ rfl
              refine VO.le _ (Le.boolT (t := 163) rfl (eqLs_self eqPr_self _)) ?_
              refine VO.val rfl rfl (OpV.pickT rfl rfl rfl rfl rfl) ?_
              refine VO.mv rfl rfl rfl rfl ?_
              refine VO.opY rfl rfl rfl rfl rfl ?_
              refine OpE.val (W := NoB) (OpV.move (.inl rfl) rfl) rfl ?_
              refine VO.opY rfl rfl rfl rfl rfl ?_
              refine OpE.val (W := NoB) (OpV.move (.inl rfl) rfl) rfl ?_
              refine VO.opY rfl rfl rfl rfl rfl ?_
              refine OpE.val (W := NoB) (OpV.eql rfl rfl rfl) rfl ?_
              refine VO.le _ (Le.boolT (t := 168) rfl (decide_eq_true rfl)) ?_
              refine VO.val rfl rfl (OpV.pickT rfl rfl rfl rfl rfl) ?_
              refine VO.mv rfl rfl rfl rfl ?_
              refine VO.opY rfl rfl rfl rfl rfl ?_
              refine OpE.val (W := NoB) (OpV.move (.inl rfl) rfl) rfl ?_
              refine VO.opY rfl rfl rfl rfl rfl ?_
              refine OpE.val (W := NoB) (OpV.move (.inl rfl) rfl) rfl ?_
              refine VO.opY rfl rfl rfl rfl rfl ?_
              refine OpE.val (W := NoB) (OpV.seql rfl rfl rfl) rfl ?_
              refine VO.le _ (Le.boolT (t := 173) rfl (by first | (rw [susR_eq k2]; exact sEq_refl _) | (rw [susR_no k2]; exact sEq_refl _))) ?_
              refine VO.val rfl rfl (OpV.pickT rfl rfl rfl rfl rfl) ?_
              refine VO.mv rfl rfl rfl rfl ?_
              refine VO.opY rfl rfl rfl rfl rfl ?_
              refine OpE.val (W := NoB) (OpV.loadK_own (i := 0) rfl hB Tryz.isAgg39 Tryz.sizeOf39 rfl rfl rfl (fun h => h)) rfl ?_
              refine VO.opY rfl rfl rfl rfl rfl ?_
              refine OpE.val (W := NoB) (OpV.loadK_own (i := 1) rfl hB Tryz.isAgg39 Tryz.sizeOf39 rfl rfl rfl (fun h => h)) rfl ?_
              refine VO.opY rfl rfl rfl rfl rfl ?_
              refine OpE.val (W := NoB) (OpV.aeql rfl Tryz.underlying39 (by kernel_rfl) (by kernel_rfl) rfl rfl (EqFs.int Tryz.underlying3 Tryz.isAgg3 rfl (by decide) (EqFs.int Tryz.underlying3 Tryz.isAgg3 rfl (by decide) (EqFs.nil _)))) rfl ?_
              refine VO.le _ (Le.boolT (t := 178) rfl (by first | (rw [susR_eq k2]; simp; done) | (rw [susR_no k2]; rfl))) ?_
              refine VO.val rfl rfl (OpV.pickT rfl rfl rfl rfl rfl) ?_
              refine VO.mv rfl rfl rfl rfl ?_
              refine VO.opY rfl rfl rfl rfl rfl ?_
              refine OpE.val (W := NoB) (OpV.move (.inl rfl) rfl) rfl ?_
              refine VO.opY rfl rfl rfl rfl rfl ?_
              refine OpE.val (W := NoB) (OpV.move (.inl rfl) rfl) rfl ?_
              refine VO.opY rfl rfl rfl rfl rfl ?_
              refine OpE.val (W := NoB) (OpV.beql rfl Tryz.underlying4 rfl rfl) rfl ?_
              refine VO.le _ (Le.boolT (t := 183) rfl (by first | (rw [susR_eq k2]; simp; done) | (rw [susR_no k2]; rfl))) ?_
              refine VO.val rfl rfl (OpV.pickT rfl rfl rfl rfl rfl) ?_
              refine VO.mv rfl rfl rfl rfl ?_
              refine VO.opY rfl rfl rfl rfl rfl ?_
              refine OpE.val (W := NoB) (OpV.move (.inl rfl) rfl) rfl ?_
              refine VO.opY rfl rfl rfl rfl rfl ?_
              refine OpE.val (W := NoB) (OpV.move (.inl rfl) rfl) rfl ?_
              refine VO.opY rfl rfl rfl rfl rfl ?_
              refine OpE.val (W := NoB) (OpV.eql rfl rfl rfl) rfl ?_
              refine VO.le _ (Le.boolT (t := 188) rfl (decide_eq_true rfl)) ?_
              refine VO.val rfl rfl (OpV.pickT rfl rfl rfl rfl rfl) ?_
              refine VO.mv rfl rfl rfl rfl ?_
              refine VO.opY rfl rfl rfl rfl rfl ?_
              refine OpE.val (W := NoB) (OpV.move (.inl rfl) rfl) rfl ?_
              refine VO.opY rfl rfl rfl rfl rfl ?_
              refine OpE.val (W := NoB) (OpV.move (.inl rfl) rfl) rfl ?_
              refine VO.opY rfl rfl rfl rfl rfl ?_
              refine OpE.val (W := NoB) (OpV.beql rfl Tryz.underlying4 rfl rfl) rfl ?_
              refine VO.le _ (Le.boolT (t := 193) rfl (by first | (rw [worV, if_pos k3]; simp; done) | (rw [worV, if_neg k3]; rfl))) ?_
              refine VO.val rfl rfl (OpV.pickT rfl rfl rfl rfl rfl) ?_
              refine VO.mv rfl rfl rfl rfl ?_
              refine VO.opY rfl rfl rfl rfl rfl ?_
              refine OpE.val (W := NoB) (OpV.move (.inl rfl) rfl) rfl ?_
              refine VO.opY rfl rfl rfl rfl rfl ?_
              refine OpE.val (W := NoB) (OpV.move (.inl rfl) rfl) rfl ?_
              refine VO.opY rfl rfl rfl rfl rfl ?_
              refine OpE.val (W := NoB) (OpV.eql rfl rfl rfl) rfl ?_
              refine VO.le _ (Le.boolT (t := 198) rfl (decide_eq_true rfl)) ?_
              refine VO.val rfl rfl (OpV.pickT rfl rfl rfl rfl rfl) ?_
              refine VO.mv rfl rfl rfl rfl ?_
              refine VO.opY rfl rfl rfl rfl rfl ?_
              refine OpE.val (W := NoB) (OpV.move (.inl rfl) rfl) rfl ?_
              refine VO.opY rfl rfl rfl rfl rfl ?_
              refine OpE.val (W := NoB) (OpV.move (.inl rfl) rfl) rfl ?_
              refine VO.opY rfl rfl rfl rfl rfl ?_
              refine OpE.call rfl hB rfl Tryz.call33 rfl (SpecN.spec (slices_Equal_int (by omega) (by omega))) ?_
              rintro _ rfl
              refine VO.le _ (Le.boolT (t := 203) rfl (decide_eq_true rfl)) ?_
              refine VO.val rfl rfl (OpV.pickT rfl rfl rfl rfl rfl) ?_
              refine VO.mv rfl rfl rfl rfl ?_
              refine VO.opY rfl rfl rfl rfl rfl ?_
              refine OpE.call rfl hB rfl Tryz.call34 rfl (SpecN.spec (rl_looked)) ?_
              rintro _ rfl
              refine VO.val rfl rfl (OpV.pickT rfl rfl rfl rfl rfl) ?_
              refine VO.ma rfl rfl rfl rfl ?_
              refine VO.nil ?_
              refine VC.ret ?_
              exact And.intro rfl rfl
    · replace aK3b : _ = true := aK3b
      have aK3 := aK3b
      try simp only [qqT, qqF, qqN, qqM, qqL, qqE] at aK3
      refine VO.opX rfl rfl rfl rfl aK3b ?_
      refine VO.val rfl rfl (OpV.pickT rfl rfl rfl rfl aK3b) ?_
      refine VO.op rfl (OpE.call rfl hB rfl Tryz.call25 rfl (SpecN.spec (rl_whenL)) ?_)
      rintro _ rfl
      refine VO.op rfl (OpE.buildSlice (zc := #[.int .i64 0, .int .i64 0]) rfl hB rfl Tryz.underlying174 Tryz.sizeOf35 Tryz.zeroValue35 (by decide) (by decide) (by kernel_rfl) rfl rfl ?_)
      refine VO.le _ (Le.lits (t := 127) (xs := [lookF a, if true = true then 1 else 0]) rfl rfl) ?_
      refine VO.op rfl (OpE.call rfl hB rfl Tryz.call23 rfl (SpecN.spec (rl_errsL (by simp))) ?_)
      rintro _ rfl
      refine VO.le _ (Le.recast (t := 128) (y := avI (thrE a st)) rfl (fun w Z u h => by rw [← cau_e3 (x := if true = true then 1 else 0) (cau_s1 (by assumption))]; exact h)) ?_
      refine VO.ma rfl rfl rfl rfl ?_
      refine VO.nil ?_
      refine VC.sr ?_
      refine VO.ma rfl rfl rfl rfl ?_
      refine VO.nil ?_
      refine VC.seq ?_
      refine VC.sr ?_
      refine VO.mv rfl rfl rfl rfl ?_
      refine VO.val rfl rfl (OpV.eql rfl rfl rfl) ?_
      refine VO.nil ?_
      refine VC.cond rfl (fun k1b => ?_) (fun k1b => ?_)
      · have k1 := k1b
        try simp only [qqT, qqF, qqN, qqM, qqL, qqE] at k1
        refine VC.region ?_
        refine VO.mv rfl rfl rfl rfl ?_
        refine VO.op rfl (OpE.call rfl hB rfl Tryz.call28 rfl (SpecN.spec (rf_ByMachineOf hs (by omega))) ?_)
        rintro _ rfl
        refine VO.le _ (Le.recast (t := 132) (y := avL bm) rfl (fun w Z u h => by rw [← hbm, if_pos k1]; exact h)) ?_
        refine VO.ma rfl rfl rfl rfl ?_
        refine VO.nil ?_
        refine VC.sr ?_
        refine VO.val rfl rfl (OpV.build (pls := #[(0, 1), (1, 1)]) rfl Tryz.zeroValue39 Tryz.underlying39 (fun w => by kernel_rfl) rfl rfl) ?_
        refine VO.op rfl (OpE.alloc rfl hB rfl Tryz.zeroValue39 rfl ?_)
        intro g25
        refine VO.ma rfl rfl rfl rfl ?_
        refine VO.op rfl (OpE.store (i := 1) rfl hB rfl Tryz.sizeOf39 rfl rfl rfl rfl rfl rfl (Nle rfl) trivial ?_)
        refine VO.ma rfl rfl rfl rfl ?_
        refine VO.ma rfl rfl rfl rfl ?_
        refine VO.nil ?_
        refine VC.seq ?_
        refine VC.sr ?_
        refine VO.mv rfl rfl rfl rfl ?_
        refine VO.val rfl rfl (OpV.eql rfl rfl rfl) ?_
        refine VO.nil ?_
        refine VC.cond rfl (fun k2b => ?_) (fun k2b => ?_)
        · have k2 := k2b
          try simp only [qqT, qqF, qqN, qqM, qqL, qqE] at k2
          refine VC.region ?_
          refine VO.mv rfl rfl rfl rfl ?_
          refine VO.mv rfl rfl rfl rfl ?_
          refine VO.op rfl (OpE.call rfl hB rfl Tryz.call29 rfl (SpecN.spec (rf_SuspectOf hs)) ?_)
          rintro _ rfl
          refine VO.mv rfl rfl rfl rfl ?_
          refine VO.val rfl rfl (OpV.extract rfl rfl rfl) ?_
          refine VO.val rfl rfl (OpV.extract rfl rfl rfl) ?_
          refine VO.val rfl rfl (OpV.extract rfl rfl rfl) ?_
          refine VO.ma rfl rfl rfl rfl ?_
          refine VO.op rfl (OpE.store (i := 1) rfl hB rfl Tryz.sizeOf39 rfl rfl rfl rfl rfl rfl (Nle rfl) trivial ?_)
          refine VO.ma rfl rfl rfl rfl ?_
          refine VO.nil ?_
          refine VC.seq ?_
          refine VC.sr ?_
          refine VO.mv rfl rfl rfl rfl ?_
          refine VO.val rfl rfl (OpV.eql rfl rfl rfl) ?_
          refine VO.nil ?_
          refine VC.cond rfl (fun k3b => ?_) (fun k3b => ?_)
          · have k3 := k3b
            try simp only [qqT, qqF, qqN, qqM, qqL, qqE] at k3
            refine VC.region ?_
            refine VO.mv rfl rfl rfl rfl ?_
            refine VO.mv rfl rfl rfl rfl ?_
            refine VO.mv rfl rfl rfl rfl ?_
            refine VO.op rfl (OpE.call rfl hB rfl Tryz.call30 rfl (SpecN.spec (rf_WorseOf hs)) ?_)
            rintro _ rfl
            refine VO.ma rfl rfl rfl rfl ?_
            refine VO.nil ?_
            refine VC.sr ?_
            refine VO.ma rfl rfl rfl rfl ?_
            refine VO.nil ?_
            refine VC.seq ?_
            refine VC.sr ?_
            refine VO.mv rfl rfl rfl rfl ?_
            refine VO.val rfl rfl (OpV.eql rfl rfl rfl) ?_
            refine VO.nil ?_
            refine VC.cond rfl (fun k4b => ?_) (fun k4b => ?_)
            · have k4 := k4b
              try simp only [qqT, qqF, qqN, qqM, qqL, qqE] at k4
              refine VC.region ?_
              refine VO.mv rfl rfl rfl rfl ?_
              refine VO.mv rfl rfl rfl rfl ?_
              refine VO.op rfl (OpE.call rfl hB rfl Tryz.call31 rfl (SpecN.spec (rf_TrendOf hs (thr_ok k4).1 (thr_ok k4).2)) ?_)
              rintro _ rfl
              refine VO.mv rfl rfl rfl rfl ?_
              refine VO.val rfl rfl (OpV.extract rfl rfl rfl) ?_
              refine VO.val rfl rfl (OpV.extract rfl rfl rfl) ?_
              refine VO.ma rfl rfl rfl rfl ?_
              refine VO.ma rfl rfl rfl rfl ?_
              refine VO.nil ?_
              refine VC.seq ?_
              have htl := trL_bd a st
              refine VC.region ?_
              refine VO.mv rfl rfl rfl rfl ?_
              refine VO.mv rfl rfl rfl rfl ?_
              refine VO.val rfl rfl (OpV.eql rfl rfl rfl) ?_
              refine VO.le _ (Le.boolT (t := 159) rfl (decide_eq_true rfl)) ?_
              refine VO.mv rfl rfl rfl rfl ?_
              refine VO.opY rfl rfl rfl rfl rfl ?_
              refine OpE.val (W := NoB) (OpV.move (.inl rfl) rfl) rfl ?_
              refine VO.opY rfl rfl rfl rfl rfl ?_
              refine OpE.val (W := NoB) (OpV.move (.inl rfl) rfl) rfl ?_
              refine VO.opY rfl rfl rfl rfl rfl ?_
              refine OpE.call rfl hB rfl Tryz.call32 rfl (SpecN.spec (slices_Equal_pair (by omega) (by omega))) ?_
              rintro _ rfl
              refine VO.le _ (Le.boolT (t := 163) rfl (eqLs_self eqPr_self _)) ?_
              refine VO.val rfl rfl (OpV.pickT rfl rfl rfl rfl rfl) ?_
              refine VO.mv rfl rfl rfl rfl ?_
              refine VO.opY rfl rfl rfl rfl rfl ?_
              refine OpE.val (W := NoB) (OpV.move (.inl rfl) rfl) rfl ?_
              refine VO.opY rfl rfl rfl rfl rfl ?_
              refine OpE.val (W := NoB) (OpV.move (.inl rfl) rfl) rfl ?_
              refine VO.opY rfl rfl rfl rfl rfl ?_
              refine OpE.val (W := NoB) (OpV.eql rfl rfl rfl) rfl ?_
              refine VO.le _ (Le.boolT (t := 168) rfl (decide_eq_true rfl)) ?_
              refine VO.val rfl rfl (OpV.pickT rfl rfl rfl rfl rfl) ?_
              refine VO.mv rfl rfl rfl rfl ?_
              refine VO.opY rfl rfl rfl rfl rfl ?_
              refine OpE.val (W := NoB) (OpV.move (.inl rfl) rfl) rfl ?_
              refine VO.opY rfl rfl rfl rfl rfl ?_
              refine OpE.val (W := NoB) (OpV.move (.inl rfl) rfl) rfl ?_
              refine VO.opY rfl rfl rfl rfl rfl ?_
              refine OpE.val (W := NoB) (OpV.seql rfl rfl rfl) rfl ?_
              refine VO.le _ (Le.boolT (t := 173) rfl (by first | (rw [susR_eq k2]; exact sEq_refl _) | (rw [susR_no k2]; exact sEq_refl _))) ?_
              refine VO.val rfl rfl (OpV.pickT rfl rfl rfl rfl rfl) ?_
              refine VO.mv rfl rfl rfl rfl ?_
              refine VO.opY rfl rfl rfl rfl rfl ?_
              refine OpE.val (W := NoB) (OpV.loadK_own (i := 0) rfl hB Tryz.isAgg39 Tryz.sizeOf39 rfl rfl rfl (fun h => h)) rfl ?_
              refine VO.opY rfl rfl rfl rfl rfl ?_
              refine OpE.val (W := NoB) (OpV.loadK_own (i := 1) rfl hB Tryz.isAgg39 Tryz.sizeOf39 rfl rfl rfl (fun h => h)) rfl ?_
              refine VO.opY rfl rfl rfl rfl rfl ?_
              refine OpE.val (W := NoB) (OpV.aeql rfl Tryz.underlying39 (by kernel_rfl) (by kernel_rfl) rfl rfl (EqFs.int Tryz.underlying3 Tryz.isAgg3 rfl (by decide) (EqFs.int Tryz.underlying3 Tryz.isAgg3 rfl (by decide) (EqFs.nil _)))) rfl ?_
              refine VO.le _ (Le.boolT (t := 178) rfl (by first | (rw [susR_eq k2]; simp; done) | (rw [susR_no k2]; rfl))) ?_
              refine VO.val rfl rfl (OpV.pickT rfl rfl rfl rfl rfl) ?_
              refine VO.mv rfl rfl rfl rfl ?_
              refine VO.opY rfl rfl rfl rfl rfl ?_
              refine OpE.val (W := NoB) (OpV.move (.inl rfl) rfl) rfl ?_
              refine VO.opY rfl rfl rfl rfl rfl ?_
              refine OpE.val (W := NoB) (OpV.move (.inl rfl) rfl) rfl ?_
              refine VO.opY rfl rfl rfl rfl rfl ?_
              refine OpE.val (W := NoB) (OpV.beql rfl Tryz.underlying4 rfl rfl) rfl ?_
              refine VO.le _ (Le.boolT (t := 183) rfl (by first | (rw [susR_eq k2]; simp; done) | (rw [susR_no k2]; rfl))) ?_
              refine VO.val rfl rfl (OpV.pickT rfl rfl rfl rfl rfl) ?_
              refine VO.mv rfl rfl rfl rfl ?_
              refine VO.opY rfl rfl rfl rfl rfl ?_
              refine OpE.val (W := NoB) (OpV.move (.inl rfl) rfl) rfl ?_
              refine VO.opY rfl rfl rfl rfl rfl ?_
              refine OpE.val (W := NoB) (OpV.move (.inl rfl) rfl) rfl ?_
              refine VO.opY rfl rfl rfl rfl rfl ?_
              refine OpE.val (W := NoB) (OpV.eql rfl rfl rfl) rfl ?_
              refine VO.le _ (Le.boolT (t := 188) rfl (decide_eq_true rfl)) ?_
              refine VO.val rfl rfl (OpV.pickT rfl rfl rfl rfl rfl) ?_
              refine VO.mv rfl rfl rfl rfl ?_
              refine VO.opY rfl rfl rfl rfl rfl ?_
              refine OpE.val (W := NoB) (OpV.move (.inl rfl) rfl) rfl ?_
              refine VO.opY rfl rfl rfl rfl rfl ?_
              refine OpE.val (W := NoB) (OpV.move (.inl rfl) rfl) rfl ?_
              refine VO.opY rfl rfl rfl rfl rfl ?_
              refine OpE.val (W := NoB) (OpV.beql rfl Tryz.underlying4 rfl rfl) rfl ?_
              refine VO.le _ (Le.boolT (t := 193) rfl (by first | (rw [worV, if_pos k3]; simp; done) | (rw [worV, if_neg k3]; rfl))) ?_
              refine VO.val rfl rfl (OpV.pickT rfl rfl rfl rfl rfl) ?_
              refine VO.mv rfl rfl rfl rfl ?_
              refine VO.opY rfl rfl rfl rfl rfl ?_
              refine OpE.val (W := NoB) (OpV.move (.inl rfl) rfl) rfl ?_
              refine VO.opY rfl rfl rfl rfl rfl ?_
              refine OpE.val (W := NoB) (OpV.move (.inl rfl) rfl) rfl ?_
              refine VO.opY rfl rfl rfl rfl rfl ?_
              refine OpE.val (W := NoB) (OpV.eql rfl rfl rfl) rfl ?_
              refine VO.le _ (Le.boolT (t := 198) rfl (decide_eq_true rfl)) ?_
              refine VO.val rfl rfl (OpV.pickT rfl rfl rfl rfl rfl) ?_
              refine VO.mv rfl rfl rfl rfl ?_
              refine VO.opY rfl rfl rfl rfl rfl ?_
              refine OpE.val (W := NoB) (OpV.move (.inl rfl) rfl) rfl ?_
              refine VO.opY rfl rfl rfl rfl rfl ?_
              refine OpE.val (W := NoB) (OpV.move (.inl rfl) rfl) rfl ?_
              refine VO.opY rfl rfl rfl rfl rfl ?_
              refine OpE.call rfl hB rfl Tryz.call33 rfl (SpecN.spec (slices_Equal_int (by omega) (by omega))) ?_
              rintro _ rfl
              refine VO.le _ (Le.boolT (t := 203) rfl (decide_eq_true rfl)) ?_
              refine VO.val rfl rfl (OpV.pickT rfl rfl rfl rfl rfl) ?_
              refine VO.mv rfl rfl rfl rfl ?_
              refine VO.opY rfl rfl rfl rfl rfl ?_
              refine OpE.call rfl hB rfl Tryz.call34 rfl (SpecN.spec (rl_looked)) ?_
              rintro _ rfl
              refine VO.val rfl rfl (OpV.pickT rfl rfl rfl rfl rfl) ?_
              refine VO.ma rfl rfl rfl rfl ?_
              refine VO.nil ?_
              refine VC.ret ?_
              exact And.intro rfl rfl
            · have k4 := k4b
              try simp only [qqT, qqF, qqN, qqM, qqL, qqE] at k4
              have e4 := thr_no k4
              refine VC.le _ (Le.recast (t := 28) (y := avInts (trL a st)) rfl (fun w Z u h => by rw [e4.2, h.eq_v]; exact .nil _ _)) ?_
              refine VC.le _ (Le.recast (t := 22) (y := avI (trE a st)) rfl (fun w Z u h => by rw [e4.1]; exact h)) ?_
              refine VC.skip ?_
              refine VC.seq ?_
              have htl := trL_bd a st
              refine VC.region ?_
              refine VO.mv rfl rfl rfl rfl ?_
              refine VO.mv rfl rfl rfl rfl ?_
              refine VO.val rfl rfl (OpV.eql rfl rfl rfl) ?_
              refine VO.le _ (Le.boolT (t := 159) rfl (decide_eq_true rfl)) ?_
              refine VO.mv rfl rfl rfl rfl ?_
              refine VO.opY rfl rfl rfl rfl rfl ?_
              refine OpE.val (W := NoB) (OpV.move (.inl rfl) rfl) rfl ?_
              refine VO.opY rfl rfl rfl rfl rfl ?_
              refine OpE.val (W := NoB) (OpV.move (.inl rfl) rfl) rfl ?_
              refine VO.opY rfl rfl rfl rfl rfl ?_
              refine OpE.call rfl hB rfl Tryz.call32 rfl (SpecN.spec (slices_Equal_pair (by omega) (by omega))) ?_
              rintro _ rfl
              refine VO.le _ (Le.boolT (t := 163) rfl (eqLs_self eqPr_self _)) ?_
              refine VO.val rfl rfl (OpV.pickT rfl rfl rfl rfl rfl) ?_
              refine VO.mv rfl rfl rfl rfl ?_
              refine VO.opY rfl rfl rfl rfl rfl ?_
              refine OpE.val (W := NoB) (OpV.move (.inl rfl) rfl) rfl ?_
              refine VO.opY rfl rfl rfl rfl rfl ?_
              refine OpE.val (W := NoB) (OpV.move (.inl rfl) rfl) rfl ?_
              refine VO.opY rfl rfl rfl rfl rfl ?_
              refine OpE.val (W := NoB) (OpV.eql rfl rfl rfl) rfl ?_
              refine VO.le _ (Le.boolT (t := 168) rfl (decide_eq_true rfl)) ?_
              refine VO.val rfl rfl (OpV.pickT rfl rfl rfl rfl rfl) ?_
              refine VO.mv rfl rfl rfl rfl ?_
              refine VO.opY rfl rfl rfl rfl rfl ?_
              refine OpE.val (W := NoB) (OpV.move (.inl rfl) rfl) rfl ?_
              refine VO.opY rfl rfl rfl rfl rfl ?_
              refine OpE.val (W := NoB) (OpV.move (.inl rfl) rfl) rfl ?_
              refine VO.opY rfl rfl rfl rfl rfl ?_
              refine OpE.val (W := NoB) (OpV.seql rfl rfl rfl) rfl ?_
              refine VO.le _ (Le.boolT (t := 173) rfl (by first | (rw [susR_eq k2]; exact sEq_refl _) | (rw [susR_no k2]; exact sEq_refl _))) ?_
              refine VO.val rfl rfl (OpV.pickT rfl rfl rfl rfl rfl) ?_
              refine VO.mv rfl rfl rfl rfl ?_
              refine VO.opY rfl rfl rfl rfl rfl ?_
              refine OpE.val (W := NoB) (OpV.loadK_own (i := 0) rfl hB Tryz.isAgg39 Tryz.sizeOf39 rfl rfl rfl (fun h => h)) rfl ?_
              refine VO.opY rfl rfl rfl rfl rfl ?_
              refine OpE.val (W := NoB) (OpV.loadK_own (i := 1) rfl hB Tryz.isAgg39 Tryz.sizeOf39 rfl rfl rfl (fun h => h)) rfl ?_
              refine VO.opY rfl rfl rfl rfl rfl ?_
              refine OpE.val (W := NoB) (OpV.aeql rfl Tryz.underlying39 (by kernel_rfl) (by kernel_rfl) rfl rfl (EqFs.int Tryz.underlying3 Tryz.isAgg3 rfl (by decide) (EqFs.int Tryz.underlying3 Tryz.isAgg3 rfl (by decide) (EqFs.nil _)))) rfl ?_
              refine VO.le _ (Le.boolT (t := 178) rfl (by first | (rw [susR_eq k2]; simp; done) | (rw [susR_no k2]; rfl))) ?_
              refine VO.val rfl rfl (OpV.pickT rfl rfl rfl rfl rfl) ?_
              refine VO.mv rfl rfl rfl rfl ?_
              refine VO.opY rfl rfl rfl rfl rfl ?_
              refine OpE.val (W := NoB) (OpV.move (.inl rfl) rfl) rfl ?_
              refine VO.opY rfl rfl rfl rfl rfl ?_
              refine OpE.val (W := NoB) (OpV.move (.inl rfl) rfl) rfl ?_
              refine VO.opY rfl rfl rfl rfl rfl ?_
              refine OpE.val (W := NoB) (OpV.beql rfl Tryz.underlying4 rfl rfl) rfl ?_
              refine VO.le _ (Le.boolT (t := 183) rfl (by first | (rw [susR_eq k2]; simp; done) | (rw [susR_no k2]; rfl))) ?_
              refine VO.val rfl rfl (OpV.pickT rfl rfl rfl rfl rfl) ?_
              refine VO.mv rfl rfl rfl rfl ?_
              refine VO.opY rfl rfl rfl rfl rfl ?_
              refine OpE.val (W := NoB) (OpV.move (.inl rfl) rfl) rfl ?_
              refine VO.opY rfl rfl rfl rfl rfl ?_
              refine OpE.val (W := NoB) (OpV.move (.inl rfl) rfl) rfl ?_
              refine VO.opY rfl rfl rfl rfl rfl ?_
              refine OpE.val (W := NoB) (OpV.eql rfl rfl rfl) rfl ?_
              refine VO.le _ (Le.boolT (t := 188) rfl (decide_eq_true rfl)) ?_
              refine VO.val rfl rfl (OpV.pickT rfl rfl rfl rfl rfl) ?_
              refine VO.mv rfl rfl rfl rfl ?_
              refine VO.opY rfl rfl rfl rfl rfl ?_
              refine OpE.val (W := NoB) (OpV.move (.inl rfl) rfl) rfl ?_
              refine VO.opY rfl rfl rfl rfl rfl ?_
              refine OpE.val (W := NoB) (OpV.move (.inl rfl) rfl) rfl ?_
              refine VO.opY rfl rfl rfl rfl rfl ?_
              refine OpE.val (W := NoB) (OpV.beql rfl Tryz.underlying4 rfl rfl) rfl ?_
              refine VO.le _ (Le.boolT (t := 193) rfl (by first | (rw [worV, if_pos k3]; simp; done) | (rw [worV, if_neg k3]; rfl))) ?_
              refine VO.val rfl rfl (OpV.pickT rfl rfl rfl rfl rfl) ?_
              refine VO.mv rfl rfl rfl rfl ?_
              refine VO.opY rfl rfl rfl rfl rfl ?_
              refine OpE.val (W := NoB) (OpV.move (.inl rfl) rfl) rfl ?_
              refine VO.opY rfl rfl rfl rfl rfl ?_
              refine OpE.val (W := NoB) (OpV.move (.inl rfl) rfl) rfl ?_
              refine VO.opY rfl rfl rfl rfl rfl ?_
              refine OpE.val (W := NoB) (OpV.eql rfl rfl rfl) rfl ?_
              refine VO.le _ (Le.boolT (t := 198) rfl (decide_eq_true rfl)) ?_
              refine VO.val rfl rfl (OpV.pickT rfl rfl rfl rfl rfl) ?_
              refine VO.mv rfl rfl rfl rfl ?_
              refine VO.opY rfl rfl rfl rfl rfl ?_
              refine OpE.val (W := NoB) (OpV.move (.inl rfl) rfl) rfl ?_
              refine VO.opY rfl rfl rfl rfl rfl ?_
              refine OpE.val (W := NoB) (OpV.move (.inl rfl) rfl) rfl ?_
              refine VO.opY rfl rfl rfl rfl rfl ?_
              refine OpE.call rfl hB rfl Tryz.call33 rfl (SpecN.spec (slices_Equal_int (by omega) (by omega))) ?_
              rintro _ rfl
              refine VO.le _ (Le.boolT (t := 203) rfl (decide_eq_true rfl)) ?_
              refine VO.val rfl rfl (OpV.pickT rfl rfl rfl rfl rfl) ?_
              refine VO.mv rfl rfl rfl rfl ?_
              refine VO.opY rfl rfl rfl rfl rfl ?_
              refine OpE.call rfl hB rfl Tryz.call34 rfl (SpecN.spec (rl_looked)) ?_
              rintro _ rfl
              refine VO.val rfl rfl (OpV.pickT rfl rfl rfl rfl rfl) ?_
              refine VO.ma rfl rfl rfl rfl ?_
              refine VO.nil ?_
              refine VC.ret ?_
              exact And.intro rfl rfl
          · have k3 := k3b
            try simp only [qqT, qqF, qqN, qqM, qqL, qqE] at k3
            refine VC.skip ?_
            refine VC.sr ?_
            refine VO.ma rfl rfl rfl rfl ?_
            refine VO.nil ?_
            refine VC.seq ?_
            refine VC.sr ?_
            refine VO.mv rfl rfl rfl rfl ?_
            refine VO.val rfl rfl (OpV.eql rfl rfl rfl) ?_
            refine VO.nil ?_
            refine VC.cond rfl (fun k4b => ?_) (fun k4b => ?_)
            · have k4 := k4b
              try simp only [qqT, qqF, qqN, qqM, qqL, qqE] at k4
              refine VC.region ?_
              refine VO.mv rfl rfl rfl rfl ?_
              refine VO.mv rfl rfl rfl rfl ?_
              refine VO.op rfl (OpE.call rfl hB rfl Tryz.call31 rfl (SpecN.spec (rf_TrendOf hs (thr_ok k4).1 (thr_ok k4).2)) ?_)
              rintro _ rfl
              refine VO.mv rfl rfl rfl rfl ?_
              refine VO.val rfl rfl (OpV.extract rfl rfl rfl) ?_
              refine VO.val rfl rfl (OpV.extract rfl rfl rfl) ?_
              refine VO.ma rfl rfl rfl rfl ?_
              refine VO.ma rfl rfl rfl rfl ?_
              refine VO.nil ?_
              refine VC.seq ?_
              have htl := trL_bd a st
              refine VC.region ?_
              refine VO.mv rfl rfl rfl rfl ?_
              refine VO.mv rfl rfl rfl rfl ?_
              refine VO.val rfl rfl (OpV.eql rfl rfl rfl) ?_
              refine VO.le _ (Le.boolT (t := 159) rfl (decide_eq_true rfl)) ?_
              refine VO.mv rfl rfl rfl rfl ?_
              refine VO.opY rfl rfl rfl rfl rfl ?_
              refine OpE.val (W := NoB) (OpV.move (.inl rfl) rfl) rfl ?_
              refine VO.opY rfl rfl rfl rfl rfl ?_
              refine OpE.val (W := NoB) (OpV.move (.inl rfl) rfl) rfl ?_
              refine VO.opY rfl rfl rfl rfl rfl ?_
              refine OpE.call rfl hB rfl Tryz.call32 rfl (SpecN.spec (slices_Equal_pair (by omega) (by omega))) ?_
              rintro _ rfl
              refine VO.le _ (Le.boolT (t := 163) rfl (eqLs_self eqPr_self _)) ?_
              refine VO.val rfl rfl (OpV.pickT rfl rfl rfl rfl rfl) ?_
              refine VO.mv rfl rfl rfl rfl ?_
              refine VO.opY rfl rfl rfl rfl rfl ?_
              refine OpE.val (W := NoB) (OpV.move (.inl rfl) rfl) rfl ?_
              refine VO.opY rfl rfl rfl rfl rfl ?_
              refine OpE.val (W := NoB) (OpV.move (.inl rfl) rfl) rfl ?_
              refine VO.opY rfl rfl rfl rfl rfl ?_
              refine OpE.val (W := NoB) (OpV.eql rfl rfl rfl) rfl ?_
              refine VO.le _ (Le.boolT (t := 168) rfl (decide_eq_true rfl)) ?_
              refine VO.val rfl rfl (OpV.pickT rfl rfl rfl rfl rfl) ?_
              refine VO.mv rfl rfl rfl rfl ?_
              refine VO.opY rfl rfl rfl rfl rfl ?_
              refine OpE.val (W := NoB) (OpV.move (.inl rfl) rfl) rfl ?_
              refine VO.opY rfl rfl rfl rfl rfl ?_
              refine OpE.val (W := NoB) (OpV.move (.inl rfl) rfl) rfl ?_
              refine VO.opY rfl rfl rfl rfl rfl ?_
              refine OpE.val (W := NoB) (OpV.seql rfl rfl rfl) rfl ?_
              refine VO.le _ (Le.boolT (t := 173) rfl (by first | (rw [susR_eq k2]; exact sEq_refl _) | (rw [susR_no k2]; exact sEq_refl _))) ?_
              refine VO.val rfl rfl (OpV.pickT rfl rfl rfl rfl rfl) ?_
              refine VO.mv rfl rfl rfl rfl ?_
              refine VO.opY rfl rfl rfl rfl rfl ?_
              refine OpE.val (W := NoB) (OpV.loadK_own (i := 0) rfl hB Tryz.isAgg39 Tryz.sizeOf39 rfl rfl rfl (fun h => h)) rfl ?_
              refine VO.opY rfl rfl rfl rfl rfl ?_
              refine OpE.val (W := NoB) (OpV.loadK_own (i := 1) rfl hB Tryz.isAgg39 Tryz.sizeOf39 rfl rfl rfl (fun h => h)) rfl ?_
              refine VO.opY rfl rfl rfl rfl rfl ?_
              refine OpE.val (W := NoB) (OpV.aeql rfl Tryz.underlying39 (by kernel_rfl) (by kernel_rfl) rfl rfl (EqFs.int Tryz.underlying3 Tryz.isAgg3 rfl (by decide) (EqFs.int Tryz.underlying3 Tryz.isAgg3 rfl (by decide) (EqFs.nil _)))) rfl ?_
              refine VO.le _ (Le.boolT (t := 178) rfl (by first | (rw [susR_eq k2]; simp; done) | (rw [susR_no k2]; rfl))) ?_
              refine VO.val rfl rfl (OpV.pickT rfl rfl rfl rfl rfl) ?_
              refine VO.mv rfl rfl rfl rfl ?_
              refine VO.opY rfl rfl rfl rfl rfl ?_
              refine OpE.val (W := NoB) (OpV.move (.inl rfl) rfl) rfl ?_
              refine VO.opY rfl rfl rfl rfl rfl ?_
              refine OpE.val (W := NoB) (OpV.move (.inl rfl) rfl) rfl ?_
              refine VO.opY rfl rfl rfl rfl rfl ?_
              refine OpE.val (W := NoB) (OpV.beql rfl Tryz.underlying4 rfl rfl) rfl ?_
              refine VO.le _ (Le.boolT (t := 183) rfl (by first | (rw [susR_eq k2]; simp; done) | (rw [susR_no k2]; rfl))) ?_
              refine VO.val rfl rfl (OpV.pickT rfl rfl rfl rfl rfl) ?_
              refine VO.mv rfl rfl rfl rfl ?_
              refine VO.opY rfl rfl rfl rfl rfl ?_
              refine OpE.val (W := NoB) (OpV.move (.inl rfl) rfl) rfl ?_
              refine VO.opY rfl rfl rfl rfl rfl ?_
              refine OpE.val (W := NoB) (OpV.move (.inl rfl) rfl) rfl ?_
              refine VO.opY rfl rfl rfl rfl rfl ?_
              refine OpE.val (W := NoB) (OpV.eql rfl rfl rfl) rfl ?_
              refine VO.le _ (Le.boolT (t := 188) rfl (decide_eq_true rfl)) ?_
              refine VO.val rfl rfl (OpV.pickT rfl rfl rfl rfl rfl) ?_
              refine VO.mv rfl rfl rfl rfl ?_
              refine VO.opY rfl rfl rfl rfl rfl ?_
              refine OpE.val (W := NoB) (OpV.move (.inl rfl) rfl) rfl ?_
              refine VO.opY rfl rfl rfl rfl rfl ?_
              refine OpE.val (W := NoB) (OpV.move (.inl rfl) rfl) rfl ?_
              refine VO.opY rfl rfl rfl rfl rfl ?_
              refine OpE.val (W := NoB) (OpV.beql rfl Tryz.underlying4 rfl rfl) rfl ?_
              refine VO.le _ (Le.boolT (t := 193) rfl (by first | (rw [worV, if_pos k3]; simp; done) | (rw [worV, if_neg k3]; rfl))) ?_
              refine VO.val rfl rfl (OpV.pickT rfl rfl rfl rfl rfl) ?_
              refine VO.mv rfl rfl rfl rfl ?_
              refine VO.opY rfl rfl rfl rfl rfl ?_
              refine OpE.val (W := NoB) (OpV.move (.inl rfl) rfl) rfl ?_
              refine VO.opY rfl rfl rfl rfl rfl ?_
              refine OpE.val (W := NoB) (OpV.move (.inl rfl) rfl) rfl ?_
              refine VO.opY rfl rfl rfl rfl rfl ?_
              refine OpE.val (W := NoB) (OpV.eql rfl rfl rfl) rfl ?_
              refine VO.le _ (Le.boolT (t := 198) rfl (decide_eq_true rfl)) ?_
              refine VO.val rfl rfl (OpV.pickT rfl rfl rfl rfl rfl) ?_
              refine VO.mv rfl rfl rfl rfl ?_
              refine VO.opY rfl rfl rfl rfl rfl ?_
              refine OpE.val (W := NoB) (OpV.move (.inl rfl) rfl) rfl ?_
              refine VO.opY rfl rfl rfl rfl rfl ?_
              refine OpE.val (W := NoB) (OpV.move (.inl rfl) rfl) rfl ?_
              refine VO.opY rfl rfl rfl rfl rfl ?_
              refine OpE.call rfl hB rfl Tryz.call33 rfl (SpecN.spec (slices_Equal_int (by omega) (by omega))) ?_
              rintro _ rfl
              refine VO.le _ (Le.boolT (t := 203) rfl (decide_eq_true rfl)) ?_
              refine VO.val rfl rfl (OpV.pickT rfl rfl rfl rfl rfl) ?_
              refine VO.mv rfl rfl rfl rfl ?_
              refine VO.opY rfl rfl rfl rfl rfl ?_
              refine OpE.call rfl hB rfl Tryz.call34 rfl (SpecN.spec (rl_looked)) ?_
              rintro _ rfl
              refine VO.val rfl rfl (OpV.pickT rfl rfl rfl rfl rfl) ?_
              refine VO.ma rfl rfl rfl rfl ?_
              refine VO.nil ?_
              refine VC.ret ?_
              exact And.intro rfl rfl
            · have k4 := k4b
              try simp only [qqT, qqF, qqN, qqM, qqL, qqE] at k4
              have e4 := thr_no k4
              refine VC.le _ (Le.recast (t := 28) (y := avInts (trL a st)) rfl (fun w Z u h => by rw [e4.2, h.eq_v]; exact .nil _ _)) ?_
              refine VC.le _ (Le.recast (t := 22) (y := avI (trE a st)) rfl (fun w Z u h => by rw [e4.1]; exact h)) ?_
              refine VC.skip ?_
              refine VC.seq ?_
              have htl := trL_bd a st
              refine VC.region ?_
              refine VO.mv rfl rfl rfl rfl ?_
              refine VO.mv rfl rfl rfl rfl ?_
              refine VO.val rfl rfl (OpV.eql rfl rfl rfl) ?_
              refine VO.le _ (Le.boolT (t := 159) rfl (decide_eq_true rfl)) ?_
              refine VO.mv rfl rfl rfl rfl ?_
              refine VO.opY rfl rfl rfl rfl rfl ?_
              refine OpE.val (W := NoB) (OpV.move (.inl rfl) rfl) rfl ?_
              refine VO.opY rfl rfl rfl rfl rfl ?_
              refine OpE.val (W := NoB) (OpV.move (.inl rfl) rfl) rfl ?_
              refine VO.opY rfl rfl rfl rfl rfl ?_
              refine OpE.call rfl hB rfl Tryz.call32 rfl (SpecN.spec (slices_Equal_pair (by omega) (by omega))) ?_
              rintro _ rfl
              refine VO.le _ (Le.boolT (t := 163) rfl (eqLs_self eqPr_self _)) ?_
              refine VO.val rfl rfl (OpV.pickT rfl rfl rfl rfl rfl) ?_
              refine VO.mv rfl rfl rfl rfl ?_
              refine VO.opY rfl rfl rfl rfl rfl ?_
              refine OpE.val (W := NoB) (OpV.move (.inl rfl) rfl) rfl ?_
              refine VO.opY rfl rfl rfl rfl rfl ?_
              refine OpE.val (W := NoB) (OpV.move (.inl rfl) rfl) rfl ?_
              refine VO.opY rfl rfl rfl rfl rfl ?_
              refine OpE.val (W := NoB) (OpV.eql rfl rfl rfl) rfl ?_
              refine VO.le _ (Le.boolT (t := 168) rfl (decide_eq_true rfl)) ?_
              refine VO.val rfl rfl (OpV.pickT rfl rfl rfl rfl rfl) ?_
              refine VO.mv rfl rfl rfl rfl ?_
              refine VO.opY rfl rfl rfl rfl rfl ?_
              refine OpE.val (W := NoB) (OpV.move (.inl rfl) rfl) rfl ?_
              refine VO.opY rfl rfl rfl rfl rfl ?_
              refine OpE.val (W := NoB) (OpV.move (.inl rfl) rfl) rfl ?_
              refine VO.opY rfl rfl rfl rfl rfl ?_
              refine OpE.val (W := NoB) (OpV.seql rfl rfl rfl) rfl ?_
              refine VO.le _ (Le.boolT (t := 173) rfl (by first | (rw [susR_eq k2]; exact sEq_refl _) | (rw [susR_no k2]; exact sEq_refl _))) ?_
              refine VO.val rfl rfl (OpV.pickT rfl rfl rfl rfl rfl) ?_
              refine VO.mv rfl rfl rfl rfl ?_
              refine VO.opY rfl rfl rfl rfl rfl ?_
              refine OpE.val (W := NoB) (OpV.loadK_own (i := 0) rfl hB Tryz.isAgg39 Tryz.sizeOf39 rfl rfl rfl (fun h => h)) rfl ?_
              refine VO.opY rfl rfl rfl rfl rfl ?_
              refine OpE.val (W := NoB) (OpV.loadK_own (i := 1) rfl hB Tryz.isAgg39 Tryz.sizeOf39 rfl rfl rfl (fun h => h)) rfl ?_
              refine VO.opY rfl rfl rfl rfl rfl ?_
              refine OpE.val (W := NoB) (OpV.aeql rfl Tryz.underlying39 (by kernel_rfl) (by kernel_rfl) rfl rfl (EqFs.int Tryz.underlying3 Tryz.isAgg3 rfl (by decide) (EqFs.int Tryz.underlying3 Tryz.isAgg3 rfl (by decide) (EqFs.nil _)))) rfl ?_
              refine VO.le _ (Le.boolT (t := 178) rfl (by first | (rw [susR_eq k2]; simp; done) | (rw [susR_no k2]; rfl))) ?_
              refine VO.val rfl rfl (OpV.pickT rfl rfl rfl rfl rfl) ?_
              refine VO.mv rfl rfl rfl rfl ?_
              refine VO.opY rfl rfl rfl rfl rfl ?_
              refine OpE.val (W := NoB) (OpV.move (.inl rfl) rfl) rfl ?_
              refine VO.opY rfl rfl rfl rfl rfl ?_
              refine OpE.val (W := NoB) (OpV.move (.inl rfl) rfl) rfl ?_
              refine VO.opY rfl rfl rfl rfl rfl ?_
              refine OpE.val (W := NoB) (OpV.beql rfl Tryz.underlying4 rfl rfl) rfl ?_
              refine VO.le _ (Le.boolT (t := 183) rfl (by first | (rw [susR_eq k2]; simp; done) | (rw [susR_no k2]; rfl))) ?_
              refine VO.val rfl rfl (OpV.pickT rfl rfl rfl rfl rfl) ?_
              refine VO.mv rfl rfl rfl rfl ?_
              refine VO.opY rfl rfl rfl rfl rfl ?_
              refine OpE.val (W := NoB) (OpV.move (.inl rfl) rfl) rfl ?_
              refine VO.opY rfl rfl rfl rfl rfl ?_
              refine OpE.val (W := NoB) (OpV.move (.inl rfl) rfl) rfl ?_
              refine VO.opY rfl rfl rfl rfl rfl ?_
              refine OpE.val (W := NoB) (OpV.eql rfl rfl rfl) rfl ?_
              refine VO.le _ (Le.boolT (t := 188) rfl (decide_eq_true rfl)) ?_
              refine VO.val rfl rfl (OpV.pickT rfl rfl rfl rfl rfl) ?_
              refine VO.mv rfl rfl rfl rfl ?_
              refine VO.opY rfl rfl rfl rfl rfl ?_
              refine OpE.val (W := NoB) (OpV.move (.inl rfl) rfl) rfl ?_
              refine VO.opY rfl rfl rfl rfl rfl ?_
              refine OpE.val (W := NoB) (OpV.move (.inl rfl) rfl) rfl ?_
              refine VO.opY rfl rfl rfl rfl rfl ?_
              refine OpE.val (W := NoB) (OpV.beql rfl Tryz.underlying4 rfl rfl) rfl ?_
              refine VO.le _ (Le.boolT (t := 193) rfl (by first | (rw [worV, if_pos k3]; simp; done) | (rw [worV, if_neg k3]; rfl))) ?_
              refine VO.val rfl rfl (OpV.pickT rfl rfl rfl rfl rfl) ?_
              refine VO.mv rfl rfl rfl rfl ?_
              refine VO.opY rfl rfl rfl rfl rfl ?_
              refine OpE.val (W := NoB) (OpV.move (.inl rfl) rfl) rfl ?_
              refine VO.opY rfl rfl rfl rfl rfl ?_
              refine OpE.val (W := NoB) (OpV.move (.inl rfl) rfl) rfl ?_
              refine VO.opY rfl rfl rfl rfl rfl ?_
              refine OpE.val (W := NoB) (OpV.eql rfl rfl rfl) rfl ?_
              refine VO.le _ (Le.boolT (t := 198) rfl (decide_eq_true rfl)) ?_
              refine VO.val rfl rfl (OpV.pickT rfl rfl rfl rfl rfl) ?_
              refine VO.mv rfl rfl rfl rfl ?_
              refine VO.opY rfl rfl rfl rfl rfl ?_
              refine OpE.val (W := NoB) (OpV.move (.inl rfl) rfl) rfl ?_
              refine VO.opY rfl rfl rfl rfl rfl ?_
              refine OpE.val (W := NoB) (OpV.move (.inl rfl) rfl) rfl ?_
              refine VO.opY rfl rfl rfl rfl rfl ?_
              refine OpE.call rfl hB rfl Tryz.call33 rfl (SpecN.spec (slices_Equal_int (by omega) (by omega))) ?_
              rintro _ rfl
              refine VO.le _ (Le.boolT (t := 203) rfl (decide_eq_true rfl)) ?_
              refine VO.val rfl rfl (OpV.pickT rfl rfl rfl rfl rfl) ?_
              refine VO.mv rfl rfl rfl rfl ?_
              refine VO.opY rfl rfl rfl rfl rfl ?_
              refine OpE.call rfl hB rfl Tryz.call34 rfl (SpecN.spec (rl_looked)) ?_
              rintro _ rfl
              refine VO.val rfl rfl (OpV.pickT rfl rfl rfl rfl rfl) ?_
              refine VO.ma rfl rfl rfl rfl ?_
              refine VO.nil ?_
              refine VC.ret ?_
              exact And.intro rfl rfl
        · have k2 := k2b
          try simp only [qqT, qqF, qqN, qqM, qqL, qqE] at k2
          refine VC.skip ?_
          refine VC.seq ?_
          refine VC.sr ?_
          refine VO.mv rfl rfl rfl rfl ?_
          refine VO.val rfl rfl (OpV.eql rfl rfl rfl) ?_
          refine VO.nil ?_
          refine VC.cond rfl (fun k3b => ?_) (fun k3b => ?_)
          · have k3 := k3b
            try simp only [qqT, qqF, qqN, qqM, qqL, qqE] at k3
            refine VC.region ?_
            refine VO.mv rfl rfl rfl rfl ?_
            refine VO.mv rfl rfl rfl rfl ?_
            refine VO.mv rfl rfl rfl rfl ?_
            refine VO.op rfl (OpE.call rfl hB rfl Tryz.call30 rfl (SpecN.spec (rf_WorseOf hs)) ?_)
            rintro _ rfl
            refine VO.ma rfl rfl rfl rfl ?_
            refine VO.nil ?_
            refine VC.sr ?_
            refine VO.ma rfl rfl rfl rfl ?_
            refine VO.nil ?_
            refine VC.seq ?_
            refine VC.sr ?_
            refine VO.mv rfl rfl rfl rfl ?_
            refine VO.val rfl rfl (OpV.eql rfl rfl rfl) ?_
            refine VO.nil ?_
            refine VC.cond rfl (fun k4b => ?_) (fun k4b => ?_)
            · have k4 := k4b
              try simp only [qqT, qqF, qqN, qqM, qqL, qqE] at k4
              refine VC.region ?_
              refine VO.mv rfl rfl rfl rfl ?_
              refine VO.mv rfl rfl rfl rfl ?_
              refine VO.op rfl (OpE.call rfl hB rfl Tryz.call31 rfl (SpecN.spec (rf_TrendOf hs (thr_ok k4).1 (thr_ok k4).2)) ?_)
              rintro _ rfl
              refine VO.mv rfl rfl rfl rfl ?_
              refine VO.val rfl rfl (OpV.extract rfl rfl rfl) ?_
              refine VO.val rfl rfl (OpV.extract rfl rfl rfl) ?_
              refine VO.ma rfl rfl rfl rfl ?_
              refine VO.ma rfl rfl rfl rfl ?_
              refine VO.nil ?_
              refine VC.seq ?_
              have htl := trL_bd a st
              refine VC.region ?_
              refine VO.mv rfl rfl rfl rfl ?_
              refine VO.mv rfl rfl rfl rfl ?_
              refine VO.val rfl rfl (OpV.eql rfl rfl rfl) ?_
              refine VO.le _ (Le.boolT (t := 159) rfl (decide_eq_true rfl)) ?_
              refine VO.mv rfl rfl rfl rfl ?_
              refine VO.opY rfl rfl rfl rfl rfl ?_
              refine OpE.val (W := NoB) (OpV.move (.inl rfl) rfl) rfl ?_
              refine VO.opY rfl rfl rfl rfl rfl ?_
              refine OpE.val (W := NoB) (OpV.move (.inl rfl) rfl) rfl ?_
              refine VO.opY rfl rfl rfl rfl rfl ?_
              refine OpE.call rfl hB rfl Tryz.call32 rfl (SpecN.spec (slices_Equal_pair (by omega) (by omega))) ?_
              rintro _ rfl
              refine VO.le _ (Le.boolT (t := 163) rfl (eqLs_self eqPr_self _)) ?_
              refine VO.val rfl rfl (OpV.pickT rfl rfl rfl rfl rfl) ?_
              refine VO.mv rfl rfl rfl rfl ?_
              refine VO.opY rfl rfl rfl rfl rfl ?_
              refine OpE.val (W := NoB) (OpV.move (.inl rfl) rfl) rfl ?_
              refine VO.opY rfl rfl rfl rfl rfl ?_
              refine OpE.val (W := NoB) (OpV.move (.inl rfl) rfl) rfl ?_
              refine VO.opY rfl rfl rfl rfl rfl ?_
              refine OpE.val (W := NoB) (OpV.eql rfl rfl rfl) rfl ?_
              refine VO.le _ (Le.boolT (t := 168) rfl (decide_eq_true rfl)) ?_
              refine VO.val rfl rfl (OpV.pickT rfl rfl rfl rfl rfl) ?_
              refine VO.mv rfl rfl rfl rfl ?_
              refine VO.opY rfl rfl rfl rfl rfl ?_
              refine OpE.val (W := NoB) (OpV.move (.inl rfl) rfl) rfl ?_
              refine VO.opY rfl rfl rfl rfl rfl ?_
              refine OpE.val (W := NoB) (OpV.move (.inl rfl) rfl) rfl ?_
              refine VO.opY rfl rfl rfl rfl rfl ?_
              refine OpE.val (W := NoB) (OpV.seql rfl rfl rfl) rfl ?_
              refine VO.le _ (Le.boolT (t := 173) rfl (by first | (rw [susR_eq k2]; exact sEq_refl _) | (rw [susR_no k2]; exact sEq_refl _))) ?_
              refine VO.val rfl rfl (OpV.pickT rfl rfl rfl rfl rfl) ?_
              refine VO.mv rfl rfl rfl rfl ?_
              refine VO.opY rfl rfl rfl rfl rfl ?_
              refine OpE.val (W := NoB) (OpV.loadK_own (i := 0) rfl hB Tryz.isAgg39 Tryz.sizeOf39 rfl rfl rfl (fun h => h)) rfl ?_
              refine VO.opY rfl rfl rfl rfl rfl ?_
              refine OpE.val (W := NoB) (OpV.loadK_own (i := 1) rfl hB Tryz.isAgg39 Tryz.sizeOf39 rfl rfl rfl (fun h => h)) rfl ?_
              refine VO.opY rfl rfl rfl rfl rfl ?_
              refine OpE.val (W := NoB) (OpV.aeql rfl Tryz.underlying39 (by kernel_rfl) (by kernel_rfl) rfl rfl (EqFs.int Tryz.underlying3 Tryz.isAgg3 rfl (by decide) (EqFs.int Tryz.underlying3 Tryz.isAgg3 rfl (by decide) (EqFs.nil _)))) rfl ?_
              refine VO.le _ (Le.boolT (t := 178) rfl (by first | (rw [susR_eq k2]; simp; done) | (rw [susR_no k2]; rfl))) ?_
              refine VO.val rfl rfl (OpV.pickT rfl rfl rfl rfl rfl) ?_
              refine VO.mv rfl rfl rfl rfl ?_
              refine VO.opY rfl rfl rfl rfl rfl ?_
              refine OpE.val (W := NoB) (OpV.move (.inl rfl) rfl) rfl ?_
              refine VO.opY rfl rfl rfl rfl rfl ?_
              refine OpE.val (W := NoB) (OpV.move (.inl rfl) rfl) rfl ?_
              refine VO.opY rfl rfl rfl rfl rfl ?_
              refine OpE.val (W := NoB) (OpV.beql rfl Tryz.underlying4 rfl rfl) rfl ?_
              refine VO.le _ (Le.boolT (t := 183) rfl (by first | (rw [susR_eq k2]; simp; done) | (rw [susR_no k2]; rfl))) ?_
              refine VO.val rfl rfl (OpV.pickT rfl rfl rfl rfl rfl) ?_
              refine VO.mv rfl rfl rfl rfl ?_
              refine VO.opY rfl rfl rfl rfl rfl ?_
              refine OpE.val (W := NoB) (OpV.move (.inl rfl) rfl) rfl ?_
              refine VO.opY rfl rfl rfl rfl rfl ?_
              refine OpE.val (W := NoB) (OpV.move (.inl rfl) rfl) rfl ?_
              refine VO.opY rfl rfl rfl rfl rfl ?_
              refine OpE.val (W := NoB) (OpV.eql rfl rfl rfl) rfl ?_
              refine VO.le _ (Le.boolT (t := 188) rfl (decide_eq_true rfl)) ?_
              refine VO.val rfl rfl (OpV.pickT rfl rfl rfl rfl rfl) ?_
              refine VO.mv rfl rfl rfl rfl ?_
              refine VO.opY rfl rfl rfl rfl rfl ?_
              refine OpE.val (W := NoB) (OpV.move (.inl rfl) rfl) rfl ?_
              refine VO.opY rfl rfl rfl rfl rfl ?_
              refine OpE.val (W := NoB) (OpV.move (.inl rfl) rfl) rfl ?_
              refine VO.opY rfl rfl rfl rfl rfl ?_
              refine OpE.val (W := NoB) (OpV.beql rfl Tryz.underlying4 rfl rfl) rfl ?_
              refine VO.le _ (Le.boolT (t := 193) rfl (by first | (rw [worV, if_pos k3]; simp; done) | (rw [worV, if_neg k3]; rfl))) ?_
              refine VO.val rfl rfl (OpV.pickT rfl rfl rfl rfl rfl) ?_
              refine VO.mv rfl rfl rfl rfl ?_
              refine VO.opY rfl rfl rfl rfl rfl ?_
              refine OpE.val (W := NoB) (OpV.move (.inl rfl) rfl) rfl ?_
              refine VO.opY rfl rfl rfl rfl rfl ?_
              refine OpE.val (W := NoB) (OpV.move (.inl rfl) rfl) rfl ?_
              refine VO.opY rfl rfl rfl rfl rfl ?_
              refine OpE.val (W := NoB) (OpV.eql rfl rfl rfl) rfl ?_
              refine VO.le _ (Le.boolT (t := 198) rfl (decide_eq_true rfl)) ?_
              refine VO.val rfl rfl (OpV.pickT rfl rfl rfl rfl rfl) ?_
              refine VO.mv rfl rfl rfl rfl ?_
              refine VO.opY rfl rfl rfl rfl rfl ?_
              refine OpE.val (W := NoB) (OpV.move (.inl rfl) rfl) rfl ?_
              refine VO.opY rfl rfl rfl rfl rfl ?_
              refine OpE.val (W := NoB) (OpV.move (.inl rfl) rfl) rfl ?_
              refine VO.opY rfl rfl rfl rfl rfl ?_
              refine OpE.call rfl hB rfl Tryz.call33 rfl (SpecN.spec (slices_Equal_int (by omega) (by omega))) ?_
              rintro _ rfl
              refine VO.le _ (Le.boolT (t := 203) rfl (decide_eq_true rfl)) ?_
              refine VO.val rfl rfl (OpV.pickT rfl rfl rfl rfl rfl) ?_
              refine VO.mv rfl rfl rfl rfl ?_
              refine VO.opY rfl rfl rfl rfl rfl ?_
              refine OpE.call rfl hB rfl Tryz.call34 rfl (SpecN.spec (rl_looked)) ?_
              rintro _ rfl
              refine VO.val rfl rfl (OpV.pickT rfl rfl rfl rfl rfl) ?_
              refine VO.ma rfl rfl rfl rfl ?_
              refine VO.nil ?_
              refine VC.ret ?_
              exact And.intro rfl rfl
            · have k4 := k4b
              try simp only [qqT, qqF, qqN, qqM, qqL, qqE] at k4
              have e4 := thr_no k4
              refine VC.le _ (Le.recast (t := 28) (y := avInts (trL a st)) rfl (fun w Z u h => by rw [e4.2, h.eq_v]; exact .nil _ _)) ?_
              refine VC.le _ (Le.recast (t := 22) (y := avI (trE a st)) rfl (fun w Z u h => by rw [e4.1]; exact h)) ?_
              refine VC.skip ?_
              refine VC.seq ?_
              have htl := trL_bd a st
              refine VC.region ?_
              refine VO.mv rfl rfl rfl rfl ?_
              refine VO.mv rfl rfl rfl rfl ?_
              refine VO.val rfl rfl (OpV.eql rfl rfl rfl) ?_
              refine VO.le _ (Le.boolT (t := 159) rfl (decide_eq_true rfl)) ?_
              refine VO.mv rfl rfl rfl rfl ?_
              refine VO.opY rfl rfl rfl rfl rfl ?_
              refine OpE.val (W := NoB) (OpV.move (.inl rfl) rfl) rfl ?_
              refine VO.opY rfl rfl rfl rfl rfl ?_
              refine OpE.val (W := NoB) (OpV.move (.inl rfl) rfl) rfl ?_
              refine VO.opY rfl rfl rfl rfl rfl ?_
              refine OpE.call rfl hB rfl Tryz.call32 rfl (SpecN.spec (slices_Equal_pair (by omega) (by omega))) ?_
              rintro _ rfl
              refine VO.le _ (Le.boolT (t := 163) rfl (eqLs_self eqPr_self _)) ?_
              refine VO.val rfl rfl (OpV.pickT rfl rfl rfl rfl rfl) ?_
              refine VO.mv rfl rfl rfl rfl ?_
              refine VO.opY rfl rfl rfl rfl rfl ?_
              refine OpE.val (W := NoB) (OpV.move (.inl rfl) rfl) rfl ?_
              refine VO.opY rfl rfl rfl rfl rfl ?_
              refine OpE.val (W := NoB) (OpV.move (.inl rfl) rfl) rfl ?_
              refine VO.opY rfl rfl rfl rfl rfl ?_
              refine OpE.val (W := NoB) (OpV.eql rfl rfl rfl) rfl ?_
              refine VO.le _ (Le.boolT (t := 168) rfl (decide_eq_true rfl)) ?_
              refine VO.val rfl rfl (OpV.pickT rfl rfl rfl rfl rfl) ?_
              refine VO.mv rfl rfl rfl rfl ?_
              refine VO.opY rfl rfl rfl rfl rfl ?_
              refine OpE.val (W := NoB) (OpV.move (.inl rfl) rfl) rfl ?_
              refine VO.opY rfl rfl rfl rfl rfl ?_
              refine OpE.val (W := NoB) (OpV.move (.inl rfl) rfl) rfl ?_
              refine VO.opY rfl rfl rfl rfl rfl ?_
              refine OpE.val (W := NoB) (OpV.seql rfl rfl rfl) rfl ?_
              refine VO.le _ (Le.boolT (t := 173) rfl (by first | (rw [susR_eq k2]; exact sEq_refl _) | (rw [susR_no k2]; exact sEq_refl _))) ?_
              refine VO.val rfl rfl (OpV.pickT rfl rfl rfl rfl rfl) ?_
              refine VO.mv rfl rfl rfl rfl ?_
              refine VO.opY rfl rfl rfl rfl rfl ?_
              refine OpE.val (W := NoB) (OpV.loadK_own (i := 0) rfl hB Tryz.isAgg39 Tryz.sizeOf39 rfl rfl rfl (fun h => h)) rfl ?_
              refine VO.opY rfl rfl rfl rfl rfl ?_
              refine OpE.val (W := NoB) (OpV.loadK_own (i := 1) rfl hB Tryz.isAgg39 Tryz.sizeOf39 rfl rfl rfl (fun h => h)) rfl ?_
              refine VO.opY rfl rfl rfl rfl rfl ?_
              refine OpE.val (W := NoB) (OpV.aeql rfl Tryz.underlying39 (by kernel_rfl) (by kernel_rfl) rfl rfl (EqFs.int Tryz.underlying3 Tryz.isAgg3 rfl (by decide) (EqFs.int Tryz.underlying3 Tryz.isAgg3 rfl (by decide) (EqFs.nil _)))) rfl ?_
              refine VO.le _ (Le.boolT (t := 178) rfl (by first | (rw [susR_eq k2]; simp; done) | (rw [susR_no k2]; rfl))) ?_
              refine VO.val rfl rfl (OpV.pickT rfl rfl rfl rfl rfl) ?_
              refine VO.mv rfl rfl rfl rfl ?_
              refine VO.opY rfl rfl rfl rfl rfl ?_
              refine OpE.val (W := NoB) (OpV.move (.inl rfl) rfl) rfl ?_
              refine VO.opY rfl rfl rfl rfl rfl ?_
              refine OpE.val (W := NoB) (OpV.move (.inl rfl) rfl) rfl ?_
              refine VO.opY rfl rfl rfl rfl rfl ?_
              refine OpE.val (W := NoB) (OpV.beql rfl Tryz.underlying4 rfl rfl) rfl ?_
              refine VO.le _ (Le.boolT (t := 183) rfl (by first | (rw [susR_eq k2]; simp; done) | (rw [susR_no k2]; rfl))) ?_
              refine VO.val rfl rfl (OpV.pickT rfl rfl rfl rfl rfl) ?_
              refine VO.mv rfl rfl rfl rfl ?_
              refine VO.opY rfl rfl rfl rfl rfl ?_
              refine OpE.val (W := NoB) (OpV.move (.inl rfl) rfl) rfl ?_
              refine VO.opY rfl rfl rfl rfl rfl ?_
              refine OpE.val (W := NoB) (OpV.move (.inl rfl) rfl) rfl ?_
              refine VO.opY rfl rfl rfl rfl rfl ?_
              refine OpE.val (W := NoB) (OpV.eql rfl rfl rfl) rfl ?_
              refine VO.le _ (Le.boolT (t := 188) rfl (decide_eq_true rfl)) ?_
              refine VO.val rfl rfl (OpV.pickT rfl rfl rfl rfl rfl) ?_
              refine VO.mv rfl rfl rfl rfl ?_
              refine VO.opY rfl rfl rfl rfl rfl ?_
              refine OpE.val (W := NoB) (OpV.move (.inl rfl) rfl) rfl ?_
              refine VO.opY rfl rfl rfl rfl rfl ?_
              refine OpE.val (W := NoB) (OpV.move (.inl rfl) rfl) rfl ?_
              refine VO.opY rfl rfl rfl rfl rfl ?_
              refine OpE.val (W := NoB) (OpV.beql rfl Tryz.underlying4 rfl rfl) rfl ?_
              refine VO.le _ (Le.boolT (t := 193) rfl (by first | (rw [worV, if_pos k3]; simp; done) | (rw [worV, if_neg k3]; rfl))) ?_
              refine VO.val rfl rfl (OpV.pickT rfl rfl rfl rfl rfl) ?_
              refine VO.mv rfl rfl rfl rfl ?_
              refine VO.opY rfl rfl rfl rfl rfl ?_
              refine OpE.val (W := NoB) (OpV.move (.inl rfl) rfl) rfl ?_
              refine VO.opY rfl rfl rfl rfl rfl ?_
              refine OpE.val (W := NoB) (OpV.move (.inl rfl) rfl) rfl ?_
              refine VO.opY rfl rfl rfl rfl rfl ?_
              refine OpE.val (W := NoB) (OpV.eql rfl rfl rfl) rfl ?_
              refine VO.le _ (Le.boolT (t := 198) rfl (decide_eq_true rfl)) ?_
              refine VO.val rfl rfl (OpV.pickT rfl rfl rfl rfl rfl) ?_
              refine VO.mv rfl rfl rfl rfl ?_
              refine VO.opY rfl rfl rfl rfl rfl ?_
              refine OpE.val (W := NoB) (OpV.move (.inl rfl) rfl) rfl ?_
              refine VO.opY rfl rfl rfl rfl rfl ?_
              refine OpE.val (W := NoB) (OpV.move (.inl rfl) rfl) rfl ?_
              refine VO.opY rfl rfl rfl rfl rfl ?_
              refine OpE.call rfl hB rfl Tryz.call33 rfl (SpecN.spec (slices_Equal_int (by omega) (by omega))) ?_
              rintro _ rfl
              refine VO.le _ (Le.boolT (t := 203) rfl (decide_eq_true rfl)) ?_
              refine VO.val rfl rfl (OpV.pickT rfl rfl rfl rfl rfl) ?_
              refine VO.mv rfl rfl rfl rfl ?_
              refine VO.opY rfl rfl rfl rfl rfl ?_
              refine OpE.call rfl hB rfl Tryz.call34 rfl (SpecN.spec (rl_looked)) ?_
              rintro _ rfl
              refine VO.val rfl rfl (OpV.pickT rfl rfl rfl rfl rfl) ?_
              refine VO.ma rfl rfl rfl rfl ?_
              refine VO.nil ?_
              refine VC.ret ?_
              exact And.intro rfl rfl
          · have k3 := k3b
            try simp only [qqT, qqF, qqN, qqM, qqL, qqE] at k3
            refine VC.skip ?_
            refine VC.sr ?_
            refine VO.ma rfl rfl rfl rfl ?_
            refine VO.nil ?_
            refine VC.seq ?_
            refine VC.sr ?_
            refine VO.mv rfl rfl rfl rfl ?_
            refine VO.val rfl rfl (OpV.eql rfl rfl rfl) ?_
            refine VO.nil ?_
            refine VC.cond rfl (fun k4b => ?_) (fun k4b => ?_)
            · have k4 := k4b
              try simp only [qqT, qqF, qqN, qqM, qqL, qqE] at k4
              refine VC.region ?_
              refine VO.mv rfl rfl rfl rfl ?_
              refine VO.mv rfl rfl rfl rfl ?_
              refine VO.op rfl (OpE.call rfl hB rfl Tryz.call31 rfl (SpecN.spec (rf_TrendOf hs (thr_ok k4).1 (thr_ok k4).2)) ?_)
              rintro _ rfl
              refine VO.mv rfl rfl rfl rfl ?_
              refine VO.val rfl rfl (OpV.extract rfl rfl rfl) ?_
              refine VO.val rfl rfl (OpV.extract rfl rfl rfl) ?_
              refine VO.ma rfl rfl rfl rfl ?_
              refine VO.ma rfl rfl rfl rfl ?_
              refine VO.nil ?_
              refine VC.seq ?_
              have htl := trL_bd a st
              refine VC.region ?_
              refine VO.mv rfl rfl rfl rfl ?_
              refine VO.mv rfl rfl rfl rfl ?_
              refine VO.val rfl rfl (OpV.eql rfl rfl rfl) ?_
              refine VO.le _ (Le.boolT (t := 159) rfl (decide_eq_true rfl)) ?_
              refine VO.mv rfl rfl rfl rfl ?_
              refine VO.opY rfl rfl rfl rfl rfl ?_
              refine OpE.val (W := NoB) (OpV.move (.inl rfl) rfl) rfl ?_
              refine VO.opY rfl rfl rfl rfl rfl ?_
              refine OpE.val (W := NoB) (OpV.move (.inl rfl) rfl) rfl ?_
              refine VO.opY rfl rfl rfl rfl rfl ?_
              refine OpE.call rfl hB rfl Tryz.call32 rfl (SpecN.spec (slices_Equal_pair (by omega) (by omega))) ?_
              rintro _ rfl
              refine VO.le _ (Le.boolT (t := 163) rfl (eqLs_self eqPr_self _)) ?_
              refine VO.val rfl rfl (OpV.pickT rfl rfl rfl rfl rfl) ?_
              refine VO.mv rfl rfl rfl rfl ?_
              refine VO.opY rfl rfl rfl rfl rfl ?_
              refine OpE.val (W := NoB) (OpV.move (.inl rfl) rfl) rfl ?_
              refine VO.opY rfl rfl rfl rfl rfl ?_
              refine OpE.val (W := NoB) (OpV.move (.inl rfl) rfl) rfl ?_
              refine VO.opY rfl rfl rfl rfl rfl ?_
              refine OpE.val (W := NoB) (OpV.eql rfl rfl rfl) rfl ?_
              refine VO.le _ (Le.boolT (t := 168) rfl (decide_eq_true rfl)) ?_
              refine VO.val rfl rfl (OpV.pickT rfl rfl rfl rfl rfl) ?_
              refine VO.mv rfl rfl rfl rfl ?_
              refine VO.opY rfl rfl rfl rfl rfl ?_
              refine OpE.val (W := NoB) (OpV.move (.inl rfl) rfl) rfl ?_
              refine VO.opY rfl rfl rfl rfl rfl ?_
              refine OpE.val (W := NoB) (OpV.move (.inl rfl) rfl) rfl ?_
              refine VO.opY rfl rfl rfl rfl rfl ?_
              refine OpE.val (W := NoB) (OpV.seql rfl rfl rfl) rfl ?_
              refine VO.le _ (Le.boolT (t := 173) rfl (by first | (rw [susR_eq k2]; exact sEq_refl _) | (rw [susR_no k2]; exact sEq_refl _))) ?_
              refine VO.val rfl rfl (OpV.pickT rfl rfl rfl rfl rfl) ?_
              refine VO.mv rfl rfl rfl rfl ?_
              refine VO.opY rfl rfl rfl rfl rfl ?_
              refine OpE.val (W := NoB) (OpV.loadK_own (i := 0) rfl hB Tryz.isAgg39 Tryz.sizeOf39 rfl rfl rfl (fun h => h)) rfl ?_
              refine VO.opY rfl rfl rfl rfl rfl ?_
              refine OpE.val (W := NoB) (OpV.loadK_own (i := 1) rfl hB Tryz.isAgg39 Tryz.sizeOf39 rfl rfl rfl (fun h => h)) rfl ?_
              refine VO.opY rfl rfl rfl rfl rfl ?_
              refine OpE.val (W := NoB) (OpV.aeql rfl Tryz.underlying39 (by kernel_rfl) (by kernel_rfl) rfl rfl (EqFs.int Tryz.underlying3 Tryz.isAgg3 rfl (by decide) (EqFs.int Tryz.underlying3 Tryz.isAgg3 rfl (by decide) (EqFs.nil _)))) rfl ?_
              refine VO.le _ (Le.boolT (t := 178) rfl (by first | (rw [susR_eq k2]; simp; done) | (rw [susR_no k2]; rfl))) ?_
              refine VO.val rfl rfl (OpV.pickT rfl rfl rfl rfl rfl) ?_
              refine VO.mv rfl rfl rfl rfl ?_
              refine VO.opY rfl rfl rfl rfl rfl ?_
              refine OpE.val (W := NoB) (OpV.move (.inl rfl) rfl) rfl ?_
              refine VO.opY rfl rfl rfl rfl rfl ?_
              refine OpE.val (W := NoB) (OpV.move (.inl rfl) rfl) rfl ?_
              refine VO.opY rfl rfl rfl rfl rfl ?_
              refine OpE.val (W := NoB) (OpV.beql rfl Tryz.underlying4 rfl rfl) rfl ?_
              refine VO.le _ (Le.boolT (t := 183) rfl (by first | (rw [susR_eq k2]; simp; done) | (rw [susR_no k2]; rfl))) ?_
              refine VO.val rfl rfl (OpV.pickT rfl rfl rfl rfl rfl) ?_
              refine VO.mv rfl rfl rfl rfl ?_
              refine VO.opY rfl rfl rfl rfl rfl ?_
              refine OpE.val (W := NoB) (OpV.move (.inl rfl) rfl) rfl ?_
              refine VO.opY rfl rfl rfl rfl rfl ?_
              refine OpE.val (W := NoB) (OpV.move (.inl rfl) rfl) rfl ?_
              refine VO.opY rfl rfl rfl rfl rfl ?_
              refine OpE.val (W := NoB) (OpV.eql rfl rfl rfl) rfl ?_
              refine VO.le _ (Le.boolT (t := 188) rfl (decide_eq_true rfl)) ?_
              refine VO.val rfl rfl (OpV.pickT rfl rfl rfl rfl rfl) ?_
              refine VO.mv rfl rfl rfl rfl ?_
              refine VO.opY rfl rfl rfl rfl rfl ?_
              refine OpE.val (W := NoB) (OpV.move (.inl rfl) rfl) rfl ?_
              refine VO.opY rfl rfl rfl rfl rfl ?_
              refine OpE.val (W := NoB) (OpV.move (.inl rfl) rfl) rfl ?_
              refine VO.opY rfl rfl rfl rfl rfl ?_
              refine OpE.val (W := NoB) (OpV.beql rfl Tryz.underlying4 rfl rfl) rfl ?_
              refine VO.le _ (Le.boolT (t := 193) rfl (by first | (rw [worV, if_pos k3]; simp; done) | (rw [worV, if_neg k3]; rfl))) ?_
              refine VO.val rfl rfl (OpV.pickT rfl rfl rfl rfl rfl) ?_
              refine VO.mv rfl rfl rfl rfl ?_
              refine VO.opY rfl rfl rfl rfl rfl ?_
              refine OpE.val (W := NoB) (OpV.move (.inl rfl) rfl) rfl ?_
              refine VO.opY rfl rfl rfl rfl rfl ?_
              refine OpE.val (W := NoB) (OpV.move (.inl rfl) rfl) rfl ?_
              refine VO.opY rfl rfl rfl rfl rfl ?_
              refine OpE.val (W := NoB) (OpV.eql rfl rfl rfl) rfl ?_
              refine VO.le _ (Le.boolT (t := 198) rfl (decide_eq_true rfl)) ?_
              refine VO.val rfl rfl (OpV.pickT rfl rfl rfl rfl rfl) ?_
              refine VO.mv rfl rfl rfl rfl ?_
              refine VO.opY rfl rfl rfl rfl rfl ?_
              refine OpE.val (W := NoB) (OpV.move (.inl rfl) rfl) rfl ?_
              refine VO.opY rfl rfl rfl rfl rfl ?_
              refine OpE.val (W := NoB) (OpV.move (.inl rfl) rfl) rfl ?_
              refine VO.opY rfl rfl rfl rfl rfl ?_
              refine OpE.call rfl hB rfl Tryz.call33 rfl (SpecN.spec (slices_Equal_int (by omega) (by omega))) ?_
              rintro _ rfl
              refine VO.le _ (Le.boolT (t := 203) rfl (decide_eq_true rfl)) ?_
              refine VO.val rfl rfl (OpV.pickT rfl rfl rfl rfl rfl) ?_
              refine VO.mv rfl rfl rfl rfl ?_
              refine VO.opY rfl rfl rfl rfl rfl ?_
              refine OpE.call rfl hB rfl Tryz.call34 rfl (SpecN.spec (rl_looked)) ?_
              rintro _ rfl
              refine VO.val rfl rfl (OpV.pickT rfl rfl rfl rfl rfl) ?_
              refine VO.ma rfl rfl rfl rfl ?_
              refine VO.nil ?_
              refine VC.ret ?_
              exact And.intro rfl rfl
            · have k4 := k4b
              try simp only [qqT, qqF, qqN, qqM, qqL, qqE] at k4
              have e4 := thr_no k4
              refine VC.le _ (Le.recast (t := 28) (y := avInts (trL a st)) rfl (fun w Z u h => by rw [e4.2, h.eq_v]; exact .nil _ _)) ?_
              refine VC.le _ (Le.recast (t := 22) (y := avI (trE a st)) rfl (fun w Z u h => by rw [e4.1]; exact h)) ?_
              refine VC.skip ?_
              refine VC.seq ?_
              have htl := trL_bd a st
              refine VC.region ?_
              refine VO.mv rfl rfl rfl rfl ?_
              refine VO.mv rfl rfl rfl rfl ?_
              refine VO.val rfl rfl (OpV.eql rfl rfl rfl) ?_
              refine VO.le _ (Le.boolT (t := 159) rfl (decide_eq_true rfl)) ?_
              refine VO.mv rfl rfl rfl rfl ?_
              refine VO.opY rfl rfl rfl rfl rfl ?_
              refine OpE.val (W := NoB) (OpV.move (.inl rfl) rfl) rfl ?_
              refine VO.opY rfl rfl rfl rfl rfl ?_
              refine OpE.val (W := NoB) (OpV.move (.inl rfl) rfl) rfl ?_
              refine VO.opY rfl rfl rfl rfl rfl ?_
              refine OpE.call rfl hB rfl Tryz.call32 rfl (SpecN.spec (slices_Equal_pair (by omega) (by omega))) ?_
              rintro _ rfl
              refine VO.le _ (Le.boolT (t := 163) rfl (eqLs_self eqPr_self _)) ?_
              refine VO.val rfl rfl (OpV.pickT rfl rfl rfl rfl rfl) ?_
              refine VO.mv rfl rfl rfl rfl ?_
              refine VO.opY rfl rfl rfl rfl rfl ?_
              refine OpE.val (W := NoB) (OpV.move (.inl rfl) rfl) rfl ?_
              refine VO.opY rfl rfl rfl rfl rfl ?_
              refine OpE.val (W := NoB) (OpV.move (.inl rfl) rfl) rfl ?_
              refine VO.opY rfl rfl rfl rfl rfl ?_
              refine OpE.val (W := NoB) (OpV.eql rfl rfl rfl) rfl ?_
              refine VO.le _ (Le.boolT (t := 168) rfl (decide_eq_true rfl)) ?_
              refine VO.val rfl rfl (OpV.pickT rfl rfl rfl rfl rfl) ?_
              refine VO.mv rfl rfl rfl rfl ?_
              refine VO.opY rfl rfl rfl rfl rfl ?_
              refine OpE.val (W := NoB) (OpV.move (.inl rfl) rfl) rfl ?_
              refine VO.opY rfl rfl rfl rfl rfl ?_
              refine OpE.val (W := NoB) (OpV.move (.inl rfl) rfl) rfl ?_
              refine VO.opY rfl rfl rfl rfl rfl ?_
              refine OpE.val (W := NoB) (OpV.seql rfl rfl rfl) rfl ?_
              refine VO.le _ (Le.boolT (t := 173) rfl (by first | (rw [susR_eq k2]; exact sEq_refl _) | (rw [susR_no k2]; exact sEq_refl _))) ?_
              refine VO.val rfl rfl (OpV.pickT rfl rfl rfl rfl rfl) ?_
              refine VO.mv rfl rfl rfl rfl ?_
              refine VO.opY rfl rfl rfl rfl rfl ?_
              refine OpE.val (W := NoB) (OpV.loadK_own (i := 0) rfl hB Tryz.isAgg39 Tryz.sizeOf39 rfl rfl rfl (fun h => h)) rfl ?_
              refine VO.opY rfl rfl rfl rfl rfl ?_
              refine OpE.val (W := NoB) (OpV.loadK_own (i := 1) rfl hB Tryz.isAgg39 Tryz.sizeOf39 rfl rfl rfl (fun h => h)) rfl ?_
              refine VO.opY rfl rfl rfl rfl rfl ?_
              refine OpE.val (W := NoB) (OpV.aeql rfl Tryz.underlying39 (by kernel_rfl) (by kernel_rfl) rfl rfl (EqFs.int Tryz.underlying3 Tryz.isAgg3 rfl (by decide) (EqFs.int Tryz.underlying3 Tryz.isAgg3 rfl (by decide) (EqFs.nil _)))) rfl ?_
              refine VO.le _ (Le.boolT (t := 178) rfl (by first | (rw [susR_eq k2]; simp; done) | (rw [susR_no k2]; rfl))) ?_
              refine VO.val rfl rfl (OpV.pickT rfl rfl rfl rfl rfl) ?_
              refine VO.mv rfl rfl rfl rfl ?_
              refine VO.opY rfl rfl rfl rfl rfl ?_
              refine OpE.val (W := NoB) (OpV.move (.inl rfl) rfl) rfl ?_
              refine VO.opY rfl rfl rfl rfl rfl ?_
              refine OpE.val (W := NoB) (OpV.move (.inl rfl) rfl) rfl ?_
              refine VO.opY rfl rfl rfl rfl rfl ?_
              refine OpE.val (W := NoB) (OpV.beql rfl Tryz.underlying4 rfl rfl) rfl ?_
              refine VO.le _ (Le.boolT (t := 183) rfl (by first | (rw [susR_eq k2]; simp; done) | (rw [susR_no k2]; rfl))) ?_
              refine VO.val rfl rfl (OpV.pickT rfl rfl rfl rfl rfl) ?_
              refine VO.mv rfl rfl rfl rfl ?_
              refine VO.opY rfl rfl rfl rfl rfl ?_
              refine OpE.val (W := NoB) (OpV.move (.inl rfl) rfl) rfl ?_
              refine VO.opY rfl rfl rfl rfl rfl ?_
              refine OpE.val (W := NoB) (OpV.move (.inl rfl) rfl) rfl ?_
              refine VO.opY rfl rfl rfl rfl rfl ?_
              refine OpE.val (W := NoB) (OpV.eql rfl rfl rfl) rfl ?_
              refine VO.le _ (Le.boolT (t := 188) rfl (decide_eq_true rfl)) ?_
              refine VO.val rfl rfl (OpV.pickT rfl rfl rfl rfl rfl) ?_
              refine VO.mv rfl rfl rfl rfl ?_
              refine VO.opY rfl rfl rfl rfl rfl ?_
              refine OpE.val (W := NoB) (OpV.move (.inl rfl) rfl) rfl ?_
              refine VO.opY rfl rfl rfl rfl rfl ?_
              refine OpE.val (W := NoB) (OpV.move (.inl rfl) rfl) rfl ?_
              refine VO.opY rfl rfl rfl rfl rfl ?_
              refine OpE.val (W := NoB) (OpV.beql rfl Tryz.underlying4 rfl rfl) rfl ?_
              refine VO.le _ (Le.boolT (t := 193) rfl (by first | (rw [worV, if_pos k3]; simp; done) | (rw [worV, if_neg k3]; rfl))) ?_
              refine VO.val rfl rfl (OpV.pickT rfl rfl rfl rfl rfl) ?_
              refine VO.mv rfl rfl rfl rfl ?_
              refine VO.opY rfl rfl rfl rfl rfl ?_
              refine OpE.val (W := NoB) (OpV.move (.inl rfl) rfl) rfl ?_
              refine VO.opY rfl rfl rfl rfl rfl ?_
              refine OpE.val (W := NoB) (OpV.move (.inl rfl) rfl) rfl ?_
              refine VO.opY rfl rfl rfl rfl rfl ?_
              refine OpE.val (W := NoB) (OpV.eql rfl rfl rfl) rfl ?_
              refine VO.le _ (Le.boolT (t := 198) rfl (decide_eq_true rfl)) ?_
              refine VO.val rfl rfl (OpV.pickT rfl rfl rfl rfl rfl) ?_
              refine VO.mv rfl rfl rfl rfl ?_
              refine VO.opY rfl rfl rfl rfl rfl ?_
              refine OpE.val (W := NoB) (OpV.move (.inl rfl) rfl) rfl ?_
              refine VO.opY rfl rfl rfl rfl rfl ?_
              refine OpE.val (W := NoB) (OpV.move (.inl rfl) rfl) rfl ?_
              refine VO.opY rfl rfl rfl rfl rfl ?_
              refine OpE.call rfl hB rfl Tryz.call33 rfl (SpecN.spec (slices_Equal_int (by omega) (by omega))) ?_
              rintro _ rfl
              refine VO.le _ (Le.boolT (t := 203) rfl (decide_eq_true rfl)) ?_
              refine VO.val rfl rfl (OpV.pickT rfl rfl rfl rfl rfl) ?_
              refine VO.mv rfl rfl rfl rfl ?_
              refine VO.opY rfl rfl rfl rfl rfl ?_
              refine OpE.call rfl hB rfl Tryz.call34 rfl (SpecN.spec (rl_looked)) ?_
              rintro _ rfl
              refine VO.val rfl rfl (OpV.pickT rfl rfl rfl rfl rfl) ?_
              refine VO.ma rfl rfl rfl rfl ?_
              refine VO.nil ?_
              refine VC.ret ?_
              exact And.intro rfl rfl
      · have k1 := k1b
        try simp only [qqT, qqF, qqN, qqM, qqL, qqE] at k1
        refine VC.le _ (Le.recast (t := 23) (y := avL bm) rfl (fun w Z u h => by rw [← hbm, if_neg k1, h.eq_v]; exact .nil _ _)) ?_
        refine VC.skip ?_
        refine VC.sr ?_
        refine VO.val rfl rfl (OpV.build (pls := #[(0, 1), (1, 1)]) rfl Tryz.zeroValue39 Tryz.underlying39 (fun w => by kernel_rfl) rfl rfl) ?_
        refine VO.op rfl (OpE.alloc rfl hB rfl Tryz.zeroValue39 rfl ?_)
        intro g25
        refine VO.ma rfl rfl rfl rfl ?_
        refine VO.op rfl (OpE.store (i := 1) rfl hB rfl Tryz.sizeOf39 rfl rfl rfl rfl rfl rfl (Nle rfl) trivial ?_)
        refine VO.ma rfl rfl rfl rfl ?_
        refine VO.ma rfl rfl rfl rfl ?_
        refine VO.nil ?_
        refine VC.seq ?_
        refine VC.sr ?_
        refine VO.mv rfl rfl rfl rfl ?_
        refine VO.val rfl rfl (OpV.eql rfl rfl rfl) ?_
        refine VO.nil ?_
        refine VC.cond rfl (fun k2b => ?_) (fun k2b => ?_)
        · have k2 := k2b
          try simp only [qqT, qqF, qqN, qqM, qqL, qqE] at k2
          exact VC.absurd (k1 (leastE_zero k2).1)
        · have k2 := k2b
          try simp only [qqT, qqF, qqN, qqM, qqL, qqE] at k2
          refine VC.skip ?_
          refine VC.seq ?_
          refine VC.sr ?_
          refine VO.mv rfl rfl rfl rfl ?_
          refine VO.val rfl rfl (OpV.eql rfl rfl rfl) ?_
          refine VO.nil ?_
          refine VC.cond rfl (fun k3b => ?_) (fun k3b => ?_)
          · have k3 := k3b
            try simp only [qqT, qqF, qqN, qqM, qqL, qqE] at k3
            exact VC.absurd (k1 (worE_zero k3))
          · have k3 := k3b
            try simp only [qqT, qqF, qqN, qqM, qqL, qqE] at k3
            refine VC.skip ?_
            refine VC.sr ?_
            refine VO.ma rfl rfl rfl rfl ?_
            refine VO.nil ?_
            refine VC.seq ?_
            refine VC.sr ?_
            refine VO.mv rfl rfl rfl rfl ?_
            refine VO.val rfl rfl (OpV.eql rfl rfl rfl) ?_
            refine VO.nil ?_
            refine VC.cond rfl (fun k4b => ?_) (fun k4b => ?_)
            · have k4 := k4b
              try simp only [qqT, qqF, qqN, qqM, qqL, qqE] at k4
              exact VC.absurd (k1 (thr_ok k4).1)
            · have k4 := k4b
              try simp only [qqT, qqF, qqN, qqM, qqL, qqE] at k4
              have e4 := thr_no k4
              refine VC.le _ (Le.recast (t := 28) (y := avInts (trL a st)) rfl (fun w Z u h => by rw [e4.2, h.eq_v]; exact .nil _ _)) ?_
              refine VC.le _ (Le.recast (t := 22) (y := avI (trE a st)) rfl (fun w Z u h => by rw [e4.1]; exact h)) ?_
              refine VC.skip ?_
              refine VC.seq ?_
              have htl := trL_bd a st
              refine VC.region ?_
              refine VO.mv rfl rfl rfl rfl ?_
              refine VO.mv rfl rfl rfl rfl ?_
              refine VO.val rfl rfl (OpV.eql rfl rfl rfl) ?_
              refine VO.le _ (Le.boolT (t := 159) rfl (decide_eq_true rfl)) ?_
              refine VO.mv rfl rfl rfl rfl ?_
              refine VO.opY rfl rfl rfl rfl rfl ?_
              refine OpE.val (W := NoB) (OpV.move (.inl rfl) rfl) rfl ?_
              refine VO.opY rfl rfl rfl rfl rfl ?_
              refine OpE.val (W := NoB) (OpV.move (.inl rfl) rfl) rfl ?_
              refine VO.opY rfl rfl rfl rfl rfl ?_
              refine OpE.call rfl hB rfl Tryz.call32 rfl (SpecN.spec (slices_Equal_pair (by omega) (by omega))) ?_
              rintro _ rfl
              refine VO.le _ (Le.boolT (t := 163) rfl (eqLs_self eqPr_self _)) ?_
              refine VO.val rfl rfl (OpV.pickT rfl rfl rfl rfl rfl) ?_
              refine VO.mv rfl rfl rfl rfl ?_
              refine VO.opY rfl rfl rfl rfl rfl ?_
              refine OpE.val (W := NoB) (OpV.move (.inl rfl) rfl) rfl ?_
              refine VO.opY rfl rfl rfl rfl rfl ?_
              refine OpE.val (W := NoB) (OpV.move (.inl rfl) rfl) rfl ?_
              refine VO.opY rfl rfl rfl rfl rfl ?_
              refine OpE.val (W := NoB) (OpV.eql rfl rfl rfl) rfl ?_
              refine VO.le _ (Le.boolT (t := 168) rfl (decide_eq_true rfl)) ?_
              refine VO.val rfl rfl (OpV.pickT rfl rfl rfl rfl rfl) ?_
              refine VO.mv rfl rfl rfl rfl ?_
              refine VO.opY rfl rfl rfl rfl rfl ?_
              refine OpE.val (W := NoB) (OpV.move (.inl rfl) rfl) rfl ?_
              refine VO.opY rfl rfl rfl rfl rfl ?_
              refine OpE.val (W := NoB) (OpV.move (.inl rfl) rfl) rfl ?_
              refine VO.opY rfl rfl rfl rfl rfl ?_
              refine OpE.val (W := NoB) (OpV.seql rfl rfl rfl) rfl ?_
              refine VO.le _ (Le.boolT (t := 173) rfl (by first | (rw [susR_eq k2]; exact sEq_refl _) | (rw [susR_no k2]; exact sEq_refl _))) ?_
              refine VO.val rfl rfl (OpV.pickT rfl rfl rfl rfl rfl) ?_
              refine VO.mv rfl rfl rfl rfl ?_
              refine VO.opY rfl rfl rfl rfl rfl ?_
              refine OpE.val (W := NoB) (OpV.loadK_own (i := 0) rfl hB Tryz.isAgg39 Tryz.sizeOf39 rfl rfl rfl (fun h => h)) rfl ?_
              refine VO.opY rfl rfl rfl rfl rfl ?_
              refine OpE.val (W := NoB) (OpV.loadK_own (i := 1) rfl hB Tryz.isAgg39 Tryz.sizeOf39 rfl rfl rfl (fun h => h)) rfl ?_
              refine VO.opY rfl rfl rfl rfl rfl ?_
              refine OpE.val (W := NoB) (OpV.aeql rfl Tryz.underlying39 (by kernel_rfl) (by kernel_rfl) rfl rfl (EqFs.int Tryz.underlying3 Tryz.isAgg3 rfl (by decide) (EqFs.int Tryz.underlying3 Tryz.isAgg3 rfl (by decide) (EqFs.nil _)))) rfl ?_
              refine VO.le _ (Le.boolT (t := 178) rfl (by first | (rw [susR_eq k2]; simp; done) | (rw [susR_no k2]; rfl))) ?_
              refine VO.val rfl rfl (OpV.pickT rfl rfl rfl rfl rfl) ?_
              refine VO.mv rfl rfl rfl rfl ?_
              refine VO.opY rfl rfl rfl rfl rfl ?_
              refine OpE.val (W := NoB) (OpV.move (.inl rfl) rfl) rfl ?_
              refine VO.opY rfl rfl rfl rfl rfl ?_
              refine OpE.val (W := NoB) (OpV.move (.inl rfl) rfl) rfl ?_
              refine VO.opY rfl rfl rfl rfl rfl ?_
              refine OpE.val (W := NoB) (OpV.beql rfl Tryz.underlying4 rfl rfl) rfl ?_
              refine VO.le _ (Le.boolT (t := 183) rfl (by first | (rw [susR_eq k2]; simp; done) | (rw [susR_no k2]; rfl))) ?_
              refine VO.val rfl rfl (OpV.pickT rfl rfl rfl rfl rfl) ?_
              refine VO.mv rfl rfl rfl rfl ?_
              refine VO.opY rfl rfl rfl rfl rfl ?_
              refine OpE.val (W := NoB) (OpV.move (.inl rfl) rfl) rfl ?_
              refine VO.opY rfl rfl rfl rfl rfl ?_
              refine OpE.val (W := NoB) (OpV.move (.inl rfl) rfl) rfl ?_
              refine VO.opY rfl rfl rfl rfl rfl ?_
              refine OpE.val (W := NoB) (OpV.eql rfl rfl rfl) rfl ?_
              refine VO.le _ (Le.boolT (t := 188) rfl (decide_eq_true rfl)) ?_
              refine VO.val rfl rfl (OpV.pickT rfl rfl rfl rfl rfl) ?_
              refine VO.mv rfl rfl rfl rfl ?_
              refine VO.opY rfl rfl rfl rfl rfl ?_
              refine OpE.val (W := NoB) (OpV.move (.inl rfl) rfl) rfl ?_
              refine VO.opY rfl rfl rfl rfl rfl ?_
              refine OpE.val (W := NoB) (OpV.move (.inl rfl) rfl) rfl ?_
              refine VO.opY rfl rfl rfl rfl rfl ?_
              refine OpE.val (W := NoB) (OpV.beql rfl Tryz.underlying4 rfl rfl) rfl ?_
              refine VO.le _ (Le.boolT (t := 193) rfl (by first | (rw [worV, if_pos k3]; simp; done) | (rw [worV, if_neg k3]; rfl))) ?_
              refine VO.val rfl rfl (OpV.pickT rfl rfl rfl rfl rfl) ?_
              refine VO.mv rfl rfl rfl rfl ?_
              refine VO.opY rfl rfl rfl rfl rfl ?_
              refine OpE.val (W := NoB) (OpV.move (.inl rfl) rfl) rfl ?_
              refine VO.opY rfl rfl rfl rfl rfl ?_
              refine OpE.val (W := NoB) (OpV.move (.inl rfl) rfl) rfl ?_
              refine VO.opY rfl rfl rfl rfl rfl ?_
              refine OpE.val (W := NoB) (OpV.eql rfl rfl rfl) rfl ?_
              refine VO.le _ (Le.boolT (t := 198) rfl (decide_eq_true rfl)) ?_
              refine VO.val rfl rfl (OpV.pickT rfl rfl rfl rfl rfl) ?_
              refine VO.mv rfl rfl rfl rfl ?_
              refine VO.opY rfl rfl rfl rfl rfl ?_
              refine OpE.val (W := NoB) (OpV.move (.inl rfl) rfl) rfl ?_
              refine VO.opY rfl rfl rfl rfl rfl ?_
              refine OpE.val (W := NoB) (OpV.move (.inl rfl) rfl) rfl ?_
              refine VO.opY rfl rfl rfl rfl rfl ?_
              refine OpE.call rfl hB rfl Tryz.call33 rfl (SpecN.spec (slices_Equal_int (by omega) (by omega))) ?_
              rintro _ rfl
              refine VO.le _ (Le.boolT (t := 203) rfl (decide_eq_true rfl)) ?_
              refine VO.val rfl rfl (OpV.pickT rfl rfl rfl rfl rfl) ?_
              refine VO.mv rfl rfl rfl rfl ?_
              refine VO.opY rfl rfl rfl rfl rfl ?_
              refine OpE.call rfl hB rfl Tryz.call34 rfl (SpecN.spec (rl_looked)) ?_
              rintro _ rfl
              refine VO.val rfl rfl (OpV.pickT rfl rfl rfl rfl rfl) ?_
              refine VO.ma rfl rfl rfl rfl ?_
              refine VO.nil ?_
              refine VC.ret ?_
              exact And.intro rfl rfl
end Go.Proofs.YtaaokimiadfidaaGreatDoor
