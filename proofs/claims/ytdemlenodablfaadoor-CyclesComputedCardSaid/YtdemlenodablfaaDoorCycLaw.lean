/- The walk of the law CyclesComputed. -/
import Derived.Test.YtdemlenodablfaaDoorGenM
import Derived.Test.YtdemlenodablfaaDoorLawS
namespace Go.Proofs.YtdemlenodablfaaDoor
open Go.RowKit
set_option linter.unusedVariables false
set_option linter.unusedSimpArgs false

theorem errs2 (a b : Int) : errsF [a, b] = if a ≠ 0 then a else b := by
  by_cases ha : a = 0
  · subst ha
    by_cases hb : b = 0
    · subst hb; rfl
    · simp [errsF, hb]
  · simp [errsF, ha]
theorem errs_fault (ms : List Mach) (ns : List NeedS) : errsF [machF ms, needsF ns 1 1000] = faultF ms ns := by rw [errs2, faultF]
set_option maxRecDepth 100000 in
set_option maxHeartbeats 4000000 in
theorem cyclesComputed_any (a0 : Option Addr) (cap0 : Nat) (L : List Int) (w : World) (hin : Inp w a0 L) :
    Calls Tryd.prog 3 #[.slice a0 L.length cap0] w fun e w' => e = .returned (.bool true) ∧ Chg NoB w w' := by
  refine law_calls Tryd.func3 rfl Tryd.ntmps3 (Nat.le_of_ble_eq_true rfl) Tryd.results3 ?_
  have hB := B0.ok w (fun _ => True) 151
  refine VC.seq ?_
  refine VC.region ?_
  refine VO.val rfl rfl (OpV.move (.inr rfl) rfl) ?_
  refine VO.nil ?_
  show VC _ _ _ _ _
  refine VC.seq ?_
  refine VC.region ?_
  refine VO.val rfl rfl (OpV.move (.inl rfl) rfl) ?_
  refine VO.val rfl rfl (OpV.build (pls := #[(0, 1), (1, 1)]) rfl Tryd.zeroValue25 Tryd.underlying25 (fun w => by kernel_rfl) rfl rfl) ?_
  refine VO.op rfl (OpE.box rfl hB rfl rfl rfl ?_)
  intro g
  refine VO.val rfl rfl (OpV.move (.inr rfl) rfl) ?_
  refine VO.nil ?_
  show VC _ _ _ _ _
  refine VC.stream (i := 0) (sl := [(3, sp g)]) (by exact rfl) (by exact rfl) hin (by exact ⟨rfl, trivial⟩) (fun p hp => by simp at hp; subst hp; exact ⟨_, rfl⟩) (fun w1 hge hB => ?_)
  refine VC.seq ?_
  refine VC.region ?_
  refine VO.val rfl rfl (OpV.move (.inl rfl) rfl) ?_
  refine VO.op rfl (OpE.callT' (0) rfl rfl hB rfl Tryd.call4 rfl (machines_T) (by omega) ?_)
  rintro _ ⟨ms, ⟨hm, hm0, hm6⟩, rfl⟩
  refine VO.val rfl rfl (OpV.move (.inl rfl) rfl) ?_
  refine VO.op rfl (OpE.callT' (0 + 60) rfl rfl hB rfl Tryd.call5 rfl (needList_T) (by omega) ?_)
  rintro _ ⟨ns, ⟨hn, hnl⟩, rfl⟩
  refine VO.val rfl rfl (OpV.move (.inr rfl) rfl) ?_
  refine VO.val rfl rfl (OpV.move (.inr rfl) rfl) ?_
  refine VO.nil ?_
  show VC _ _ _ _ _
  refine VC.seq ?_
  refine VC.region ?_
  refine VO.val rfl rfl (OpV.move (.inl rfl) rfl) ?_
  refine VO.val rfl rfl (OpV.move (.inl rfl) rfl) ?_
  refine VO.val rfl rfl (OpV.move (.inl rfl) rfl) ?_
  refine VO.op rfl (OpE.callT' (0 + 60 + 20) rfl rfl hB rfl Tryd.call6 rfl (linePlan_T hm hm0 hm6 (by omega)) (by omega) ?_)
  rintro _ ⟨plan, hpl, rfl⟩
  refine VO.val rfl rfl (OpV.move (.inr rfl) rfl) ?_
  refine VO.nil ?_
  show VC _ _ _ _ _
  refine VC.seq ?_
  refine VC.region ?_
  refine VO.val rfl rfl (OpV.move (.inl rfl) rfl) ?_
  refine VO.val rfl rfl (OpV.move (.inl rfl) rfl) ?_
  refine VO.val rfl rfl (OpV.move (.inl rfl) rfl) ?_
  refine VO.op rfl (OpE.call rfl hB rfl Tryd.call7 rfl (line_Cycles hm hn (by omega)) ?_)
  rintro _ rfl
  refine VO.val rfl rfl (OpV.move (.inl rfl) rfl) ?_
  first
    | refine VO.val rfl rfl (OpV.extract rfl rfl rfl) ?_
    | refine VO.val rfl rfl (OpV.extract_v rfl rfl rfl) ?_
  first
    | refine VO.val rfl rfl (OpV.extract rfl rfl rfl) ?_
    | refine VO.val rfl rfl (OpV.extract_v rfl rfl rfl) ?_
  refine VO.val rfl rfl (OpV.move (.inr rfl) rfl) ?_
  refine VO.val rfl rfl (OpV.move (.inr rfl) rfl) ?_
  refine VO.nil ?_
  show VC _ _ _ _ _
  refine VC.seq ?_
  refine VC.region ?_
  refine VO.val rfl rfl (OpV.move (.inl rfl) rfl) ?_
  refine VO.val rfl rfl (OpV.move (.inl rfl) rfl) ?_
  refine VO.val rfl rfl (OpV.move (.inl rfl) rfl) ?_
  refine VO.op rfl (OpE.call rfl hB rfl Tryd.call8 rfl (SpecN.spec (line_Slowest hm hn (by omega))) ?_)
  rintro _ rfl
  refine VO.val rfl rfl (OpV.move (.inl rfl) rfl) ?_
  first
    | refine VO.val rfl rfl (OpV.extract rfl rfl rfl) ?_
    | refine VO.val rfl rfl (OpV.extract_v rfl rfl rfl) ?_
  first
    | refine VO.val rfl rfl (OpV.extract rfl rfl rfl) ?_
    | refine VO.val rfl rfl (OpV.extract_v rfl rfl rfl) ?_
  first
    | refine VO.val rfl rfl (OpV.extract rfl rfl rfl) ?_
    | refine VO.val rfl rfl (OpV.extract_v rfl rfl rfl) ?_
  refine VO.val rfl rfl (OpV.move (.inr rfl) rfl) ?_
  refine VO.val rfl rfl (OpV.move (.inr rfl) rfl) ?_
  refine VO.val rfl rfl (OpV.move (.inr rfl) rfl) ?_
  refine VO.nil ?_
  show VC _ _ _ _ _
  refine VC.seq ?_
  refine VC.region ?_
  refine VO.val rfl rfl (OpV.move (.inl rfl) rfl) ?_
  refine VO.val rfl rfl (OpV.move (.inl rfl) rfl) ?_
  refine VO.val rfl rfl (OpV.move (.inl rfl) rfl) ?_
  refine VO.op rfl (OpE.call rfl hB rfl Tryd.call9 rfl (SpecN.spec (line_Better hm hn (by omega))) ?_)
  rintro _ rfl
  refine VO.val rfl rfl (OpV.move (.inl rfl) rfl) ?_
  first
    | refine VO.val rfl rfl (OpV.extract rfl rfl rfl) ?_
    | refine VO.val rfl rfl (OpV.extract_v rfl rfl rfl) ?_
  first
    | refine VO.val rfl rfl (OpV.extract rfl rfl rfl) ?_
    | refine VO.val rfl rfl (OpV.extract_v rfl rfl rfl) ?_
  first
    | refine VO.val rfl rfl (OpV.extract rfl rfl rfl) ?_
    | refine VO.val rfl rfl (OpV.extract_v rfl rfl rfl) ?_
  first
    | refine VO.val rfl rfl (OpV.extract rfl rfl rfl) ?_
    | refine VO.val rfl rfl (OpV.extract_v rfl rfl rfl) ?_
  refine VO.val rfl rfl (OpV.move (.inr rfl) rfl) ?_
  refine VO.val rfl rfl (OpV.move (.inr rfl) rfl) ?_
  refine VO.val rfl rfl (OpV.move (.inr rfl) rfl) ?_
  refine VO.val rfl rfl (OpV.move (.inr rfl) rfl) ?_
  refine VO.nil ?_
  show VC _ _ _ _ _
  refine VC.seq ?_
  refine VC.region ?_
  refine VO.val rfl rfl (OpV.move (.inl rfl) rfl) ?_
  refine VO.op rfl (OpE.call rfl hB rfl Tryd.call11 rfl (SpecN.spec (rf_MachinesFault hm.l hm.k hm.c hm.s)) ?_)
  rintro _ rfl
  refine VO.val rfl rfl (OpV.move (.inl rfl) rfl) ?_
  refine VO.op rfl (OpE.call rfl hB rfl Tryd.call12 rfl (SpecN.spec (rf_NeedsFault hn.l hn.k)) ?_)
  rintro _ rfl
  refine VO.op rfl (OpE.buildSlice (zc := #[.int .i64 0, .int .i64 0]) rfl hB rfl Tryd.underlying66 Tryd.sizeOf31 Tryd.zeroValue31 (by decide) (by decide) (by kernel_rfl) rfl rfl ?_)
  refine VO.le _ (Le.recast (t := 62) (y := avInts [machF ms, needsF ns 1 1000]) rfl (fun w Z u h => Rep.ints (xs := [machF ms, needsF ns 1 1000]) rfl h)) ?_
  refine VO.op rfl (OpE.call rfl hB rfl Tryd.call10 rfl (SpecN.spec (rf_errs (by simp))) ?_)
  rintro _ rfl
  refine VO.val rfl rfl (OpV.move (.inr rfl) rfl) ?_
  refine VO.nil ?_
  show VC _ _ _ _ _
  refine VC.seq ?_
  refine VC.seq ?_
  refine VC.region ?_
  refine VO.val rfl rfl (OpV.move (.inl rfl) rfl) ?_
  refine VO.val rfl rfl (OpV.eql rfl rfl rfl) ?_
  refine VO.nil ?_
  show VC _ _ _ _ _
  refine VC.cond rfl (fun hAb => ?_) (fun hAb => ?_)
  · have hA := hAb
    try simp only [decide_eq_true_eq, decide_eq_false_iff_not, Bool.not_eq_true', Bool.not_eq_false', Int.not_lt, Int.not_le] at hA
    rw [errs_fault] at hA
    obtain ⟨z1, z2⟩ := faultF_0 hA
    have hE : lineF ms ns plan = planF ms ns plan := by rw [lineF, if_neg (by omega)]
    refine VC.region ?_
    refine VO.val rfl rfl (OpV.move (.inl rfl) rfl) ?_
    refine VO.val rfl rfl (OpV.move (.inl rfl) rfl) ?_
    refine VO.val rfl rfl (OpV.move (.inl rfl) rfl) ?_
    refine VO.op rfl (OpE.call rfl hB rfl Tryd.call13 rfl (SpecN.spec (rf_LinePlanFault z1 hn.l (by omega))) ?_)
    rintro _ rfl
    refine VO.val rfl rfl (OpV.move (.inr rfl) rfl) ?_
    refine VO.nil ?_
    show VC _ _ _ _ _
    refine VC.seq ?_
    refine VC.region ?_
    refine VO.val rfl rfl (OpV.move (.inr rfl) rfl) ?_
    first | refine VO.le _ (Le.recast (t := 17) (y := avInts []) rfl (fun w Z u h => by rw [h.eq_v]; exact .nil _ _)) ?_ | skip
    refine VO.nil ?_
    show VC _ _ _ _ _
    refine VC.seq ?_
    refine VC.region ?_
    refine VO.val rfl rfl (OpV.move (.inr rfl) rfl) ?_
    refine VO.val rfl rfl (OpV.move (.inr rfl) rfl) ?_
    refine VO.val rfl rfl (OpV.move (.inr rfl) rfl) ?_
    refine VO.val rfl rfl (OpV.move (.inr rfl) rfl) ?_
    refine VO.val rfl rfl (OpV.move (.inr rfl) rfl) ?_
    refine VO.nil ?_
    show VC _ _ _ _ _
    refine VC.seq ?_
    refine VC.seq ?_
    refine VC.region ?_
    refine VO.val rfl rfl (OpV.move (.inl rfl) rfl) ?_
    refine VO.val rfl rfl (OpV.eql rfl rfl rfl) ?_
    refine VO.nil ?_
    show VC _ _ _ _ _
    refine VC.cond rfl (fun hCb => ?_) (fun hCb => ?_)
    · have hC := hCb
      try simp only [decide_eq_true_eq, decide_eq_false_iff_not, Bool.not_eq_true', Bool.not_eq_false', Int.not_lt, Int.not_le] at hC
      first
        | exact VC.absurd (by omega)
        | skip
          have hZ : lineF ms ns plan = 0 := by omega
          have hlc : (cycL ms ns plan).length ≤ 1000000000 := by rw [cycL_len]; exact hm.l
          refine VC.seq ?_
          refine VC.region ?_
          refine VO.val rfl rfl (OpV.move (.inl rfl) rfl) ?_
          refine VO.val rfl rfl (OpV.move (.inl rfl) rfl) ?_
          refine VO.val rfl rfl (OpV.move (.inl rfl) rfl) ?_
          refine VO.op rfl (OpE.call rfl hB rfl Tryd.call14 rfl (SpecN.spec (rf_CyclesOf z1 z2 hC)) ?_)
          rintro _ rfl
          refine VO.val rfl rfl (OpV.move (.inr rfl) rfl) ?_
          first | refine VO.le _ (Le.recast (t := 17) (y := avInts []) rfl (fun w Z u h => by rw [h.eq_v]; exact .nil _ _)) ?_ | skip
          refine VO.nil ?_
          show VC _ _ _ _ _
          refine VC.seq ?_
          refine VC.region ?_
          refine VO.val rfl rfl (OpV.move (.inl rfl) rfl) ?_
          refine VO.val rfl rfl (OpV.move (.inl rfl) rfl) ?_
          refine VO.val rfl rfl (OpV.move (.inl rfl) rfl) ?_
          refine VO.op rfl (OpE.call rfl hB rfl Tryd.call15 rfl (SpecN.spec (rf_SlowestOf z1 z2 hC)) ?_)
          rintro _ rfl
          refine VO.val rfl rfl (OpV.move (.inl rfl) rfl) ?_
          first
            | refine VO.val rfl rfl (OpV.extract rfl rfl rfl) ?_
            | refine VO.val rfl rfl (OpV.extract_v rfl rfl rfl) ?_
          first
            | refine VO.val rfl rfl (OpV.extract rfl rfl rfl) ?_
            | refine VO.val rfl rfl (OpV.extract_v rfl rfl rfl) ?_
          refine VO.val rfl rfl (OpV.move (.inr rfl) rfl) ?_
          refine VO.val rfl rfl (OpV.move (.inr rfl) rfl) ?_
          refine VO.nil ?_
          show VC _ _ _ _ _
          refine VC.region ?_
          refine VO.val rfl rfl (OpV.move (.inl rfl) rfl) ?_
          refine VO.val rfl rfl (OpV.move (.inl rfl) rfl) ?_
          refine VO.val rfl rfl (OpV.move (.inl rfl) rfl) ?_
          refine VO.op rfl (OpE.call rfl hB rfl Tryd.call16 rfl (SpecN.spec (rf_BetterOf z1 z2 hC (by omega))) ?_)
          rintro _ rfl
          refine VO.val rfl rfl (OpV.move (.inl rfl) rfl) ?_
          first
            | refine VO.val rfl rfl (OpV.extract rfl rfl rfl) ?_
            | refine VO.val rfl rfl (OpV.extract_v rfl rfl rfl) ?_
          first
            | refine VO.val rfl rfl (OpV.extract rfl rfl rfl) ?_
            | refine VO.val rfl rfl (OpV.extract_v rfl rfl rfl) ?_
          first
            | refine VO.val rfl rfl (OpV.extract rfl rfl rfl) ?_
            | refine VO.val rfl rfl (OpV.extract_v rfl rfl rfl) ?_
          refine VO.val rfl rfl (OpV.move (.inr rfl) rfl) ?_
          refine VO.val rfl rfl (OpV.move (.inr rfl) rfl) ?_
          refine VO.val rfl rfl (OpV.move (.inr rfl) rfl) ?_
          refine VO.nil ?_
          show VC _ _ _ _ _
          refine VC.seq ?_
          refine VC.region ?_
          refine VO.val rfl rfl (OpV.move (.inl rfl) rfl) ?_
          refine VO.op rfl (OpE.call rfl hB rfl Tryd.call17 rfl (SpecN.spec (line_CheckMachines hm.l hm.k hm.c hm.s)) ?_)
          rintro _ rfl
          refine VO.val rfl rfl (OpV.move (.inl rfl) rfl) ?_
          refine VO.op rfl (OpE.call rfl hB rfl Tryd.call11 rfl (SpecN.spec (rf_MachinesFault hm.l hm.k hm.c hm.s)) ?_)
          rintro _ rfl
          refine VO.val rfl rfl (OpV.eql rfl rfl rfl) ?_
          refine VO.le _ (Le.boolT (t := 95) rfl (decide_eq_true rfl)) ?_
          refine VO.val rfl rfl (OpV.move (.inl rfl) rfl) ?_
          refine VO.opY rfl rfl rfl rfl rfl ?_
          refine OpE.val (W := NoB) (OpV.move (.inl rfl) rfl) rfl ?_
          refine VO.opY rfl rfl rfl rfl rfl ?_
          refine OpE.call rfl hB rfl Tryd.call18 rfl (SpecN.spec (line_CheckNeeds hn.l hn.k)) ?_
          rintro _ rfl
          refine VO.opY rfl rfl rfl rfl rfl ?_
          refine OpE.val (W := NoB) (OpV.move (.inl rfl) rfl) rfl ?_
          refine VO.opY rfl rfl rfl rfl rfl ?_
          refine OpE.call rfl hB rfl Tryd.call12 rfl (SpecN.spec (rf_NeedsFault hn.l hn.k)) ?_
          rintro _ rfl
          refine VO.opY rfl rfl rfl rfl rfl ?_
          refine OpE.val (W := NoB) (OpV.eql rfl rfl rfl) rfl ?_
          refine VO.le _ (Le.boolT (t := 101) rfl (decide_eq_true rfl)) ?_
          refine VO.val rfl rfl (OpV.pickT rfl rfl rfl rfl rfl) ?_
          refine VO.val rfl rfl (OpV.move (.inl rfl) rfl) ?_
          refine VO.opY rfl rfl rfl rfl rfl ?_
          refine OpE.val (W := NoB) (OpV.move (.inl rfl) rfl) rfl ?_
          refine VO.opY rfl rfl rfl rfl rfl ?_
          refine OpE.val (W := NoB) (OpV.move (.inl rfl) rfl) rfl ?_
          refine VO.opY rfl rfl rfl rfl rfl ?_
          refine OpE.val (W := NoB) (OpV.eql rfl rfl rfl) rfl ?_
          refine VO.le _ (Le.boolT (t := 106) rfl (decide_eq_true hE)) ?_
          refine VO.val rfl rfl (OpV.pickT rfl rfl rfl rfl rfl) ?_
          refine VO.val rfl rfl (OpV.move (.inl rfl) rfl) ?_
          refine VO.opY rfl rfl rfl rfl rfl ?_
          refine OpE.val (W := NoB) (OpV.move (.inl rfl) rfl) rfl ?_
          refine VO.opY rfl rfl rfl rfl rfl ?_
          refine OpE.val (W := NoB) (OpV.move (.inl rfl) rfl) rfl ?_
          refine VO.opY rfl rfl rfl rfl rfl ?_
          refine OpE.call rfl hB rfl Tryd.call19 rfl (SpecN.spec (slices_Equal_int (by first | (rw [if_pos hZ]; exact hlc) | (rw [if_neg hZ]; decide)) (by first | exact hlc | decide))) ?_
          rintro _ rfl
          refine VO.le _ (Le.boolT (t := 111) rfl (decide_eq_true (by first | rw [if_pos hZ] | rw [if_neg hZ]))) ?_
          refine VO.val rfl rfl (OpV.pickT rfl rfl rfl rfl rfl) ?_
          refine VO.val rfl rfl (OpV.move (.inl rfl) rfl) ?_
          refine VO.opY rfl rfl rfl rfl rfl ?_
          refine OpE.val (W := NoB) (OpV.move (.inl rfl) rfl) rfl ?_
          refine VO.opY rfl rfl rfl rfl rfl ?_
          refine OpE.val (W := NoB) (OpV.move (.inl rfl) rfl) rfl ?_
          refine VO.opY rfl rfl rfl rfl rfl ?_
          refine OpE.val (W := NoB) (OpV.eql rfl rfl rfl) rfl ?_
          refine VO.le _ (Le.boolT (t := 116) rfl (decide_eq_true hE)) ?_
          refine VO.val rfl rfl (OpV.pickT rfl rfl rfl rfl rfl) ?_
          refine VO.val rfl rfl (OpV.move (.inl rfl) rfl) ?_
          refine VO.opY rfl rfl rfl rfl rfl ?_
          refine OpE.val (W := NoB) (OpV.move (.inl rfl) rfl) rfl ?_
          refine VO.opY rfl rfl rfl rfl rfl ?_
          refine OpE.val (W := NoB) (OpV.move (.inl rfl) rfl) rfl ?_
          refine VO.opY rfl rfl rfl rfl rfl ?_
          refine OpE.val (W := NoB) (OpV.eql rfl rfl rfl) rfl ?_
          refine VO.le _ (Le.boolT (t := 121) rfl (decide_eq_true (by first | rw [if_pos hZ] | rw [if_neg hZ]))) ?_
          refine VO.val rfl rfl (OpV.pickT rfl rfl rfl rfl rfl) ?_
          refine VO.val rfl rfl (OpV.move (.inl rfl) rfl) ?_
          refine VO.opY rfl rfl rfl rfl rfl ?_
          refine OpE.val (W := NoB) (OpV.move (.inl rfl) rfl) rfl ?_
          refine VO.opY rfl rfl rfl rfl rfl ?_
          refine OpE.val (W := NoB) (OpV.move (.inl rfl) rfl) rfl ?_
          refine VO.opY rfl rfl rfl rfl rfl ?_
          refine OpE.val (W := NoB) (OpV.eql rfl rfl rfl) rfl ?_
          refine VO.le _ (Le.boolT (t := 126) rfl (decide_eq_true (by first | rw [if_pos hZ] | rw [if_neg hZ]))) ?_
          refine VO.val rfl rfl (OpV.pickT rfl rfl rfl rfl rfl) ?_
          refine VO.val rfl rfl (OpV.move (.inl rfl) rfl) ?_
          refine VO.opY rfl rfl rfl rfl rfl ?_
          refine OpE.val (W := NoB) (OpV.move (.inl rfl) rfl) rfl ?_
          refine VO.opY rfl rfl rfl rfl rfl ?_
          refine OpE.val (W := NoB) (OpV.move (.inl rfl) rfl) rfl ?_
          refine VO.opY rfl rfl rfl rfl rfl ?_
          refine OpE.val (W := NoB) (OpV.eql rfl rfl rfl) rfl ?_
          refine VO.le _ (Le.boolT (t := 131) rfl (decide_eq_true hE)) ?_
          refine VO.val rfl rfl (OpV.pickT rfl rfl rfl rfl rfl) ?_
          refine VO.val rfl rfl (OpV.move (.inl rfl) rfl) ?_
          refine VO.opY rfl rfl rfl rfl rfl ?_
          refine OpE.val (W := NoB) (OpV.move (.inl rfl) rfl) rfl ?_
          refine VO.opY rfl rfl rfl rfl rfl ?_
          refine OpE.val (W := NoB) (OpV.move (.inl rfl) rfl) rfl ?_
          refine VO.opY rfl rfl rfl rfl rfl ?_
          refine OpE.val (W := NoB) (OpV.eql rfl rfl rfl) rfl ?_
          refine VO.le _ (Le.boolT (t := 136) rfl (decide_eq_true (by first | rw [bet3, if_pos hZ] | rw [bet3, if_neg hZ]))) ?_
          refine VO.val rfl rfl (OpV.pickT rfl rfl rfl rfl rfl) ?_
          refine VO.val rfl rfl (OpV.move (.inl rfl) rfl) ?_
          refine VO.opY rfl rfl rfl rfl rfl ?_
          refine OpE.val (W := NoB) (OpV.move (.inl rfl) rfl) rfl ?_
          refine VO.opY rfl rfl rfl rfl rfl ?_
          refine OpE.val (W := NoB) (OpV.move (.inl rfl) rfl) rfl ?_
          refine VO.opY rfl rfl rfl rfl rfl ?_
          refine OpE.val (W := NoB) (OpV.eql rfl rfl rfl) rfl ?_
          refine VO.le _ (Le.boolT (t := 141) rfl (decide_eq_true (by first | rw [bet3, if_pos hZ] | rw [bet3, if_neg hZ]))) ?_
          refine VO.val rfl rfl (OpV.pickT rfl rfl rfl rfl rfl) ?_
          refine VO.val rfl rfl (OpV.move (.inl rfl) rfl) ?_
          refine VO.opY rfl rfl rfl rfl rfl ?_
          refine OpE.val (W := NoB) (OpV.move (.inl rfl) rfl) rfl ?_
          refine VO.opY rfl rfl rfl rfl rfl ?_
          refine OpE.val (W := NoB) (OpV.move (.inl rfl) rfl) rfl ?_
          refine VO.opY rfl rfl rfl rfl rfl ?_
          refine OpE.val (W := NoB) (OpV.beql rfl Tryd.underlying4 rfl rfl) rfl ?_
          refine VO.le _ (Le.boolT (t := 146) rfl ((by first | (rw [bet3, if_pos hZ]; simp) | (rw [bet3, if_neg hZ]; rfl)))) ?_
          refine VO.val rfl rfl (OpV.pickT rfl rfl rfl rfl rfl) ?_
          refine VO.val rfl rfl (OpV.move (.inl rfl) rfl) ?_
          refine VO.opY rfl rfl rfl rfl rfl ?_
          refine OpE.call rfl hB rfl Tryd.call20 rfl (SpecN.spec (lined_S)) ?_
          rintro _ rfl
          refine VO.le _ (Le.boolT (t := 149) rfl (rfl)) ?_
          refine VO.val rfl rfl (OpV.pickT rfl rfl rfl rfl rfl) ?_
          refine VO.val rfl rfl (OpV.move (.inr rfl) rfl) ?_
          refine VO.nil ?_
          show VC _ _ _ _ _
          refine VC.ret ?_
          exact And.intro rfl rfl
    · have hC := hCb
      try simp only [decide_eq_true_eq, decide_eq_false_iff_not, Bool.not_eq_true', Bool.not_eq_false', Int.not_lt, Int.not_le] at hC
      first
        | exact VC.absurd (by omega)
        | skip
          have hZ : ¬ lineF ms ns plan = 0 := by omega
          refine VC.skip ?_
          show VC _ _ _ _ _
          refine VC.seq ?_
          refine VC.region ?_
          refine VO.val rfl rfl (OpV.move (.inl rfl) rfl) ?_
          refine VO.op rfl (OpE.call rfl hB rfl Tryd.call17 rfl (SpecN.spec (line_CheckMachines hm.l hm.k hm.c hm.s)) ?_)
          rintro _ rfl
          refine VO.val rfl rfl (OpV.move (.inl rfl) rfl) ?_
          refine VO.op rfl (OpE.call rfl hB rfl Tryd.call11 rfl (SpecN.spec (rf_MachinesFault hm.l hm.k hm.c hm.s)) ?_)
          rintro _ rfl
          refine VO.val rfl rfl (OpV.eql rfl rfl rfl) ?_
          refine VO.le _ (Le.boolT (t := 95) rfl (decide_eq_true rfl)) ?_
          refine VO.val rfl rfl (OpV.move (.inl rfl) rfl) ?_
          refine VO.opY rfl rfl rfl rfl rfl ?_
          refine OpE.val (W := NoB) (OpV.move (.inl rfl) rfl) rfl ?_
          refine VO.opY rfl rfl rfl rfl rfl ?_
          refine OpE.call rfl hB rfl Tryd.call18 rfl (SpecN.spec (line_CheckNeeds hn.l hn.k)) ?_
          rintro _ rfl
          refine VO.opY rfl rfl rfl rfl rfl ?_
          refine OpE.val (W := NoB) (OpV.move (.inl rfl) rfl) rfl ?_
          refine VO.opY rfl rfl rfl rfl rfl ?_
          refine OpE.call rfl hB rfl Tryd.call12 rfl (SpecN.spec (rf_NeedsFault hn.l hn.k)) ?_
          rintro _ rfl
          refine VO.opY rfl rfl rfl rfl rfl ?_
          refine OpE.val (W := NoB) (OpV.eql rfl rfl rfl) rfl ?_
          refine VO.le _ (Le.boolT (t := 101) rfl (decide_eq_true rfl)) ?_
          refine VO.val rfl rfl (OpV.pickT rfl rfl rfl rfl rfl) ?_
          refine VO.val rfl rfl (OpV.move (.inl rfl) rfl) ?_
          refine VO.opY rfl rfl rfl rfl rfl ?_
          refine OpE.val (W := NoB) (OpV.move (.inl rfl) rfl) rfl ?_
          refine VO.opY rfl rfl rfl rfl rfl ?_
          refine OpE.val (W := NoB) (OpV.move (.inl rfl) rfl) rfl ?_
          refine VO.opY rfl rfl rfl rfl rfl ?_
          refine OpE.val (W := NoB) (OpV.eql rfl rfl rfl) rfl ?_
          refine VO.le _ (Le.boolT (t := 106) rfl (decide_eq_true hE)) ?_
          refine VO.val rfl rfl (OpV.pickT rfl rfl rfl rfl rfl) ?_
          refine VO.val rfl rfl (OpV.move (.inl rfl) rfl) ?_
          refine VO.opY rfl rfl rfl rfl rfl ?_
          refine OpE.val (W := NoB) (OpV.move (.inl rfl) rfl) rfl ?_
          refine VO.opY rfl rfl rfl rfl rfl ?_
          refine OpE.val (W := NoB) (OpV.move (.inl rfl) rfl) rfl ?_
          refine VO.opY rfl rfl rfl rfl rfl ?_
          refine OpE.call rfl hB rfl Tryd.call19 rfl (SpecN.spec (slices_Equal_int (by first | (rw [if_pos hZ]; exact hlc) | (rw [if_neg hZ]; decide)) (by first | exact hlc | decide))) ?_
          rintro _ rfl
          refine VO.le _ (Le.boolT (t := 111) rfl (decide_eq_true (by first | rw [if_pos hZ] | rw [if_neg hZ]))) ?_
          refine VO.val rfl rfl (OpV.pickT rfl rfl rfl rfl rfl) ?_
          refine VO.val rfl rfl (OpV.move (.inl rfl) rfl) ?_
          refine VO.opY rfl rfl rfl rfl rfl ?_
          refine OpE.val (W := NoB) (OpV.move (.inl rfl) rfl) rfl ?_
          refine VO.opY rfl rfl rfl rfl rfl ?_
          refine OpE.val (W := NoB) (OpV.move (.inl rfl) rfl) rfl ?_
          refine VO.opY rfl rfl rfl rfl rfl ?_
          refine OpE.val (W := NoB) (OpV.eql rfl rfl rfl) rfl ?_
          refine VO.le _ (Le.boolT (t := 116) rfl (decide_eq_true hE)) ?_
          refine VO.val rfl rfl (OpV.pickT rfl rfl rfl rfl rfl) ?_
          refine VO.val rfl rfl (OpV.move (.inl rfl) rfl) ?_
          refine VO.opY rfl rfl rfl rfl rfl ?_
          refine OpE.val (W := NoB) (OpV.move (.inl rfl) rfl) rfl ?_
          refine VO.opY rfl rfl rfl rfl rfl ?_
          refine OpE.val (W := NoB) (OpV.move (.inl rfl) rfl) rfl ?_
          refine VO.opY rfl rfl rfl rfl rfl ?_
          refine OpE.val (W := NoB) (OpV.eql rfl rfl rfl) rfl ?_
          refine VO.le _ (Le.boolT (t := 121) rfl (decide_eq_true (by first | rw [if_pos hZ] | rw [if_neg hZ]))) ?_
          refine VO.val rfl rfl (OpV.pickT rfl rfl rfl rfl rfl) ?_
          refine VO.val rfl rfl (OpV.move (.inl rfl) rfl) ?_
          refine VO.opY rfl rfl rfl rfl rfl ?_
          refine OpE.val (W := NoB) (OpV.move (.inl rfl) rfl) rfl ?_
          refine VO.opY rfl rfl rfl rfl rfl ?_
          refine OpE.val (W := NoB) (OpV.move (.inl rfl) rfl) rfl ?_
          refine VO.opY rfl rfl rfl rfl rfl ?_
          refine OpE.val (W := NoB) (OpV.eql rfl rfl rfl) rfl ?_
          refine VO.le _ (Le.boolT (t := 126) rfl (decide_eq_true (by first | rw [if_pos hZ] | rw [if_neg hZ]))) ?_
          refine VO.val rfl rfl (OpV.pickT rfl rfl rfl rfl rfl) ?_
          refine VO.val rfl rfl (OpV.move (.inl rfl) rfl) ?_
          refine VO.opY rfl rfl rfl rfl rfl ?_
          refine OpE.val (W := NoB) (OpV.move (.inl rfl) rfl) rfl ?_
          refine VO.opY rfl rfl rfl rfl rfl ?_
          refine OpE.val (W := NoB) (OpV.move (.inl rfl) rfl) rfl ?_
          refine VO.opY rfl rfl rfl rfl rfl ?_
          refine OpE.val (W := NoB) (OpV.eql rfl rfl rfl) rfl ?_
          refine VO.le _ (Le.boolT (t := 131) rfl (decide_eq_true hE)) ?_
          refine VO.val rfl rfl (OpV.pickT rfl rfl rfl rfl rfl) ?_
          refine VO.val rfl rfl (OpV.move (.inl rfl) rfl) ?_
          refine VO.opY rfl rfl rfl rfl rfl ?_
          refine OpE.val (W := NoB) (OpV.move (.inl rfl) rfl) rfl ?_
          refine VO.opY rfl rfl rfl rfl rfl ?_
          refine OpE.val (W := NoB) (OpV.move (.inl rfl) rfl) rfl ?_
          refine VO.opY rfl rfl rfl rfl rfl ?_
          refine OpE.val (W := NoB) (OpV.eql rfl rfl rfl) rfl ?_
          refine VO.le _ (Le.boolT (t := 136) rfl (decide_eq_true (by first | rw [bet3, if_pos hZ] | rw [bet3, if_neg hZ]))) ?_
          refine VO.val rfl rfl (OpV.pickT rfl rfl rfl rfl rfl) ?_
          refine VO.val rfl rfl (OpV.move (.inl rfl) rfl) ?_
          refine VO.opY rfl rfl rfl rfl rfl ?_
          refine OpE.val (W := NoB) (OpV.move (.inl rfl) rfl) rfl ?_
          refine VO.opY rfl rfl rfl rfl rfl ?_
          refine OpE.val (W := NoB) (OpV.move (.inl rfl) rfl) rfl ?_
          refine VO.opY rfl rfl rfl rfl rfl ?_
          refine OpE.val (W := NoB) (OpV.eql rfl rfl rfl) rfl ?_
          refine VO.le _ (Le.boolT (t := 141) rfl (decide_eq_true (by first | rw [bet3, if_pos hZ] | rw [bet3, if_neg hZ]))) ?_
          refine VO.val rfl rfl (OpV.pickT rfl rfl rfl rfl rfl) ?_
          refine VO.val rfl rfl (OpV.move (.inl rfl) rfl) ?_
          refine VO.opY rfl rfl rfl rfl rfl ?_
          refine OpE.val (W := NoB) (OpV.move (.inl rfl) rfl) rfl ?_
          refine VO.opY rfl rfl rfl rfl rfl ?_
          refine OpE.val (W := NoB) (OpV.move (.inl rfl) rfl) rfl ?_
          refine VO.opY rfl rfl rfl rfl rfl ?_
          refine OpE.val (W := NoB) (OpV.beql rfl Tryd.underlying4 rfl rfl) rfl ?_
          refine VO.le _ (Le.boolT (t := 146) rfl ((by first | (rw [bet3, if_pos hZ]; simp) | (rw [bet3, if_neg hZ]; rfl)))) ?_
          refine VO.val rfl rfl (OpV.pickT rfl rfl rfl rfl rfl) ?_
          refine VO.val rfl rfl (OpV.move (.inl rfl) rfl) ?_
          refine VO.opY rfl rfl rfl rfl rfl ?_
          refine OpE.call rfl hB rfl Tryd.call20 rfl (SpecN.spec (lined_S)) ?_
          rintro _ rfl
          refine VO.le _ (Le.boolT (t := 149) rfl (rfl)) ?_
          refine VO.val rfl rfl (OpV.pickT rfl rfl rfl rfl rfl) ?_
          refine VO.val rfl rfl (OpV.move (.inr rfl) rfl) ?_
          refine VO.nil ?_
          show VC _ _ _ _ _
          refine VC.ret ?_
          exact And.intro rfl rfl
  · have hA := hAb
    try simp only [decide_eq_true_eq, decide_eq_false_iff_not, Bool.not_eq_true', Bool.not_eq_false', Int.not_lt, Int.not_le] at hA
    have hE : lineF ms ns plan = errsF [machF ms, needsF ns 1 1000] := by rw [errs_fault] at hA ⊢; rw [lineF, if_pos hA]
    refine VC.skip ?_
    show VC _ _ _ _ _
    refine VC.seq ?_
    refine VC.region ?_
    refine VO.val rfl rfl (OpV.move (.inr rfl) rfl) ?_
    first | refine VO.le _ (Le.recast (t := 17) (y := avInts []) rfl (fun w Z u h => by rw [h.eq_v]; exact .nil _ _)) ?_ | skip
    refine VO.nil ?_
    show VC _ _ _ _ _
    refine VC.seq ?_
    refine VC.region ?_
    refine VO.val rfl rfl (OpV.move (.inr rfl) rfl) ?_
    refine VO.val rfl rfl (OpV.move (.inr rfl) rfl) ?_
    refine VO.val rfl rfl (OpV.move (.inr rfl) rfl) ?_
    refine VO.val rfl rfl (OpV.move (.inr rfl) rfl) ?_
    refine VO.val rfl rfl (OpV.move (.inr rfl) rfl) ?_
    refine VO.nil ?_
    show VC _ _ _ _ _
    refine VC.seq ?_
    refine VC.seq ?_
    refine VC.region ?_
    refine VO.val rfl rfl (OpV.move (.inl rfl) rfl) ?_
    refine VO.val rfl rfl (OpV.eql rfl rfl rfl) ?_
    refine VO.nil ?_
    show VC _ _ _ _ _
    refine VC.cond rfl (fun hCb => ?_) (fun hCb => ?_)
    · have hC := hCb
      try simp only [decide_eq_true_eq, decide_eq_false_iff_not, Bool.not_eq_true', Bool.not_eq_false', Int.not_lt, Int.not_le] at hC
      first
        | exact VC.absurd (by omega)
        | skip
          have hZ : lineF ms ns plan = 0 := by omega
          have hlc : (cycL ms ns plan).length ≤ 1000000000 := by rw [cycL_len]; exact hm.l
          refine VC.seq ?_
          refine VC.region ?_
          refine VO.val rfl rfl (OpV.move (.inl rfl) rfl) ?_
          refine VO.val rfl rfl (OpV.move (.inl rfl) rfl) ?_
          refine VO.val rfl rfl (OpV.move (.inl rfl) rfl) ?_
          refine VO.op rfl (OpE.call rfl hB rfl Tryd.call14 rfl (SpecN.spec (rf_CyclesOf z1 z2 hC)) ?_)
          rintro _ rfl
          refine VO.val rfl rfl (OpV.move (.inr rfl) rfl) ?_
          first | refine VO.le _ (Le.recast (t := 17) (y := avInts []) rfl (fun w Z u h => by rw [h.eq_v]; exact .nil _ _)) ?_ | skip
          refine VO.nil ?_
          show VC _ _ _ _ _
          refine VC.seq ?_
          refine VC.region ?_
          refine VO.val rfl rfl (OpV.move (.inl rfl) rfl) ?_
          refine VO.val rfl rfl (OpV.move (.inl rfl) rfl) ?_
          refine VO.val rfl rfl (OpV.move (.inl rfl) rfl) ?_
          refine VO.op rfl (OpE.call rfl hB rfl Tryd.call15 rfl (SpecN.spec (rf_SlowestOf z1 z2 hC)) ?_)
          rintro _ rfl
          refine VO.val rfl rfl (OpV.move (.inl rfl) rfl) ?_
          first
            | refine VO.val rfl rfl (OpV.extract rfl rfl rfl) ?_
            | refine VO.val rfl rfl (OpV.extract_v rfl rfl rfl) ?_
          first
            | refine VO.val rfl rfl (OpV.extract rfl rfl rfl) ?_
            | refine VO.val rfl rfl (OpV.extract_v rfl rfl rfl) ?_
          refine VO.val rfl rfl (OpV.move (.inr rfl) rfl) ?_
          refine VO.val rfl rfl (OpV.move (.inr rfl) rfl) ?_
          refine VO.nil ?_
          show VC _ _ _ _ _
          refine VC.region ?_
          refine VO.val rfl rfl (OpV.move (.inl rfl) rfl) ?_
          refine VO.val rfl rfl (OpV.move (.inl rfl) rfl) ?_
          refine VO.val rfl rfl (OpV.move (.inl rfl) rfl) ?_
          refine VO.op rfl (OpE.call rfl hB rfl Tryd.call16 rfl (SpecN.spec (rf_BetterOf z1 z2 hC (by omega))) ?_)
          rintro _ rfl
          refine VO.val rfl rfl (OpV.move (.inl rfl) rfl) ?_
          first
            | refine VO.val rfl rfl (OpV.extract rfl rfl rfl) ?_
            | refine VO.val rfl rfl (OpV.extract_v rfl rfl rfl) ?_
          first
            | refine VO.val rfl rfl (OpV.extract rfl rfl rfl) ?_
            | refine VO.val rfl rfl (OpV.extract_v rfl rfl rfl) ?_
          first
            | refine VO.val rfl rfl (OpV.extract rfl rfl rfl) ?_
            | refine VO.val rfl rfl (OpV.extract_v rfl rfl rfl) ?_
          refine VO.val rfl rfl (OpV.move (.inr rfl) rfl) ?_
          refine VO.val rfl rfl (OpV.move (.inr rfl) rfl) ?_
          refine VO.val rfl rfl (OpV.move (.inr rfl) rfl) ?_
          refine VO.nil ?_
          show VC _ _ _ _ _
          refine VC.seq ?_
          refine VC.region ?_
          refine VO.val rfl rfl (OpV.move (.inl rfl) rfl) ?_
          refine VO.op rfl (OpE.call rfl hB rfl Tryd.call17 rfl (SpecN.spec (line_CheckMachines hm.l hm.k hm.c hm.s)) ?_)
          rintro _ rfl
          refine VO.val rfl rfl (OpV.move (.inl rfl) rfl) ?_
          refine VO.op rfl (OpE.call rfl hB rfl Tryd.call11 rfl (SpecN.spec (rf_MachinesFault hm.l hm.k hm.c hm.s)) ?_)
          rintro _ rfl
          refine VO.val rfl rfl (OpV.eql rfl rfl rfl) ?_
          refine VO.le _ (Le.boolT (t := 95) rfl (decide_eq_true rfl)) ?_
          refine VO.val rfl rfl (OpV.move (.inl rfl) rfl) ?_
          refine VO.opY rfl rfl rfl rfl rfl ?_
          refine OpE.val (W := NoB) (OpV.move (.inl rfl) rfl) rfl ?_
          refine VO.opY rfl rfl rfl rfl rfl ?_
          refine OpE.call rfl hB rfl Tryd.call18 rfl (SpecN.spec (line_CheckNeeds hn.l hn.k)) ?_
          rintro _ rfl
          refine VO.opY rfl rfl rfl rfl rfl ?_
          refine OpE.val (W := NoB) (OpV.move (.inl rfl) rfl) rfl ?_
          refine VO.opY rfl rfl rfl rfl rfl ?_
          refine OpE.call rfl hB rfl Tryd.call12 rfl (SpecN.spec (rf_NeedsFault hn.l hn.k)) ?_
          rintro _ rfl
          refine VO.opY rfl rfl rfl rfl rfl ?_
          refine OpE.val (W := NoB) (OpV.eql rfl rfl rfl) rfl ?_
          refine VO.le _ (Le.boolT (t := 101) rfl (decide_eq_true rfl)) ?_
          refine VO.val rfl rfl (OpV.pickT rfl rfl rfl rfl rfl) ?_
          refine VO.val rfl rfl (OpV.move (.inl rfl) rfl) ?_
          refine VO.opY rfl rfl rfl rfl rfl ?_
          refine OpE.val (W := NoB) (OpV.move (.inl rfl) rfl) rfl ?_
          refine VO.opY rfl rfl rfl rfl rfl ?_
          refine OpE.val (W := NoB) (OpV.move (.inl rfl) rfl) rfl ?_
          refine VO.opY rfl rfl rfl rfl rfl ?_
          refine OpE.val (W := NoB) (OpV.eql rfl rfl rfl) rfl ?_
          refine VO.le _ (Le.boolT (t := 106) rfl (decide_eq_true hE)) ?_
          refine VO.val rfl rfl (OpV.pickT rfl rfl rfl rfl rfl) ?_
          refine VO.val rfl rfl (OpV.move (.inl rfl) rfl) ?_
          refine VO.opY rfl rfl rfl rfl rfl ?_
          refine OpE.val (W := NoB) (OpV.move (.inl rfl) rfl) rfl ?_
          refine VO.opY rfl rfl rfl rfl rfl ?_
          refine OpE.val (W := NoB) (OpV.move (.inl rfl) rfl) rfl ?_
          refine VO.opY rfl rfl rfl rfl rfl ?_
          refine OpE.call rfl hB rfl Tryd.call19 rfl (SpecN.spec (slices_Equal_int (by first | (rw [if_pos hZ]; exact hlc) | (rw [if_neg hZ]; decide)) (by first | exact hlc | decide))) ?_
          rintro _ rfl
          refine VO.le _ (Le.boolT (t := 111) rfl (decide_eq_true (by first | rw [if_pos hZ] | rw [if_neg hZ]))) ?_
          refine VO.val rfl rfl (OpV.pickT rfl rfl rfl rfl rfl) ?_
          refine VO.val rfl rfl (OpV.move (.inl rfl) rfl) ?_
          refine VO.opY rfl rfl rfl rfl rfl ?_
          refine OpE.val (W := NoB) (OpV.move (.inl rfl) rfl) rfl ?_
          refine VO.opY rfl rfl rfl rfl rfl ?_
          refine OpE.val (W := NoB) (OpV.move (.inl rfl) rfl) rfl ?_
          refine VO.opY rfl rfl rfl rfl rfl ?_
          refine OpE.val (W := NoB) (OpV.eql rfl rfl rfl) rfl ?_
          refine VO.le _ (Le.boolT (t := 116) rfl (decide_eq_true hE)) ?_
          refine VO.val rfl rfl (OpV.pickT rfl rfl rfl rfl rfl) ?_
          refine VO.val rfl rfl (OpV.move (.inl rfl) rfl) ?_
          refine VO.opY rfl rfl rfl rfl rfl ?_
          refine OpE.val (W := NoB) (OpV.move (.inl rfl) rfl) rfl ?_
          refine VO.opY rfl rfl rfl rfl rfl ?_
          refine OpE.val (W := NoB) (OpV.move (.inl rfl) rfl) rfl ?_
          refine VO.opY rfl rfl rfl rfl rfl ?_
          refine OpE.val (W := NoB) (OpV.eql rfl rfl rfl) rfl ?_
          refine VO.le _ (Le.boolT (t := 121) rfl (decide_eq_true (by first | rw [if_pos hZ] | rw [if_neg hZ]))) ?_
          refine VO.val rfl rfl (OpV.pickT rfl rfl rfl rfl rfl) ?_
          refine VO.val rfl rfl (OpV.move (.inl rfl) rfl) ?_
          refine VO.opY rfl rfl rfl rfl rfl ?_
          refine OpE.val (W := NoB) (OpV.move (.inl rfl) rfl) rfl ?_
          refine VO.opY rfl rfl rfl rfl rfl ?_
          refine OpE.val (W := NoB) (OpV.move (.inl rfl) rfl) rfl ?_
          refine VO.opY rfl rfl rfl rfl rfl ?_
          refine OpE.val (W := NoB) (OpV.eql rfl rfl rfl) rfl ?_
          refine VO.le _ (Le.boolT (t := 126) rfl (decide_eq_true (by first | rw [if_pos hZ] | rw [if_neg hZ]))) ?_
          refine VO.val rfl rfl (OpV.pickT rfl rfl rfl rfl rfl) ?_
          refine VO.val rfl rfl (OpV.move (.inl rfl) rfl) ?_
          refine VO.opY rfl rfl rfl rfl rfl ?_
          refine OpE.val (W := NoB) (OpV.move (.inl rfl) rfl) rfl ?_
          refine VO.opY rfl rfl rfl rfl rfl ?_
          refine OpE.val (W := NoB) (OpV.move (.inl rfl) rfl) rfl ?_
          refine VO.opY rfl rfl rfl rfl rfl ?_
          refine OpE.val (W := NoB) (OpV.eql rfl rfl rfl) rfl ?_
          refine VO.le _ (Le.boolT (t := 131) rfl (decide_eq_true hE)) ?_
          refine VO.val rfl rfl (OpV.pickT rfl rfl rfl rfl rfl) ?_
          refine VO.val rfl rfl (OpV.move (.inl rfl) rfl) ?_
          refine VO.opY rfl rfl rfl rfl rfl ?_
          refine OpE.val (W := NoB) (OpV.move (.inl rfl) rfl) rfl ?_
          refine VO.opY rfl rfl rfl rfl rfl ?_
          refine OpE.val (W := NoB) (OpV.move (.inl rfl) rfl) rfl ?_
          refine VO.opY rfl rfl rfl rfl rfl ?_
          refine OpE.val (W := NoB) (OpV.eql rfl rfl rfl) rfl ?_
          refine VO.le _ (Le.boolT (t := 136) rfl (decide_eq_true (by first | rw [bet3, if_pos hZ] | rw [bet3, if_neg hZ]))) ?_
          refine VO.val rfl rfl (OpV.pickT rfl rfl rfl rfl rfl) ?_
          refine VO.val rfl rfl (OpV.move (.inl rfl) rfl) ?_
          refine VO.opY rfl rfl rfl rfl rfl ?_
          refine OpE.val (W := NoB) (OpV.move (.inl rfl) rfl) rfl ?_
          refine VO.opY rfl rfl rfl rfl rfl ?_
          refine OpE.val (W := NoB) (OpV.move (.inl rfl) rfl) rfl ?_
          refine VO.opY rfl rfl rfl rfl rfl ?_
          refine OpE.val (W := NoB) (OpV.eql rfl rfl rfl) rfl ?_
          refine VO.le _ (Le.boolT (t := 141) rfl (decide_eq_true (by first | rw [bet3, if_pos hZ] | rw [bet3, if_neg hZ]))) ?_
          refine VO.val rfl rfl (OpV.pickT rfl rfl rfl rfl rfl) ?_
          refine VO.val rfl rfl (OpV.move (.inl rfl) rfl) ?_
          refine VO.opY rfl rfl rfl rfl rfl ?_
          refine OpE.val (W := NoB) (OpV.move (.inl rfl) rfl) rfl ?_
          refine VO.opY rfl rfl rfl rfl rfl ?_
          refine OpE.val (W := NoB) (OpV.move (.inl rfl) rfl) rfl ?_
          refine VO.opY rfl rfl rfl rfl rfl ?_
          refine OpE.val (W := NoB) (OpV.beql rfl Tryd.underlying4 rfl rfl) rfl ?_
          refine VO.le _ (Le.boolT (t := 146) rfl ((by first | (rw [bet3, if_pos hZ]; simp) | (rw [bet3, if_neg hZ]; rfl)))) ?_
          refine VO.val rfl rfl (OpV.pickT rfl rfl rfl rfl rfl) ?_
          refine VO.val rfl rfl (OpV.move (.inl rfl) rfl) ?_
          refine VO.opY rfl rfl rfl rfl rfl ?_
          refine OpE.call rfl hB rfl Tryd.call20 rfl (SpecN.spec (lined_S)) ?_
          rintro _ rfl
          refine VO.le _ (Le.boolT (t := 149) rfl (rfl)) ?_
          refine VO.val rfl rfl (OpV.pickT rfl rfl rfl rfl rfl) ?_
          refine VO.val rfl rfl (OpV.move (.inr rfl) rfl) ?_
          refine VO.nil ?_
          show VC _ _ _ _ _
          refine VC.ret ?_
          exact And.intro rfl rfl
    · have hC := hCb
      try simp only [decide_eq_true_eq, decide_eq_false_iff_not, Bool.not_eq_true', Bool.not_eq_false', Int.not_lt, Int.not_le] at hC
      first
        | exact VC.absurd (by omega)
        | skip
          have hZ : ¬ lineF ms ns plan = 0 := by omega
          refine VC.skip ?_
          show VC _ _ _ _ _
          refine VC.seq ?_
          refine VC.region ?_
          refine VO.val rfl rfl (OpV.move (.inl rfl) rfl) ?_
          refine VO.op rfl (OpE.call rfl hB rfl Tryd.call17 rfl (SpecN.spec (line_CheckMachines hm.l hm.k hm.c hm.s)) ?_)
          rintro _ rfl
          refine VO.val rfl rfl (OpV.move (.inl rfl) rfl) ?_
          refine VO.op rfl (OpE.call rfl hB rfl Tryd.call11 rfl (SpecN.spec (rf_MachinesFault hm.l hm.k hm.c hm.s)) ?_)
          rintro _ rfl
          refine VO.val rfl rfl (OpV.eql rfl rfl rfl) ?_
          refine VO.le _ (Le.boolT (t := 95) rfl (decide_eq_true rfl)) ?_
          refine VO.val rfl rfl (OpV.move (.inl rfl) rfl) ?_
          refine VO.opY rfl rfl rfl rfl rfl ?_
          refine OpE.val (W := NoB) (OpV.move (.inl rfl) rfl) rfl ?_
          refine VO.opY rfl rfl rfl rfl rfl ?_
          refine OpE.call rfl hB rfl Tryd.call18 rfl (SpecN.spec (line_CheckNeeds hn.l hn.k)) ?_
          rintro _ rfl
          refine VO.opY rfl rfl rfl rfl rfl ?_
          refine OpE.val (W := NoB) (OpV.move (.inl rfl) rfl) rfl ?_
          refine VO.opY rfl rfl rfl rfl rfl ?_
          refine OpE.call rfl hB rfl Tryd.call12 rfl (SpecN.spec (rf_NeedsFault hn.l hn.k)) ?_
          rintro _ rfl
          refine VO.opY rfl rfl rfl rfl rfl ?_
          refine OpE.val (W := NoB) (OpV.eql rfl rfl rfl) rfl ?_
          refine VO.le _ (Le.boolT (t := 101) rfl (decide_eq_true rfl)) ?_
          refine VO.val rfl rfl (OpV.pickT rfl rfl rfl rfl rfl) ?_
          refine VO.val rfl rfl (OpV.move (.inl rfl) rfl) ?_
          refine VO.opY rfl rfl rfl rfl rfl ?_
          refine OpE.val (W := NoB) (OpV.move (.inl rfl) rfl) rfl ?_
          refine VO.opY rfl rfl rfl rfl rfl ?_
          refine OpE.val (W := NoB) (OpV.move (.inl rfl) rfl) rfl ?_
          refine VO.opY rfl rfl rfl rfl rfl ?_
          refine OpE.val (W := NoB) (OpV.eql rfl rfl rfl) rfl ?_
          refine VO.le _ (Le.boolT (t := 106) rfl (decide_eq_true hE)) ?_
          refine VO.val rfl rfl (OpV.pickT rfl rfl rfl rfl rfl) ?_
          refine VO.val rfl rfl (OpV.move (.inl rfl) rfl) ?_
          refine VO.opY rfl rfl rfl rfl rfl ?_
          refine OpE.val (W := NoB) (OpV.move (.inl rfl) rfl) rfl ?_
          refine VO.opY rfl rfl rfl rfl rfl ?_
          refine OpE.val (W := NoB) (OpV.move (.inl rfl) rfl) rfl ?_
          refine VO.opY rfl rfl rfl rfl rfl ?_
          refine OpE.call rfl hB rfl Tryd.call19 rfl (SpecN.spec (slices_Equal_int (by first | (rw [if_pos hZ]; exact hlc) | (rw [if_neg hZ]; decide)) (by first | exact hlc | decide))) ?_
          rintro _ rfl
          refine VO.le _ (Le.boolT (t := 111) rfl (decide_eq_true (by first | rw [if_pos hZ] | rw [if_neg hZ]))) ?_
          refine VO.val rfl rfl (OpV.pickT rfl rfl rfl rfl rfl) ?_
          refine VO.val rfl rfl (OpV.move (.inl rfl) rfl) ?_
          refine VO.opY rfl rfl rfl rfl rfl ?_
          refine OpE.val (W := NoB) (OpV.move (.inl rfl) rfl) rfl ?_
          refine VO.opY rfl rfl rfl rfl rfl ?_
          refine OpE.val (W := NoB) (OpV.move (.inl rfl) rfl) rfl ?_
          refine VO.opY rfl rfl rfl rfl rfl ?_
          refine OpE.val (W := NoB) (OpV.eql rfl rfl rfl) rfl ?_
          refine VO.le _ (Le.boolT (t := 116) rfl (decide_eq_true hE)) ?_
          refine VO.val rfl rfl (OpV.pickT rfl rfl rfl rfl rfl) ?_
          refine VO.val rfl rfl (OpV.move (.inl rfl) rfl) ?_
          refine VO.opY rfl rfl rfl rfl rfl ?_
          refine OpE.val (W := NoB) (OpV.move (.inl rfl) rfl) rfl ?_
          refine VO.opY rfl rfl rfl rfl rfl ?_
          refine OpE.val (W := NoB) (OpV.move (.inl rfl) rfl) rfl ?_
          refine VO.opY rfl rfl rfl rfl rfl ?_
          refine OpE.val (W := NoB) (OpV.eql rfl rfl rfl) rfl ?_
          refine VO.le _ (Le.boolT (t := 121) rfl (decide_eq_true (by first | rw [if_pos hZ] | rw [if_neg hZ]))) ?_
          refine VO.val rfl rfl (OpV.pickT rfl rfl rfl rfl rfl) ?_
          refine VO.val rfl rfl (OpV.move (.inl rfl) rfl) ?_
          refine VO.opY rfl rfl rfl rfl rfl ?_
          refine OpE.val (W := NoB) (OpV.move (.inl rfl) rfl) rfl ?_
          refine VO.opY rfl rfl rfl rfl rfl ?_
          refine OpE.val (W := NoB) (OpV.move (.inl rfl) rfl) rfl ?_
          refine VO.opY rfl rfl rfl rfl rfl ?_
          refine OpE.val (W := NoB) (OpV.eql rfl rfl rfl) rfl ?_
          refine VO.le _ (Le.boolT (t := 126) rfl (decide_eq_true (by first | rw [if_pos hZ] | rw [if_neg hZ]))) ?_
          refine VO.val rfl rfl (OpV.pickT rfl rfl rfl rfl rfl) ?_
          refine VO.val rfl rfl (OpV.move (.inl rfl) rfl) ?_
          refine VO.opY rfl rfl rfl rfl rfl ?_
          refine OpE.val (W := NoB) (OpV.move (.inl rfl) rfl) rfl ?_
          refine VO.opY rfl rfl rfl rfl rfl ?_
          refine OpE.val (W := NoB) (OpV.move (.inl rfl) rfl) rfl ?_
          refine VO.opY rfl rfl rfl rfl rfl ?_
          refine OpE.val (W := NoB) (OpV.eql rfl rfl rfl) rfl ?_
          refine VO.le _ (Le.boolT (t := 131) rfl (decide_eq_true hE)) ?_
          refine VO.val rfl rfl (OpV.pickT rfl rfl rfl rfl rfl) ?_
          refine VO.val rfl rfl (OpV.move (.inl rfl) rfl) ?_
          refine VO.opY rfl rfl rfl rfl rfl ?_
          refine OpE.val (W := NoB) (OpV.move (.inl rfl) rfl) rfl ?_
          refine VO.opY rfl rfl rfl rfl rfl ?_
          refine OpE.val (W := NoB) (OpV.move (.inl rfl) rfl) rfl ?_
          refine VO.opY rfl rfl rfl rfl rfl ?_
          refine OpE.val (W := NoB) (OpV.eql rfl rfl rfl) rfl ?_
          refine VO.le _ (Le.boolT (t := 136) rfl (decide_eq_true (by first | rw [bet3, if_pos hZ] | rw [bet3, if_neg hZ]))) ?_
          refine VO.val rfl rfl (OpV.pickT rfl rfl rfl rfl rfl) ?_
          refine VO.val rfl rfl (OpV.move (.inl rfl) rfl) ?_
          refine VO.opY rfl rfl rfl rfl rfl ?_
          refine OpE.val (W := NoB) (OpV.move (.inl rfl) rfl) rfl ?_
          refine VO.opY rfl rfl rfl rfl rfl ?_
          refine OpE.val (W := NoB) (OpV.move (.inl rfl) rfl) rfl ?_
          refine VO.opY rfl rfl rfl rfl rfl ?_
          refine OpE.val (W := NoB) (OpV.eql rfl rfl rfl) rfl ?_
          refine VO.le _ (Le.boolT (t := 141) rfl (decide_eq_true (by first | rw [bet3, if_pos hZ] | rw [bet3, if_neg hZ]))) ?_
          refine VO.val rfl rfl (OpV.pickT rfl rfl rfl rfl rfl) ?_
          refine VO.val rfl rfl (OpV.move (.inl rfl) rfl) ?_
          refine VO.opY rfl rfl rfl rfl rfl ?_
          refine OpE.val (W := NoB) (OpV.move (.inl rfl) rfl) rfl ?_
          refine VO.opY rfl rfl rfl rfl rfl ?_
          refine OpE.val (W := NoB) (OpV.move (.inl rfl) rfl) rfl ?_
          refine VO.opY rfl rfl rfl rfl rfl ?_
          refine OpE.val (W := NoB) (OpV.beql rfl Tryd.underlying4 rfl rfl) rfl ?_
          refine VO.le _ (Le.boolT (t := 146) rfl ((by first | (rw [bet3, if_pos hZ]; simp) | (rw [bet3, if_neg hZ]; rfl)))) ?_
          refine VO.val rfl rfl (OpV.pickT rfl rfl rfl rfl rfl) ?_
          refine VO.val rfl rfl (OpV.move (.inl rfl) rfl) ?_
          refine VO.opY rfl rfl rfl rfl rfl ?_
          refine OpE.call rfl hB rfl Tryd.call20 rfl (SpecN.spec (lined_S)) ?_
          rintro _ rfl
          refine VO.le _ (Le.boolT (t := 149) rfl (rfl)) ?_
          refine VO.val rfl rfl (OpV.pickT rfl rfl rfl rfl rfl) ?_
          refine VO.val rfl rfl (OpV.move (.inr rfl) rfl) ?_
          refine VO.nil ?_
          show VC _ _ _ _ _
          refine VC.ret ?_
          exact And.intro rfl rfl
end Go.Proofs.YtdemlenodablfaaDoor
