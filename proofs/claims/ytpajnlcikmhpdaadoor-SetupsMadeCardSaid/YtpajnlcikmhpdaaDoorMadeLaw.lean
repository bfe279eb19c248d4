/- The walk of the law SetupsMade. -/
import Derived.Test.YtpajnlcikmhpdaaDoorNextS3
import Derived.Test.YtpajnlcikmhpdaaDoorGenP
import Derived.Test.YtpajnlcikmhpdaaDoorLaw0
namespace Go.Proofs.YtpajnlcikmhpdaaDoor
open Go.RowKit
set_option linter.unusedVariables false
set_option linter.unusedSimpArgs false
theorem SmSS.nil : SmSS [] := ⟨by simp, fun i => by simp only [List.getD_nil]; exact SmS.nil⟩
theorem SmSS.cons {l : List ByteArray} {p : List (List ByteArray)} (hl : SmS l) (hp : SmSS p) (hn : p.length ≤ 1000) : SmSS (l :: p) := ⟨by simp; omega, fun i => by
  cases i with
  | zero => exact hl
  | succ i => exact hp.2 i⟩
theorem nextR_len (a l : List ByteArray) (lt : List (List ByteArray)) : (nextR a l lt).length ≤ a.length := by
  unfold nextR
  split
  · rw [nextF_len]; exact Nat.le_refl _
  · simp
theorem stsF_sub (a : List ByteArray) (p : List (List ByteArray)) (q i : Nat) : ((stsF a p q).getD i default).length ≤ a.length := by
  by_cases h : i < q
  · rw [stsF_get h, stF_len]; exact Nat.le_refl _
  · rw [List.getD_eq_getElem?_getD, List.getElem?_eq_none (by rw [stsF_len]; omega)]; exact Nat.zero_le _
theorem setsR_sub (a : List ByteArray) (p : List (List ByteArray)) (i : Nat) : ((setsR a p).getD i default).length ≤ a.length := by
  unfold setsR
  split
  · exact stsF_sub _ _ _ _
  · exact Nat.zero_le _
theorem setsR_len (a : List ByteArray) (p : List (List ByteArray)) : (setsR a p).length ≤ p.length := by
  unfold setsR
  split
  · rw [stsF_len]; exact Nat.le_refl _
  · simp
theorem concat_two (l : List ByteArray) (lt : List (List ByteArray)) : [[l], lt].flatten = l :: lt := by simp
set_option maxRecDepth 100000 in
set_option maxHeartbeats 40000000 in
theorem setupsMade_any (a0 : Option Addr) (cap0 : Nat) (L : List Int) (w : World) (hin : Inp w a0 L) :
    Calls Tryd.prog 5 #[.slice a0 L.length cap0] w fun e w' => e = .returned (.bool true) ∧ Chg NoB w w' := by
  refine law_calls Tryd.func5 rfl Tryd.ntmps5 (Nat.le_of_ble_eq_true rfl) Tryd.results5 ?_
  have hB := B0.ok w (fun _ => True) 113
  have hnew : True := trivial
  refine VC.seq ?_
  refine VC.region ?_
  refine VO.val rfl rfl (OpV.move (.inr rfl) rfl) ?_
  refine VO.nil ?_
  show VC _ _ _ _ _
  refine VC.seq ?_
  refine VC.region ?_
  refine VO.val rfl rfl (OpV.move (.inl rfl) rfl) ?_
  refine VO.val rfl rfl (OpV.build (pls := #[(0, 1), (1, 1)]) rfl Tryd.zeroValue25 Tryd.underlying25 (fun w => by kernel_rfl) rfl rfl) ?_
  refine VO.op rfl (OpE.box rfl hB rfl rfl rfl ?_)
  intro g
  refine VO.val rfl rfl (OpV.move (.inr rfl) rfl) ?_
  refine VO.nil ?_
  show VC _ _ _ _ _
  refine VC.stream (i := 0) (sl := [(3, sp g)]) (by exact rfl) (by exact rfl) hin (by exact ⟨rfl, trivial⟩) (fun p hp => by simp at hp; subst hp; exact ⟨_, rfl⟩) (fun w1 hge hB => ?_)
  refine VC.seq ?_
  refine VC.region ?_
  refine VO.val rfl rfl (OpV.move (.inl rfl) rfl) ?_
  refine VO.op rfl (OpE.callT' (0) rfl rfl hB rfl Tryd.call6 rfl ((range_T (by omega) (by omega) (by omega))) (by omega) ?_)
  rintro _ ⟨r24, hr24, rfl⟩
  obtain ⟨n, rfl⟩ : ∃ n : Nat, r24 = n := ⟨r24.toNat, by omega⟩
  refine VO.val rfl rfl (OpV.move (.inr rfl) rfl) ?_
  refine VO.nil ?_
  show VC _ _ _ _ _
  refine VC.seq ?_
  refine VC.region ?_
  refine VO.val rfl rfl (OpV.move (.inl rfl) rfl) ?_
  refine VO.val rfl rfl (OpV.move (.inl rfl) rfl) ?_
  refine VO.op rfl (OpE.callT' (0 + 1) rfl rfl hB rfl Tryd.call7 rfl (aSetup_T (n := n) (by omega)) (by omega) ?_)
  rintro _ ⟨a, ha, rfl⟩
  refine VO.val rfl rfl (OpV.move (.inl rfl) rfl) ?_
  refine VO.val rfl rfl (OpV.move (.inl rfl) rfl) ?_
  refine VO.op rfl (OpE.callT' (0 + 1 + 30) rfl rfl hB rfl Tryd.call9 rfl (partLists_T (by omega) (by decide)) (by omega) ?_)
  rintro _ ⟨p, hp, rfl⟩
  refine VO.val rfl rfl (OpV.move (.inr rfl) rfl) ?_
  refine VO.val rfl rfl (OpV.move (.inr rfl) rfl) ?_
  refine VO.nil ?_
  show VC _ _ _ _ _
  refine VC.seq ?_
  have has := ha.sms (by decide)
  have hps := hp.smss
  have hls := has.1
  have hal := ha.1
  have hpl := hp.1
  refine VC.region ?_
  refine VO.val rfl rfl (OpV.move (.inr rfl) rfl) ?_
  refine VO.nil ?_
  show VC _ _ _ _ _
  refine VC.seq ?_
  refine VC.region ?_
  refine VO.val rfl rfl (OpV.move (.inr rfl) rfl) ?_
  refine VO.nil ?_
  show VC _ _ _ _ _
  refine VC.seq ?_
  refine VC.seq ?_
  refine VC.region ?_
  refine VO.val rfl rfl (OpV.move (.inl rfl) rfl) ?_
  first
    | refine VO.val rfl rfl (OpV.len_im rfl Tryd.underlying30 rfl) ?_
    | refine VO.val rfl rfl (OpV.len_v rfl Tryd.underlying30 rfl) ?_
    | refine VO.val rfl rfl (OpV.len_row (i := 0) rfl Tryd.underlying30 rfl rfl) ?_
  refine VO.val rfl rfl (OpV.gtr rfl rfl rfl) ?_
  refine VO.nil ?_
  show VC _ _ _ _ _
  refine VC.cond rfl (fun hzb => ?_) (fun hzb => ?_)
  · have hz := hzb
    try simp only [decide_eq_true_eq, decide_eq_false_iff_not, Bool.not_eq_true', Bool.not_eq_false', Int.not_lt, Int.not_le] at hz
    obtain ⟨l, hpa, hle⟩ : ∃ l, SmS l ∧ p.getD 0 default = l := ⟨_, hps.2 0, rfl⟩
    obtain ⟨lt, hlt, hlte, hltl⟩ : ∃ lt, SmSS lt ∧ (p.take p.length).drop 1 = lt ∧ lt.length ≤ 20 := ⟨_, (hps.take _).drop _, rfl, by simp; omega⟩
    refine VC.draw (fun _ => NoB) hB (by kernel_rfl) ?_
    refine VA.take (i := 0) rfl (by kernel_rfl) (by kernel_rfl) (by kernel_rfl) rfl rfl (OpV.move (.inl rfl) rfl) ?_
    first
      | refine VA.take (i := 1) rfl (by kernel_rfl) (by kernel_rfl) (by kernel_rfl) rfl rfl (OpV.indexAddr_1 rfl Tryd.underlying30 Tryd.sizeOf27 rfl rfl rfl (by omega)) ?_
      | refine VA.take (i := 1) rfl (by kernel_rfl) (by kernel_rfl) (by kernel_rfl) rfl rfl (OpV.indexAddr_1 rfl Tryd.underlying30 Tryd.sizeOf27 rfl rfl (Int.toNat_of_nonneg (by omega)).symm (by omega)) ?_
      | refine VA.take (i := 1) rfl (by kernel_rfl) (by kernel_rfl) (by kernel_rfl) rfl rfl (OpV.indexAddr_o rfl Tryd.underlying30 Tryd.sizeOf27 rfl rfl rfl (by omega)) ?_
      | refine VA.take (i := 1) rfl (by kernel_rfl) (by kernel_rfl) (by kernel_rfl) rfl rfl (OpV.indexAddr_o rfl Tryd.underlying30 Tryd.sizeOf27 rfl rfl (Int.toNat_of_nonneg (by omega)).symm (by omega)) ?_
      | refine VA.take (i := 1) rfl (by kernel_rfl) (by kernel_rfl) (by kernel_rfl) rfl rfl (OpV.indexAddr_q rfl Tryd.underlying30 Tryd.sizeOf27 rfl rfl rfl (by omega)) ?_
      | refine VA.take (i := 1) rfl (by kernel_rfl) (by kernel_rfl) (by kernel_rfl) rfl rfl (OpV.indexAddr_q rfl Tryd.underlying30 Tryd.sizeOf27 rfl rfl (Int.toNat_of_nonneg (by omega)).symm (by omega)) ?_
      | refine VA.take (i := 1) rfl (by kernel_rfl) (by kernel_rfl) (by kernel_rfl) rfl rfl (OpV.indexAddr_im rfl Tryd.underlying30 Tryd.sizeOf27 rfl rfl (by omega) (by omega)) ?_
    first
      | refine VA.take (i := 2) rfl (by kernel_rfl) (by kernel_rfl) (by kernel_rfl) rfl rfl (OpV.load_at rfl hB OutW.wi0 Tryd.isAgg27 rfl rfl) ?_
      | refine VA.take (i := 2) rfl (by kernel_rfl) (by kernel_rfl) (by kernel_rfl) rfl rfl (OpV.load_own (i := 0) rfl hB Tryd.isAgg27 rfl rfl rfl Wi.not0) ?_
    refine VA.le _ (Le.recast (t := 36) (y := avStrs l) rfl (fun w Z u h => by rw [← hle]; exact h)) ?_
    refine VA.take (i := 3) rfl (by kernel_rfl) (by kernel_rfl) (by kernel_rfl) rfl rfl (OpV.move (.inl rfl) rfl) ?_
    first
      | refine VA.take (i := 4) rfl (by kernel_rfl) (by kernel_rfl) (by kernel_rfl) rfl rfl (OpV.slice_ints (l := 1) rfl Tryd.underlying30 Tryd.sizeOf27 rfl ⟨_, _, rfl, rfl⟩ rfl (by omega) (by omega)) ?_
      | refine VA.take (i := 4) rfl (by kernel_rfl) (by kernel_rfl) (by kernel_rfl) rfl rfl (OpV.slice_strs (l := 1) rfl Tryd.underlying30 Tryd.sizeOf27 rfl ⟨_, _, rfl, rfl⟩ rfl (by omega) (by omega)) ?_
      | refine VA.take (i := 4) rfl (by kernel_rfl) (by kernel_rfl) (by kernel_rfl) rfl rfl (OpV.slice_M (l := 1) rfl Tryd.underlying30 Tryd.sizeOf27 rfl ⟨_, _, rfl, rfl⟩ rfl (by omega) (by omega)) ?_
      | refine VA.take (i := 4) rfl (by kernel_rfl) (by kernel_rfl) (by kernel_rfl) rfl rfl (OpV.slice_L (l := 1) rfl Tryd.underlying30 Tryd.sizeOf27 rfl ⟨_, _, rfl, rfl⟩ rfl (by omega) (by omega)) ?_
      | refine VA.take (i := 4) rfl (by kernel_rfl) (by kernel_rfl) (by kernel_rfl) rfl rfl (OpV.slice_im (l := 1) rfl Tryd.underlying30 Tryd.sizeOf27 rfl ⟨_, _, rfl, rfl⟩ rfl (by omega) (by omega)) ?_
      | refine VA.take (i := 4) rfl (by kernel_rfl) (by kernel_rfl) (by kernel_rfl) rfl rfl (OpV.slice_own (l := 1) rfl Tryd.underlying30 Tryd.sizeOf27 rfl ⟨_, _, rfl, rfl⟩ rfl (by omega) (by omega) (by omega)) ?_
    refine VA.le _ (Le.recast (t := 38) (y := avM lt) rfl (fun w Z u h => by rw [← hlte]; exact h)) ?_
    refine VA.take (i := 5) rfl (by kernel_rfl) (by kernel_rfl) (by kernel_rfl) rfl rfl (OpV.move (.inr rfl) rfl) ?_
    refine VA.take (i := 6) rfl (by kernel_rfl) (by kernel_rfl) (by kernel_rfl) rfl rfl (OpV.move (.inr rfl) rfl) ?_
    refine VA.done (by kernel_rfl) ?_
    show VC _ _ _ _ _
    refine VC.seq ?_
    have hcons := hlt
    replace hcons := SmSS.cons hpa hlt (by omega)
    have hnr := nextR_len a l lt
    have hsr := setsR_sub a p
    have hst := stsF_sub a p p.length
    have hsl := setsR_len a p
    have hsn := stsF_len a p p.length
    refine VC.region ?_
    refine VO.val rfl rfl (OpV.move (.inl rfl) rfl) ?_
    refine VO.val rfl rfl (OpV.move (.inl rfl) rfl) ?_
    refine VO.val rfl rfl (OpV.move (.inl rfl) rfl) ?_
    refine VO.op rfl (OpE.callH (hp := []) (rest := _) rfl hB rfl Tryd.call34 rfl rfl (setup_Next has hcons hlt) (List.Perm.refl _) (fun _ h => by obtain ⟨e, he, _⟩ := h; cases he) ?_)
    rintro _ _ ⟨u43, rfl, rfl⟩
    refine VO.val rfl rfl (OpV.move (.inl rfl) rfl) ?_
    first
      | refine VO.val rfl rfl (OpV.extract rfl rfl rfl) ?_
      | refine VO.val rfl rfl (OpV.extract_v rfl rfl rfl) ?_
    refine VO.le _ (Le.rowS (t := 44) (i := 0) hB hnew rfl rfl (by first | rfl | simp)) ?_
    first
      | refine VO.val rfl rfl (OpV.extract rfl rfl rfl) ?_
      | refine VO.val rfl rfl (OpV.extract_v rfl rfl rfl) ?_
    refine VO.val rfl rfl (OpV.move (.inr rfl) rfl) ?_
    refine VO.val rfl rfl (OpV.move (.inr rfl) rfl) ?_
    refine VO.nil ?_
    show VC _ _ _ _ _
    refine VC.seq ?_
    refine VC.region ?_
    refine VO.val rfl rfl (OpV.move (.inl rfl) rfl) ?_
    refine VO.val rfl rfl (OpV.move (.inl rfl) rfl) ?_
    refine VO.op rfl (OpE.call rfl hB rfl Tryd.call35 rfl (setup_Setups has hps) ?_)
    rintro _ rfl
    refine VO.val rfl rfl (OpV.move (.inl rfl) rfl) ?_
    first
      | refine VO.val rfl rfl (OpV.extract rfl rfl rfl) ?_
      | refine VO.val rfl rfl (OpV.extract_v rfl rfl rfl) ?_
    first
      | refine VO.val rfl rfl (OpV.extract rfl rfl rfl) ?_
      | refine VO.val rfl rfl (OpV.extract_v rfl rfl rfl) ?_
    refine VO.val rfl rfl (OpV.move (.inr rfl) rfl) ?_
    refine VO.val rfl rfl (OpV.move (.inr rfl) rfl) ?_
    refine VO.nil ?_
    show VC _ _ _ _ _
    refine VC.seq ?_
    refine VC.region ?_
    refine VO.val rfl rfl (OpV.move (.inl rfl) rfl) ?_
    refine VO.val rfl rfl (OpV.move (.inl rfl) rfl) ?_
    refine VO.op rfl (OpE.call rfl hB rfl Tryd.call36 rfl (SpecN.spec (setup_Total has hps)) ?_)
    rintro _ rfl
    refine VO.val rfl rfl (OpV.move (.inl rfl) rfl) ?_
    first
      | refine VO.val rfl rfl (OpV.extract rfl rfl rfl) ?_
      | refine VO.val rfl rfl (OpV.extract_v rfl rfl rfl) ?_
    first
      | refine VO.val rfl rfl (OpV.extract rfl rfl rfl) ?_
      | refine VO.val rfl rfl (OpV.extract_v rfl rfl rfl) ?_
    refine VO.val rfl rfl (OpV.move (.inr rfl) rfl) ?_
    refine VO.val rfl rfl (OpV.move (.inr rfl) rfl) ?_
    refine VO.nil ?_
    show VC _ _ _ _ _
    refine VC.seq ?_
    refine VC.region ?_
    refine VO.val rfl rfl (OpV.move (.inl rfl) rfl) ?_
    refine VO.val rfl rfl (OpV.move (.inl rfl) rfl) ?_
    refine VO.op rfl (OpE.buildSlice (zc := #[.slice none 0 0]) rfl hB rfl Tryd.underlying30 Tryd.sizeOf27 Tryd.zeroValue27 (by decide) (by decide) (by kernel_rfl) rfl rfl ?_)
    refine VO.le _ (Le.recast (t := 60) (y := avM [l]) rfl (fun w Z u h => Rep.listM (xs := [l]) rfl h)) ?_
    refine VO.val rfl rfl (OpV.move (.inl rfl) rfl) ?_
    refine VO.op rfl (OpE.buildSlice (zc := #[.slice none 0 0, .slice none 0 0]) rfl hB rfl Tryd.underlying92 Tryd.sizeOf30 Tryd.zeroValue30 (by decide) (by decide) (by kernel_rfl) rfl rfl ?_)
    refine VO.le _ (Le.recast (t := 62) (y := avM [[l], lt]) rfl (fun w Z u h => Rep.listM (xs := [[l], lt]) rfl h)) ?_
    refine VO.op rfl (OpE.callH (hp := []) (rest := _) rfl hB rfl Tryd.call37 rfl rfl (slices_ConcatM (by simp) (by rw [concat_two]; simp; omega)) (List.Perm.refl _) (fun _ h => by obtain ⟨e, he, _⟩ := h; cases he) ?_)
    rintro _ _ ⟨u63, rfl, rfl⟩
    refine VO.le _ (Le.rowsM (t := 63) (i := 0) hB hnew rfl rfl (by first | rfl | simp)) ?_
    refine VO.le _ (Le.recast (t := 63) (y := avM (l :: lt)) rfl (fun w Z u h => by rw [← concat_two]; exact h)) ?_
    refine VO.op rfl (OpE.call rfl hB rfl Tryd.call30 rfl (SpecN.spec (rf_setsFault has hcons)) ?_)
    rintro _ rfl
    refine VO.val rfl rfl (OpV.move (.inl rfl) rfl) ?_
    refine VO.val rfl rfl (OpV.move (.inl rfl) rfl) ?_
    refine VO.op rfl (OpE.call rfl hB rfl Tryd.call30 rfl (SpecN.spec (rf_setsFault has hps)) ?_)
    rintro _ rfl
    refine VO.val rfl rfl (OpV.move (.inr rfl) rfl) ?_
    refine VO.val rfl rfl (OpV.move (.inr rfl) rfl) ?_
    refine VO.nil ?_
    show VC _ _ _ _ _
    refine VC.seq ?_
    refine VC.region ?_
    refine VO.val rfl rfl (OpV.move (.inr rfl) rfl) ?_
    first | refine VO.le _ (Le.recast (t := 17) (y := avStrs []) rfl (fun w Z u h => by rw [h.eq_v]; exact .nil _ _)) ?_ | skip
    refine VO.nil ?_
    show VC _ _ _ _ _
    refine VC.seq ?_
    refine VC.seq ?_
    refine VC.region ?_
    refine VO.val rfl rfl (OpV.move (.inl rfl) rfl) ?_
    refine VO.val rfl rfl (OpV.eql rfl rfl rfl) ?_
    refine VO.nil ?_
    show VC _ _ _ _ _
    refine VC.cond rfl (fun h1b => ?_) (fun h1b => ?_)
    · have h1 := h1b
      try simp only [decide_eq_true_eq, decide_eq_false_iff_not, Bool.not_eq_true', Bool.not_eq_false', Int.not_lt, Int.not_le] at h1
      have y2 := (setsF_zero h1).2.1
      have y4 := (setsF_zero h1).2.2.2.1 0 (by simp)
      refine VC.region ?_
      refine VO.val rfl rfl (OpV.move (.inl rfl) rfl) ?_
      refine VO.val rfl rfl (OpV.move (.inl rfl) rfl) ?_
      refine VO.val rfl rfl (OpV.move (.inl rfl) rfl) ?_
      refine VO.op rfl (OpE.call rfl hB rfl Tryd.call38 rfl (SpecN.spec (rf_NextOf y2 y4 hlt)) ?_)
      rintro _ rfl
      refine VO.val rfl rfl (OpV.move (.inr rfl) rfl) ?_
      first | refine VO.le _ (Le.recast (t := 17) (y := avStrs []) rfl (fun w Z u h => by rw [h.eq_v]; exact .nil _ _)) ?_ | skip
      refine VO.nil ?_
      show VC _ _ _ _ _
      refine VC.seq ?_
      refine VC.region ?_
      refine VO.val rfl rfl (OpV.move (.inr rfl) rfl) ?_
      first | refine VO.le _ (Le.recast (t := 18) (y := avM ([] : List (List ByteArray))) rfl (fun w Z u h => by rw [h.eq_v]; exact .nil _ _)) ?_ | skip
      refine VO.nil ?_
      show VC _ _ _ _ _
      refine VC.seq ?_
      refine VC.region ?_
      refine VO.val rfl rfl (OpV.move (.inr rfl) rfl) ?_
      refine VO.nil ?_
      show VC _ _ _ _ _
      refine VC.seq ?_
      refine VC.seq ?_
      refine VC.region ?_
      refine VO.val rfl rfl (OpV.move (.inl rfl) rfl) ?_
      refine VO.val rfl rfl (OpV.eql rfl rfl rfl) ?_
      refine VO.nil ?_
      show VC _ _ _ _ _
      refine VC.cond rfl (fun h2b => ?_) (fun h2b => ?_)
      · have h2 := h2b
        try simp only [decide_eq_true_eq, decide_eq_false_iff_not, Bool.not_eq_true', Bool.not_eq_false', Int.not_lt, Int.not_le] at h2
        have z2 := (setsF_zero h2).2.1
        have z3 := (setsF_zero h2).2.2.1
        have z4 := (setsF_zero h2).2.2.2.1
        refine VC.region ?_
        refine VO.val rfl rfl (OpV.move (.inl rfl) rfl) ?_
        refine VO.val rfl rfl (OpV.move (.inl rfl) rfl) ?_
        refine VO.op rfl (OpE.call rfl hB rfl Tryd.call39 rfl (rf_SetupsOf z2 z4 hps) ?_)
        rintro _ rfl
        refine VO.val rfl rfl (OpV.move (.inl rfl) rfl) ?_
        refine VO.val rfl rfl (OpV.move (.inl rfl) rfl) ?_
        refine VO.op rfl (OpE.call rfl hB rfl Tryd.call40 rfl (SpecN.spec (rf_TotalOf z2 z4 hps z3)) ?_)
        rintro _ rfl
        refine VO.val rfl rfl (OpV.move (.inr rfl) rfl) ?_
        first | refine VO.le _ (Le.recast (t := 18) (y := avM ([] : List (List ByteArray))) rfl (fun w Z u h => by rw [h.eq_v]; exact .nil _ _)) ?_ | skip
        refine VO.val rfl rfl (OpV.move (.inr rfl) rfl) ?_
        refine VO.nil ?_
        show VC _ _ _ _ _
        refine VC.seq ?_
        refine VC.region ?_
        refine VO.val rfl rfl (OpV.move (.inl rfl) rfl) ?_
        refine VO.val rfl rfl (OpV.move (.inl rfl) rfl) ?_
        refine VO.val rfl rfl (OpV.eql rfl rfl rfl) ?_
        refine VO.le _ (Le.boolT (t := 84) rfl (decide_eq_true rfl)) ?_
        refine VO.val rfl rfl (OpV.move (.inl rfl) rfl) ?_
        refine VO.opY rfl rfl rfl rfl rfl ?_
        refine OpE.val (W := NoB) (OpV.move (.inl rfl) rfl) rfl ?_
        refine VO.opY rfl rfl rfl rfl rfl ?_
        refine OpE.val (W := NoB) (OpV.move (.inl rfl) rfl) rfl ?_
        refine VO.opY rfl rfl rfl rfl rfl ?_
        refine OpE.call rfl hB rfl Tryd.call23 rfl (SpecN.spec (slices_Equal_str (by omega) (by first | (rw [nextF_len]; omega) | decide))) ?_
        rintro _ rfl
        refine VO.le _ (Le.boolT (t := 88) rfl (by first | (rw [nextR, if_pos (show nextE a l lt = 0 from h1)]; exact eqLs_self sEq_refl _) | (rw [nextR, if_neg (show ¬ nextE a l lt = 0 from h1)]; rfl))) ?_
        refine VO.val rfl rfl (OpV.pickT rfl rfl rfl rfl rfl) ?_
        refine VO.val rfl rfl (OpV.move (.inl rfl) rfl) ?_
        refine VO.opY rfl rfl rfl rfl rfl ?_
        refine OpE.val (W := NoB) (OpV.move (.inl rfl) rfl) rfl ?_
        refine VO.opY rfl rfl rfl rfl rfl ?_
        refine OpE.val (W := NoB) (OpV.move (.inl rfl) rfl) rfl ?_
        refine VO.opY rfl rfl rfl rfl rfl ?_
        refine OpE.val (W := NoB) (OpV.eql rfl rfl rfl) rfl ?_
        refine VO.le _ (Le.boolT (t := 93) rfl (decide_eq_true rfl)) ?_
        refine VO.val rfl rfl (OpV.pickT rfl rfl rfl rfl rfl) ?_
        refine VO.val rfl rfl (OpV.move (.inl rfl) rfl) ?_
        refine VO.opY rfl rfl rfl rfl rfl ?_
        refine OpE.val (W := NoB) (OpV.move (.inl rfl) rfl) rfl ?_
        refine VO.opY rfl rfl rfl rfl rfl ?_
        refine OpE.val (W := NoB) (OpV.move (.inl rfl) rfl) rfl ?_
        refine VO.opY rfl rfl rfl rfl rfl ?_
        refine OpE.callL rfl hB rfl Tryd.call41 (slices_EqualFunc_LL (e := eqLs sEq) (by omega) (by first | (rw [hsn]; omega) | decide) Tryd.call23 (fun i hi => (slices_Equal_str (by have := hsr i; omega) (by first | (have := hst i; omega) | exact Nat.zero_le _)).spec)) (ArgsP.cons (ArgP.ev rfl) (ArgsP.cons (ArgP.ev rfl) (ArgsP.cons (ArgP.fn0 rfl) (ArgsP.nil)))) ?_
        rintro _ rfl
        refine VO.le _ (Le.boolT (t := 98) rfl (by first | (rw [setsR, if_pos h2]; exact eqLs_self (eqLs_self sEq_refl) _) | (rw [setsR, if_neg h2]; rfl))) ?_
        refine VO.val rfl rfl (OpV.pickT rfl rfl rfl rfl rfl) ?_
        refine VO.val rfl rfl (OpV.move (.inl rfl) rfl) ?_
        refine VO.opY rfl rfl rfl rfl rfl ?_
        refine OpE.val (W := NoB) (OpV.move (.inl rfl) rfl) rfl ?_
        refine VO.opY rfl rfl rfl rfl rfl ?_
        refine OpE.val (W := NoB) (OpV.move (.inl rfl) rfl) rfl ?_
        refine VO.opY rfl rfl rfl rfl rfl ?_
        refine OpE.val (W := NoB) (OpV.eql rfl rfl rfl) rfl ?_
        refine VO.le _ (Le.boolT (t := 103) rfl (decide_eq_true rfl)) ?_
        refine VO.val rfl rfl (OpV.pickT rfl rfl rfl rfl rfl) ?_
        refine VO.val rfl rfl (OpV.move (.inl rfl) rfl) ?_
        refine VO.opY rfl rfl rfl rfl rfl ?_
        refine OpE.val (W := NoB) (OpV.move (.inl rfl) rfl) rfl ?_
        refine VO.opY rfl rfl rfl rfl rfl ?_
        refine OpE.val (W := NoB) (OpV.move (.inl rfl) rfl) rfl ?_
        refine VO.opY rfl rfl rfl rfl rfl ?_
        refine OpE.val (W := NoB) (OpV.eql rfl rfl rfl) rfl ?_
        refine VO.le _ (Le.boolT (t := 108) rfl (decide_eq_true (by first | rw [totE, if_pos h2] | rw [totE, if_neg h2]))) ?_
        refine VO.val rfl rfl (OpV.pickT rfl rfl rfl rfl rfl) ?_
        refine VO.val rfl rfl (OpV.move (.inl rfl) rfl) ?_
        refine VO.opY rfl rfl rfl rfl rfl ?_
        refine OpE.call rfl hB rfl Tryd.call25 rfl (SpecN.spec (rf_loaded)) ?_
        rintro _ rfl
        refine VO.le _ (Le.boolT (t := 111) rfl rfl) ?_
        refine VO.val rfl rfl (OpV.pickT rfl rfl rfl rfl rfl) ?_
        refine VO.val rfl rfl (OpV.move (.inr rfl) rfl) ?_
        refine VO.nil ?_
        show VC _ _ _ _ _
        refine VC.ret ?_
        exact And.intro rfl rfl
      · have h2 := h2b
        try simp only [decide_eq_true_eq, decide_eq_false_iff_not, Bool.not_eq_true', Bool.not_eq_false', Int.not_lt, Int.not_le] at h2
        refine VC.skip ?_
        show VC _ _ _ _ _
        refine VC.seq ?_
        refine VC.region ?_
        refine VO.val rfl rfl (OpV.move (.inl rfl) rfl) ?_
        refine VO.val rfl rfl (OpV.move (.inl rfl) rfl) ?_
        refine VO.val rfl rfl (OpV.eql rfl rfl rfl) ?_
        refine VO.le _ (Le.boolT (t := 84) rfl (decide_eq_true rfl)) ?_
        refine VO.val rfl rfl (OpV.move (.inl rfl) rfl) ?_
        refine VO.opY rfl rfl rfl rfl rfl ?_
        refine OpE.val (W := NoB) (OpV.move (.inl rfl) rfl) rfl ?_
        refine VO.opY rfl rfl rfl rfl rfl ?_
        refine OpE.val (W := NoB) (OpV.move (.inl rfl) rfl) rfl ?_
        refine VO.opY rfl rfl rfl rfl rfl ?_
        refine OpE.call rfl hB rfl Tryd.call23 rfl (SpecN.spec (slices_Equal_str (by omega) (by first | (rw [nextF_len]; omega) | decide))) ?_
        rintro _ rfl
        refine VO.le _ (Le.boolT (t := 88) rfl (by first | (rw [nextR, if_pos (show nextE a l lt = 0 from h1)]; exact eqLs_self sEq_refl _) | (rw [nextR, if_neg (show ¬ nextE a l lt = 0 from h1)]; rfl))) ?_
        refine VO.val rfl rfl (OpV.pickT rfl rfl rfl rfl rfl) ?_
        refine VO.val rfl rfl (OpV.move (.inl rfl) rfl) ?_
        refine VO.opY rfl rfl rfl rfl rfl ?_
        refine OpE.val (W := NoB) (OpV.move (.inl rfl) rfl) rfl ?_
        refine VO.opY rfl rfl rfl rfl rfl ?_
        refine OpE.val (W := NoB) (OpV.move (.inl rfl) rfl) rfl ?_
        refine VO.opY rfl rfl rfl rfl rfl ?_
        refine OpE.val (W := NoB) (OpV.eql rfl rfl rfl) rfl ?_
        refine VO.le _ (Le.boolT (t := 93) rfl (decide_eq_true rfl)) ?_
        refine VO.val rfl rfl (OpV.pickT rfl rfl rfl rfl rfl) ?_
        refine VO.val rfl rfl (OpV.move (.inl rfl) rfl) ?_
        refine VO.opY rfl rfl rfl rfl rfl ?_
        refine OpE.val (W := NoB) (OpV.move (.inl rfl) rfl) rfl ?_
        refine VO.opY rfl rfl rfl rfl rfl ?_
        refine OpE.val (W := NoB) (OpV.move (.inl rfl) rfl) rfl ?_
        refine VO.opY rfl rfl rfl rfl rfl ?_
        refine OpE.callL rfl hB rfl Tryd.call41 (slices_EqualFunc_LL (e := eqLs sEq) (by omega) (by first | (rw [hsn]; omega) | decide) Tryd.call23 (fun i hi => (slices_Equal_str (by have := hsr i; omega) (by first | (have := hst i; omega) | exact Nat.zero_le _)).spec)) (ArgsP.cons (ArgP.ev rfl) (ArgsP.cons (ArgP.ev rfl) (ArgsP.cons (ArgP.fn0 rfl) (ArgsP.nil)))) ?_
        rintro _ rfl
        refine VO.le _ (Le.boolT (t := 98) rfl (by first | (rw [setsR, if_pos h2]; exact eqLs_self (eqLs_self sEq_refl) _) | (rw [setsR, if_neg h2]; rfl))) ?_
        refine VO.val rfl rfl (OpV.pickT rfl rfl rfl rfl rfl) ?_
        refine VO.val rfl rfl (OpV.move (.inl rfl) rfl) ?_
        refine VO.opY rfl rfl rfl rfl rfl ?_
        refine OpE.val (W := NoB) (OpV.move (.inl rfl) rfl) rfl ?_
        refine VO.opY rfl rfl rfl rfl rfl ?_
        refine OpE.val (W := NoB) (OpV.move (.inl rfl) rfl) rfl ?_
        refine VO.opY rfl rfl rfl rfl rfl ?_
        refine OpE.val (W := NoB) (OpV.eql rfl rfl rfl) rfl ?_
        refine VO.le _ (Le.boolT (t := 103) rfl (decide_eq_true rfl)) ?_
        refine VO.val rfl rfl (OpV.pickT rfl rfl rfl rfl rfl) ?_
        refine VO.val rfl rfl (OpV.move (.inl rfl) rfl) ?_
        refine VO.opY rfl rfl rfl rfl rfl ?_
        refine OpE.val (W := NoB) (OpV.move (.inl rfl) rfl) rfl ?_
        refine VO.opY rfl rfl rfl rfl rfl ?_
        refine OpE.val (W := NoB) (OpV.move (.inl rfl) rfl) rfl ?_
        refine VO.opY rfl rfl rfl rfl rfl ?_
        refine OpE.val (W := NoB) (OpV.eql rfl rfl rfl) rfl ?_
        refine VO.le _ (Le.boolT (t := 108) rfl (decide_eq_true (by first | rw [totE, if_pos h2] | rw [totE, if_neg h2]))) ?_
        refine VO.val rfl rfl (OpV.pickT rfl rfl rfl rfl rfl) ?_
        refine VO.val rfl rfl (OpV.move (.inl rfl) rfl) ?_
        refine VO.opY rfl rfl rfl rfl rfl ?_
        refine OpE.call rfl hB rfl Tryd.call25 rfl (SpecN.spec (rf_loaded)) ?_
        rintro _ rfl
        refine VO.le _ (Le.boolT (t := 111) rfl rfl) ?_
        refine VO.val rfl rfl (OpV.pickT rfl rfl rfl rfl rfl) ?_
        refine VO.val rfl rfl (OpV.move (.inr rfl) rfl) ?_
        refine VO.nil ?_
        show VC _ _ _ _ _
        refine VC.ret ?_
        exact And.intro rfl rfl
    · have h1 := h1b
      try simp only [decide_eq_true_eq, decide_eq_false_iff_not, Bool.not_eq_true', Bool.not_eq_false', Int.not_lt, Int.not_le] at h1
      refine VC.skip ?_
      show VC _ _ _ _ _
      refine VC.seq ?_
      refine VC.region ?_
      refine VO.val rfl rfl (OpV.move (.inr rfl) rfl) ?_
      first | refine VO.le _ (Le.recast (t := 18) (y := avM ([] : List (List ByteArray))) rfl (fun w Z u h => by rw [h.eq_v]; exact .nil _ _)) ?_ | skip
      refine VO.nil ?_
      show VC _ _ _ _ _
      refine VC.seq ?_
      refine VC.region ?_
      refine VO.val rfl rfl (OpV.move (.inr rfl) rfl) ?_
      refine VO.nil ?_
      show VC _ _ _ _ _
      refine VC.seq ?_
      refine VC.seq ?_
      refine VC.region ?_
      refine VO.val rfl rfl (OpV.move (.inl rfl) rfl) ?_
      refine VO.val rfl rfl (OpV.eql rfl rfl rfl) ?_
      refine VO.nil ?_
      show VC _ _ _ _ _
      refine VC.cond rfl (fun h2b => ?_) (fun h2b => ?_)
      · have h2 := h2b
        try simp only [decide_eq_true_eq, decide_eq_false_iff_not, Bool.not_eq_true', Bool.not_eq_false', Int.not_lt, Int.not_le] at h2
        have z2 := (setsF_zero h2).2.1
        have z3 := (setsF_zero h2).2.2.1
        have z4 := (setsF_zero h2).2.2.2.1
        refine VC.region ?_
        refine VO.val rfl rfl (OpV.move (.inl rfl) rfl) ?_
        refine VO.val rfl rfl (OpV.move (.inl rfl) rfl) ?_
        refine VO.op rfl (OpE.call rfl hB rfl Tryd.call39 rfl (rf_SetupsOf z2 z4 hps) ?_)
        rintro _ rfl
        refine VO.val rfl rfl (OpV.move (.inl rfl) rfl) ?_
        refine VO.val rfl rfl (OpV.move (.inl rfl) rfl) ?_
        refine VO.op rfl (OpE.call rfl hB rfl Tryd.call40 rfl (SpecN.spec (rf_TotalOf z2 z4 hps z3)) ?_)
        rintro _ rfl
        refine VO.val rfl rfl (OpV.move (.inr rfl) rfl) ?_
        first | refine VO.le _ (Le.recast (t := 18) (y := avM ([] : List (List ByteArray))) rfl (fun w Z u h => by rw [h.eq_v]; exact .nil _ _)) ?_ | skip
        refine VO.val rfl rfl (OpV.move (.inr rfl) rfl) ?_
        refine VO.nil ?_
        show VC _ _ _ _ _
        refine VC.seq ?_
        refine VC.region ?_
        refine VO.val rfl rfl (OpV.move (.inl rfl) rfl) ?_
        refine VO.val rfl rfl (OpV.move (.inl rfl) rfl) ?_
        refine VO.val rfl rfl (OpV.eql rfl rfl rfl) ?_
        refine VO.le _ (Le.boolT (t := 84) rfl (decide_eq_true rfl)) ?_
        refine VO.val rfl rfl (OpV.move (.inl rfl) rfl) ?_
        refine VO.opY rfl rfl rfl rfl rfl ?_
        refine OpE.val (W := NoB) (OpV.move (.inl rfl) rfl) rfl ?_
        refine VO.opY rfl rfl rfl rfl rfl ?_
        refine OpE.val (W := NoB) (OpV.move (.inl rfl) rfl) rfl ?_
        refine VO.opY rfl rfl rfl rfl rfl ?_
        refine OpE.call rfl hB rfl Tryd.call23 rfl (SpecN.spec (slices_Equal_str (by omega) (by first | (rw [nextF_len]; omega) | decide))) ?_
        rintro _ rfl
        refine VO.le _ (Le.boolT (t := 88) rfl (by first | (rw [nextR, if_pos (show nextE a l lt = 0 from h1)]; exact eqLs_self sEq_refl _) | (rw [nextR, if_neg (show ¬ nextE a l lt = 0 from h1)]; rfl))) ?_
        refine VO.val rfl rfl (OpV.pickT rfl rfl rfl rfl rfl) ?_
        refine VO.val rfl rfl (OpV.move (.inl rfl) rfl) ?_
        refine VO.opY rfl rfl rfl rfl rfl ?_
        refine OpE.val (W := NoB) (OpV.move (.inl rfl) rfl) rfl ?_
        refine VO.opY rfl rfl rfl rfl rfl ?_
        refine OpE.val (W := NoB) (OpV.move (.inl rfl) rfl) rfl ?_
        refine VO.opY rfl rfl rfl rfl rfl ?_
        refine OpE.val (W := NoB) (OpV.eql rfl rfl rfl) rfl ?_
        refine VO.le _ (Le.boolT (t := 93) rfl (decide_eq_true rfl)) ?_
        refine VO.val rfl rfl (OpV.pickT rfl rfl rfl rfl rfl) ?_
        refine VO.val rfl rfl (OpV.move (.inl rfl) rfl) ?_
        refine VO.opY rfl rfl rfl rfl rfl ?_
        refine OpE.val (W := NoB) (OpV.move (.inl rfl) rfl) rfl ?_
        refine VO.opY rfl rfl rfl rfl rfl ?_
        refine OpE.val (W := NoB) (OpV.move (.inl rfl) rfl) rfl ?_
        refine VO.opY rfl rfl rfl rfl rfl ?_
        refine OpE.callL rfl hB rfl Tryd.call41 (slices_EqualFunc_LL (e := eqLs sEq) (by omega) (by first | (rw [hsn]; omega) | decide) Tryd.call23 (fun i hi => (slices_Equal_str (by have := hsr i; omega) (by first | (have := hst i; omega) | exact Nat.zero_le _)).spec)) (ArgsP.cons (ArgP.ev rfl) (ArgsP.cons (ArgP.ev rfl) (ArgsP.cons (ArgP.fn0 rfl) (ArgsP.nil)))) ?_
        rintro _ rfl
        refine VO.le _ (Le.boolT (t := 98) rfl (by first | (rw [setsR, if_pos h2]; exact eqLs_self (eqLs_self sEq_refl) _) | (rw [setsR, if_neg h2]; rfl))) ?_
        refine VO.val rfl rfl (OpV.pickT rfl rfl rfl rfl rfl) ?_
        refine VO.val rfl rfl (OpV.move (.inl rfl) rfl) ?_
        refine VO.opY rfl rfl rfl rfl rfl ?_
        refine OpE.val (W := NoB) (OpV.move (.inl rfl) rfl) rfl ?_
        refine VO.opY rfl rfl rfl rfl rfl ?_
        refine OpE.val (W := NoB) (OpV.move (.inl rfl) rfl) rfl ?_
        refine VO.opY rfl rfl rfl rfl rfl ?_
        refine OpE.val (W := NoB) (OpV.eql rfl rfl rfl) rfl ?_
        refine VO.le _ (Le.boolT (t := 103) rfl (decide_eq_true rfl)) ?_
        refine VO.val rfl rfl (OpV.pickT rfl rfl rfl rfl rfl) ?_
        refine VO.val rfl rfl (OpV.move (.inl rfl) rfl) ?_
        refine VO.opY rfl rfl rfl rfl rfl ?_
        refine OpE.val (W := NoB) (OpV.move (.inl rfl) rfl) rfl ?_
        refine VO.opY rfl rfl rfl rfl rfl ?_
        refine OpE.val (W := NoB) (OpV.move (.inl rfl) rfl) rfl ?_
        refine VO.opY rfl rfl rfl rfl rfl ?_
        refine OpE.val (W := NoB) (OpV.eql rfl rfl rfl) rfl ?_
        refine VO.le _ (Le.boolT (t := 108) rfl (decide_eq_true (by first | rw [totE, if_pos h2] | rw [totE, if_neg h2]))) ?_
        refine VO.val rfl rfl (OpV.pickT rfl rfl rfl rfl rfl) ?_
        refine VO.val rfl rfl (OpV.move (.inl rfl) rfl) ?_
        refine VO.opY rfl rfl rfl rfl rfl ?_
        refine OpE.call rfl hB rfl Tryd.call25 rfl (SpecN.spec (rf_loaded)) ?_
        rintro _ rfl
        refine VO.le _ (Le.boolT (t := 111) rfl rfl) ?_
        refine VO.val rfl rfl (OpV.pickT rfl rfl rfl rfl rfl) ?_
        refine VO.val rfl rfl (OpV.move (.inr rfl) rfl) ?_
        refine VO.nil ?_
        show VC _ _ _ _ _
        refine VC.ret ?_
        exact And.intro rfl rfl
      · have h2 := h2b
        try simp only [decide_eq_true_eq, decide_eq_false_iff_not, Bool.not_eq_true', Bool.not_eq_false', Int.not_lt, Int.not_le] at h2
        refine VC.skip ?_
        show VC _ _ _ _ _
        refine VC.seq ?_
        refine VC.region ?_
        refine VO.val rfl rfl (OpV.move (.inl rfl) rfl) ?_
        refine VO.val rfl rfl (OpV.move (.inl rfl) rfl) ?_
        refine VO.val rfl rfl (OpV.eql rfl rfl rfl) ?_
        refine VO.le _ (Le.boolT (t := 84) rfl (decide_eq_true rfl)) ?_
        refine VO.val rfl rfl (OpV.move (.inl rfl) rfl) ?_
        refine VO.opY rfl rfl rfl rfl rfl ?_
        refine OpE.val (W := NoB) (OpV.move (.inl rfl) rfl) rfl ?_
        refine VO.opY rfl rfl rfl rfl rfl ?_
        refine OpE.val (W := NoB) (OpV.move (.inl rfl) rfl) rfl ?_
        refine VO.opY rfl rfl rfl rfl rfl ?_
        refine OpE.call rfl hB rfl Tryd.call23 rfl (SpecN.spec (slices_Equal_str (by omega) (by first | (rw [nextF_len]; omega) | decide))) ?_
        rintro _ rfl
        refine VO.le _ (Le.boolT (t := 88) rfl (by first | (rw [nextR, if_pos (show nextE a l lt = 0 from h1)]; exact eqLs_self sEq_refl _) | (rw [nextR, if_neg (show ¬ nextE a l lt = 0 from h1)]; rfl))) ?_
        refine VO.val rfl rfl (OpV.pickT rfl rfl rfl rfl rfl) ?_
        refine VO.val rfl rfl (OpV.move (.inl rfl) rfl) ?_
        refine VO.opY rfl rfl rfl rfl rfl ?_
        refine OpE.val (W := NoB) (OpV.move (.inl rfl) rfl) rfl ?_
        refine VO.opY rfl rfl rfl rfl rfl ?_
        refine OpE.val (W := NoB) (OpV.move (.inl rfl) rfl) rfl ?_
        refine VO.opY rfl rfl rfl rfl rfl ?_
        refine OpE.val (W := NoB) (OpV.eql rfl rfl rfl) rfl ?_
        refine VO.le _ (Le.boolT (t := 93) rfl (decide_eq_true rfl)) ?_
        refine VO.val rfl rfl (OpV.pickT rfl rfl rfl rfl rfl) ?_
        refine VO.val rfl rfl (OpV.move (.inl rfl) rfl) ?_
        refine VO.opY rfl rfl rfl rfl rfl ?_
        refine OpE.val (W := NoB) (OpV.move (.inl rfl) rfl) rfl ?_
        refine VO.opY rfl rfl rfl rfl rfl ?_
        refine OpE.val (W := NoB) (OpV.move (.inl rfl) rfl) rfl ?_
        refine VO.opY rfl rfl rfl rfl rfl ?_
        refine OpE.callL rfl hB rfl Tryd.call41 (slices_EqualFunc_LL (e := eqLs sEq) (by omega) (by first | (rw [hsn]; omega) | decide) Tryd.call23 (fun i hi => (slices_Equal_str (by have := hsr i; omega) (by first | (have := hst i; omega) | exact Nat.zero_le _)).spec)) (ArgsP.cons (ArgP.ev rfl) (ArgsP.cons (ArgP.ev rfl) (ArgsP.cons (ArgP.fn0 rfl) (ArgsP.nil)))) ?_
        rintro _ rfl
        refine VO.le _ (Le.boolT (t := 98) rfl (by first | (rw [setsR, if_pos h2]; exact eqLs_self (eqLs_self sEq_refl) _) | (rw [setsR, if_neg h2]; rfl))) ?_
        refine VO.val rfl rfl (OpV.pickT rfl rfl rfl rfl rfl) ?_
        refine VO.val rfl rfl (OpV.move (.inl rfl) rfl) ?_
        refine VO.opY rfl rfl rfl rfl rfl ?_
        refine OpE.val (W := NoB) (OpV.move (.inl rfl) rfl) rfl ?_
        refine VO.opY rfl rfl rfl rfl rfl ?_
        refine OpE.val (W := NoB) (OpV.move (.inl rfl) rfl) rfl ?_
        refine VO.opY rfl rfl rfl rfl rfl ?_
        refine OpE.val (W := NoB) (OpV.eql rfl rfl rfl) rfl ?_
        refine VO.le _ (Le.boolT (t := 103) rfl (decide_eq_true rfl)) ?_
        refine VO.val rfl rfl (OpV.pickT rfl rfl rfl rfl rfl) ?_
        refine VO.val rfl rfl (OpV.move (.inl rfl) rfl) ?_
        refine VO.opY rfl rfl rfl rfl rfl ?_
        refine OpE.val (W := NoB) (OpV.move (.inl rfl) rfl) rfl ?_
        refine VO.opY rfl rfl rfl rfl rfl ?_
        refine OpE.val (W := NoB) (OpV.move (.inl rfl) rfl) rfl ?_
        refine VO.opY rfl rfl rfl rfl rfl ?_
        refine OpE.val (W := NoB) (OpV.eql rfl rfl rfl) rfl ?_
        refine VO.le _ (Le.boolT (t := 108) rfl (decide_eq_true (by first | rw [totE, if_pos h2] | rw [totE, if_neg h2]))) ?_
        refine VO.val rfl rfl (OpV.pickT rfl rfl rfl rfl rfl) ?_
        refine VO.val rfl rfl (OpV.move (.inl rfl) rfl) ?_
        refine VO.opY rfl rfl rfl rfl rfl ?_
        refine OpE.call rfl hB rfl Tryd.call25 rfl (SpecN.spec (rf_loaded)) ?_
        rintro _ rfl
        refine VO.le _ (Le.boolT (t := 111) rfl rfl) ?_
        refine VO.val rfl rfl (OpV.pickT rfl rfl rfl rfl rfl) ?_
        refine VO.val rfl rfl (OpV.move (.inr rfl) rfl) ?_
        refine VO.nil ?_
        show VC _ _ _ _ _
        refine VC.ret ?_
        exact And.intro rfl rfl
  · have hz := hzb
    try simp only [decide_eq_true_eq, decide_eq_false_iff_not, Bool.not_eq_true', Bool.not_eq_false', Int.not_lt, Int.not_le] at hz
    obtain ⟨l, hpa⟩ : ∃ l, SmS l ∧ l = [] := ⟨_, SmS.nil, rfl⟩
    obtain ⟨hpa, hle⟩ := hpa
    obtain ⟨lt, hlt, hlte⟩ : ∃ lt, SmSS lt ∧ lt = [] := ⟨_, SmSS.nil, rfl⟩
    have hltl : lt.length ≤ 20 := by rw [hlte]; decide
    refine VC.le _ (Le.recast (t := 7) (y := avStrs l) rfl (fun w Z u h => by rw [h.eq_v, hle]; exact .nil _ _)) ?_
    refine VC.le _ (Le.recast (t := 8) (y := avM lt) rfl (fun w Z u h => by rw [h.eq_v, hlte]; exact .nil _ _)) ?_
    refine VC.skip ?_
    show VC _ _ _ _ _
    refine VC.seq ?_
    have hcons := hlt
    replace hcons := SmSS.cons hpa hlt (by omega)
    have hnr := nextR_len a l lt
    have hsr := setsR_sub a p
    have hst := stsF_sub a p p.length
    have hsl := setsR_len a p
    have hsn := stsF_len a p p.length
    refine VC.region ?_
    refine VO.val rfl rfl (OpV.move (.inl rfl) rfl) ?_
    refine VO.val rfl rfl (OpV.move (.inl rfl) rfl) ?_
    refine VO.val rfl rfl (OpV.move (.inl rfl) rfl) ?_
    refine VO.op rfl (OpE.callH (hp := []) (rest := _) rfl hB rfl Tryd.call34 rfl rfl (setup_Next has hcons hlt) (List.Perm.refl _) (fun _ h => by obtain ⟨e, he, _⟩ := h; cases he) ?_)
    rintro _ _ ⟨u43, rfl, rfl⟩
    refine VO.val rfl rfl (OpV.move (.inl rfl) rfl) ?_
    first
      | refine VO.val rfl rfl (OpV.extract rfl rfl rfl) ?_
      | refine VO.val rfl rfl (OpV.extract_v rfl rfl rfl) ?_
    refine VO.le _ (Le.rowS (t := 44) (i := 0) hB hnew rfl rfl (by first | rfl | simp)) ?_
    first
      | refine VO.val rfl rfl (OpV.extract rfl rfl rfl) ?_
      | refine VO.val rfl rfl (OpV.extract_v rfl rfl rfl) ?_
    refine VO.val rfl rfl (OpV.move (.inr rfl) rfl) ?_
    refine VO.val rfl rfl (OpV.move (.inr rfl) rfl) ?_
    refine VO.nil ?_
    show VC _ _ _ _ _
    refine VC.seq ?_
    refine VC.region ?_
    refine VO.val rfl rfl (OpV.move (.inl rfl) rfl) ?_
    refine VO.val rfl rfl (OpV.move (.inl rfl) rfl) ?_
    refine VO.op rfl (OpE.call rfl hB rfl Tryd.call35 rfl (setup_Setups has hps) ?_)
    rintro _ rfl
    refine VO.val rfl rfl (OpV.move (.inl rfl) rfl) ?_
    first
      | refine VO.val rfl rfl (OpV.extract rfl rfl rfl) ?_
      | refine VO.val rfl rfl (OpV.extract_v rfl rfl rfl) ?_
    first
      | refine VO.val rfl rfl (OpV.extract rfl rfl rfl) ?_
      | refine VO.val rfl rfl (OpV.extract_v rfl rfl rfl) ?_
    refine VO.val rfl rfl (OpV.move (.inr rfl) rfl) ?_
    refine VO.val rfl rfl (OpV.move (.inr rfl) rfl) ?_
    refine VO.nil ?_
    show VC _ _ _ _ _
    refine VC.seq ?_
    refine VC.region ?_
    refine VO.val rfl rfl (OpV.move (.inl rfl) rfl) ?_
    refine VO.val rfl rfl (OpV.move (.inl rfl) rfl) ?_
    refine VO.op rfl (OpE.call rfl hB rfl Tryd.call36 rfl (SpecN.spec (setup_Total has hps)) ?_)
    rintro _ rfl
    refine VO.val rfl rfl (OpV.move (.inl rfl) rfl) ?_
    first
      | refine VO.val rfl rfl (OpV.extract rfl rfl rfl) ?_
      | refine VO.val rfl rfl (OpV.extract_v rfl rfl rfl) ?_
    first
      | refine VO.val rfl rfl (OpV.extract rfl rfl rfl) ?_
      | refine VO.val rfl rfl (OpV.extract_v rfl rfl rfl) ?_
    refine VO.val rfl rfl (OpV.move (.inr rfl) rfl) ?_
    refine VO.val rfl rfl (OpV.move (.inr rfl) rfl) ?_
    refine VO.nil ?_
    show VC _ _ _ _ _
    refine VC.seq ?_
    refine VC.region ?_
    refine VO.val rfl rfl (OpV.move (.inl rfl) rfl) ?_
    refine VO.val rfl rfl (OpV.move (.inl rfl) rfl) ?_
    refine VO.op rfl (OpE.buildSlice (zc := #[.slice none 0 0]) rfl hB rfl Tryd.underlying30 Tryd.sizeOf27 Tryd.zeroValue27 (by decide) (by decide) (by kernel_rfl) rfl rfl ?_)
    refine VO.le _ (Le.recast (t := 60) (y := avM [l]) rfl (fun w Z u h => Rep.listM (xs := [l]) rfl h)) ?_
    refine VO.val rfl rfl (OpV.move (.inl rfl) rfl) ?_
    refine VO.op rfl (OpE.buildSlice (zc := #[.slice none 0 0, .slice none 0 0]) rfl hB rfl Tryd.underlying92 Tryd.sizeOf30 Tryd.zeroValue30 (by decide) (by decide) (by kernel_rfl) rfl rfl ?_)
    refine VO.le _ (Le.recast (t := 62) (y := avM [[l], lt]) rfl (fun w Z u h => Rep.listM (xs := [[l], lt]) rfl h)) ?_
    refine VO.op rfl (OpE.callH (hp := []) (rest := _) rfl hB rfl Tryd.call37 rfl rfl (slices_ConcatM (by simp) (by rw [concat_two]; simp; omega)) (List.Perm.refl _) (fun _ h => by obtain ⟨e, he, _⟩ := h; cases he) ?_)
    rintro _ _ ⟨u63, rfl, rfl⟩
    refine VO.le _ (Le.rowsM (t := 63) (i := 0) hB hnew rfl rfl (by first | rfl | simp)) ?_
    refine VO.le _ (Le.recast (t := 63) (y := avM (l :: lt)) rfl (fun w Z u h => by rw [← concat_two]; exact h)) ?_
    refine VO.op rfl (OpE.call rfl hB rfl Tryd.call30 rfl (SpecN.spec (rf_setsFault has hcons)) ?_)
    rintro _ rfl
    refine VO.val rfl rfl (OpV.move (.inl rfl) rfl) ?_
    refine VO.val rfl rfl (OpV.move (.inl rfl) rfl) ?_
    refine VO.op rfl (OpE.call rfl hB rfl Tryd.call30 rfl (SpecN.spec (rf_setsFault has hps)) ?_)
    rintro _ rfl
    refine VO.val rfl rfl (OpV.move (.inr rfl) rfl) ?_
    refine VO.val rfl rfl (OpV.move (.inr rfl) rfl) ?_
    refine VO.nil ?_
    show VC _ _ _ _ _
    refine VC.seq ?_
    refine VC.region ?_
    refine VO.val rfl rfl (OpV.move (.inr rfl) rfl) ?_
    first | refine VO.le _ (Le.recast (t := 17) (y := avStrs []) rfl (fun w Z u h => by rw [h.eq_v]; exact .nil _ _)) ?_ | skip
    refine VO.nil ?_
    show VC _ _ _ _ _
    refine VC.seq ?_
    refine VC.seq ?_
    refine VC.region ?_
    refine VO.val rfl rfl (OpV.move (.inl rfl) rfl) ?_
    refine VO.val rfl rfl (OpV.eql rfl rfl rfl) ?_
    refine VO.nil ?_
    show VC _ _ _ _ _
    refine VC.cond rfl (fun h1b => ?_) (fun h1b => ?_)
    · have h1 := h1b
      try simp only [decide_eq_true_eq, decide_eq_false_iff_not, Bool.not_eq_true', Bool.not_eq_false', Int.not_lt, Int.not_le] at h1
      have y2 := (setsF_zero h1).2.1
      have y4 := (setsF_zero h1).2.2.2.1 0 (by simp)
      refine VC.region ?_
      refine VO.val rfl rfl (OpV.move (.inl rfl) rfl) ?_
      refine VO.val rfl rfl (OpV.move (.inl rfl) rfl) ?_
      refine VO.val rfl rfl (OpV.move (.inl rfl) rfl) ?_
      refine VO.op rfl (OpE.call rfl hB rfl Tryd.call38 rfl (SpecN.spec (rf_NextOf y2 y4 hlt)) ?_)
      rintro _ rfl
      refine VO.val rfl rfl (OpV.move (.inr rfl) rfl) ?_
      first | refine VO.le _ (Le.recast (t := 17) (y := avStrs []) rfl (fun w Z u h => by rw [h.eq_v]; exact .nil _ _)) ?_ | skip
      refine VO.nil ?_
      show VC _ _ _ _ _
      refine VC.seq ?_
      refine VC.region ?_
      refine VO.val rfl rfl (OpV.move (.inr rfl) rfl) ?_
      first | refine VO.le _ (Le.recast (t := 18) (y := avM ([] : List (List ByteArray))) rfl (fun w Z u h => by rw [h.eq_v]; exact .nil _ _)) ?_ | skip
      refine VO.nil ?_
      show VC _ _ _ _ _
      refine VC.seq ?_
      refine VC.region ?_
      refine VO.val rfl rfl (OpV.move (.inr rfl) rfl) ?_
      refine VO.nil ?_
      show VC _ _ _ _ _
      refine VC.seq ?_
      refine VC.seq ?_
      refine VC.region ?_
      refine VO.val rfl rfl (OpV.move (.inl rfl) rfl) ?_
      refine VO.val rfl rfl (OpV.eql rfl rfl rfl) ?_
      refine VO.nil ?_
      show VC _ _ _ _ _
      refine VC.cond rfl (fun h2b => ?_) (fun h2b => ?_)
      · have h2 := h2b
        try simp only [decide_eq_true_eq, decide_eq_false_iff_not, Bool.not_eq_true', Bool.not_eq_false', Int.not_lt, Int.not_le] at h2
        have z2 := (setsF_zero h2).2.1
        have z3 := (setsF_zero h2).2.2.1
        have z4 := (setsF_zero h2).2.2.2.1
        refine VC.region ?_
        refine VO.val rfl rfl (OpV.move (.inl rfl) rfl) ?_
        refine VO.val rfl rfl (OpV.move (.inl rfl) rfl) ?_
        refine VO.op rfl (OpE.call rfl hB rfl Tryd.call39 rfl (rf_SetupsOf z2 z4 hps) ?_)
        rintro _ rfl
        refine VO.val rfl rfl (OpV.move (.inl rfl) rfl) ?_
        refine VO.val rfl rfl (OpV.move (.inl rfl) rfl) ?_
        refine VO.op rfl (OpE.call rfl hB rfl Tryd.call40 rfl (SpecN.spec (rf_TotalOf z2 z4 hps z3)) ?_)
        rintro _ rfl
        refine VO.val rfl rfl (OpV.move (.inr rfl) rfl) ?_
        first | refine VO.le _ (Le.recast (t := 18) (y := avM ([] : List (List ByteArray))) rfl (fun w Z u h => by rw [h.eq_v]; exact .nil _ _)) ?_ | skip
        refine VO.val rfl rfl (OpV.move (.inr rfl) rfl) ?_
        refine VO.nil ?_
        show VC _ _ _ _ _
        refine VC.seq ?_
        refine VC.region ?_
        refine VO.val rfl rfl (OpV.move (.inl rfl) rfl) ?_
        refine VO.val rfl rfl (OpV.move (.inl rfl) rfl) ?_
        refine VO.val rfl rfl (OpV.eql rfl rfl rfl) ?_
        refine VO.le _ (Le.boolT (t := 84) rfl (decide_eq_true rfl)) ?_
        refine VO.val rfl rfl (OpV.move (.inl rfl) rfl) ?_
        refine VO.opY rfl rfl rfl rfl rfl ?_
        refine OpE.val (W := NoB) (OpV.move (.inl rfl) rfl) rfl ?_
        refine VO.opY rfl rfl rfl rfl rfl ?_
        refine OpE.val (W := NoB) (OpV.move (.inl rfl) rfl) rfl ?_
        refine VO.opY rfl rfl rfl rfl rfl ?_
        refine OpE.call rfl hB rfl Tryd.call23 rfl (SpecN.spec (slices_Equal_str (by omega) (by first | (rw [nextF_len]; omega) | decide))) ?_
        rintro _ rfl
        refine VO.le _ (Le.boolT (t := 88) rfl (by first | (rw [nextR, if_pos (show nextE a l lt = 0 from h1)]; exact eqLs_self sEq_refl _) | (rw [nextR, if_neg (show ¬ nextE a l lt = 0 from h1)]; rfl))) ?_
        refine VO.val rfl rfl (OpV.pickT rfl rfl rfl rfl rfl) ?_
        refine VO.val rfl rfl (OpV.move (.inl rfl) rfl) ?_
        refine VO.opY rfl rfl rfl rfl rfl ?_
        refine OpE.val (W := NoB) (OpV.move (.inl rfl) rfl) rfl ?_
        refine VO.opY rfl rfl rfl rfl rfl ?_
        refine OpE.val (W := NoB) (OpV.move (.inl rfl) rfl) rfl ?_
        refine VO.opY rfl rfl rfl rfl rfl ?_
        refine OpE.val (W := NoB) (OpV.eql rfl rfl rfl) rfl ?_
        refine VO.le _ (Le.boolT (t := 93) rfl (decide_eq_true rfl)) ?_
        refine VO.val rfl rfl (OpV.pickT rfl rfl rfl rfl rfl) ?_
        refine VO.val rfl rfl (OpV.move (.inl rfl) rfl) ?_
        refine VO.opY rfl rfl rfl rfl rfl ?_
        refine OpE.val (W := NoB) (OpV.move (.inl rfl) rfl) rfl ?_
        refine VO.opY rfl rfl rfl rfl rfl ?_
        refine OpE.val (W := NoB) (OpV.move (.inl rfl) rfl) rfl ?_
        refine VO.opY rfl rfl rfl rfl rfl ?_
        refine OpE.callL rfl hB rfl Tryd.call41 (slices_EqualFunc_LL (e := eqLs sEq) (by omega) (by first | (rw [hsn]; omega) | decide) Tryd.call23 (fun i hi => (slices_Equal_str (by have := hsr i; omega) (by first | (have := hst i; omega) | exact Nat.zero_le _)).spec)) (ArgsP.cons (ArgP.ev rfl) (ArgsP.cons (ArgP.ev rfl) (ArgsP.cons (ArgP.fn0 rfl) (ArgsP.nil)))) ?_
        rintro _ rfl
        refine VO.le _ (Le.boolT (t := 98) rfl (by first | (rw [setsR, if_pos h2]; exact eqLs_self (eqLs_self sEq_refl) _) | (rw [setsR, if_neg h2]; rfl))) ?_
        refine VO.val rfl rfl (OpV.pickT rfl rfl rfl rfl rfl) ?_
        refine VO.val rfl rfl (OpV.move (.inl rfl) rfl) ?_
        refine VO.opY rfl rfl rfl rfl rfl ?_
        refine OpE.val (W := NoB) (OpV.move (.inl rfl) rfl) rfl ?_
        refine VO.opY rfl rfl rfl rfl rfl ?_
        refine OpE.val (W := NoB) (OpV.move (.inl rfl) rfl) rfl ?_
        refine VO.opY rfl rfl rfl rfl rfl ?_
        refine OpE.val (W := NoB) (OpV.eql rfl rfl rfl) rfl ?_
        refine VO.le _ (Le.boolT (t := 103) rfl (decide_eq_true rfl)) ?_
        refine VO.val rfl rfl (OpV.pickT rfl rfl rfl rfl rfl) ?_
        refine VO.val rfl rfl (OpV.move (.inl rfl) rfl) ?_
        refine VO.opY rfl rfl rfl rfl rfl ?_
        refine OpE.val (W := NoB) (OpV.move (.inl rfl) rfl) rfl ?_
        refine VO.opY rfl rfl rfl rfl rfl ?_
        refine OpE.val (W := NoB) (OpV.move (.inl rfl) rfl) rfl ?_
        refine VO.opY rfl rfl rfl rfl rfl ?_
        refine OpE.val (W := NoB) (OpV.eql rfl rfl rfl) rfl ?_
        refine VO.le _ (Le.boolT (t := 108) rfl (decide_eq_true (by first | rw [totE, if_pos h2] | rw [totE, if_neg h2]))) ?_
        refine VO.val rfl rfl (OpV.pickT rfl rfl rfl rfl rfl) ?_
        refine VO.val rfl rfl (OpV.move (.inl rfl) rfl) ?_
        refine VO.opY rfl rfl rfl rfl rfl ?_
        refine OpE.call rfl hB rfl Tryd.call25 rfl (SpecN.spec (rf_loaded)) ?_
        rintro _ rfl
        refine VO.le _ (Le.boolT (t := 111) rfl rfl) ?_
        refine VO.val rfl rfl (OpV.pickT rfl rfl rfl rfl rfl) ?_
        refine VO.val rfl rfl (OpV.move (.inr rfl) rfl) ?_
        refine VO.nil ?_
        show VC _ _ _ _ _
        refine VC.ret ?_
        exact And.intro rfl rfl
      · have h2 := h2b
        try simp only [decide_eq_true_eq, decide_eq_false_iff_not, Bool.not_eq_true', Bool.not_eq_false', Int.not_lt, Int.not_le] at h2
        refine VC.skip ?_
        show VC _ _ _ _ _
        refine VC.seq ?_
        refine VC.region ?_
        refine VO.val rfl rfl (OpV.move (.inl rfl) rfl) ?_
        refine VO.val rfl rfl (OpV.move (.inl rfl) rfl) ?_
        refine VO.val rfl rfl (OpV.eql rfl rfl rfl) ?_
        refine VO.le _ (Le.boolT (t := 84) rfl (decide_eq_true rfl)) ?_
        refine VO.val rfl rfl (OpV.move (.inl rfl) rfl) ?_
        refine VO.opY rfl rfl rfl rfl rfl ?_
        refine OpE.val (W := NoB) (OpV.move (.inl rfl) rfl) rfl ?_
        refine VO.opY rfl rfl rfl rfl rfl ?_
        refine OpE.val (W := NoB) (OpV.move (.inl rfl) rfl) rfl ?_
        refine VO.opY rfl rfl rfl rfl rfl ?_
        refine OpE.call rfl hB rfl Tryd.call23 rfl (SpecN.spec (slices_Equal_str (by omega) (by first | (rw [nextF_len]; omega) | decide))) ?_
        rintro _ rfl
        refine VO.le _ (Le.boolT (t := 88) rfl (by first | (rw [nextR, if_pos (show nextE a l lt = 0 from h1)]; exact eqLs_self sEq_refl _) | (rw [nextR, if_neg (show ¬ nextE a l lt = 0 from h1)]; rfl))) ?_
        refine VO.val rfl rfl (OpV.pickT rfl rfl rfl rfl rfl) ?_
        refine VO.val rfl rfl (OpV.move (.inl rfl) rfl) ?_
        refine VO.opY rfl rfl rfl rfl rfl ?_
        refine OpE.val (W := NoB) (OpV.move (.inl rfl) rfl) rfl ?_
        refine VO.opY rfl rfl rfl rfl rfl ?_
        refine OpE.val (W := NoB) (OpV.move (.inl rfl) rfl) rfl ?_
        refine VO.opY rfl rfl rfl rfl rfl ?_
        refine OpE.val (W := NoB) (OpV.eql rfl rfl rfl) rfl ?_
        refine VO.le _ (Le.boolT (t := 93) rfl (decide_eq_true rfl)) ?_
        refine VO.val rfl rfl (OpV.pickT rfl rfl rfl rfl rfl) ?_
        refine VO.val rfl rfl (OpV.move (.inl rfl) rfl) ?_
        refine VO.opY rfl rfl rfl rfl rfl ?_
        refine OpE.val (W := NoB) (OpV.move (.inl rfl) rfl) rfl ?_
        refine VO.opY rfl rfl rfl rfl rfl ?_
        refine OpE.val (W := NoB) (OpV.move (.inl rfl) rfl) rfl ?_
        refine VO.opY rfl rfl rfl rfl rfl ?_
        refine OpE.callL rfl hB rfl Tryd.call41 (slices_EqualFunc_LL (e := eqLs sEq) (by omega) (by first | (rw [hsn]; omega) | decide) Tryd.call23 (fun i hi => (slices_Equal_str (by have := hsr i; omega) (by first | (have := hst i; omega) | exact Nat.zero_le _)).spec)) (ArgsP.cons (ArgP.ev rfl) (ArgsP.cons (ArgP.ev rfl) (ArgsP.cons (ArgP.fn0 rfl) (ArgsP.nil)))) ?_
        rintro _ rfl
        refine VO.le _ (Le.boolT (t := 98) rfl (by first | (rw [setsR, if_pos h2]; exact eqLs_self (eqLs_self sEq_refl) _) | (rw [setsR, if_neg h2]; rfl))) ?_
        refine VO.val rfl rfl (OpV.pickT rfl rfl rfl rfl rfl) ?_
        refine VO.val rfl rfl (OpV.move (.inl rfl) rfl) ?_
        refine VO.opY rfl rfl rfl rfl rfl ?_
        refine OpE.val (W := NoB) (OpV.move (.inl rfl) rfl) rfl ?_
        refine VO.opY rfl rfl rfl rfl rfl ?_
        refine OpE.val (W := NoB) (OpV.move (.inl rfl) rfl) rfl ?_
        refine VO.opY rfl rfl rfl rfl rfl ?_
        refine OpE.val (W := NoB) (OpV.eql rfl rfl rfl) rfl ?_
        refine VO.le _ (Le.boolT (t := 103) rfl (decide_eq_true rfl)) ?_
        refine VO.val rfl rfl (OpV.pickT rfl rfl rfl rfl rfl) ?_
        refine VO.val rfl rfl (OpV.move (.inl rfl) rfl) ?_
        refine VO.opY rfl rfl rfl rfl rfl ?_
        refine OpE.val (W := NoB) (OpV.move (.inl rfl) rfl) rfl ?_
        refine VO.opY rfl rfl rfl rfl rfl ?_
        refine OpE.val (W := NoB) (OpV.move (.inl rfl) rfl) rfl ?_
        refine VO.opY rfl rfl rfl rfl rfl ?_
        refine OpE.val (W := NoB) (OpV.eql rfl rfl rfl) rfl ?_
        refine VO.le _ (Le.boolT (t := 108) rfl (decide_eq_true (by first | rw [totE, if_pos h2] | rw [totE, if_neg h2]))) ?_
        refine VO.val rfl rfl (OpV.pickT rfl rfl rfl rfl rfl) ?_
        refine VO.val rfl rfl (OpV.move (.inl rfl) rfl) ?_
        refine VO.opY rfl rfl rfl rfl rfl ?_
        refine OpE.call rfl hB rfl Tryd.call25 rfl (SpecN.spec (rf_loaded)) ?_
        rintro _ rfl
        refine VO.le _ (Le.boolT (t := 111) rfl rfl) ?_
        refine VO.val rfl rfl (OpV.pickT rfl rfl rfl rfl rfl) ?_
        refine VO.val rfl rfl (OpV.move (.inr rfl) rfl) ?_
        refine VO.nil ?_
        show VC _ _ _ _ _
        refine VC.ret ?_
        exact And.intro rfl rfl
    · have h1 := h1b
      try simp only [decide_eq_true_eq, decide_eq_false_iff_not, Bool.not_eq_true', Bool.not_eq_false', Int.not_lt, Int.not_le] at h1
      refine VC.skip ?_
      show VC _ _ _ _ _
      refine VC.seq ?_
      refine VC.region ?_
      refine VO.val rfl rfl (OpV.move (.inr rfl) rfl) ?_
      first | refine VO.le _ (Le.recast (t := 18) (y := avM ([] : List (List ByteArray))) rfl (fun w Z u h => by rw [h.eq_v]; exact .nil _ _)) ?_ | skip
      refine VO.nil ?_
      show VC _ _ _ _ _
      refine VC.seq ?_
      refine VC.region ?_
      refine VO.val rfl rfl (OpV.move (.inr rfl) rfl) ?_
      refine VO.nil ?_
      show VC _ _ _ _ _
      refine VC.seq ?_
      refine VC.seq ?_
      refine VC.region ?_
      refine VO.val rfl rfl (OpV.move (.inl rfl) rfl) ?_
      refine VO.val rfl rfl (OpV.eql rfl rfl rfl) ?_
      refine VO.nil ?_
      show VC _ _ _ _ _
      refine VC.cond rfl (fun h2b => ?_) (fun h2b => ?_)
      · have h2 := h2b
        try simp only [decide_eq_true_eq, decide_eq_false_iff_not, Bool.not_eq_true', Bool.not_eq_false', Int.not_lt, Int.not_le] at h2
        have z2 := (setsF_zero h2).2.1
        have z3 := (setsF_zero h2).2.2.1
        have z4 := (setsF_zero h2).2.2.2.1
        refine VC.region ?_
        refine VO.val rfl rfl (OpV.move (.inl rfl) rfl) ?_
        refine VO.val rfl rfl (OpV.move (.inl rfl) rfl) ?_
        refine VO.op rfl (OpE.call rfl hB rfl Tryd.call39 rfl (rf_SetupsOf z2 z4 hps) ?_)
        rintro _ rfl
        refine VO.val rfl rfl (OpV.move (.inl rfl) rfl) ?_
        refine VO.val rfl rfl (OpV.move (.inl rfl) rfl) ?_
        refine VO.op rfl (OpE.call rfl hB rfl Tryd.call40 rfl (SpecN.spec (rf_TotalOf z2 z4 hps z3)) ?_)
        rintro _ rfl
        refine VO.val rfl rfl (OpV.move (.inr rfl) rfl) ?_
        first | refine VO.le _ (Le.recast (t := 18) (y := avM ([] : List (List ByteArray))) rfl (fun w Z u h => by rw [h.eq_v]; exact .nil _ _)) ?_ | skip
        refine VO.val rfl rfl (OpV.move (.inr rfl) rfl) ?_
        refine VO.nil ?_
        show VC _ _ _ _ _
        refine VC.seq ?_
        refine VC.region ?_
        refine VO.val rfl rfl (OpV.move (.inl rfl) rfl) ?_
        refine VO.val rfl rfl (OpV.move (.inl rfl) rfl) ?_
        refine VO.val rfl rfl (OpV.eql rfl rfl rfl) ?_
        refine VO.le _ (Le.boolT (t := 84) rfl (decide_eq_true rfl)) ?_
        refine VO.val rfl rfl (OpV.move (.inl rfl) rfl) ?_
        refine VO.opY rfl rfl rfl rfl rfl ?_
        refine OpE.val (W := NoB) (OpV.move (.inl rfl) rfl) rfl ?_
        refine VO.opY rfl rfl rfl rfl rfl ?_
        refine OpE.val (W := NoB) (OpV.move (.inl rfl) rfl) rfl ?_
        refine VO.opY rfl rfl rfl rfl rfl ?_
        refine OpE.call rfl hB rfl Tryd.call23 rfl (SpecN.spec (slices_Equal_str (by omega) (by first | (rw [nextF_len]; omega) | decide))) ?_
        rintro _ rfl
        refine VO.le _ (Le.boolT (t := 88) rfl (by first | (rw [nextR, if_pos (show nextE a l lt = 0 from h1)]; exact eqLs_self sEq_refl _) | (rw [nextR, if_neg (show ¬ nextE a l lt = 0 from h1)]; rfl))) ?_
        refine VO.val rfl rfl (OpV.pickT rfl rfl rfl rfl rfl) ?_
        refine VO.val rfl rfl (OpV.move (.inl rfl) rfl) ?_
        refine VO.opY rfl rfl rfl rfl rfl ?_
        refine OpE.val (W := NoB) (OpV.move (.inl rfl) rfl) rfl ?_
        refine VO.opY rfl rfl rfl rfl rfl ?_
        refine OpE.val (W := NoB) (OpV.move (.inl rfl) rfl) rfl ?_
        refine VO.opY rfl rfl rfl rfl rfl ?_
        refine OpE.val (W := NoB) (OpV.eql rfl rfl rfl) rfl ?_
        refine VO.le _ (Le.boolT (t := 93) rfl (decide_eq_true rfl)) ?_
        refine VO.val rfl rfl (OpV.pickT rfl rfl rfl rfl rfl) ?_
        refine VO.val rfl rfl (OpV.move (.inl rfl) rfl) ?_
        refine VO.opY rfl rfl rfl rfl rfl ?_
        refine OpE.val (W := NoB) (OpV.move (.inl rfl) rfl) rfl ?_
        refine VO.opY rfl rfl rfl rfl rfl ?_
        refine OpE.val (W := NoB) (OpV.move (.inl rfl) rfl) rfl ?_
        refine VO.opY rfl rfl rfl rfl rfl ?_
        refine OpE.callL rfl hB rfl Tryd.call41 (slices_EqualFunc_LL (e := eqLs sEq) (by omega) (by first | (rw [hsn]; omega) | decide) Tryd.call23 (fun i hi => (slices_Equal_str (by have := hsr i; omega) (by first | (have := hst i; omega) | exact Nat.zero_le _)).spec)) (ArgsP.cons (ArgP.ev rfl) (ArgsP.cons (ArgP.ev rfl) (ArgsP.cons (ArgP.fn0 rfl) (ArgsP.nil)))) ?_
        rintro _ rfl
        refine VO.le _ (Le.boolT (t := 98) rfl (by first | (rw [setsR, if_pos h2]; exact eqLs_self (eqLs_self sEq_refl) _) | (rw [setsR, if_neg h2]; rfl))) ?_
        refine VO.val rfl rfl (OpV.pickT rfl rfl rfl rfl rfl) ?_
        refine VO.val rfl rfl (OpV.move (.inl rfl) rfl) ?_
        refine VO.opY rfl rfl rfl rfl rfl ?_
        refine OpE.val (W := NoB) (OpV.move (.inl rfl) rfl) rfl ?_
        refine VO.opY rfl rfl rfl rfl rfl ?_
        refine OpE.val (W := NoB) (OpV.move (.inl rfl) rfl) rfl ?_
        refine VO.opY rfl rfl rfl rfl rfl ?_
        refine OpE.val (W := NoB) (OpV.eql rfl rfl rfl) rfl ?_
        refine VO.le _ (Le.boolT (t := 103) rfl (decide_eq_true rfl)) ?_
        refine VO.val rfl rfl (OpV.pickT rfl rfl rfl rfl rfl) ?_
        refine VO.val rfl rfl (OpV.move (.inl rfl) rfl) ?_
        refine VO.opY rfl rfl rfl rfl rfl ?_
        refine OpE.val (W := NoB) (OpV.move (.inl rfl) rfl) rfl ?_
        refine VO.opY rfl rfl rfl rfl rfl ?_
        refine OpE.val (W := NoB) (OpV.move (.inl rfl) rfl) rfl ?_
        refine VO.opY rfl rfl rfl rfl rfl ?_
        refine OpE.val (W := NoB) (OpV.eql rfl rfl rfl) rfl ?_
        refine VO.le _ (Le.boolT (t := 108) rfl (decide_eq_true (by first | rw [totE, if_pos h2] | rw [totE, if_neg h2]))) ?_
        refine VO.val rfl rfl (OpV.pickT rfl rfl rfl rfl rfl) ?_
        refine VO.val rfl rfl (OpV.move (.inl rfl) rfl) ?_
        refine VO.opY rfl rfl rfl rfl rfl ?_
        refine OpE.call rfl hB rfl Tryd.call25 rfl (SpecN.spec (rf_loaded)) ?_
        rintro _ rfl
        refine VO.le _ (Le.boolT (t := 111) rfl rfl) ?_
        refine VO.val rfl rfl (OpV.pickT rfl rfl rfl rfl rfl) ?_
        refine VO.val rfl rfl (OpV.move (.inr rfl) rfl) ?_
        refine VO.nil ?_
        show VC _ _ _ _ _
        refine VC.ret ?_
        exact And.intro rfl rfl
      · have h2 := h2b
        try simp only [decide_eq_true_eq, decide_eq_false_iff_not, Bool.not_eq_true', Bool.not_eq_false', Int.not_lt, Int.not_le] at h2
        refine VC.skip ?_
        show VC _ _ _ _ _
        refine VC.seq ?_
        refine VC.region ?_
        refine VO.val rfl rfl (OpV.move (.inl rfl) rfl) ?_
        refine VO.val rfl rfl (OpV.move (.inl rfl) rfl) ?_
        refine VO.val rfl rfl (OpV.eql rfl rfl rfl) ?_
        refine VO.le _ (Le.boolT (t := 84) rfl (decide_eq_true rfl)) ?_
        refine VO.val rfl rfl (OpV.move (.inl rfl) rfl) ?_
        refine VO.opY rfl rfl rfl rfl rfl ?_
        refine OpE.val (W := NoB) (OpV.move (.inl rfl) rfl) rfl ?_
        refine VO.opY rfl rfl rfl rfl rfl ?_
        refine OpE.val (W := NoB) (OpV.move (.inl rfl) rfl) rfl ?_
        refine VO.opY rfl rfl rfl rfl rfl ?_
        refine OpE.call rfl hB rfl Tryd.call23 rfl (SpecN.spec (slices_Equal_str (by omega) (by first | (rw [nextF_len]; omega) | decide))) ?_
        rintro _ rfl
        refine VO.le _ (Le.boolT (t := 88) rfl (by first | (rw [nextR, if_pos (show nextE a l lt = 0 from h1)]; exact eqLs_self sEq_refl _) | (rw [nextR, if_neg (show ¬ nextE a l lt = 0 from h1)]; rfl))) ?_
        refine VO.val rfl rfl (OpV.pickT rfl rfl rfl rfl rfl) ?_
        refine VO.val rfl rfl (OpV.move (.inl rfl) rfl) ?_
        refine VO.opY rfl rfl rfl rfl rfl ?_
        refine OpE.val (W := NoB) (OpV.move (.inl rfl) rfl) rfl ?_
        refine VO.opY rfl rfl rfl rfl rfl ?_
        refine OpE.val (W := NoB) (OpV.move (.inl rfl) rfl) rfl ?_
        refine VO.opY rfl rfl rfl rfl rfl ?_
        refine OpE.val (W := NoB) (OpV.eql rfl rfl rfl) rfl ?_
        refine VO.le _ (Le.boolT (t := 93) rfl (decide_eq_true rfl)) ?_
        refine VO.val rfl rfl (OpV.pickT rfl rfl rfl rfl rfl) ?_
        refine VO.val rfl rfl (OpV.move (.inl rfl) rfl) ?_
        refine VO.opY rfl rfl rfl rfl rfl ?_
        refine OpE.val (W := NoB) (OpV.move (.inl rfl) rfl) rfl ?_
        refine VO.opY rfl rfl rfl rfl rfl ?_
        refine OpE.val (W := NoB) (OpV.move (.inl rfl) rfl) rfl ?_
        refine VO.opY rfl rfl rfl rfl rfl ?_
        refine OpE.callL rfl hB rfl Tryd.call41 (slices_EqualFunc_LL (e := eqLs sEq) (by omega) (by first | (rw [hsn]; omega) | decide) Tryd.call23 (fun i hi => (slices_Equal_str (by have := hsr i; omega) (by first | (have := hst i; omega) | exact Nat.zero_le _)).spec)) (ArgsP.cons (ArgP.ev rfl) (ArgsP.cons (ArgP.ev rfl) (ArgsP.cons (ArgP.fn0 rfl) (ArgsP.nil)))) ?_
        rintro _ rfl
        refine VO.le _ (Le.boolT (t := 98) rfl (by first | (rw [setsR, if_pos h2]; exact eqLs_self (eqLs_self sEq_refl) _) | (rw [setsR, if_neg h2]; rfl))) ?_
        refine VO.val rfl rfl (OpV.pickT rfl rfl rfl rfl rfl) ?_
        refine VO.val rfl rfl (OpV.move (.inl rfl) rfl) ?_
        refine VO.opY rfl rfl rfl rfl rfl ?_
        refine OpE.val (W := NoB) (OpV.move (.inl rfl) rfl) rfl ?_
        refine VO.opY rfl rfl rfl rfl rfl ?_
        refine OpE.val (W := NoB) (OpV.move (.inl rfl) rfl) rfl ?_
        refine VO.opY rfl rfl rfl rfl rfl ?_
        refine OpE.val (W := NoB) (OpV.eql rfl rfl rfl) rfl ?_
        refine VO.le _ (Le.boolT (t := 103) rfl (decide_eq_true rfl)) ?_
        refine VO.val rfl rfl (OpV.pickT rfl rfl rfl rfl rfl) ?_
        refine VO.val rfl rfl (OpV.move (.inl rfl) rfl) ?_
        refine VO.opY rfl rfl rfl rfl rfl ?_
        refine OpE.val (W := NoB) (OpV.move (.inl rfl) rfl) rfl ?_
        refine VO.opY rfl rfl rfl rfl rfl ?_
        refine OpE.val (W := NoB) (OpV.move (.inl rfl) rfl) rfl ?_
        refine VO.opY rfl rfl rfl rfl rfl ?_
        refine OpE.val (W := NoB) (OpV.eql rfl rfl rfl) rfl ?_
        refine VO.le _ (Le.boolT (t := 108) rfl (decide_eq_true (by first | rw [totE, if_pos h2] | rw [totE, if_neg h2]))) ?_
        refine VO.val rfl rfl (OpV.pickT rfl rfl rfl rfl rfl) ?_
        refine VO.val rfl rfl (OpV.move (.inl rfl) rfl) ?_
        refine VO.opY rfl rfl rfl rfl rfl ?_
        refine OpE.call rfl hB rfl Tryd.call25 rfl (SpecN.spec (rf_loaded)) ?_
        rintro _ rfl
        refine VO.le _ (Le.boolT (t := 111) rfl rfl) ?_
        refine VO.val rfl rfl (OpV.pickT rfl rfl rfl rfl rfl) ?_
        refine VO.val rfl rfl (OpV.move (.inr rfl) rfl) ?_
        refine VO.nil ?_
        show VC _ _ _ _ _
        refine VC.ret ?_
        exact And.intro rfl rfl
end Go.Proofs.YtpajnlcikmhpdaaDoor
