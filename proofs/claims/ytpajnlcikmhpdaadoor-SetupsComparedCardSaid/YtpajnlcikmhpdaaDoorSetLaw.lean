/- The walk of the law SetupsCompared. -/
import Derived.Test.YtpajnlcikmhpdaaDoorSetS3
import Derived.Test.YtpajnlcikmhpdaaDoorGenP
import Derived.Test.YtpajnlcikmhpdaaDoorLaw0
namespace Go.Proofs.YtpajnlcikmhpdaaDoor
open Go.RowKit
set_option linter.unusedVariables false
set_option linter.unusedSimpArgs false
theorem errs3 (a b c : Int) : errsF [a, b, c] = if a ≠ 0 then a else if b ≠ 0 then b else c := by
  by_cases ha : a = 0
  · subst ha
    by_cases hb : b = 0
    · subst hb
      by_cases hc : c = 0
      · subst hc; rfl
      · simp [errsF, hc]
    · simp [errsF, hb]
  · simp [errsF, ha]
theorem errs2 (a b : Int) : errsF [a, b] = if a ≠ 0 then a else b := by
  by_cases ha : a = 0
  · subst ha
    by_cases hb : b = 0
    · subst hb; rfl
    · simp [errsF, hb]
  · simp [errsF, ha]
theorem miss_errs (a : List ByteArray) (l : List ByteArray) : missE a l = errsF [setupF a, partsF (max 1 (min (a.length : Int) 100)) [l]] := by
  rw [errs2, missE, setsF]
  split
  · rfl
  · rename_i h
    have := setupF_len (s := a) (by omega)
    rw [show max 1 (min (a.length : Int) 100) = a.length by omega]
theorem change_errs (a b : List ByteArray) : changesE a b = errsF [setupF a, setupF b, whenF (decide ((a.length : Int) ≠ b.length)) 3] := by
  rw [errs3, changesE, whenF]
  by_cases h : a.length = b.length
  · rw [if_neg (c := a.length ≠ b.length) (by omega), if_neg (c := decide ((a.length : Int) ≠ b.length) = true) (by simp; omega)]
  · rw [if_pos (c := a.length ≠ b.length) h, if_pos (c := decide ((a.length : Int) ≠ b.length) = true) (by simp; omega)]
theorem changesE_zero {a b : List ByteArray} (h : changesE a b = 0) : setupF a = 0 ∧ setupF b = 0 ∧ b.length = a.length := by
  rw [changesE] at h
  split at h
  · rename_i h1; exact absurd h h1
  · split at h
    · rename_i h1; exact absurd h h1
    · split at h
      · cases h
      · omega
theorem two_take (kk : Nat) : SmS ((([⟨#[97]⟩, ⟨#[99]⟩] : List ByteArray).take kk).drop 0) := by
  match kk with
  | 0 => exact SmS.nil
  | 1 => exact ⟨by decide, fun i => by cases i with | zero => decide | succ i => simp⟩
  | kk + 2 => exact ⟨by simp, fun i => by match i with | 0 => simp; decide | 1 => simp; decide | i + 2 => simp⟩
set_option maxRecDepth 100000 in
set_option maxHeartbeats 40000000 in
theorem setupsCompared_any (a0 : Option Addr) (cap0 : Nat) (L : List Int) (w : World) (hin : Inp w a0 L) :
    Calls Tryd.prog 3 #[.slice a0 L.length cap0] w fun e w' => e = .returned (.bool true) ∧ Chg NoB w w' := by
  refine law_calls Tryd.func3 rfl Tryd.ntmps3 (Nat.le_of_ble_eq_true rfl) Tryd.results3 ?_
  have hB := B0.ok w (fun _ => True) 157
  have hnew : True := trivial
  refine VC.seq ?_
  refine VC.region ?_
  refine VO.val rfl rfl (OpV.move (.inr rfl) rfl) ?_
  refine VO.nil ?_
  show VC _ _ _ _ _
  refine VC.seq ?_
  refine VC.region ?_
  refine VO.val rfl rfl (OpV.move (.inl rfl) rfl) ?_
  refine VO.val rfl rfl (OpV.build (pls := #[(0, 1), (1, 1)]) rfl Tryd.zeroValue25 Tryd.underlying25 (fun w => by kernel_rfl) rfl rfl) ?_
  refine VO.op rfl (OpE.box rfl hB rfl rfl rfl ?_)
  intro g
  refine VO.val rfl rfl (OpV.move (.inr rfl) rfl) ?_
  refine VO.nil ?_
  show VC _ _ _ _ _
  refine VC.stream (i := 0) (sl := [(3, sp g)]) (by exact rfl) (by exact rfl) hin (by exact ⟨rfl, trivial⟩) (fun p hp => by simp at hp; subst hp; exact ⟨_, rfl⟩) (fun w1 hge hB => ?_)
  refine VC.seq ?_
  refine VC.region ?_
  refine VO.val rfl rfl (OpV.move (.inl rfl) rfl) ?_
  refine VO.op rfl (OpE.callT' (0) rfl rfl hB rfl Tryd.call6 rfl ((range_T (by omega) (by omega) (by omega))) (by omega) ?_)
  rintro _ ⟨r26, hr26, rfl⟩
  obtain ⟨n, rfl⟩ : ∃ n : Nat, r26 = n := ⟨r26.toNat, by omega⟩
  refine VO.val rfl rfl (OpV.move (.inr rfl) rfl) ?_
  refine VO.nil ?_
  show VC _ _ _ _ _
  refine VC.seq ?_
  refine VC.region ?_
  refine VO.val rfl rfl (OpV.move (.inl rfl) rfl) ?_
  refine VO.val rfl rfl (OpV.move (.inl rfl) rfl) ?_
  refine VO.op rfl (OpE.callT' (0 + 1) rfl rfl hB rfl Tryd.call7 rfl (aSetup_T (n := n) (by omega)) (by omega) ?_)
  rintro _ ⟨a, ha, rfl⟩
  refine VO.val rfl rfl (OpV.move (.inl rfl) rfl) ?_
  refine VO.val rfl rfl (OpV.move (.inl rfl) rfl) ?_
  refine VO.val rfl rfl (OpV.move (.inl rfl) rfl) ?_
  refine VO.val rfl rfl (OpV.move (.inl rfl) rfl) ?_
  refine VO.val rfl rfl (OpV.move (.inl rfl) rfl) ?_
  refine VO.val rfl rfl (OpV.add rfl rfl rfl (by unfold fits; omega)) ?_
  refine VO.op rfl (OpE.buildSlice (zc := #[.int .i64 0, .int .i64 0, .int .i64 0]) rfl hB rfl Tryd.underlying22 Tryd.sizeOf3 Tryd.zeroValue3 (by decide) (by decide) (by kernel_rfl) rfl rfl ?_)
  refine VO.op rfl (OpE.callT' (0 + 1 + 30) rfl rfl hB rfl Tryd.call8 rfl (pick_T 0 5 (by rfl) (by decide) (by decide) (AllI.cons (by omega) (AllI.cons (by omega) (AllI.cons (by omega) AllI.nil)))) (by omega) ?_)
  rintro _ ⟨r37, hr37, rfl⟩
  obtain ⟨m, rfl⟩ : ∃ m : Nat, r37 = m := ⟨r37.toNat, by omega⟩
  refine VO.op rfl (OpE.callT' (0 + 1 + 30 + 1) rfl rfl hB rfl Tryd.call7 rfl (aSetup_T (n := m) (by omega)) (by omega) ?_)
  rintro _ ⟨b, hb, rfl⟩
  refine VO.val rfl rfl (OpV.move (.inr rfl) rfl) ?_
  refine VO.val rfl rfl (OpV.move (.inr rfl) rfl) ?_
  refine VO.nil ?_
  show VC _ _ _ _ _
  refine VC.seq ?_
  refine VC.region ?_
  refine VO.val rfl rfl (OpV.move (.inl rfl) rfl) ?_
  refine VO.val rfl rfl (OpV.move (.inl rfl) rfl) ?_
  refine VO.val rfl rfl (OpV.move (.inl rfl) rfl) ?_
  refine VO.op rfl (OpE.buildSlice (zc := #[.int .i64 0, .int .i64 0, .int .i64 0, .int .i64 0]) rfl hB rfl Tryd.underlying22 Tryd.sizeOf3 Tryd.zeroValue3 (by decide) (by decide) (by kernel_rfl) rfl rfl ?_)
  refine VO.op rfl (OpE.callT' (0 + 1 + 30 + 1 + 30) rfl rfl hB rfl Tryd.call8 rfl ((pick_T (-100000000) 100000000 (by rfl) (by decide) (by decide) (by repeat (first | exact AllI.nil | refine AllI.cons (by omega) ?_)))) (by omega) ?_)
  rintro _ ⟨r43, hr43, rfl⟩
  refine VO.val rfl rfl (OpV.move (.inl rfl) rfl) ?_
  refine VO.val rfl rfl (OpV.move (.inl rfl) rfl) ?_
  refine VO.op rfl (OpE.callT' (0 + 1 + 30 + 1 + 30 + 1) rfl rfl hB rfl Tryd.call9 rfl (partLists_T (by omega) (by decide)) (by omega) ?_)
  rintro _ ⟨p, hp, rfl⟩
  refine VO.val rfl rfl (OpV.move (.inr rfl) rfl) ?_
  refine VO.val rfl rfl (OpV.move (.inr rfl) rfl) ?_
  refine VO.nil ?_
  show VC _ _ _ _ _
  refine VC.seq ?_
  refine VC.region ?_
  refine VO.op rfl (OpE.buildSlice (zc := #[.string ⟨#[]⟩, .string ⟨#[]⟩]) rfl hB rfl Tryd.underlying27 Tryd.sizeOf9 Tryd.zeroValue9 (by decide) (by decide) (by kernel_rfl) rfl rfl ?_)
  refine VO.le _ (Le.recast (t := 47) (y := avStrs [⟨#[97]⟩, ⟨#[99]⟩]) rfl (fun w Z u h => Rep.strs (xs := [⟨#[97]⟩, ⟨#[99]⟩]) rfl h)) ?_
  refine VO.val rfl rfl (OpV.move (.inl rfl) rfl) ?_
  refine VO.op rfl (OpE.callT' (0 + 1 + 30 + 1 + 30 + 1 + 100) rfl rfl hB rfl Tryd.call10 rfl ((next_T (by omega))) (by omega) ?_)
  rintro _ ⟨r49, hr49, rfl⟩
  obtain ⟨kk, rfl⟩ : ∃ kk : Nat, r49 = kk := ⟨r49.toNat, by omega⟩
  first
    | refine VO.val rfl rfl (OpV.slice_ints (h := kk) rfl Tryd.underlying27 Tryd.sizeOf9 rfl rfl ⟨_, _, rfl, rfl⟩ (by omega) (by show kk ≤ 2; omega)) ?_
    | refine VO.val rfl rfl (OpV.slice_strs (h := kk) rfl Tryd.underlying27 Tryd.sizeOf9 rfl rfl ⟨_, _, rfl, rfl⟩ (by omega) (by show kk ≤ 2; omega)) ?_
    | refine VO.val rfl rfl (OpV.slice_M (h := kk) rfl Tryd.underlying27 Tryd.sizeOf9 rfl rfl ⟨_, _, rfl, rfl⟩ (by omega) (by show kk ≤ 2; omega)) ?_
    | refine VO.val rfl rfl (OpV.slice_L (h := kk) rfl Tryd.underlying27 Tryd.sizeOf9 rfl rfl ⟨_, _, rfl, rfl⟩ (by omega) (by show kk ≤ 2; omega)) ?_
    | refine VO.val rfl rfl (OpV.slice_im (h := kk) rfl Tryd.underlying27 Tryd.sizeOf9 rfl rfl ⟨_, _, rfl, rfl⟩ (by omega) (by show kk ≤ 2; omega)) ?_
    | refine VO.val rfl rfl (OpV.slice_own (h := kk) rfl Tryd.underlying27 Tryd.sizeOf9 rfl rfl ⟨_, _, rfl, rfl⟩ (by omega) (by show kk ≤ 2; omega) (by omega)) ?_
  have has := ha.sms (by decide)
  have hbs := hb.sms (by decide)
  have hps := hp.smss
  have hls := has.1
  have hlb := hbs.1
  refine VO.val rfl rfl (OpV.move (.inr rfl) rfl) ?_
  refine VO.nil ?_
  show VC _ _ _ _ _
  refine VC.seq ?_
  refine VC.seq ?_
  refine VC.region ?_
  refine VO.val rfl rfl (OpV.move (.inl rfl) rfl) ?_
  first
    | refine VO.val rfl rfl (OpV.len_im rfl Tryd.underlying30 rfl) ?_
    | refine VO.val rfl rfl (OpV.len_v rfl Tryd.underlying30 rfl) ?_
    | refine VO.val rfl rfl (OpV.len_row (i := 0) rfl Tryd.underlying30 rfl rfl) ?_
  refine VO.val rfl rfl (OpV.gtr rfl rfl rfl) ?_
  refine VO.nil ?_
  show VC _ _ _ _ _
  refine VC.cond rfl (fun hzb => ?_) (fun hzb => ?_)
  · have hz := hzb
    try simp only [decide_eq_true_eq, decide_eq_false_iff_not, Bool.not_eq_true', Bool.not_eq_false', Int.not_lt, Int.not_le] at hz
    obtain ⟨l, hpa, hle⟩ : ∃ l, SmS l ∧ p.getD 0 default = l := ⟨_, hps.2 0, rfl⟩
    refine VC.region ?_
    refine VO.val rfl rfl (OpV.move (.inl rfl) rfl) ?_
    first
      | refine VO.val rfl rfl (OpV.indexAddr_1 rfl Tryd.underlying30 Tryd.sizeOf27 rfl rfl rfl (by omega)) ?_
      | refine VO.val rfl rfl (OpV.indexAddr_1 rfl Tryd.underlying30 Tryd.sizeOf27 rfl rfl (Int.toNat_of_nonneg (by omega)).symm (by omega)) ?_
      | refine VO.val rfl rfl (OpV.indexAddr_o rfl Tryd.underlying30 Tryd.sizeOf27 rfl rfl rfl (by omega)) ?_
      | refine VO.val rfl rfl (OpV.indexAddr_o rfl Tryd.underlying30 Tryd.sizeOf27 rfl rfl (Int.toNat_of_nonneg (by omega)).symm (by omega)) ?_
      | refine VO.val rfl rfl (OpV.indexAddr_q rfl Tryd.underlying30 Tryd.sizeOf27 rfl rfl rfl (by omega)) ?_
      | refine VO.val rfl rfl (OpV.indexAddr_q rfl Tryd.underlying30 Tryd.sizeOf27 rfl rfl (Int.toNat_of_nonneg (by omega)).symm (by omega)) ?_
      | refine VO.val rfl rfl (OpV.indexAddr_im rfl Tryd.underlying30 Tryd.sizeOf27 rfl rfl (by omega) (by omega)) ?_
    first
      | refine VO.val rfl rfl (OpV.load_at rfl hB OutW.no Tryd.isAgg27 rfl rfl) ?_
      | refine VO.val rfl rfl (OpV.load_own (i := 0) rfl hB Tryd.isAgg27 rfl rfl rfl (fun h => h)) ?_
    refine VO.le _ (Le.recast (t := 56) (y := avStrs l) rfl (fun w Z u h => by rw [← hle]; exact h)) ?_
    refine VO.val rfl rfl (OpV.move (.inr rfl) rfl) ?_
    refine VO.nil ?_
    show VC _ _ _ _ _
    refine VC.seq ?_
    refine VC.region ?_
    refine VO.val rfl rfl (OpV.move (.inl rfl) rfl) ?_
    refine VO.val rfl rfl (OpV.move (.inl rfl) rfl) ?_
    refine VO.op rfl (OpE.callH (hp := []) (rest := _) rfl hB rfl Tryd.call11 rfl rfl (setup_Missing has hpa) (List.Perm.refl _) (fun _ h => by obtain ⟨e, he, _⟩ := h; cases he) ?_)
    rintro _ _ ⟨u60, rfl, rfl⟩
    refine VO.val rfl rfl (OpV.move (.inl rfl) rfl) ?_
    first
      | refine VO.val rfl rfl (OpV.extract rfl rfl rfl) ?_
      | refine VO.val rfl rfl (OpV.extract_v rfl rfl rfl) ?_
    refine VO.le _ (Le.rowS (t := 61) (i := 0) hB hnew rfl rfl (by first | rfl | simp)) ?_
    first
      | refine VO.val rfl rfl (OpV.extract rfl rfl rfl) ?_
      | refine VO.val rfl rfl (OpV.extract_v rfl rfl rfl) ?_
    refine VO.val rfl rfl (OpV.move (.inr rfl) rfl) ?_
    refine VO.val rfl rfl (OpV.move (.inr rfl) rfl) ?_
    refine VO.nil ?_
    show VC _ _ _ _ _
    refine VC.seq ?_
    refine VC.region ?_
    refine VO.val rfl rfl (OpV.move (.inl rfl) rfl) ?_
    refine VO.val rfl rfl (OpV.move (.inl rfl) rfl) ?_
    refine VO.op rfl (OpE.callH (hp := []) (rest := _) rfl hB rfl Tryd.call12 rfl rfl (setup_Changes has hbs) (List.Perm.refl _) (fun _ h => by obtain ⟨e, he, _⟩ := h; cases he) ?_)
    rintro _ _ ⟨u66, rfl, rfl⟩
    refine VO.val rfl rfl (OpV.move (.inl rfl) rfl) ?_
    first
      | refine VO.val rfl rfl (OpV.extract rfl rfl rfl) ?_
      | refine VO.val rfl rfl (OpV.extract_v rfl rfl rfl) ?_
    refine VO.le _ (Le.rowT (t := 67) (i := 0) hB hnew rfl rfl (by first | rfl | simp)) ?_
    first
      | refine VO.val rfl rfl (OpV.extract rfl rfl rfl) ?_
      | refine VO.val rfl rfl (OpV.extract_v rfl rfl rfl) ?_
    refine VO.val rfl rfl (OpV.move (.inr rfl) rfl) ?_
    refine VO.val rfl rfl (OpV.move (.inr rfl) rfl) ?_
    refine VO.nil ?_
    show VC _ _ _ _ _
    refine VC.seq ?_
    refine VC.region ?_
    refine VO.val rfl rfl (OpV.move (.inl rfl) rfl) ?_
    refine VO.val rfl rfl (OpV.move (.inl rfl) rfl) ?_
    refine VO.op rfl (OpE.call rfl hB rfl Tryd.call13 rfl (SpecN.spec (setup_Loads has hbs)) ?_)
    rintro _ rfl
    refine VO.val rfl rfl (OpV.move (.inl rfl) rfl) ?_
    first
      | refine VO.val rfl rfl (OpV.extract rfl rfl rfl) ?_
      | refine VO.val rfl rfl (OpV.extract_v rfl rfl rfl) ?_
    first
      | refine VO.val rfl rfl (OpV.extract rfl rfl rfl) ?_
      | refine VO.val rfl rfl (OpV.extract_v rfl rfl rfl) ?_
    refine VO.val rfl rfl (OpV.move (.inr rfl) rfl) ?_
    refine VO.val rfl rfl (OpV.move (.inr rfl) rfl) ?_
    refine VO.nil ?_
    show VC _ _ _ _ _
    refine VC.seq ?_
    refine VC.region ?_
    refine VO.val rfl rfl (OpV.move (.inl rfl) rfl) ?_
    refine VO.op rfl (OpE.call rfl hB rfl Tryd.call14 rfl (SpecN.spec (rf_SetupFault has)) ?_)
    rintro _ rfl
    refine VO.val rfl rfl (OpV.move (.inr rfl) rfl) ?_
    refine VO.nil ?_
    show VC _ _ _ _ _
    refine VC.seq ?_
    refine VC.region ?_
    refine VO.val rfl rfl (OpV.move (.inl rfl) rfl) ?_
    refine VO.val rfl rfl (OpV.move (.inl rfl) rfl) ?_
    first
      | refine VO.val rfl rfl (OpV.len_im rfl Tryd.underlying27 rfl) ?_
      | refine VO.val rfl rfl (OpV.len_v rfl Tryd.underlying27 rfl) ?_
      | refine VO.val rfl rfl (OpV.len_row (i := 0) rfl Tryd.underlying27 rfl rfl) ?_
      | refine VO.val rfl rfl (OpV.len_row (i := 1) rfl Tryd.underlying27 rfl rfl) ?_
      | refine VO.val rfl rfl (OpV.len_row (i := 2) rfl Tryd.underlying27 rfl rfl) ?_
    refine VO.val rfl rfl (OpV.min2 rfl rfl rfl) ?_
    refine VO.val rfl rfl (OpV.max2 rfl rfl rfl) ?_
    refine VO.val rfl rfl (OpV.move (.inl rfl) rfl) ?_
    refine VO.op rfl (OpE.buildSlice (zc := #[.slice none 0 0]) rfl hB rfl Tryd.underlying30 Tryd.sizeOf27 Tryd.zeroValue27 (by decide) (by decide) (by kernel_rfl) rfl rfl ?_)
    refine VO.le _ (Le.recast (t := 83) (y := avM [l]) rfl (fun w Z u h => Rep.listM (xs := [l]) rfl h)) ?_
    refine VO.op rfl (OpE.call rfl hB rfl Tryd.call16 rfl (SpecN.spec (rf_PartsFault (SmSS.one hpa))) ?_)
    rintro _ rfl
    refine VO.op rfl (OpE.buildSlice (zc := #[.int .i64 0, .int .i64 0]) rfl hB rfl Tryd.underlying77 Tryd.sizeOf33 Tryd.zeroValue33 (by decide) (by decide) (by kernel_rfl) rfl rfl ?_)
    refine VO.le _ (Le.recast (t := 85) (y := avInts [setupF a, partsF (max 1 (min (a.length : Int) 100)) [l]]) rfl (fun w Z u h => Rep.ints (xs := [setupF a, partsF (max 1 (min (a.length : Int) 100)) [l]]) rfl h)) ?_
    refine VO.op rfl (OpE.call rfl hB rfl Tryd.call15 rfl (SpecN.spec (rf_errs (by simp))) ?_)
    rintro _ rfl
    refine VO.le _ (Le.recast (t := 86) (y := avI (missE a l)) rfl (fun w Z u h => by rw [miss_errs]; exact h)) ?_
    refine VO.val rfl rfl (OpV.move (.inr rfl) rfl) ?_
    refine VO.nil ?_
    show VC _ _ _ _ _
    refine VC.seq ?_
    refine VC.region ?_
    refine VO.val rfl rfl (OpV.move (.inl rfl) rfl) ?_
    refine VO.val rfl rfl (OpV.move (.inl rfl) rfl) ?_
    refine VO.op rfl (OpE.call rfl hB rfl Tryd.call14 rfl (SpecN.spec (rf_SetupFault hbs)) ?_)
    rintro _ rfl
    refine VO.val rfl rfl (OpV.move (.inl rfl) rfl) ?_
    first
      | refine VO.val rfl rfl (OpV.len_im rfl Tryd.underlying27 rfl) ?_
      | refine VO.val rfl rfl (OpV.len_v rfl Tryd.underlying27 rfl) ?_
      | refine VO.val rfl rfl (OpV.len_row (i := 0) rfl Tryd.underlying27 rfl rfl) ?_
      | refine VO.val rfl rfl (OpV.len_row (i := 1) rfl Tryd.underlying27 rfl rfl) ?_
      | refine VO.val rfl rfl (OpV.len_row (i := 2) rfl Tryd.underlying27 rfl rfl) ?_
    refine VO.val rfl rfl (OpV.move (.inl rfl) rfl) ?_
    first
      | refine VO.val rfl rfl (OpV.len_im rfl Tryd.underlying27 rfl) ?_
      | refine VO.val rfl rfl (OpV.len_v rfl Tryd.underlying27 rfl) ?_
      | refine VO.val rfl rfl (OpV.len_row (i := 0) rfl Tryd.underlying27 rfl rfl) ?_
      | refine VO.val rfl rfl (OpV.len_row (i := 1) rfl Tryd.underlying27 rfl rfl) ?_
      | refine VO.val rfl rfl (OpV.len_row (i := 2) rfl Tryd.underlying27 rfl rfl) ?_
    refine VO.val rfl rfl (OpV.neq rfl rfl rfl) ?_
    refine VO.op rfl (OpE.call rfl hB rfl Tryd.call17 rfl (SpecN.spec (rf_when)) ?_)
    rintro _ rfl
    refine VO.op rfl (OpE.buildSlice (zc := #[.int .i64 0, .int .i64 0, .int .i64 0]) rfl hB rfl Tryd.underlying77 Tryd.sizeOf33 Tryd.zeroValue33 (by decide) (by decide) (by kernel_rfl) rfl rfl ?_)
    refine VO.le _ (Le.recast (t := 96) (y := avInts [setupF a, setupF b, whenF (decide ((a.length : Int) ≠ b.length)) 3]) rfl (fun w Z u h => Rep.ints (xs := [setupF a, setupF b, whenF (decide ((a.length : Int) ≠ b.length)) 3]) rfl h)) ?_
    refine VO.op rfl (OpE.call rfl hB rfl Tryd.call15 rfl (SpecN.spec (rf_errs (by simp))) ?_)
    rintro _ rfl
    refine VO.le _ (Le.recast (t := 97) (y := avI (changesE a b)) rfl (fun w Z u h => by rw [change_errs]; exact h)) ?_
    refine VO.val rfl rfl (OpV.move (.inr rfl) rfl) ?_
    refine VO.nil ?_
    show VC _ _ _ _ _
    refine VC.seq ?_
    refine VC.region ?_
    refine VO.val rfl rfl (OpV.move (.inr rfl) rfl) ?_
    first | refine VO.le _ (Le.recast (t := 19) (y := avStrs []) rfl (fun w Z u h => by rw [h.eq_v]; exact .nil _ _)) ?_ | skip
    refine VO.nil ?_
    show VC _ _ _ _ _
    refine VC.seq ?_
    refine VC.seq ?_
    refine VC.region ?_
    refine VO.val rfl rfl (OpV.move (.inl rfl) rfl) ?_
    refine VO.val rfl rfl (OpV.eql rfl rfl rfl) ?_
    refine VO.nil ?_
    show VC _ _ _ _ _
    refine VC.cond rfl (fun h1b => ?_) (fun h1b => ?_)
    · have h1 := h1b
      try simp only [decide_eq_true_eq, decide_eq_false_iff_not, Bool.not_eq_true', Bool.not_eq_false', Int.not_lt, Int.not_le] at h1
      refine VC.region ?_
      refine VO.val rfl rfl (OpV.move (.inl rfl) rfl) ?_
      refine VO.val rfl rfl (OpV.move (.inl rfl) rfl) ?_
      refine VO.op rfl (OpE.call rfl hB rfl Tryd.call18 rfl (SpecN.spec (rf_MissingOf has hpa)) ?_)
      rintro _ rfl
      refine VO.val rfl rfl (OpV.move (.inr rfl) rfl) ?_
      first | refine VO.le _ (Le.recast (t := 19) (y := avStrs []) rfl (fun w Z u h => by rw [h.eq_v]; exact .nil _ _)) ?_ | skip
      refine VO.nil ?_
      show VC _ _ _ _ _
      refine VC.seq ?_
      refine VC.region ?_
      refine VO.val rfl rfl (OpV.move (.inr rfl) rfl) ?_
      first | refine VO.le _ (Le.recast (t := 20) (y := avL ([] : List ChgS)) rfl (fun w Z u h => by rw [h.eq_v]; exact .nil _ _)) ?_ | skip
      refine VO.nil ?_
      show VC _ _ _ _ _
      refine VC.seq ?_
      refine VC.region ?_
      refine VO.val rfl rfl (OpV.move (.inr rfl) rfl) ?_
      refine VO.nil ?_
      show VC _ _ _ _ _
      refine VC.seq ?_
      refine VC.seq ?_
      refine VC.region ?_
      refine VO.val rfl rfl (OpV.move (.inl rfl) rfl) ?_
      refine VO.val rfl rfl (OpV.eql rfl rfl rfl) ?_
      refine VO.nil ?_
      show VC _ _ _ _ _
      refine VC.cond rfl (fun h2b => ?_) (fun h2b => ?_)
      · have h2 := h2b
        try simp only [decide_eq_true_eq, decide_eq_false_iff_not, Bool.not_eq_true', Bool.not_eq_false', Int.not_lt, Int.not_le] at h2
        have z3 : b.length = a.length := (changesE_zero h2).2.2
        refine VC.region ?_
        refine VO.val rfl rfl (OpV.move (.inl rfl) rfl) ?_
        refine VO.val rfl rfl (OpV.move (.inl rfl) rfl) ?_
        refine VO.op rfl (OpE.callH (hp := []) (rest := _) rfl hB rfl Tryd.call19 rfl rfl (rf_ChangesOf hls z3) (List.Perm.refl _) (fun _ h => by obtain ⟨e, he, _⟩ := h; cases he) ?_)
        rintro _ _ ⟨u107, rfl, rfl⟩
        refine VO.le _ (Le.rowT (t := 107) (i := 0) hB hnew rfl rfl (by first | rfl | simp)) ?_
        refine VO.val rfl rfl (OpV.move (.inl rfl) rfl) ?_
        refine VO.val rfl rfl (OpV.move (.inl rfl) rfl) ?_
        refine VO.op rfl (OpE.call rfl hB rfl Tryd.call20 rfl (SpecN.spec (rf_LoadsOf hls z3)) ?_)
        rintro _ rfl
        refine VO.val rfl rfl (OpV.move (.inr rfl) rfl) ?_
        first | refine VO.le _ (Le.recast (t := 20) (y := avL ([] : List ChgS)) rfl (fun w Z u h => by rw [h.eq_v]; exact .nil _ _)) ?_ | skip
        refine VO.val rfl rfl (OpV.move (.inr rfl) rfl) ?_
        refine VO.nil ?_
        show VC _ _ _ _ _
        refine VC.seq ?_
        refine VC.region ?_
        refine VO.val rfl rfl (OpV.move (.inl rfl) rfl) ?_
        refine VO.op rfl (OpE.call rfl hB rfl Tryd.call21 rfl (SpecN.spec (setup_CheckSetup has)) ?_)
        rintro _ rfl
        refine VO.val rfl rfl (OpV.move (.inl rfl) rfl) ?_
        refine VO.val rfl rfl (OpV.eql rfl rfl rfl) ?_
        refine VO.le _ (Le.boolT (t := 114) rfl (decide_eq_true rfl)) ?_
        refine VO.val rfl rfl (OpV.move (.inl rfl) rfl) ?_
        refine VO.opY rfl rfl rfl rfl rfl ?_
        refine OpE.val (W := NoB) (OpV.move (.inl rfl) rfl) rfl ?_
        refine VO.opY rfl rfl rfl rfl rfl ?_
        refine OpE.val (W := NoB) (OpV.move (.inl rfl) rfl) rfl ?_
        refine VO.opY rfl rfl rfl rfl rfl ?_
        refine OpE.call rfl hB rfl Tryd.call22 rfl (SpecN.spec (setup_CheckParts hps)) ?_
        rintro _ rfl
        refine VO.opY rfl rfl rfl rfl rfl ?_
        refine OpE.val (W := NoB) (OpV.move (.inl rfl) rfl) rfl ?_
        refine VO.opY rfl rfl rfl rfl rfl ?_
        refine OpE.val (W := NoB) (OpV.move (.inl rfl) rfl) rfl ?_
        refine VO.opY rfl rfl rfl rfl rfl ?_
        refine OpE.call rfl hB rfl Tryd.call16 rfl (SpecN.spec (rf_PartsFault hps)) ?_
        rintro _ rfl
        refine VO.opY rfl rfl rfl rfl rfl ?_
        refine OpE.val (W := NoB) (OpV.eql rfl rfl rfl) rfl ?_
        refine VO.le _ (Le.boolT (t := 122) rfl (decide_eq_true rfl)) ?_
        refine VO.val rfl rfl (OpV.pickT rfl rfl rfl rfl rfl) ?_
        refine VO.val rfl rfl (OpV.move (.inl rfl) rfl) ?_
        refine VO.opY rfl rfl rfl rfl rfl ?_
        refine OpE.val (W := NoB) (OpV.move (.inl rfl) rfl) rfl ?_
        refine VO.opY rfl rfl rfl rfl rfl ?_
        refine OpE.val (W := NoB) (OpV.move (.inl rfl) rfl) rfl ?_
        refine VO.opY rfl rfl rfl rfl rfl ?_
        refine OpE.val (W := NoB) (OpV.eql rfl rfl rfl) rfl ?_
        refine VO.le _ (Le.boolT (t := 127) rfl (decide_eq_true rfl)) ?_
        refine VO.val rfl rfl (OpV.pickT rfl rfl rfl rfl rfl) ?_
        refine VO.val rfl rfl (OpV.move (.inl rfl) rfl) ?_
        refine VO.opY rfl rfl rfl rfl rfl ?_
        refine OpE.val (W := NoB) (OpV.move (.inl rfl) rfl) rfl ?_
        refine VO.opY rfl rfl rfl rfl rfl ?_
        refine OpE.val (W := NoB) (OpV.move (.inl rfl) rfl) rfl ?_
        refine VO.opY rfl rfl rfl rfl rfl ?_
        refine OpE.call rfl hB rfl Tryd.call23 rfl (SpecN.spec (slices_Equal_str (by first | (rw [if_pos h1]; have := missF_len a l; have := hpa.1; omega) | (rw [if_neg h1]; decide)) (by first | (have := missF_len a l; have := hpa.1; omega) | decide))) ?_
        rintro _ rfl
        refine VO.le _ (Le.boolT (t := 132) rfl (by first | (rw [if_pos h1]; exact eqLs_self sEq_refl _) | (rw [if_neg h1]; rfl))) ?_
        refine VO.val rfl rfl (OpV.pickT rfl rfl rfl rfl rfl) ?_
        refine VO.val rfl rfl (OpV.move (.inl rfl) rfl) ?_
        refine VO.opY rfl rfl rfl rfl rfl ?_
        refine OpE.val (W := NoB) (OpV.move (.inl rfl) rfl) rfl ?_
        refine VO.opY rfl rfl rfl rfl rfl ?_
        refine OpE.val (W := NoB) (OpV.move (.inl rfl) rfl) rfl ?_
        refine VO.opY rfl rfl rfl rfl rfl ?_
        refine OpE.val (W := NoB) (OpV.eql rfl rfl rfl) rfl ?_
        refine VO.le _ (Le.boolT (t := 137) rfl (decide_eq_true rfl)) ?_
        refine VO.val rfl rfl (OpV.pickT rfl rfl rfl rfl rfl) ?_
        refine VO.val rfl rfl (OpV.move (.inl rfl) rfl) ?_
        refine VO.opY rfl rfl rfl rfl rfl ?_
        refine OpE.val (W := NoB) (OpV.move (.inl rfl) rfl) rfl ?_
        refine VO.opY rfl rfl rfl rfl rfl ?_
        refine OpE.val (W := NoB) (OpV.move (.inl rfl) rfl) rfl ?_
        refine VO.opY rfl rfl rfl rfl rfl ?_
        refine OpE.call rfl hB rfl Tryd.call24 rfl (SpecN.spec (slices_Equal_chg (by have := changesF_len a b; omega) (by first | (have := chgF_len a b a.length; omega) | decide))) ?_
        rintro _ rfl
        refine VO.le _ (Le.boolT (t := 142) rfl (by first | (rw [changesF, if_pos h2]; exact eqLs_self eqC_self _) | (rw [changesF, if_neg h2]; rfl))) ?_
        refine VO.val rfl rfl (OpV.pickT rfl rfl rfl rfl rfl) ?_
        refine VO.val rfl rfl (OpV.move (.inl rfl) rfl) ?_
        refine VO.opY rfl rfl rfl rfl rfl ?_
        refine OpE.val (W := NoB) (OpV.move (.inl rfl) rfl) rfl ?_
        refine VO.opY rfl rfl rfl rfl rfl ?_
        refine OpE.val (W := NoB) (OpV.move (.inl rfl) rfl) rfl ?_
        refine VO.opY rfl rfl rfl rfl rfl ?_
        refine OpE.val (W := NoB) (OpV.eql rfl rfl rfl) rfl ?_
        refine VO.le _ (Le.boolT (t := 147) rfl (decide_eq_true rfl)) ?_
        refine VO.val rfl rfl (OpV.pickT rfl rfl rfl rfl rfl) ?_
        refine VO.val rfl rfl (OpV.move (.inl rfl) rfl) ?_
        refine VO.opY rfl rfl rfl rfl rfl ?_
        refine OpE.val (W := NoB) (OpV.move (.inl rfl) rfl) rfl ?_
        refine VO.opY rfl rfl rfl rfl rfl ?_
        refine OpE.val (W := NoB) (OpV.move (.inl rfl) rfl) rfl ?_
        refine VO.opY rfl rfl rfl rfl rfl ?_
        refine OpE.val (W := NoB) (OpV.eql rfl rfl rfl) rfl ?_
        refine VO.le _ (Le.boolT (t := 152) rfl (decide_eq_true (by first | rw [changesF, if_pos h2] | (rw [changesF, if_neg h2]; rfl)))) ?_
        refine VO.val rfl rfl (OpV.pickT rfl rfl rfl rfl rfl) ?_
        refine VO.val rfl rfl (OpV.move (.inl rfl) rfl) ?_
        refine VO.opY rfl rfl rfl rfl rfl ?_
        refine OpE.call rfl hB rfl Tryd.call25 rfl (SpecN.spec (rf_loaded)) ?_
        rintro _ rfl
        refine VO.le _ (Le.boolT (t := 155) rfl rfl) ?_
        refine VO.val rfl rfl (OpV.pickT rfl rfl rfl rfl rfl) ?_
        refine VO.val rfl rfl (OpV.move (.inr rfl) rfl) ?_
        refine VO.nil ?_
        show VC _ _ _ _ _
        refine VC.ret ?_
        exact And.intro rfl rfl
      · have h2 := h2b
        try simp only [decide_eq_true_eq, decide_eq_false_iff_not, Bool.not_eq_true', Bool.not_eq_false', Int.not_lt, Int.not_le] at h2
        refine VC.skip ?_
        show VC _ _ _ _ _
        refine VC.seq ?_
        refine VC.region ?_
        refine VO.val rfl rfl (OpV.move (.inl rfl) rfl) ?_
        refine VO.op rfl (OpE.call rfl hB rfl Tryd.call21 rfl (SpecN.spec (setup_CheckSetup has)) ?_)
        rintro _ rfl
        refine VO.val rfl rfl (OpV.move (.inl rfl) rfl) ?_
        refine VO.val rfl rfl (OpV.eql rfl rfl rfl) ?_
        refine VO.le _ (Le.boolT (t := 114) rfl (decide_eq_true rfl)) ?_
        refine VO.val rfl rfl (OpV.move (.inl rfl) rfl) ?_
        refine VO.opY rfl rfl rfl rfl rfl ?_
        refine OpE.val (W := NoB) (OpV.move (.inl rfl) rfl) rfl ?_
        refine VO.opY rfl rfl rfl rfl rfl ?_
        refine OpE.val (W := NoB) (OpV.move (.inl rfl) rfl) rfl ?_
        refine VO.opY rfl rfl rfl rfl rfl ?_
        refine OpE.call rfl hB rfl Tryd.call22 rfl (SpecN.spec (setup_CheckParts hps)) ?_
        rintro _ rfl
        refine VO.opY rfl rfl rfl rfl rfl ?_
        refine OpE.val (W := NoB) (OpV.move (.inl rfl) rfl) rfl ?_
        refine VO.opY rfl rfl rfl rfl rfl ?_
        refine OpE.val (W := NoB) (OpV.move (.inl rfl) rfl) rfl ?_
        refine VO.opY rfl rfl rfl rfl rfl ?_
        refine OpE.call rfl hB rfl Tryd.call16 rfl (SpecN.spec (rf_PartsFault hps)) ?_
        rintro _ rfl
        refine VO.opY rfl rfl rfl rfl rfl ?_
        refine OpE.val (W := NoB) (OpV.eql rfl rfl rfl) rfl ?_
        refine VO.le _ (Le.boolT (t := 122) rfl (decide_eq_true rfl)) ?_
        refine VO.val rfl rfl (OpV.pickT rfl rfl rfl rfl rfl) ?_
        refine VO.val rfl rfl (OpV.move (.inl rfl) rfl) ?_
        refine VO.opY rfl rfl rfl rfl rfl ?_
        refine OpE.val (W := NoB) (OpV.move (.inl rfl) rfl) rfl ?_
        refine VO.opY rfl rfl rfl rfl rfl ?_
        refine OpE.val (W := NoB) (OpV.move (.inl rfl) rfl) rfl ?_
        refine VO.opY rfl rfl rfl rfl rfl ?_
        refine OpE.val (W := NoB) (OpV.eql rfl rfl rfl) rfl ?_
        refine VO.le _ (Le.boolT (t := 127) rfl (decide_eq_true rfl)) ?_
        refine VO.val rfl rfl (OpV.pickT rfl rfl rfl rfl rfl) ?_
        refine VO.val rfl rfl (OpV.move (.inl rfl) rfl) ?_
        refine VO.opY rfl rfl rfl rfl rfl ?_
        refine OpE.val (W := NoB) (OpV.move (.inl rfl) rfl) rfl ?_
        refine VO.opY rfl rfl rfl rfl rfl ?_
        refine OpE.val (W := NoB) (OpV.move (.inl rfl) rfl) rfl ?_
        refine VO.opY rfl rfl rfl rfl rfl ?_
        refine OpE.call rfl hB rfl Tryd.call23 rfl (SpecN.spec (slices_Equal_str (by first | (rw [if_pos h1]; have := missF_len a l; have := hpa.1; omega) | (rw [if_neg h1]; decide)) (by first | (have := missF_len a l; have := hpa.1; omega) | decide))) ?_
        rintro _ rfl
        refine VO.le _ (Le.boolT (t := 132) rfl (by first | (rw [if_pos h1]; exact eqLs_self sEq_refl _) | (rw [if_neg h1]; rfl))) ?_
        refine VO.val rfl rfl (OpV.pickT rfl rfl rfl rfl rfl) ?_
        refine VO.val rfl rfl (OpV.move (.inl rfl) rfl) ?_
        refine VO.opY rfl rfl rfl rfl rfl ?_
        refine OpE.val (W := NoB) (OpV.move (.inl rfl) rfl) rfl ?_
        refine VO.opY rfl rfl rfl rfl rfl ?_
        refine OpE.val (W := NoB) (OpV.move (.inl rfl) rfl) rfl ?_
        refine VO.opY rfl rfl rfl rfl rfl ?_
        refine OpE.val (W := NoB) (OpV.eql rfl rfl rfl) rfl ?_
        refine VO.le _ (Le.boolT (t := 137) rfl (decide_eq_true rfl)) ?_
        refine VO.val rfl rfl (OpV.pickT rfl rfl rfl rfl rfl) ?_
        refine VO.val rfl rfl (OpV.move (.inl rfl) rfl) ?_
        refine VO.opY rfl rfl rfl rfl rfl ?_
        refine OpE.val (W := NoB) (OpV.move (.inl rfl) rfl) rfl ?_
        refine VO.opY rfl rfl rfl rfl rfl ?_
        refine OpE.val (W := NoB) (OpV.move (.inl rfl) rfl) rfl ?_
        refine VO.opY rfl rfl rfl rfl rfl ?_
        refine OpE.call rfl hB rfl Tryd.call24 rfl (SpecN.spec (slices_Equal_chg (by have := changesF_len a b; omega) (by first | (have := chgF_len a b a.length; omega) | decide))) ?_
        rintro _ rfl
        refine VO.le _ (Le.boolT (t := 142) rfl (by first | (rw [changesF, if_pos h2]; exact eqLs_self eqC_self _) | (rw [changesF, if_neg h2]; rfl))) ?_
        refine VO.val rfl rfl (OpV.pickT rfl rfl rfl rfl rfl) ?_
        refine VO.val rfl rfl (OpV.move (.inl rfl) rfl) ?_
        refine VO.opY rfl rfl rfl rfl rfl ?_
        refine OpE.val (W := NoB) (OpV.move (.inl rfl) rfl) rfl ?_
        refine VO.opY rfl rfl rfl rfl rfl ?_
        refine OpE.val (W := NoB) (OpV.move (.inl rfl) rfl) rfl ?_
        refine VO.opY rfl rfl rfl rfl rfl ?_
        refine OpE.val (W := NoB) (OpV.eql rfl rfl rfl) rfl ?_
        refine VO.le _ (Le.boolT (t := 147) rfl (decide_eq_true rfl)) ?_
        refine VO.val rfl rfl (OpV.pickT rfl rfl rfl rfl rfl) ?_
        refine VO.val rfl rfl (OpV.move (.inl rfl) rfl) ?_
        refine VO.opY rfl rfl rfl rfl rfl ?_
        refine OpE.val (W := NoB) (OpV.move (.inl rfl) rfl) rfl ?_
        refine VO.opY rfl rfl rfl rfl rfl ?_
        refine OpE.val (W := NoB) (OpV.move (.inl rfl) rfl) rfl ?_
        refine VO.opY rfl rfl rfl rfl rfl ?_
        refine OpE.val (W := NoB) (OpV.eql rfl rfl rfl) rfl ?_
        refine VO.le _ (Le.boolT (t := 152) rfl (decide_eq_true (by first | rw [changesF, if_pos h2] | (rw [changesF, if_neg h2]; rfl)))) ?_
        refine VO.val rfl rfl (OpV.pickT rfl rfl rfl rfl rfl) ?_
        refine VO.val rfl rfl (OpV.move (.inl rfl) rfl) ?_
        refine VO.opY rfl rfl rfl rfl rfl ?_
        refine OpE.call rfl hB rfl Tryd.call25 rfl (SpecN.spec (rf_loaded)) ?_
        rintro _ rfl
        refine VO.le _ (Le.boolT (t := 155) rfl rfl) ?_
        refine VO.val rfl rfl (OpV.pickT rfl rfl rfl rfl rfl) ?_
        refine VO.val rfl rfl (OpV.move (.inr rfl) rfl) ?_
        refine VO.nil ?_
        show VC _ _ _ _ _
        refine VC.ret ?_
        exact And.intro rfl rfl
    · have h1 := h1b
      try simp only [decide_eq_true_eq, decide_eq_false_iff_not, Bool.not_eq_true', Bool.not_eq_false', Int.not_lt, Int.not_le] at h1
      refine VC.skip ?_
      show VC _ _ _ _ _
      refine VC.seq ?_
      refine VC.region ?_
      refine VO.val rfl rfl (OpV.move (.inr rfl) rfl) ?_
      first | refine VO.le _ (Le.recast (t := 20) (y := avL ([] : List ChgS)) rfl (fun w Z u h => by rw [h.eq_v]; exact .nil _ _)) ?_ | skip
      refine VO.nil ?_
      show VC _ _ _ _ _
      refine VC.seq ?_
      refine VC.region ?_
      refine VO.val rfl rfl (OpV.move (.inr rfl) rfl) ?_
      refine VO.nil ?_
      show VC _ _ _ _ _
      refine VC.seq ?_
      refine VC.seq ?_
      refine VC.region ?_
      refine VO.val rfl rfl (OpV.move (.inl rfl) rfl) ?_
      refine VO.val rfl rfl (OpV.eql rfl rfl rfl) ?_
      refine VO.nil ?_
      show VC _ _ _ _ _
      refine VC.cond rfl (fun h2b => ?_) (fun h2b => ?_)
      · have h2 := h2b
        try simp only [decide_eq_true_eq, decide_eq_false_iff_not, Bool.not_eq_true', Bool.not_eq_false', Int.not_lt, Int.not_le] at h2
        have z3 : b.length = a.length := (changesE_zero h2).2.2
        refine VC.region ?_
        refine VO.val rfl rfl (OpV.move (.inl rfl) rfl) ?_
        refine VO.val rfl rfl (OpV.move (.inl rfl) rfl) ?_
        refine VO.op rfl (OpE.callH (hp := []) (rest := _) rfl hB rfl Tryd.call19 rfl rfl (rf_ChangesOf hls z3) (List.Perm.refl _) (fun _ h => by obtain ⟨e, he, _⟩ := h; cases he) ?_)
        rintro _ _ ⟨u107, rfl, rfl⟩
        refine VO.le _ (Le.rowT (t := 107) (i := 0) hB hnew rfl rfl (by first | rfl | simp)) ?_
        refine VO.val rfl rfl (OpV.move (.inl rfl) rfl) ?_
        refine VO.val rfl rfl (OpV.move (.inl rfl) rfl) ?_
        refine VO.op rfl (OpE.call rfl hB rfl Tryd.call20 rfl (SpecN.spec (rf_LoadsOf hls z3)) ?_)
        rintro _ rfl
        refine VO.val rfl rfl (OpV.move (.inr rfl) rfl) ?_
        first | refine VO.le _ (Le.recast (t := 20) (y := avL ([] : List ChgS)) rfl (fun w Z u h => by rw [h.eq_v]; exact .nil _ _)) ?_ | skip
        refine VO.val rfl rfl (OpV.move (.inr rfl) rfl) ?_
        refine VO.nil ?_
        show VC _ _ _ _ _
        refine VC.seq ?_
        refine VC.region ?_
        refine VO.val rfl rfl (OpV.move (.inl rfl) rfl) ?_
        refine VO.op rfl (OpE.call rfl hB rfl Tryd.call21 rfl (SpecN.spec (setup_CheckSetup has)) ?_)
        rintro _ rfl
        refine VO.val rfl rfl (OpV.move (.inl rfl) rfl) ?_
        refine VO.val rfl rfl (OpV.eql rfl rfl rfl) ?_
        refine VO.le _ (Le.boolT (t := 114) rfl (decide_eq_true rfl)) ?_
        refine VO.val rfl rfl (OpV.move (.inl rfl) rfl) ?_
        refine VO.opY rfl rfl rfl rfl rfl ?_
        refine OpE.val (W := NoB) (OpV.move (.inl rfl) rfl) rfl ?_
        refine VO.opY rfl rfl rfl rfl rfl ?_
        refine OpE.val (W := NoB) (OpV.move (.inl rfl) rfl) rfl ?_
        refine VO.opY rfl rfl rfl rfl rfl ?_
        refine OpE.call rfl hB rfl Tryd.call22 rfl (SpecN.spec (setup_CheckParts hps)) ?_
        rintro _ rfl
        refine VO.opY rfl rfl rfl rfl rfl ?_
        refine OpE.val (W := NoB) (OpV.move (.inl rfl) rfl) rfl ?_
        refine VO.opY rfl rfl rfl rfl rfl ?_
        refine OpE.val (W := NoB) (OpV.move (.inl rfl) rfl) rfl ?_
        refine VO.opY rfl rfl rfl rfl rfl ?_
        refine OpE.call rfl hB rfl Tryd.call16 rfl (SpecN.spec (rf_PartsFault hps)) ?_
        rintro _ rfl
        refine VO.opY rfl rfl rfl rfl rfl ?_
        refine OpE.val (W := NoB) (OpV.eql rfl rfl rfl) rfl ?_
        refine VO.le _ (Le.boolT (t := 122) rfl (decide_eq_true rfl)) ?_
        refine VO.val rfl rfl (OpV.pickT rfl rfl rfl rfl rfl) ?_
        refine VO.val rfl rfl (OpV.move (.inl rfl) rfl) ?_
        refine VO.opY rfl rfl rfl rfl rfl ?_
        refine OpE.val (W := NoB) (OpV.move (.inl rfl) rfl) rfl ?_
        refine VO.opY rfl rfl rfl rfl rfl ?_
        refine OpE.val (W := NoB) (OpV.move (.inl rfl) rfl) rfl ?_
        refine VO.opY rfl rfl rfl rfl rfl ?_
        refine OpE.val (W := NoB) (OpV.eql rfl rfl rfl) rfl ?_
        refine VO.le _ (Le.boolT (t := 127) rfl (decide_eq_true rfl)) ?_
        refine VO.val rfl rfl (OpV.pickT rfl rfl rfl rfl rfl) ?_
        refine VO.val rfl rfl (OpV.move (.inl rfl) rfl) ?_
        refine VO.opY rfl rfl rfl rfl rfl ?_
        refine OpE.val (W := NoB) (OpV.move (.inl rfl) rfl) rfl ?_
        refine VO.opY rfl rfl rfl rfl rfl ?_
        refine OpE.val (W := NoB) (OpV.move (.inl rfl) rfl) rfl ?_
        refine VO.opY rfl rfl rfl rfl rfl ?_
        refine OpE.call rfl hB rfl Tryd.call23 rfl (SpecN.spec (slices_Equal_str (by first | (rw [if_pos h1]; have := missF_len a l; have := hpa.1; omega) | (rw [if_neg h1]; decide)) (by first | (have := missF_len a l; have := hpa.1; omega) | decide))) ?_
        rintro _ rfl
        refine VO.le _ (Le.boolT (t := 132) rfl (by first | (rw [if_pos h1]; exact eqLs_self sEq_refl _) | (rw [if_neg h1]; rfl))) ?_
        refine VO.val rfl rfl (OpV.pickT rfl rfl rfl rfl rfl) ?_
        refine VO.val rfl rfl (OpV.move (.inl rfl) rfl) ?_
        refine VO.opY rfl rfl rfl rfl rfl ?_
        refine OpE.val (W := NoB) (OpV.move (.inl rfl) rfl) rfl ?_
        refine VO.opY rfl rfl rfl rfl rfl ?_
        refine OpE.val (W := NoB) (OpV.move (.inl rfl) rfl) rfl ?_
        refine VO.opY rfl rfl rfl rfl rfl ?_
        refine OpE.val (W := NoB) (OpV.eql rfl rfl rfl) rfl ?_
        refine VO.le _ (Le.boolT (t := 137) rfl (decide_eq_true rfl)) ?_
        refine VO.val rfl rfl (OpV.pickT rfl rfl rfl rfl rfl) ?_
        refine VO.val rfl rfl (OpV.move (.inl rfl) rfl) ?_
        refine VO.opY rfl rfl rfl rfl rfl ?_
        refine OpE.val (W := NoB) (OpV.move (.inl rfl) rfl) rfl ?_
        refine VO.opY rfl rfl rfl rfl rfl ?_
        refine OpE.val (W := NoB) (OpV.move (.inl rfl) rfl) rfl ?_
        refine VO.opY rfl rfl rfl rfl rfl ?_
        refine OpE.call rfl hB rfl Tryd.call24 rfl (SpecN.spec (slices_Equal_chg (by have := changesF_len a b; omega) (by first | (have := chgF_len a b a.length; omega) | decide))) ?_
        rintro _ rfl
        refine VO.le _ (Le.boolT (t := 142) rfl (by first | (rw [changesF, if_pos h2]; exact eqLs_self eqC_self _) | (rw [changesF, if_neg h2]; rfl))) ?_
        refine VO.val rfl rfl (OpV.pickT rfl rfl rfl rfl rfl) ?_
        refine VO.val rfl rfl (OpV.move (.inl rfl) rfl) ?_
        refine VO.opY rfl rfl rfl rfl rfl ?_
        refine OpE.val (W := NoB) (OpV.move (.inl rfl) rfl) rfl ?_
        refine VO.opY rfl rfl rfl rfl rfl ?_
        refine OpE.val (W := NoB) (OpV.move (.inl rfl) rfl) rfl ?_
        refine VO.opY rfl rfl rfl rfl rfl ?_
        refine OpE.val (W := NoB) (OpV.eql rfl rfl rfl) rfl ?_
        refine VO.le _ (Le.boolT (t := 147) rfl (decide_eq_true rfl)) ?_
        refine VO.val rfl rfl (OpV.pickT rfl rfl rfl rfl rfl) ?_
        refine VO.val rfl rfl (OpV.move (.inl rfl) rfl) ?_
        refine VO.opY rfl rfl rfl rfl rfl ?_
        refine OpE.val (W := NoB) (OpV.move (.inl rfl) rfl) rfl ?_
        refine VO.opY rfl rfl rfl rfl rfl ?_
        refine OpE.val (W := NoB) (OpV.move (.inl rfl) rfl) rfl ?_
        refine VO.opY rfl rfl rfl rfl rfl ?_
        refine OpE.val (W := NoB) (OpV.eql rfl rfl rfl) rfl ?_
        refine VO.le _ (Le.boolT (t := 152) rfl (decide_eq_true (by first | rw [changesF, if_pos h2] | (rw [changesF, if_neg h2]; rfl)))) ?_
        refine VO.val rfl rfl (OpV.pickT rfl rfl rfl rfl rfl) ?_
        refine VO.val rfl rfl (OpV.move (.inl rfl) rfl) ?_
        refine VO.opY rfl rfl rfl rfl rfl ?_
        refine OpE.call rfl hB rfl Tryd.call25 rfl (SpecN.spec (rf_loaded)) ?_
        rintro _ rfl
        refine VO.le _ (Le.boolT (t := 155) rfl rfl) ?_
        refine VO.val rfl rfl (OpV.pickT rfl rfl rfl rfl rfl) ?_
        refine VO.val rfl rfl (OpV.move (.inr rfl) rfl) ?_
        refine VO.nil ?_
        show VC _ _ _ _ _
        refine VC.ret ?_
        exact And.intro rfl rfl
      · have h2 := h2b
        try simp only [decide_eq_true_eq, decide_eq_false_iff_not, Bool.not_eq_true', Bool.not_eq_false', Int.not_lt, Int.not_le] at h2
        refine VC.skip ?_
        show VC _ _ _ _ _
        refine VC.seq ?_
        refine VC.region ?_
        refine VO.val rfl rfl (OpV.move (.inl rfl) rfl) ?_
        refine VO.op rfl (OpE.call rfl hB rfl Tryd.call21 rfl (SpecN.spec (setup_CheckSetup has)) ?_)
        rintro _ rfl
        refine VO.val rfl rfl (OpV.move (.inl rfl) rfl) ?_
        refine VO.val rfl rfl (OpV.eql rfl rfl rfl) ?_
        refine VO.le _ (Le.boolT (t := 114) rfl (decide_eq_true rfl)) ?_
        refine VO.val rfl rfl (OpV.move (.inl rfl) rfl) ?_
        refine VO.opY rfl rfl rfl rfl rfl ?_
        refine OpE.val (W := NoB) (OpV.move (.inl rfl) rfl) rfl ?_
        refine VO.opY rfl rfl rfl rfl rfl ?_
        refine OpE.val (W := NoB) (OpV.move (.inl rfl) rfl) rfl ?_
        refine VO.opY rfl rfl rfl rfl rfl ?_
        refine OpE.call rfl hB rfl Tryd.call22 rfl (SpecN.spec (setup_CheckParts hps)) ?_
        rintro _ rfl
        refine VO.opY rfl rfl rfl rfl rfl ?_
        refine OpE.val (W := NoB) (OpV.move (.inl rfl) rfl) rfl ?_
        refine VO.opY rfl rfl rfl rfl rfl ?_
        refine OpE.val (W := NoB) (OpV.move (.inl rfl) rfl) rfl ?_
        refine VO.opY rfl rfl rfl rfl rfl ?_
        refine OpE.call rfl hB rfl Tryd.call16 rfl (SpecN.spec (rf_PartsFault hps)) ?_
        rintro _ rfl
        refine VO.opY rfl rfl rfl rfl rfl ?_
        refine OpE.val (W := NoB) (OpV.eql rfl rfl rfl) rfl ?_
        refine VO.le _ (Le.boolT (t := 122) rfl (decide_eq_true rfl)) ?_
        refine VO.val rfl rfl (OpV.pickT rfl rfl rfl rfl rfl) ?_
        refine VO.val rfl rfl (OpV.move (.inl rfl) rfl) ?_
        refine VO.opY rfl rfl rfl rfl rfl ?_
        refine OpE.val (W := NoB) (OpV.move (.inl rfl) rfl) rfl ?_
        refine VO.opY rfl rfl rfl rfl rfl ?_
        refine OpE.val (W := NoB) (OpV.move (.inl rfl) rfl) rfl ?_
        refine VO.opY rfl rfl rfl rfl rfl ?_
        refine OpE.val (W := NoB) (OpV.eql rfl rfl rfl) rfl ?_
        refine VO.le _ (Le.boolT (t := 127) rfl (decide_eq_true rfl)) ?_
        refine VO.val rfl rfl (OpV.pickT rfl rfl rfl rfl rfl) ?_
        refine VO.val rfl rfl (OpV.move (.inl rfl) rfl) ?_
        refine VO.opY rfl rfl rfl rfl rfl ?_
        refine OpE.val (W := NoB) (OpV.move (.inl rfl) rfl) rfl ?_
        refine VO.opY rfl rfl rfl rfl rfl ?_
        refine OpE.val (W := NoB) (OpV.move (.inl rfl) rfl) rfl ?_
        refine VO.opY rfl rfl rfl rfl rfl ?_
        refine OpE.call rfl hB rfl Tryd.call23 rfl (SpecN.spec (slices_Equal_str (by first | (rw [if_pos h1]; have := missF_len a l; have := hpa.1; omega) | (rw [if_neg h1]; decide)) (by first | (have := missF_len a l; have := hpa.1; omega) | decide))) ?_
        rintro _ rfl
        refine VO.le _ (Le.boolT (t := 132) rfl (by first | (rw [if_pos h1]; exact eqLs_self sEq_refl _) | (rw [if_neg h1]; rfl))) ?_
        refine VO.val rfl rfl (OpV.pickT rfl rfl rfl rfl rfl) ?_
        refine VO.val rfl rfl (OpV.move (.inl rfl) rfl) ?_
        refine VO.opY rfl rfl rfl rfl rfl ?_
        refine OpE.val (W := NoB) (OpV.move (.inl rfl) rfl) rfl ?_
        refine VO.opY rfl rfl rfl rfl rfl ?_
        refine OpE.val (W := NoB) (OpV.move (.inl rfl) rfl) rfl ?_
        refine VO.opY rfl rfl rfl rfl rfl ?_
        refine OpE.val (W := NoB) (OpV.eql rfl rfl rfl) rfl ?_
        refine VO.le _ (Le.boolT (t := 137) rfl (decide_eq_true rfl)) ?_
        refine VO.val rfl rfl (OpV.pickT rfl rfl rfl rfl rfl) ?_
        refine VO.val rfl rfl (OpV.move (.inl rfl) rfl) ?_
        refine VO.opY rfl rfl rfl rfl rfl ?_
        refine OpE.val (W := NoB) (OpV.move (.inl rfl) rfl) rfl ?_
        refine VO.opY rfl rfl rfl rfl rfl ?_
        refine OpE.val (W := NoB) (OpV.move (.inl rfl) rfl) rfl ?_
        refine VO.opY rfl rfl rfl rfl rfl ?_
        refine OpE.call rfl hB rfl Tryd.call24 rfl (SpecN.spec (slices_Equal_chg (by have := changesF_len a b; omega) (by first | (have := chgF_len a b a.length; omega) | decide))) ?_
        rintro _ rfl
        refine VO.le _ (Le.boolT (t := 142) rfl (by first | (rw [changesF, if_pos h2]; exact eqLs_self eqC_self _) | (rw [changesF, if_neg h2]; rfl))) ?_
        refine VO.val rfl rfl (OpV.pickT rfl rfl rfl rfl rfl) ?_
        refine VO.val rfl rfl (OpV.move (.inl rfl) rfl) ?_
        refine VO.opY rfl rfl rfl rfl rfl ?_
        refine OpE.val (W := NoB) (OpV.move (.inl rfl) rfl) rfl ?_
        refine VO.opY rfl rfl rfl rfl rfl ?_
        refine OpE.val (W := NoB) (OpV.move (.inl rfl) rfl) rfl ?_
        refine VO.opY rfl rfl rfl rfl rfl ?_
        refine OpE.val (W := NoB) (OpV.eql rfl rfl rfl) rfl ?_
        refine VO.le _ (Le.boolT (t := 147) rfl (decide_eq_true rfl)) ?_
        refine VO.val rfl rfl (OpV.pickT rfl rfl rfl rfl rfl) ?_
        refine VO.val rfl rfl (OpV.move (.inl rfl) rfl) ?_
        refine VO.opY rfl rfl rfl rfl rfl ?_
        refine OpE.val (W := NoB) (OpV.move (.inl rfl) rfl) rfl ?_
        refine VO.opY rfl rfl rfl rfl rfl ?_
        refine OpE.val (W := NoB) (OpV.move (.inl rfl) rfl) rfl ?_
        refine VO.opY rfl rfl rfl rfl rfl ?_
        refine OpE.val (W := NoB) (OpV.eql rfl rfl rfl) rfl ?_
        refine VO.le _ (Le.boolT (t := 152) rfl (decide_eq_true (by first | rw [changesF, if_pos h2] | (rw [changesF, if_neg h2]; rfl)))) ?_
        refine VO.val rfl rfl (OpV.pickT rfl rfl rfl rfl rfl) ?_
        refine VO.val rfl rfl (OpV.move (.inl rfl) rfl) ?_
        refine VO.opY rfl rfl rfl rfl rfl ?_
        refine OpE.call rfl hB rfl Tryd.call25 rfl (SpecN.spec (rf_loaded)) ?_
        rintro _ rfl
        refine VO.le _ (Le.boolT (t := 155) rfl rfl) ?_
        refine VO.val rfl rfl (OpV.pickT rfl rfl rfl rfl rfl) ?_
        refine VO.val rfl rfl (OpV.move (.inr rfl) rfl) ?_
        refine VO.nil ?_
        show VC _ _ _ _ _
        refine VC.ret ?_
        exact And.intro rfl rfl
  · have hz := hzb
    try simp only [decide_eq_true_eq, decide_eq_false_iff_not, Bool.not_eq_true', Bool.not_eq_false', Int.not_lt, Int.not_le] at hz
    obtain ⟨l, hpa, hle⟩ : ∃ l, SmS l ∧ (([⟨#[97]⟩, ⟨#[99]⟩] : List ByteArray).take kk).drop 0 = l := ⟨_, two_take kk, rfl⟩
    refine VC.le _ (Le.recast (t := 9) (y := avStrs l) rfl (fun w Z u h => by rw [← hle]; exact h)) ?_
    refine VC.skip ?_
    show VC _ _ _ _ _
    refine VC.seq ?_
    refine VC.region ?_
    refine VO.val rfl rfl (OpV.move (.inl rfl) rfl) ?_
    refine VO.val rfl rfl (OpV.move (.inl rfl) rfl) ?_
    refine VO.op rfl (OpE.callH (hp := []) (rest := _) rfl hB rfl Tryd.call11 rfl rfl (setup_Missing has hpa) (List.Perm.refl _) (fun _ h => by obtain ⟨e, he, _⟩ := h; cases he) ?_)
    rintro _ _ ⟨u60, rfl, rfl⟩
    refine VO.val rfl rfl (OpV.move (.inl rfl) rfl) ?_
    first
      | refine VO.val rfl rfl (OpV.extract rfl rfl rfl) ?_
      | refine VO.val rfl rfl (OpV.extract_v rfl rfl rfl) ?_
    refine VO.le _ (Le.rowS (t := 61) (i := 0) hB hnew rfl rfl (by first | rfl | simp)) ?_
    first
      | refine VO.val rfl rfl (OpV.extract rfl rfl rfl) ?_
      | refine VO.val rfl rfl (OpV.extract_v rfl rfl rfl) ?_
    refine VO.val rfl rfl (OpV.move (.inr rfl) rfl) ?_
    refine VO.val rfl rfl (OpV.move (.inr rfl) rfl) ?_
    refine VO.nil ?_
    show VC _ _ _ _ _
    refine VC.seq ?_
    refine VC.region ?_
    refine VO.val rfl rfl (OpV.move (.inl rfl) rfl) ?_
    refine VO.val rfl rfl (OpV.move (.inl rfl) rfl) ?_
    refine VO.op rfl (OpE.callH (hp := []) (rest := _) rfl hB rfl Tryd.call12 rfl rfl (setup_Changes has hbs) (List.Perm.refl _) (fun _ h => by obtain ⟨e, he, _⟩ := h; cases he) ?_)
    rintro _ _ ⟨u66, rfl, rfl⟩
    refine VO.val rfl rfl (OpV.move (.inl rfl) rfl) ?_
    first
      | refine VO.val rfl rfl (OpV.extract rfl rfl rfl) ?_
      | refine VO.val rfl rfl (OpV.extract_v rfl rfl rfl) ?_
    refine VO.le _ (Le.rowT (t := 67) (i := 0) hB hnew rfl rfl (by first | rfl | simp)) ?_
    first
      | refine VO.val rfl rfl (OpV.extract rfl rfl rfl) ?_
      | refine VO.val rfl rfl (OpV.extract_v rfl rfl rfl) ?_
    refine VO.val rfl rfl (OpV.move (.inr rfl) rfl) ?_
    refine VO.val rfl rfl (OpV.move (.inr rfl) rfl) ?_
    refine VO.nil ?_
    show VC _ _ _ _ _
    refine VC.seq ?_
    refine VC.region ?_
    refine VO.val rfl rfl (OpV.move (.inl rfl) rfl) ?_
    refine VO.val rfl rfl (OpV.move (.inl rfl) rfl) ?_
    refine VO.op rfl (OpE.call rfl hB rfl Tryd.call13 rfl (SpecN.spec (setup_Loads has hbs)) ?_)
    rintro _ rfl
    refine VO.val rfl rfl (OpV.move (.inl rfl) rfl) ?_
    first
      | refine VO.val rfl rfl (OpV.extract rfl rfl rfl) ?_
      | refine VO.val rfl rfl (OpV.extract_v rfl rfl rfl) ?_
    first
      | refine VO.val rfl rfl (OpV.extract rfl rfl rfl) ?_
      | refine VO.val rfl rfl (OpV.extract_v rfl rfl rfl) ?_
    refine VO.val rfl rfl (OpV.move (.inr rfl) rfl) ?_
    refine VO.val rfl rfl (OpV.move (.inr rfl) rfl) ?_
    refine VO.nil ?_
    show VC _ _ _ _ _
    refine VC.seq ?_
    refine VC.region ?_
    refine VO.val rfl rfl (OpV.move (.inl rfl) rfl) ?_
    refine VO.op rfl (OpE.call rfl hB rfl Tryd.call14 rfl (SpecN.spec (rf_SetupFault has)) ?_)
    rintro _ rfl
    refine VO.val rfl rfl (OpV.move (.inr rfl) rfl) ?_
    refine VO.nil ?_
    show VC _ _ _ _ _
    refine VC.seq ?_
    refine VC.region ?_
    refine VO.val rfl rfl (OpV.move (.inl rfl) rfl) ?_
    refine VO.val rfl rfl (OpV.move (.inl rfl) rfl) ?_
    first
      | refine VO.val rfl rfl (OpV.len_im rfl Tryd.underlying27 rfl) ?_
      | refine VO.val rfl rfl (OpV.len_v rfl Tryd.underlying27 rfl) ?_
      | refine VO.val rfl rfl (OpV.len_row (i := 0) rfl Tryd.underlying27 rfl rfl) ?_
      | refine VO.val rfl rfl (OpV.len_row (i := 1) rfl Tryd.underlying27 rfl rfl) ?_
      | refine VO.val rfl rfl (OpV.len_row (i := 2) rfl Tryd.underlying27 rfl rfl) ?_
    refine VO.val rfl rfl (OpV.min2 rfl rfl rfl) ?_
    refine VO.val rfl rfl (OpV.max2 rfl rfl rfl) ?_
    refine VO.val rfl rfl (OpV.move (.inl rfl) rfl) ?_
    refine VO.op rfl (OpE.buildSlice (zc := #[.slice none 0 0]) rfl hB rfl Tryd.underlying30 Tryd.sizeOf27 Tryd.zeroValue27 (by decide) (by decide) (by kernel_rfl) rfl rfl ?_)
    refine VO.le _ (Le.recast (t := 83) (y := avM [l]) rfl (fun w Z u h => Rep.listM (xs := [l]) rfl h)) ?_
    refine VO.op rfl (OpE.call rfl hB rfl Tryd.call16 rfl (SpecN.spec (rf_PartsFault (SmSS.one hpa))) ?_)
    rintro _ rfl
    refine VO.op rfl (OpE.buildSlice (zc := #[.int .i64 0, .int .i64 0]) rfl hB rfl Tryd.underlying77 Tryd.sizeOf33 Tryd.zeroValue33 (by decide) (by decide) (by kernel_rfl) rfl rfl ?_)
    refine VO.le _ (Le.recast (t := 85) (y := avInts [setupF a, partsF (max 1 (min (a.length : Int) 100)) [l]]) rfl (fun w Z u h => Rep.ints (xs := [setupF a, partsF (max 1 (min (a.length : Int) 100)) [l]]) rfl h)) ?_
    refine VO.op rfl (OpE.call rfl hB rfl Tryd.call15 rfl (SpecN.spec (rf_errs (by simp))) ?_)
    rintro _ rfl
    refine VO.le _ (Le.recast (t := 86) (y := avI (missE a l)) rfl (fun w Z u h => by rw [miss_errs]; exact h)) ?_
    refine VO.val rfl rfl (OpV.move (.inr rfl) rfl) ?_
    refine VO.nil ?_
    show VC _ _ _ _ _
    refine VC.seq ?_
    refine VC.region ?_
    refine VO.val rfl rfl (OpV.move (.inl rfl) rfl) ?_
    refine VO.val rfl rfl (OpV.move (.inl rfl) rfl) ?_
    refine VO.op rfl (OpE.call rfl hB rfl Tryd.call14 rfl (SpecN.spec (rf_SetupFault hbs)) ?_)
    rintro _ rfl
    refine VO.val rfl rfl (OpV.move (.inl rfl) rfl) ?_
    first
      | refine VO.val rfl rfl (OpV.len_im rfl Tryd.underlying27 rfl) ?_
      | refine VO.val rfl rfl (OpV.len_v rfl Tryd.underlying27 rfl) ?_
      | refine VO.val rfl rfl (OpV.len_row (i := 0) rfl Tryd.underlying27 rfl rfl) ?_
      | refine VO.val rfl rfl (OpV.len_row (i := 1) rfl Tryd.underlying27 rfl rfl) ?_
      | refine VO.val rfl rfl (OpV.len_row (i := 2) rfl Tryd.underlying27 rfl rfl) ?_
    refine VO.val rfl rfl (OpV.move (.inl rfl) rfl) ?_
    first
      | refine VO.val rfl rfl (OpV.len_im rfl Tryd.underlying27 rfl) ?_
      | refine VO.val rfl rfl (OpV.len_v rfl Tryd.underlying27 rfl) ?_
      | refine VO.val rfl rfl (OpV.len_row (i := 0) rfl Tryd.underlying27 rfl rfl) ?_
      | refine VO.val rfl rfl (OpV.len_row (i := 1) rfl Tryd.underlying27 rfl rfl) ?_
      | refine VO.val rfl rfl (OpV.len_row (i := 2) rfl Tryd.underlying27 rfl rfl) ?_
    refine VO.val rfl rfl (OpV.neq rfl rfl rfl) ?_
    refine VO.op rfl (OpE.call rfl hB rfl Tryd.call17 rfl (SpecN.spec (rf_when)) ?_)
    rintro _ rfl
    refine VO.op rfl (OpE.buildSlice (zc := #[.int .i64 0, .int .i64 0, .int .i64 0]) rfl hB rfl Tryd.underlying77 Tryd.sizeOf33 Tryd.zeroValue33 (by decide) (by decide) (by kernel_rfl) rfl rfl ?_)
    refine VO.le _ (Le.recast (t := 96) (y := avInts [setupF a, setupF b, whenF (decide ((a.length : Int) ≠ b.length)) 3]) rfl (fun w Z u h => Rep.ints (xs := [setupF a, setupF b, whenF (decide ((a.length : Int) ≠ b.length)) 3]) rfl h)) ?_
    refine VO.op rfl (OpE.call rfl hB rfl Tryd.call15 rfl (SpecN.spec (rf_errs (by simp))) ?_)
    rintro _ rfl
    refine VO.le _ (Le.recast (t := 97) (y := avI (changesE a b)) rfl (fun w Z u h => by rw [change_errs]; exact h)) ?_
    refine VO.val rfl rfl (OpV.move (.inr rfl) rfl) ?_
    refine VO.nil ?_
    show VC _ _ _ _ _
    refine VC.seq ?_
    refine VC.region ?_
    refine VO.val rfl rfl (OpV.move (.inr rfl) rfl) ?_
    first | refine VO.le _ (Le.recast (t := 19) (y := avStrs []) rfl (fun w Z u h => by rw [h.eq_v]; exact .nil _ _)) ?_ | skip
    refine VO.nil ?_
    show VC _ _ _ _ _
    refine VC.seq ?_
    refine VC.seq ?_
    refine VC.region ?_
    refine VO.val rfl rfl (OpV.move (.inl rfl) rfl) ?_
    refine VO.val rfl rfl (OpV.eql rfl rfl rfl) ?_
    refine VO.nil ?_
    show VC _ _ _ _ _
    refine VC.cond rfl (fun h1b => ?_) (fun h1b => ?_)
    · have h1 := h1b
      try simp only [decide_eq_true_eq, decide_eq_false_iff_not, Bool.not_eq_true', Bool.not_eq_false', Int.not_lt, Int.not_le] at h1
      refine VC.region ?_
      refine VO.val rfl rfl (OpV.move (.inl rfl) rfl) ?_
      refine VO.val rfl rfl (OpV.move (.inl rfl) rfl) ?_
      refine VO.op rfl (OpE.call rfl hB rfl Tryd.call18 rfl (SpecN.spec (rf_MissingOf has hpa)) ?_)
      rintro _ rfl
      refine VO.val rfl rfl (OpV.move (.inr rfl) rfl) ?_
      first | refine VO.le _ (Le.recast (t := 19) (y := avStrs []) rfl (fun w Z u h => by rw [h.eq_v]; exact .nil _ _)) ?_ | skip
      refine VO.nil ?_
      show VC _ _ _ _ _
      refine VC.seq ?_
      refine VC.region ?_
      refine VO.val rfl rfl (OpV.move (.inr rfl) rfl) ?_
      first | refine VO.le _ (Le.recast (t := 20) (y := avL ([] : List ChgS)) rfl (fun w Z u h => by rw [h.eq_v]; exact .nil _ _)) ?_ | skip
      refine VO.nil ?_
      show VC _ _ _ _ _
      refine VC.seq ?_
      refine VC.region ?_
      refine VO.val rfl rfl (OpV.move (.inr rfl) rfl) ?_
      refine VO.nil ?_
      show VC _ _ _ _ _
      refine VC.seq ?_
      refine VC.seq ?_
      refine VC.region ?_
      refine VO.val rfl rfl (OpV.move (.inl rfl) rfl) ?_
      refine VO.val rfl rfl (OpV.eql rfl rfl rfl) ?_
      refine VO.nil ?_
      show VC _ _ _ _ _
      refine VC.cond rfl (fun h2b => ?_) (fun h2b => ?_)
      · have h2 := h2b
        try simp only [decide_eq_true_eq, decide_eq_false_iff_not, Bool.not_eq_true', Bool.not_eq_false', Int.not_lt, Int.not_le] at h2
        have z3 : b.length = a.length := (changesE_zero h2).2.2
        refine VC.region ?_
        refine VO.val rfl rfl (OpV.move (.inl rfl) rfl) ?_
        refine VO.val rfl rfl (OpV.move (.inl rfl) rfl) ?_
        refine VO.op rfl (OpE.callH (hp := []) (rest := _) rfl hB rfl Tryd.call19 rfl rfl (rf_ChangesOf hls z3) (List.Perm.refl _) (fun _ h => by obtain ⟨e, he, _⟩ := h; cases he) ?_)
        rintro _ _ ⟨u107, rfl, rfl⟩
        refine VO.le _ (Le.rowT (t := 107) (i := 0) hB hnew rfl rfl (by first | rfl | simp)) ?_
        refine VO.val rfl rfl (OpV.move (.inl rfl) rfl) ?_
        refine VO.val rfl rfl (OpV.move (.inl rfl) rfl) ?_
        refine VO.op rfl (OpE.call rfl hB rfl Tryd.call20 rfl (SpecN.spec (rf_LoadsOf hls z3)) ?_)
        rintro _ rfl
        refine VO.val rfl rfl (OpV.move (.inr rfl) rfl) ?_
        first | refine VO.le _ (Le.recast (t := 20) (y := avL ([] : List ChgS)) rfl (fun w Z u h => by rw [h.eq_v]; exact .nil _ _)) ?_ | skip
        refine VO.val rfl rfl (OpV.move (.inr rfl) rfl) ?_
        refine VO.nil ?_
        show VC _ _ _ _ _
        refine VC.seq ?_
        refine VC.region ?_
        refine VO.val rfl rfl (OpV.move (.inl rfl) rfl) ?_
        refine VO.op rfl (OpE.call rfl hB rfl Tryd.call21 rfl (SpecN.spec (setup_CheckSetup has)) ?_)
        rintro _ rfl
        refine VO.val rfl rfl (OpV.move (.inl rfl) rfl) ?_
        refine VO.val rfl rfl (OpV.eql rfl rfl rfl) ?_
        refine VO.le _ (Le.boolT (t := 114) rfl (decide_eq_true rfl)) ?_
        refine VO.val rfl rfl (OpV.move (.inl rfl) rfl) ?_
        refine VO.opY rfl rfl rfl rfl rfl ?_
        refine OpE.val (W := NoB) (OpV.move (.inl rfl) rfl) rfl ?_
        refine VO.opY rfl rfl rfl rfl rfl ?_
        refine OpE.val (W := NoB) (OpV.move (.inl rfl) rfl) rfl ?_
        refine VO.opY rfl rfl rfl rfl rfl ?_
        refine OpE.call rfl hB rfl Tryd.call22 rfl (SpecN.spec (setup_CheckParts hps)) ?_
        rintro _ rfl
        refine VO.opY rfl rfl rfl rfl rfl ?_
        refine OpE.val (W := NoB) (OpV.move (.inl rfl) rfl) rfl ?_
        refine VO.opY rfl rfl rfl rfl rfl ?_
        refine OpE.val (W := NoB) (OpV.move (.inl rfl) rfl) rfl ?_
        refine VO.opY rfl rfl rfl rfl rfl ?_
        refine OpE.call rfl hB rfl Tryd.call16 rfl (SpecN.spec (rf_PartsFault hps)) ?_
        rintro _ rfl
        refine VO.opY rfl rfl rfl rfl rfl ?_
        refine OpE.val (W := NoB) (OpV.eql rfl rfl rfl) rfl ?_
        refine VO.le _ (Le.boolT (t := 122) rfl (decide_eq_true rfl)) ?_
        refine VO.val rfl rfl (OpV.pickT rfl rfl rfl rfl rfl) ?_
        refine VO.val rfl rfl (OpV.move (.inl rfl) rfl) ?_
        refine VO.opY rfl rfl rfl rfl rfl ?_
        refine OpE.val (W := NoB) (OpV.move (.inl rfl) rfl) rfl ?_
        refine VO.opY rfl rfl rfl rfl rfl ?_
        refine OpE.val (W := NoB) (OpV.move (.inl rfl) rfl) rfl ?_
        refine VO.opY rfl rfl rfl rfl rfl ?_
        refine OpE.val (W := NoB) (OpV.eql rfl rfl rfl) rfl ?_
        refine VO.le _ (Le.boolT (t := 127) rfl (decide_eq_true rfl)) ?_
        refine VO.val rfl rfl (OpV.pickT rfl rfl rfl rfl rfl) ?_
        refine VO.val rfl rfl (OpV.move (.inl rfl) rfl) ?_
        refine VO.opY rfl rfl rfl rfl rfl ?_
        refine OpE.val (W := NoB) (OpV.move (.inl rfl) rfl) rfl ?_
        refine VO.opY rfl rfl rfl rfl rfl ?_
        refine OpE.val (W := NoB) (OpV.move (.inl rfl) rfl) rfl ?_
        refine VO.opY rfl rfl rfl rfl rfl ?_
        refine OpE.call rfl hB rfl Tryd.call23 rfl (SpecN.spec (slices_Equal_str (by first | (rw [if_pos h1]; have := missF_len a l; have := hpa.1; omega) | (rw [if_neg h1]; decide)) (by first | (have := missF_len a l; have := hpa.1; omega) | decide))) ?_
        rintro _ rfl
        refine VO.le _ (Le.boolT (t := 132) rfl (by first | (rw [if_pos h1]; exact eqLs_self sEq_refl _) | (rw [if_neg h1]; rfl))) ?_
        refine VO.val rfl rfl (OpV.pickT rfl rfl rfl rfl rfl) ?_
        refine VO.val rfl rfl (OpV.move (.inl rfl) rfl) ?_
        refine VO.opY rfl rfl rfl rfl rfl ?_
        refine OpE.val (W := NoB) (OpV.move (.inl rfl) rfl) rfl ?_
        refine VO.opY rfl rfl rfl rfl rfl ?_
        refine OpE.val (W := NoB) (OpV.move (.inl rfl) rfl) rfl ?_
        refine VO.opY rfl rfl rfl rfl rfl ?_
        refine OpE.val (W := NoB) (OpV.eql rfl rfl rfl) rfl ?_
        refine VO.le _ (Le.boolT (t := 137) rfl (decide_eq_true rfl)) ?_
        refine VO.val rfl rfl (OpV.pickT rfl rfl rfl rfl rfl) ?_
        refine VO.val rfl rfl (OpV.move (.inl rfl) rfl) ?_
        refine VO.opY rfl rfl rfl rfl rfl ?_
        refine OpE.val (W := NoB) (OpV.move (.inl rfl) rfl) rfl ?_
        refine VO.opY rfl rfl rfl rfl rfl ?_
        refine OpE.val (W := NoB) (OpV.move (.inl rfl) rfl) rfl ?_
        refine VO.opY rfl rfl rfl rfl rfl ?_
        refine OpE.call rfl hB rfl Tryd.call24 rfl (SpecN.spec (slices_Equal_chg (by have := changesF_len a b; omega) (by first | (have := chgF_len a b a.length; omega) | decide))) ?_
        rintro _ rfl
        refine VO.le _ (Le.boolT (t := 142) rfl (by first | (rw [changesF, if_pos h2]; exact eqLs_self eqC_self _) | (rw [changesF, if_neg h2]; rfl))) ?_
        refine VO.val rfl rfl (OpV.pickT rfl rfl rfl rfl rfl) ?_
        refine VO.val rfl rfl (OpV.move (.inl rfl) rfl) ?_
        refine VO.opY rfl rfl rfl rfl rfl ?_
        refine OpE.val (W := NoB) (OpV.move (.inl rfl) rfl) rfl ?_
        refine VO.opY rfl rfl rfl rfl rfl ?_
        refine OpE.val (W := NoB) (OpV.move (.inl rfl) rfl) rfl ?_
        refine VO.opY rfl rfl rfl rfl rfl ?_
        refine OpE.val (W := NoB) (OpV.eql rfl rfl rfl) rfl ?_
        refine VO.le _ (Le.boolT (t := 147) rfl (decide_eq_true rfl)) ?_
        refine VO.val rfl rfl (OpV.pickT rfl rfl rfl rfl rfl) ?_
        refine VO.val rfl rfl (OpV.move (.inl rfl) rfl) ?_
        refine VO.opY rfl rfl rfl rfl rfl ?_
        refine OpE.val (W := NoB) (OpV.move (.inl rfl) rfl) rfl ?_
        refine VO.opY rfl rfl rfl rfl rfl ?_
        refine OpE.val (W := NoB) (OpV.move (.inl rfl) rfl) rfl ?_
        refine VO.opY rfl rfl rfl rfl rfl ?_
        refine OpE.val (W := NoB) (OpV.eql rfl rfl rfl) rfl ?_
        refine VO.le _ (Le.boolT (t := 152) rfl (decide_eq_true (by first | rw [changesF, if_pos h2] | (rw [changesF, if_neg h2]; rfl)))) ?_
        refine VO.val rfl rfl (OpV.pickT rfl rfl rfl rfl rfl) ?_
        refine VO.val rfl rfl (OpV.move (.inl rfl) rfl) ?_
        refine VO.opY rfl rfl rfl rfl rfl ?_
        refine OpE.call rfl hB rfl Tryd.call25 rfl (SpecN.spec (rf_loaded)) ?_
        rintro _ rfl
        refine VO.le _ (Le.boolT (t := 155) rfl rfl) ?_
        refine VO.val rfl rfl (OpV.pickT rfl rfl rfl rfl rfl) ?_
        refine VO.val rfl rfl (OpV.move (.inr rfl) rfl) ?_
        refine VO.nil ?_
        show VC _ _ _ _ _
        refine VC.ret ?_
        exact And.intro rfl rfl
      · have h2 := h2b
        try simp only [decide_eq_true_eq, decide_eq_false_iff_not, Bool.not_eq_true', Bool.not_eq_false', Int.not_lt, Int.not_le] at h2
        refine VC.skip ?_
        show VC _ _ _ _ _
        refine VC.seq ?_
        refine VC.region ?_
        refine VO.val rfl rfl (OpV.move (.inl rfl) rfl) ?_
        refine VO.op rfl (OpE.call rfl hB rfl Tryd.call21 rfl (SpecN.spec (setup_CheckSetup has)) ?_)
        rintro _ rfl
        refine VO.val rfl rfl (OpV.move (.inl rfl) rfl) ?_
        refine VO.val rfl rfl (OpV.eql rfl rfl rfl) ?_
        refine VO.le _ (Le.boolT (t := 114) rfl (decide_eq_true rfl)) ?_
        refine VO.val rfl rfl (OpV.move (.inl rfl) rfl) ?_
        refine VO.opY rfl rfl rfl rfl rfl ?_
        refine OpE.val (W := NoB) (OpV.move (.inl rfl) rfl) rfl ?_
        refine VO.opY rfl rfl rfl rfl rfl ?_
        refine OpE.val (W := NoB) (OpV.move (.inl rfl) rfl) rfl ?_
        refine VO.opY rfl rfl rfl rfl rfl ?_
        refine OpE.call rfl hB rfl Tryd.call22 rfl (SpecN.spec (setup_CheckParts hps)) ?_
        rintro _ rfl
        refine VO.opY rfl rfl rfl rfl rfl ?_
        refine OpE.val (W := NoB) (OpV.move (.inl rfl) rfl) rfl ?_
        refine VO.opY rfl rfl rfl rfl rfl ?_
        refine OpE.val (W := NoB) (OpV.move (.inl rfl) rfl) rfl ?_
        refine VO.opY rfl rfl rfl rfl rfl ?_
        refine OpE.call rfl hB rfl Tryd.call16 rfl (SpecN.spec (rf_PartsFault hps)) ?_
        rintro _ rfl
        refine VO.opY rfl rfl rfl rfl rfl ?_
        refine OpE.val (W := NoB) (OpV.eql rfl rfl rfl) rfl ?_
        refine VO.le _ (Le.boolT (t := 122) rfl (decide_eq_true rfl)) ?_
        refine VO.val rfl rfl (OpV.pickT rfl rfl rfl rfl rfl) ?_
        refine VO.val rfl rfl (OpV.move (.inl rfl) rfl) ?_
        refine VO.opY rfl rfl rfl rfl rfl ?_
        refine OpE.val (W := NoB) (OpV.move (.inl rfl) rfl) rfl ?_
        refine VO.opY rfl rfl rfl rfl rfl ?_
        refine OpE.val (W := NoB) (OpV.move (.inl rfl) rfl) rfl ?_
        refine VO.opY rfl rfl rfl rfl rfl ?_
        refine OpE.val (W := NoB) (OpV.eql rfl rfl rfl) rfl ?_
        refine VO.le _ (Le.boolT (t := 127) rfl (decide_eq_true rfl)) ?_
        refine VO.val rfl rfl (OpV.pickT rfl rfl rfl rfl rfl) ?_
        refine VO.val rfl rfl (OpV.move (.inl rfl) rfl) ?_
        refine VO.opY rfl rfl rfl rfl rfl ?_
        refine OpE.val (W := NoB) (OpV.move (.inl rfl) rfl) rfl ?_
        refine VO.opY rfl rfl rfl rfl rfl ?_
        refine OpE.val (W := NoB) (OpV.move (.inl rfl) rfl) rfl ?_
        refine VO.opY rfl rfl rfl rfl rfl ?_
        refine OpE.call rfl hB rfl Tryd.call23 rfl (SpecN.spec (slices_Equal_str (by first | (rw [if_pos h1]; have := missF_len a l; have := hpa.1; omega) | (rw [if_neg h1]; decide)) (by first | (have := missF_len a l; have := hpa.1; omega) | decide))) ?_
        rintro _ rfl
        refine VO.le _ (Le.boolT (t := 132) rfl (by first | (rw [if_pos h1]; exact eqLs_self sEq_refl _) | (rw [if_neg h1]; rfl))) ?_
        refine VO.val rfl rfl (OpV.pickT rfl rfl rfl rfl rfl) ?_
        refine VO.val rfl rfl (OpV.move (.inl rfl) rfl) ?_
        refine VO.opY rfl rfl rfl rfl rfl ?_
        refine OpE.val (W := NoB) (OpV.move (.inl rfl) rfl) rfl ?_
        refine VO.opY rfl rfl rfl rfl rfl ?_
        refine OpE.val (W := NoB) (OpV.move (.inl rfl) rfl) rfl ?_
        refine VO.opY rfl rfl rfl rfl rfl ?_
        refine OpE.val (W := NoB) (OpV.eql rfl rfl rfl) rfl ?_
        refine VO.le _ (Le.boolT (t := 137) rfl (decide_eq_true rfl)) ?_
        refine VO.val rfl rfl (OpV.pickT rfl rfl rfl rfl rfl) ?_
        refine VO.val rfl rfl (OpV.move (.inl rfl) rfl) ?_
        refine VO.opY rfl rfl rfl rfl rfl ?_
        refine OpE.val (W := NoB) (OpV.move (.inl rfl) rfl) rfl ?_
        refine VO.opY rfl rfl rfl rfl rfl ?_
        refine OpE.val (W := NoB) (OpV.move (.inl rfl) rfl) rfl ?_
        refine VO.opY rfl rfl rfl rfl rfl ?_
        refine OpE.call rfl hB rfl Tryd.call24 rfl (SpecN.spec (slices_Equal_chg (by have := changesF_len a b; omega) (by first | (have := chgF_len a b a.length; omega) | decide))) ?_
        rintro _ rfl
        refine VO.le _ (Le.boolT (t := 142) rfl (by first | (rw [changesF, if_pos h2]; exact eqLs_self eqC_self _) | (rw [changesF, if_neg h2]; rfl))) ?_
        refine VO.val rfl rfl (OpV.pickT rfl rfl rfl rfl rfl) ?_
        refine VO.val rfl rfl (OpV.move (.inl rfl) rfl) ?_
        refine VO.opY rfl rfl rfl rfl rfl ?_
        refine OpE.val (W := NoB) (OpV.move (.inl rfl) rfl) rfl ?_
        refine VO.opY rfl rfl rfl rfl rfl ?_
        refine OpE.val (W := NoB) (OpV.move (.inl rfl) rfl) rfl ?_
        refine VO.opY rfl rfl rfl rfl rfl ?_
        refine OpE.val (W := NoB) (OpV.eql rfl rfl rfl) rfl ?_
        refine VO.le _ (Le.boolT (t := 147) rfl (decide_eq_true rfl)) ?_
        refine VO.val rfl rfl (OpV.pickT rfl rfl rfl rfl rfl) ?_
        refine VO.val rfl rfl (OpV.move (.inl rfl) rfl) ?_
        refine VO.opY rfl rfl rfl rfl rfl ?_
        refine OpE.val (W := NoB) (OpV.move (.inl rfl) rfl) rfl ?_
        refine VO.opY rfl rfl rfl rfl rfl ?_
        refine OpE.val (W := NoB) (OpV.move (.inl rfl) rfl) rfl ?_
        refine VO.opY rfl rfl rfl rfl rfl ?_
        refine OpE.val (W := NoB) (OpV.eql rfl rfl rfl) rfl ?_
        refine VO.le _ (Le.boolT (t := 152) rfl (decide_eq_true (by first | rw [changesF, if_pos h2] | (rw [changesF, if_neg h2]; rfl)))) ?_
        refine VO.val rfl rfl (OpV.pickT rfl rfl rfl rfl rfl) ?_
        refine VO.val rfl rfl (OpV.move (.inl rfl) rfl) ?_
        refine VO.opY rfl rfl rfl rfl rfl ?_
        refine OpE.call rfl hB rfl Tryd.call25 rfl (SpecN.spec (rf_loaded)) ?_
        rintro _ rfl
        refine VO.le _ (Le.boolT (t := 155) rfl rfl) ?_
        refine VO.val rfl rfl (OpV.pickT rfl rfl rfl rfl rfl) ?_
        refine VO.val rfl rfl (OpV.move (.inr rfl) rfl) ?_
        refine VO.nil ?_
        show VC _ _ _ _ _
        refine VC.ret ?_
        exact And.intro rfl rfl
    · have h1 := h1b
      try simp only [decide_eq_true_eq, decide_eq_false_iff_not, Bool.not_eq_true', Bool.not_eq_false', Int.not_lt, Int.not_le] at h1
      refine VC.skip ?_
      show VC _ _ _ _ _
      refine VC.seq ?_
      refine VC.region ?_
      refine VO.val rfl rfl (OpV.move (.inr rfl) rfl) ?_
      first | refine VO.le _ (Le.recast (t := 20) (y := avL ([] : List ChgS)) rfl (fun w Z u h => by rw [h.eq_v]; exact .nil _ _)) ?_ | skip
      refine VO.nil ?_
      show VC _ _ _ _ _
      refine VC.seq ?_
      refine VC.region ?_
      refine VO.val rfl rfl (OpV.move (.inr rfl) rfl) ?_
      refine VO.nil ?_
      show VC _ _ _ _ _
      refine VC.seq ?_
      refine VC.seq ?_
      refine VC.region ?_
      refine VO.val rfl rfl (OpV.move (.inl rfl) rfl) ?_
      refine VO.val rfl rfl (OpV.eql rfl rfl rfl) ?_
      refine VO.nil ?_
      show VC _ _ _ _ _
      refine VC.cond rfl (fun h2b => ?_) (fun h2b => ?_)
      · have h2 := h2b
        try simp only [decide_eq_true_eq, decide_eq_false_iff_not, Bool.not_eq_true', Bool.not_eq_false', Int.not_lt, Int.not_le] at h2
        have z3 : b.length = a.length := (changesE_zero h2).2.2
        refine VC.region ?_
        refine VO.val rfl rfl (OpV.move (.inl rfl) rfl) ?_
        refine VO.val rfl rfl (OpV.move (.inl rfl) rfl) ?_
        refine VO.op rfl (OpE.callH (hp := []) (rest := _) rfl hB rfl Tryd.call19 rfl rfl (rf_ChangesOf hls z3) (List.Perm.refl _) (fun _ h => by obtain ⟨e, he, _⟩ := h; cases he) ?_)
        rintro _ _ ⟨u107, rfl, rfl⟩
        refine VO.le _ (Le.rowT (t := 107) (i := 0) hB hnew rfl rfl (by first | rfl | simp)) ?_
        refine VO.val rfl rfl (OpV.move (.inl rfl) rfl) ?_
        refine VO.val rfl rfl (OpV.move (.inl rfl) rfl) ?_
        refine VO.op rfl (OpE.call rfl hB rfl Tryd.call20 rfl (SpecN.spec (rf_LoadsOf hls z3)) ?_)
        rintro _ rfl
        refine VO.val rfl rfl (OpV.move (.inr rfl) rfl) ?_
        first | refine VO.le _ (Le.recast (t := 20) (y := avL ([] : List ChgS)) rfl (fun w Z u h => by rw [h.eq_v]; exact .nil _ _)) ?_ | skip
        refine VO.val rfl rfl (OpV.move (.inr rfl) rfl) ?_
        refine VO.nil ?_
        show VC _ _ _ _ _
        refine VC.seq ?_
        refine VC.region ?_
        refine VO.val rfl rfl (OpV.move (.inl rfl) rfl) ?_
        refine VO.op rfl (OpE.call rfl hB rfl Tryd.call21 rfl (SpecN.spec (setup_CheckSetup has)) ?_)
        rintro _ rfl
        refine VO.val rfl rfl (OpV.move (.inl rfl) rfl) ?_
        refine VO.val rfl rfl (OpV.eql rfl rfl rfl) ?_
        refine VO.le _ (Le.boolT (t := 114) rfl (decide_eq_true rfl)) ?_
        refine VO.val rfl rfl (OpV.move (.inl rfl) rfl) ?_
        refine VO.opY rfl rfl rfl rfl rfl ?_
        refine OpE.val (W := NoB) (OpV.move (.inl rfl) rfl) rfl ?_
        refine VO.opY rfl rfl rfl rfl rfl ?_
        refine OpE.val (W := NoB) (OpV.move (.inl rfl) rfl) rfl ?_
        refine VO.opY rfl rfl rfl rfl rfl ?_
        refine OpE.call rfl hB rfl Tryd.call22 rfl (SpecN.spec (setup_CheckParts hps)) ?_
        rintro _ rfl
        refine VO.opY rfl rfl rfl rfl rfl ?_
        refine OpE.val (W := NoB) (OpV.move (.inl rfl) rfl) rfl ?_
        refine VO.opY rfl rfl rfl rfl rfl ?_
        refine OpE.val (W := NoB) (OpV.move (.inl rfl) rfl) rfl ?_
        refine VO.opY rfl rfl rfl rfl rfl ?_
        refine OpE.call rfl hB rfl Tryd.call16 rfl (SpecN.spec (rf_PartsFault hps)) ?_
        rintro _ rfl
        refine VO.opY rfl rfl rfl rfl rfl ?_
        refine OpE.val (W := NoB) (OpV.eql rfl rfl rfl) rfl ?_
        refine VO.le _ (Le.boolT (t := 122) rfl (decide_eq_true rfl)) ?_
        refine VO.val rfl rfl (OpV.pickT rfl rfl rfl rfl rfl) ?_
        refine VO.val rfl rfl (OpV.move (.inl rfl) rfl) ?_
        refine VO.opY rfl rfl rfl rfl rfl ?_
        refine OpE.val (W := NoB) (OpV.move (.inl rfl) rfl) rfl ?_
        refine VO.opY rfl rfl rfl rfl rfl ?_
        refine OpE.val (W := NoB) (OpV.move (.inl rfl) rfl) rfl ?_
        refine VO.opY rfl rfl rfl rfl rfl ?_
        refine OpE.val (W := NoB) (OpV.eql rfl rfl rfl) rfl ?_
        refine VO.le _ (Le.boolT (t := 127) rfl (decide_eq_true rfl)) ?_
        refine VO.val rfl rfl (OpV.pickT rfl rfl rfl rfl rfl) ?_
        refine VO.val rfl rfl (OpV.move (.inl rfl) rfl) ?_
        refine VO.opY rfl rfl rfl rfl rfl ?_
        refine OpE.val (W := NoB) (OpV.move (.inl rfl) rfl) rfl ?_
        refine VO.opY rfl rfl rfl rfl rfl ?_
        refine OpE.val (W := NoB) (OpV.move (.inl rfl) rfl) rfl ?_
        refine VO.opY rfl rfl rfl rfl rfl ?_
        refine OpE.call rfl hB rfl Tryd.call23 rfl (SpecN.spec (slices_Equal_str (by first | (rw [if_pos h1]; have := missF_len a l; have := hpa.1; omega) | (rw [if_neg h1]; decide)) (by first | (have := missF_len a l; have := hpa.1; omega) | decide))) ?_
        rintro _ rfl
        refine VO.le _ (Le.boolT (t := 132) rfl (by first | (rw [if_pos h1]; exact eqLs_self sEq_refl _) | (rw [if_neg h1]; rfl))) ?_
        refine VO.val rfl rfl (OpV.pickT rfl rfl rfl rfl rfl) ?_
        refine VO.val rfl rfl (OpV.move (.inl rfl) rfl) ?_
        refine VO.opY rfl rfl rfl rfl rfl ?_
        refine OpE.val (W := NoB) (OpV.move (.inl rfl) rfl) rfl ?_
        refine VO.opY rfl rfl rfl rfl rfl ?_
        refine OpE.val (W := NoB) (OpV.move (.inl rfl) rfl) rfl ?_
        refine VO.opY rfl rfl rfl rfl rfl ?_
        refine OpE.val (W := NoB) (OpV.eql rfl rfl rfl) rfl ?_
        refine VO.le _ (Le.boolT (t := 137) rfl (decide_eq_true rfl)) ?_
        refine VO.val rfl rfl (OpV.pickT rfl rfl rfl rfl rfl) ?_
        refine VO.val rfl rfl (OpV.move (.inl rfl) rfl) ?_
        refine VO.opY rfl rfl rfl rfl rfl ?_
        refine OpE.val (W := NoB) (OpV.move (.inl rfl) rfl) rfl ?_
        refine VO.opY rfl rfl rfl rfl rfl ?_
        refine OpE.val (W := NoB) (OpV.move (.inl rfl) rfl) rfl ?_
        refine VO.opY rfl rfl rfl rfl rfl ?_
        refine OpE.call rfl hB rfl Tryd.call24 rfl (SpecN.spec (slices_Equal_chg (by have := changesF_len a b; omega) (by first | (have := chgF_len a b a.length; omega) | decide))) ?_
        rintro _ rfl
        refine VO.le _ (Le.boolT (t := 142) rfl (by first | (rw [changesF, if_pos h2]; exact eqLs_self eqC_self _) | (rw [changesF, if_neg h2]; rfl))) ?_
        refine VO.val rfl rfl (OpV.pickT rfl rfl rfl rfl rfl) ?_
        refine VO.val rfl rfl (OpV.move (.inl rfl) rfl) ?_
        refine VO.opY rfl rfl rfl rfl rfl ?_
        refine OpE.val (W := NoB) (OpV.move (.inl rfl) rfl) rfl ?_
        refine VO.opY rfl rfl rfl rfl rfl ?_
        refine OpE.val (W := NoB) (OpV.move (.inl rfl) rfl) rfl ?_
        refine VO.opY rfl rfl rfl rfl rfl ?_
        refine OpE.val (W := NoB) (OpV.eql rfl rfl rfl) rfl ?_
        refine VO.le _ (Le.boolT (t := 147) rfl (decide_eq_true rfl)) ?_
        refine VO.val rfl rfl (OpV.pickT rfl rfl rfl rfl rfl) ?_
        refine VO.val rfl rfl (OpV.move (.inl rfl) rfl) ?_
        refine VO.opY rfl rfl rfl rfl rfl ?_
        refine OpE.val (W := NoB) (OpV.move (.inl rfl) rfl) rfl ?_
        refine VO.opY rfl rfl rfl rfl rfl ?_
        refine OpE.val (W := NoB) (OpV.move (.inl rfl) rfl) rfl ?_
        refine VO.opY rfl rfl rfl rfl rfl ?_
        refine OpE.val (W := NoB) (OpV.eql rfl rfl rfl) rfl ?_
        refine VO.le _ (Le.boolT (t := 152) rfl (decide_eq_true (by first | rw [changesF, if_pos h2] | (rw [changesF, if_neg h2]; rfl)))) ?_
        refine VO.val rfl rfl (OpV.pickT rfl rfl rfl rfl rfl) ?_
        refine VO.val rfl rfl (OpV.move (.inl rfl) rfl) ?_
        refine VO.opY rfl rfl rfl rfl rfl ?_
        refine OpE.call rfl hB rfl Tryd.call25 rfl (SpecN.spec (rf_loaded)) ?_
        rintro _ rfl
        refine VO.le _ (Le.boolT (t := 155) rfl rfl) ?_
        refine VO.val rfl rfl (OpV.pickT rfl rfl rfl rfl rfl) ?_
        refine VO.val rfl rfl (OpV.move (.inr rfl) rfl) ?_
        refine VO.nil ?_
        show VC _ _ _ _ _
        refine VC.ret ?_
        exact And.intro rfl rfl
      · have h2 := h2b
        try simp only [decide_eq_true_eq, decide_eq_false_iff_not, Bool.not_eq_true', Bool.not_eq_false', Int.not_lt, Int.not_le] at h2
        refine VC.skip ?_
        show VC _ _ _ _ _
        refine VC.seq ?_
        refine VC.region ?_
        refine VO.val rfl rfl (OpV.move (.inl rfl) rfl) ?_
        refine VO.op rfl (OpE.call rfl hB rfl Tryd.call21 rfl (SpecN.spec (setup_CheckSetup has)) ?_)
        rintro _ rfl
        refine VO.val rfl rfl (OpV.move (.inl rfl) rfl) ?_
        refine VO.val rfl rfl (OpV.eql rfl rfl rfl) ?_
        refine VO.le _ (Le.boolT (t := 114) rfl (decide_eq_true rfl)) ?_
        refine VO.val rfl rfl (OpV.move (.inl rfl) rfl) ?_
        refine VO.opY rfl rfl rfl rfl rfl ?_
        refine OpE.val (W := NoB) (OpV.move (.inl rfl) rfl) rfl ?_
        refine VO.opY rfl rfl rfl rfl rfl ?_
        refine OpE.val (W := NoB) (OpV.move (.inl rfl) rfl) rfl ?_
        refine VO.opY rfl rfl rfl rfl rfl ?_
        refine OpE.call rfl hB rfl Tryd.call22 rfl (SpecN.spec (setup_CheckParts hps)) ?_
        rintro _ rfl
        refine VO.opY rfl rfl rfl rfl rfl ?_
        refine OpE.val (W := NoB) (OpV.move (.inl rfl) rfl) rfl ?_
        refine VO.opY rfl rfl rfl rfl rfl ?_
        refine OpE.val (W := NoB) (OpV.move (.inl rfl) rfl) rfl ?_
        refine VO.opY rfl rfl rfl rfl rfl ?_
        refine OpE.call rfl hB rfl Tryd.call16 rfl (SpecN.spec (rf_PartsFault hps)) ?_
        rintro _ rfl
        refine VO.opY rfl rfl rfl rfl rfl ?_
        refine OpE.val (W := NoB) (OpV.eql rfl rfl rfl) rfl ?_
        refine VO.le _ (Le.boolT (t := 122) rfl (decide_eq_true rfl)) ?_
        refine VO.val rfl rfl (OpV.pickT rfl rfl rfl rfl rfl) ?_
        refine VO.val rfl rfl (OpV.move (.inl rfl) rfl) ?_
        refine VO.opY rfl rfl rfl rfl rfl ?_
        refine OpE.val (W := NoB) (OpV.move (.inl rfl) rfl) rfl ?_
        refine VO.opY rfl rfl rfl rfl rfl ?_
        refine OpE.val (W := NoB) (OpV.move (.inl rfl) rfl) rfl ?_
        refine VO.opY rfl rfl rfl rfl rfl ?_
        refine OpE.val (W := NoB) (OpV.eql rfl rfl rfl) rfl ?_
        refine VO.le _ (Le.boolT (t := 127) rfl (decide_eq_true rfl)) ?_
        refine VO.val rfl rfl (OpV.pickT rfl rfl rfl rfl rfl) ?_
        refine VO.val rfl rfl (OpV.move (.inl rfl) rfl) ?_
        refine VO.opY rfl rfl rfl rfl rfl ?_
        refine OpE.val (W := NoB) (OpV.move (.inl rfl) rfl) rfl ?_
        refine VO.opY rfl rfl rfl rfl rfl ?_
        refine OpE.val (W := NoB) (OpV.move (.inl rfl) rfl) rfl ?_
        refine VO.opY rfl rfl rfl rfl rfl ?_
        refine OpE.call rfl hB rfl Tryd.call23 rfl (SpecN.spec (slices_Equal_str (by first | (rw [if_pos h1]; have := missF_len a l; have := hpa.1; omega) | (rw [if_neg h1]; decide)) (by first | (have := missF_len a l; have := hpa.1; omega) | decide))) ?_
        rintro _ rfl
        refine VO.le _ (Le.boolT (t := 132) rfl (by first | (rw [if_pos h1]; exact eqLs_self sEq_refl _) | (rw [if_neg h1]; rfl))) ?_
        refine VO.val rfl rfl (OpV.pickT rfl rfl rfl rfl rfl) ?_
        refine VO.val rfl rfl (OpV.move (.inl rfl) rfl) ?_
        refine VO.opY rfl rfl rfl rfl rfl ?_
        refine OpE.val (W := NoB) (OpV.move (.inl rfl) rfl) rfl ?_
        refine VO.opY rfl rfl rfl rfl rfl ?_
        refine OpE.val (W := NoB) (OpV.move (.inl rfl) rfl) rfl ?_
        refine VO.opY rfl rfl rfl rfl rfl ?_
        refine OpE.val (W := NoB) (OpV.eql rfl rfl rfl) rfl ?_
        refine VO.le _ (Le.boolT (t := 137) rfl (decide_eq_true rfl)) ?_
        refine VO.val rfl rfl (OpV.pickT rfl rfl rfl rfl rfl) ?_
        refine VO.val rfl rfl (OpV.move (.inl rfl) rfl) ?_
        refine VO.opY rfl rfl rfl rfl rfl ?_
        refine OpE.val (W := NoB) (OpV.move (.inl rfl) rfl) rfl ?_
        refine VO.opY rfl rfl rfl rfl rfl ?_
        refine OpE.val (W := NoB) (OpV.move (.inl rfl) rfl) rfl ?_
        refine VO.opY rfl rfl rfl rfl rfl ?_
        refine OpE.call rfl hB rfl Tryd.call24 rfl (SpecN.spec (slices_Equal_chg (by have := changesF_len a b; omega) (by first | (have := chgF_len a b a.length; omega) | decide))) ?_
        rintro _ rfl
        refine VO.le _ (Le.boolT (t := 142) rfl (by first | (rw [changesF, if_pos h2]; exact eqLs_self eqC_self _) | (rw [changesF, if_neg h2]; rfl))) ?_
        refine VO.val rfl rfl (OpV.pickT rfl rfl rfl rfl rfl) ?_
        refine VO.val rfl rfl (OpV.move (.inl rfl) rfl) ?_
        refine VO.opY rfl rfl rfl rfl rfl ?_
        refine OpE.val (W := NoB) (OpV.move (.inl rfl) rfl) rfl ?_
        refine VO.opY rfl rfl rfl rfl rfl ?_
        refine OpE.val (W := NoB) (OpV.move (.inl rfl) rfl) rfl ?_
        refine VO.opY rfl rfl rfl rfl rfl ?_
        refine OpE.val (W := NoB) (OpV.eql rfl rfl rfl) rfl ?_
        refine VO.le _ (Le.boolT (t := 147) rfl (decide_eq_true rfl)) ?_
        refine VO.val rfl rfl (OpV.pickT rfl rfl rfl rfl rfl) ?_
        refine VO.val rfl rfl (OpV.move (.inl rfl) rfl) ?_
        refine VO.opY rfl rfl rfl rfl rfl ?_
        refine OpE.val (W := NoB) (OpV.move (.inl rfl) rfl) rfl ?_
        refine VO.opY rfl rfl rfl rfl rfl ?_
        refine OpE.val (W := NoB) (OpV.move (.inl rfl) rfl) rfl ?_
        refine VO.opY rfl rfl rfl rfl rfl ?_
        refine OpE.val (W := NoB) (OpV.eql rfl rfl rfl) rfl ?_
        refine VO.le _ (Le.boolT (t := 152) rfl (decide_eq_true (by first | rw [changesF, if_pos h2] | (rw [changesF, if_neg h2]; rfl)))) ?_
        refine VO.val rfl rfl (OpV.pickT rfl rfl rfl rfl rfl) ?_
        refine VO.val rfl rfl (OpV.move (.inl rfl) rfl) ?_
        refine VO.opY rfl rfl rfl rfl rfl ?_
        refine OpE.call rfl hB rfl Tryd.call25 rfl (SpecN.spec (rf_loaded)) ?_
        rintro _ rfl
        refine VO.le _ (Le.boolT (t := 155) rfl rfl) ?_
        refine VO.val rfl rfl (OpV.pickT rfl rfl rfl rfl rfl) ?_
        refine VO.val rfl rfl (OpV.move (.inr rfl) rfl) ?_
        refine VO.nil ?_
        show VC _ _ _ _ _
        refine VC.ret ?_
        exact And.intro rfl rfl
end Go.Proofs.YtpajnlcikmhpdaaDoor
