/- The walk of the law OrdersFound. -/
import Derived.Test.YtpajnlcikmhpdaaDoorOrdS3
import Derived.Test.YtpajnlcikmhpdaaDoorRepM
import Derived.Test.YtpajnlcikmhpdaaDoorGenP
import Derived.Test.YtpajnlcikmhpdaaDoorLaw0
namespace Go.Proofs.YtpajnlcikmhpdaaDoor
open Go.RowKit
set_option linter.unusedVariables false
set_option linter.unusedSimpArgs false
def iEq (x y : Int) : Bool := decide (x = y)
theorem iEq_refl (x : Int) : iEq x x = true := decide_eq_true rfl
set_option maxRecDepth 100000 in
theorem slices_Equal_ints {xs ys : List Int} (hl : xs.length ≤ 1000000000) (hl' : ys.length ≤ 1000000000) :
    SpecN Tryd.prog 33 [avInts xs, avInts ys] (fun y => y = avB (eqLs iEq xs ys)) := by
  refine SpecN.of_VCN Tryd.func33 rfl Tryd.ntmps33 (Nat.le_of_ble_eq_true rfl) fun w A hB => ?_
  have hnew : True := trivial
  refine VC.seq ?_
  refine VC.region ?_
  refine VO.val rfl rfl (OpV.move (.inr rfl) rfl) ?_
  refine VO.nil ?_
  show VC _ _ _ _ _
  refine VC.seq ?_
  refine VC.seq ?_
  refine VC.region ?_
  refine VO.val rfl rfl (OpV.move (.inl rfl) rfl) ?_
  first
    | refine VO.val rfl rfl (OpV.len_im rfl Tryd.underlying22 rfl) ?_
    | refine VO.val rfl rfl (OpV.len_v rfl Tryd.underlying22 rfl) ?_
  refine VO.val rfl rfl (OpV.move (.inl rfl) rfl) ?_
  first
    | refine VO.val rfl rfl (OpV.len_im rfl Tryd.underlying22 rfl) ?_
    | refine VO.val rfl rfl (OpV.len_v rfl Tryd.underlying22 rfl) ?_
  refine VO.val rfl rfl (OpV.neq rfl rfl rfl) ?_
  refine VO.nil ?_
  show VC _ _ _ _ _
  refine VC.cond rfl (fun aH1b => ?_) (fun aH1b => ?_)
  · have aH1 := aH1b
    try simp only [decide_eq_true_eq, decide_eq_false_iff_not, Bool.not_eq_true', Bool.not_eq_false', Int.not_lt, Int.not_le] at aH1
    refine VC.seq ?_
    refine VC.region ?_
    refine VO.val rfl rfl (OpV.move (.inr rfl) rfl) ?_
    refine VO.nil ?_
    show VC _ _ _ _ _
    refine VC.ret ?_
    exact Exists.intro _ (And.intro (RetN.one Tryd.results33 (ResN.v rfl)) (by first | rw [eqLs_len (by omega)] | rw [eqLs_at (d := 0) (q := q) (by omega) (decide_eq_false (by omega))] | rw [eqLs_all (d := 0) (by omega) (fun j hj => hn j (by omega))]))
  · have aH1 := aH1b
    try simp only [decide_eq_true_eq, decide_eq_false_iff_not, Bool.not_eq_true', Bool.not_eq_false', Int.not_lt, Int.not_le] at aH1
    refine VC.skip ?_
    show VC _ _ _ _ _
    refine VC.seq ?_
    refine VC.seq ?_
    refine VC.region ?_
    refine VO.val rfl rfl (OpV.move (.inl rfl) rfl) ?_
    first
      | refine VO.val rfl rfl (OpV.len_im rfl Tryd.underlying22 rfl) ?_
      | refine VO.val rfl rfl (OpV.len_v rfl Tryd.underlying22 rfl) ?_
    refine VO.val rfl rfl (OpV.move (.inl rfl) rfl) ?_
    refine VO.nil ?_
    show VC _ _ _ _ _
    refine VC.block ?_
    refine VC.loopK [(0, _), (1, _), (12, _)] ⟨rfl, rfl, rfl, trivial⟩ ({q : Nat // q ≤ xs.length ∧ ∀ j, j < q → iEq (xs.getD j 0) (ys.getD j 0) = true}) (fun (i : {q : Nat // q ≤ xs.length ∧ ∀ j, j < q → iEq (xs.getD j 0) (ys.getD j 0) = true}) => match i with | ⟨q, hq, hn⟩ => [(13, avI (q : Int))]) (fun (i : {q : Nat // q ≤ xs.length ∧ ∀ j, j < q → iEq (xs.getD j 0) (ys.getD j 0) = true}) => match i with | ⟨q, hq, hn⟩ => []) (fun (i : {q : Nat // q ≤ xs.length ∧ ∀ j, j < q → iEq (xs.getD j 0) (ys.getD j 0) = true}) => match i with | ⟨q, hq, hn⟩ => 0) (fun (i : {q : Nat // q ≤ xs.length ∧ ∀ j, j < q → iEq (xs.getD j 0) (ys.getD j 0) = true}) => match i with | ⟨q, hq, hn⟩ => xs.length - q) ⟨0, Nat.zero_le _, fun j hj => absurd hj (Nat.not_lt_zero j)⟩ (Le.mk hB [] ⟨rfl, rfl, rfl, rfl, trivial⟩ rfl rfl (Nat.le_refl _)) ?_
    rintro ⟨q, hq, hn⟩
    show VC _ _ _ _ ⟨[(13, avI (q : Int))] ++ [(0, _), (1, _), (12, _)], [], 0⟩
    refine VC.seq ?_
    refine VC.region ?_
    refine VO.val rfl rfl (OpV.lss rfl rfl rfl) ?_
    refine VO.nil ?_
    show VC _ _ _ _ _
    refine VC.seq ?_
    refine VC.cond rfl (fun aH2b => ?_) (fun aH2b => ?_)
    · have aH2 := aH2b
      try simp only [decide_eq_true_eq, decide_eq_false_iff_not, Bool.not_eq_true', Bool.not_eq_false', Int.not_lt, Int.not_le] at aH2
      refine VC.skip ?_
      show VC _ _ _ _ _
      refine VC.seq ?_
      refine VC.block ?_
      refine VC.seq ?_
      refine VC.region ?_
      refine VO.val rfl rfl (OpV.move (.inl rfl) rfl) ?_
      refine VO.val rfl rfl (OpV.move (.inr rfl) rfl) ?_
      refine VO.nil ?_
      show VC _ _ _ _ _
      refine VC.seq ?_
      refine VC.draw (fun _ => NoB) hB (by kernel_rfl) ?_
      refine VA.take (i := 0) rfl (by kernel_rfl) (by kernel_rfl) (by kernel_rfl) rfl rfl (OpV.move (.inl rfl) rfl) ?_
      refine VA.take (i := 1) rfl (by kernel_rfl) (by kernel_rfl) (by kernel_rfl) rfl rfl (OpV.move (.inl rfl) rfl) ?_
      first
        | refine VA.take (i := 2) rfl (by kernel_rfl) (by kernel_rfl) (by kernel_rfl) rfl rfl (OpV.indexAddr_1 rfl Tryd.underlying22 Tryd.sizeOf3 rfl rfl rfl (by omega)) ?_
        | refine VA.take (i := 2) rfl (by kernel_rfl) (by kernel_rfl) (by kernel_rfl) rfl rfl (OpV.indexAddr_1 rfl Tryd.underlying22 Tryd.sizeOf3 rfl rfl (Int.toNat_of_nonneg (by omega)).symm (by omega)) ?_
        | refine VA.take (i := 2) rfl (by kernel_rfl) (by kernel_rfl) (by kernel_rfl) rfl rfl (OpV.indexAddr_o rfl Tryd.underlying22 Tryd.sizeOf3 rfl rfl rfl (by omega)) ?_
        | refine VA.take (i := 2) rfl (by kernel_rfl) (by kernel_rfl) (by kernel_rfl) rfl rfl (OpV.indexAddr_o rfl Tryd.underlying22 Tryd.sizeOf3 rfl rfl (Int.toNat_of_nonneg (by omega)).symm (by omega)) ?_
        | refine VA.take (i := 2) rfl (by kernel_rfl) (by kernel_rfl) (by kernel_rfl) rfl rfl (OpV.indexAddr_q rfl Tryd.underlying22 Tryd.sizeOf3 rfl rfl rfl (by omega)) ?_
        | refine VA.take (i := 2) rfl (by kernel_rfl) (by kernel_rfl) (by kernel_rfl) rfl rfl (OpV.indexAddr_q rfl Tryd.underlying22 Tryd.sizeOf3 rfl rfl (Int.toNat_of_nonneg (by omega)).symm (by omega)) ?_
        | refine VA.take (i := 2) rfl (by kernel_rfl) (by kernel_rfl) (by kernel_rfl) rfl rfl (OpV.indexAddr_im rfl Tryd.underlying22 Tryd.sizeOf3 rfl rfl (by omega) (by omega)) ?_
      refine VA.take (i := 3) rfl (by kernel_rfl) (by kernel_rfl) (by kernel_rfl) rfl rfl (OpV.load_at rfl hB OutW.wi0 Tryd.isAgg3 rfl rfl) ?_
      refine VA.take (i := 4) rfl (by kernel_rfl) (by kernel_rfl) (by kernel_rfl) rfl rfl (OpV.move (.inl rfl) rfl) ?_
      refine VA.take (i := 5) rfl (by kernel_rfl) (by kernel_rfl) (by kernel_rfl) rfl rfl (OpV.move (.inl rfl) rfl) ?_
      first
        | refine VA.take (i := 6) rfl (by kernel_rfl) (by kernel_rfl) (by kernel_rfl) rfl rfl (OpV.indexAddr_1 rfl Tryd.underlying22 Tryd.sizeOf3 rfl rfl rfl (by omega)) ?_
        | refine VA.take (i := 6) rfl (by kernel_rfl) (by kernel_rfl) (by kernel_rfl) rfl rfl (OpV.indexAddr_1 rfl Tryd.underlying22 Tryd.sizeOf3 rfl rfl (Int.toNat_of_nonneg (by omega)).symm (by omega)) ?_
        | refine VA.take (i := 6) rfl (by kernel_rfl) (by kernel_rfl) (by kernel_rfl) rfl rfl (OpV.indexAddr_o rfl Tryd.underlying22 Tryd.sizeOf3 rfl rfl rfl (by omega)) ?_
        | refine VA.take (i := 6) rfl (by kernel_rfl) (by kernel_rfl) (by kernel_rfl) rfl rfl (OpV.indexAddr_o rfl Tryd.underlying22 Tryd.sizeOf3 rfl rfl (Int.toNat_of_nonneg (by omega)).symm (by omega)) ?_
        | refine VA.take (i := 6) rfl (by kernel_rfl) (by kernel_rfl) (by kernel_rfl) rfl rfl (OpV.indexAddr_q rfl Tryd.underlying22 Tryd.sizeOf3 rfl rfl rfl (by omega)) ?_
        | refine VA.take (i := 6) rfl (by kernel_rfl) (by kernel_rfl) (by kernel_rfl) rfl rfl (OpV.indexAddr_q rfl Tryd.underlying22 Tryd.sizeOf3 rfl rfl (Int.toNat_of_nonneg (by omega)).symm (by omega)) ?_
        | refine VA.take (i := 6) rfl (by kernel_rfl) (by kernel_rfl) (by kernel_rfl) rfl rfl (OpV.indexAddr_im rfl Tryd.underlying22 Tryd.sizeOf3 rfl rfl (by omega) (by omega)) ?_
      refine VA.take (i := 7) rfl (by kernel_rfl) (by kernel_rfl) (by kernel_rfl) rfl rfl (OpV.load_at rfl hB OutW.wi0 Tryd.isAgg3 rfl rfl) ?_
      refine VA.take (i := 8) rfl (by kernel_rfl) (by kernel_rfl) (by kernel_rfl) rfl rfl (OpV.neq rfl rfl rfl) ?_
      refine VA.done (by kernel_rfl) ?_
      show VC _ _ _ _ _
      refine VC.cond rfl (fun h2b => ?_) (fun h2b => ?_)
      · have h2 := h2b
        try simp only [decide_eq_true_eq, decide_eq_false_iff_not, Bool.not_eq_true', Bool.not_eq_false', Int.not_lt, Int.not_le] at h2
        refine VC.seq ?_
        refine VC.region ?_
        refine VO.val rfl rfl (OpV.move (.inr rfl) rfl) ?_
        refine VO.nil ?_
        show VC _ _ _ _ _
        refine VC.ret ?_
        exact Exists.intro _ (And.intro (RetN.one Tryd.results33 (ResN.v rfl)) (by first | rw [eqLs_len (by omega)] | rw [eqLs_at (d := 0) (q := q) (by omega) (decide_eq_false (by omega))] | rw [eqLs_all (d := 0) (by omega) (fun j hj => hn j (by omega))]))
      · have h2 := h2b
        try simp only [decide_eq_true_eq, decide_eq_false_iff_not, Bool.not_eq_true', Bool.not_eq_false', Int.not_lt, Int.not_le] at h2
        refine VC.skip ?_
        show VC _ _ _ _ _
        refine VC.region ?_
        refine VO.val rfl rfl (OpV.add rfl rfl rfl (by unfold fits; omega)) ?_
        refine VO.val rfl rfl (OpV.move (.inl rfl) rfl) ?_
        refine VO.nil ?_
        exact Exists.intro (⟨q + 1, by omega, lt_succ_cases hn ((decide_eq_true (by omega)))⟩) (And.intro (Le.mk hB [] ⟨rfl, rfl, rfl, rfl, trivial⟩ rfl rfl (Nat.le_refl _)) (by first | omega | (show _ < _; omega) | (simp only []; omega)))
    · have aH2 := aH2b
      try simp only [decide_eq_true_eq, decide_eq_false_iff_not, Bool.not_eq_true', Bool.not_eq_false', Int.not_lt, Int.not_le] at aH2
      refine VC.exit ?_
      show VC _ _ _ _ _
      refine VC.seq ?_
      refine VC.region ?_
      refine VO.val rfl rfl (OpV.move (.inr rfl) rfl) ?_
      refine VO.nil ?_
      show VC _ _ _ _ _
      refine VC.ret ?_
      exact Exists.intro _ (And.intro (RetN.one Tryd.results33 (ResN.v rfl)) (by first | rw [eqLs_len (by omega)] | rw [eqLs_at (d := 0) (q := q) (by omega) (decide_eq_false (by omega))] | rw [eqLs_all (d := 0) (by omega) (fun j hj => hn j (by omega))]))
theorem bestP_len (a : List ByteArray) (p : List (List ByteArray)) : (bestP a p).best.length ≤ p.length :=
  ext_inv (n := p.length) (I := fun (x : BestT) => x.best.length ≤ p.length) (fun x o ho hl h => by unfold stepP; split; exact Nat.le_of_eq hl; exact h) p.length [] _ (Ord.nil _) (by simp) (by simp)
theorem bestR_len (a : List ByteArray) (p : List (List ByteArray)) : (bestR a p).best.length ≤ p.length :=
  ext_inv (n := p.length) (I := fun (x : BestT) => x.best.length ≤ p.length) (fun x o ho hl h => by unfold stepR; split; exact Nat.le_of_eq hl; exact h) p.length [] _ (Ord.nil _) (by simp) (by simp)
theorem bestL_len (a : List ByteArray) (p : List (List ByteArray)) : (bestL a p).length ≤ p.length := by
  unfold bestL
  split
  · exact bestP_len a p
  · simp
theorem bestRL_len (a : List ByteArray) (p : List (List ByteArray)) : (bestRL a p).length ≤ p.length := by
  unfold bestRL
  split
  · simp
  · exact bestR_len a p
theorem best_all {a : List ByteArray} {p : List (List ByteArray)} (h : setsF a p = 0) : bestE a p = bestRE p ∧ bestL a p = bestRL a p ∧ bestK a p = bestRK a p := by
  have hg := (setsF_zero h).2.1
  have hp := (setsF_zero h).2.2.2.1
  have hE : bestE a p = bestRE p := by rw [bestE, if_neg (by omega), bestRE]
  refine ⟨hE, ?_, ?_⟩
  · rw [bestL, hE, bestRE, bestRL]
    by_cases h8 : 8 < p.length
    · rw [if_pos h8, if_pos h8]; rfl
    · rw [if_neg h8, if_neg h8, best_eq hg.len (by omega) hp]; rfl
  · rw [bestK, hE, bestRE, bestRK]
    by_cases h8 : 8 < p.length
    · rw [if_pos h8, if_pos h8]; rfl
    · rw [if_neg h8, if_neg h8, best_eq hg.len (by omega) hp]; rfl
theorem best_bad {a : List ByteArray} {p : List (List ByteArray)} (h : ¬ setsF a p = 0) : bestE a p = setsF a p ∧ bestL a p = [] ∧ bestK a p = 0 ∧ nearL a p = [] ∧ nearK a p = 0 := by
  have hE : bestE a p = setsF a p := by rw [bestE, if_pos h]
  exact ⟨hE, by rw [bestL, hE, if_neg h], by rw [bestK, hE, if_neg h], by rw [nearL, if_neg h], by rw [nearK, if_neg h]⟩
theorem near_good {a : List ByteArray} {p : List (List ByteArray)} (h : setsF a p = 0) : nearL a p = (near a p p.length).2.1 ∧ nearK a p = (near a p p.length).2.2 ∧ (near a p p.length).2.1.length = p.length :=
  ⟨by rw [nearL, if_pos h], by rw [nearK, if_pos h], (near_ok (setsF_zero h).2.1 (setsF_zero h).2.2.2.1 p.length (Nat.le_refl _)).num⟩
theorem nearL_len (a : List ByteArray) (p : List (List ByteArray)) : (nearL a p).length ≤ p.length := by
  by_cases h : setsF a p = 0
  · rw [(near_good h).1, (near_good h).2.2]; exact Nat.le_refl _
  · rw [(best_bad h).2.2.2.1]; simp
theorem SmSS.rep : SmSS (List.replicate 9 [(⟨#[97]⟩ : ByteArray)]) := ⟨by simp, fun i => by
  by_cases h : i < 9
  · rw [List.getD_eq_getElem?_getD, List.getElem?_replicate, if_pos h]
    exact ⟨by simp, fun j => by cases j with | zero => decide | succ j => simp⟩
  · rw [List.getD_eq_getElem?_getD, List.getElem?_replicate, if_neg h]; exact SmS.nil⟩
set_option maxRecDepth 100000 in
set_option maxHeartbeats 40000000 in
theorem ordersFound_any (a0 : Option Addr) (cap0 : Nat) (L : List Int) (w : World) (hin : Inp w a0 L) :
    Calls Tryd.prog 4 #[.slice a0 L.length cap0] w fun e w' => e = .returned (.bool true) ∧ Chg NoB w w' := by
  refine law_calls Tryd.func4 rfl Tryd.ntmps4 (Nat.le_of_ble_eq_true rfl) Tryd.results4 ?_
  have hB := B0.ok w (fun _ => True) 99
  have hnew : True := trivial
  refine VC.seq ?_
  refine VC.region ?_
  refine VO.val rfl rfl (OpV.move (.inr rfl) rfl) ?_
  refine VO.nil ?_
  show VC _ _ _ _ _
  refine VC.seq ?_
  refine VC.region ?_
  refine VO.val rfl rfl (OpV.move (.inl rfl) rfl) ?_
  refine VO.val rfl rfl (OpV.build (pls := #[(0, 1), (1, 1)]) rfl Tryd.zeroValue25 Tryd.underlying25 (fun w => by kernel_rfl) rfl rfl) ?_
  refine VO.op rfl (OpE.box rfl hB rfl rfl rfl ?_)
  intro g
  refine VO.val rfl rfl (OpV.move (.inr rfl) rfl) ?_
  refine VO.nil ?_
  show VC _ _ _ _ _
  refine VC.stream (i := 0) (sl := [(3, sp g)]) (by exact rfl) (by exact rfl) hin (by exact ⟨rfl, trivial⟩) (fun p hp => by simp at hp; subst hp; exact ⟨_, rfl⟩) (fun w1 hge hB => ?_)
  refine VC.seq ?_
  refine VC.region ?_
  refine VO.val rfl rfl (OpV.move (.inl rfl) rfl) ?_
  refine VO.op rfl (OpE.callT' (0) rfl rfl hB rfl Tryd.call6 rfl ((range_T (by omega) (by omega) (by omega))) (by omega) ?_)
  rintro _ ⟨r23, hr23, rfl⟩
  obtain ⟨n, rfl⟩ : ∃ n : Nat, r23 = n := ⟨r23.toNat, by omega⟩
  refine VO.val rfl rfl (OpV.move (.inr rfl) rfl) ?_
  refine VO.nil ?_
  show VC _ _ _ _ _
  refine VC.seq ?_
  refine VC.region ?_
  refine VO.val rfl rfl (OpV.move (.inl rfl) rfl) ?_
  refine VO.val rfl rfl (OpV.move (.inl rfl) rfl) ?_
  refine VO.op rfl (OpE.callT' (0 + 1) rfl rfl hB rfl Tryd.call7 rfl (aSetup_T (n := n) (by omega)) (by omega) ?_)
  rintro _ ⟨a, ha, rfl⟩
  refine VO.val rfl rfl (OpV.move (.inl rfl) rfl) ?_
  refine VO.val rfl rfl (OpV.move (.inl rfl) rfl) ?_
  refine VO.op rfl (OpE.callT' (0 + 1 + 30) rfl rfl hB rfl Tryd.call9 rfl (partLists_T (by omega) (by decide)) (by omega) ?_)
  rintro _ ⟨p0, hp0, rfl⟩
  refine VO.val rfl rfl (OpV.move (.inr rfl) rfl) ?_
  refine VO.val rfl rfl (OpV.move (.inr rfl) rfl) ?_
  refine VO.nil ?_
  show VC _ _ _ _ _
  refine VC.seq ?_
  refine VC.seq ?_
  refine VC.region ?_
  refine VO.val rfl rfl (OpV.move (.inl rfl) rfl) ?_
  refine VO.op rfl (OpE.callT' (0 + 1 + 30 + 100) rfl rfl hB rfl Tryd.call26 rfl (flip_T (by decide)) (by omega) ?_)
  rintro _ ⟨r31, rfl⟩
  refine VO.nil ?_
  show VC _ _ _ _ _
  refine VC.cond rfl (fun hzb => ?_) (fun hzb => ?_)
  · have hz := hzb
    try simp only [decide_eq_true_eq, decide_eq_false_iff_not, Bool.not_eq_true', Bool.not_eq_false', Int.not_lt, Int.not_le] at hz
    have has := ha.sms (by decide)
    have hal := ha.1
    refine VC.region ?_
    refine VO.op rfl (OpE.buildSlice (zc := #[.string ⟨#[]⟩]) rfl hB rfl Tryd.underlying27 Tryd.sizeOf9 Tryd.zeroValue9 (by decide) (by decide) (by kernel_rfl) rfl rfl ?_)
    refine VO.le _ (Le.recast (t := 32) (y := avStrs [⟨#[97]⟩]) rfl (fun w Z u h => Rep.strs (xs := [⟨#[97]⟩]) rfl h)) ?_
    refine VO.op rfl (OpE.buildSlice (zc := #[.slice none 0 0]) rfl hB rfl Tryd.underlying30 Tryd.sizeOf27 Tryd.zeroValue27 (by decide) (by decide) (by kernel_rfl) rfl rfl ?_)
    refine VO.le _ (Le.recast (t := 33) (y := avM [[(⟨#[97]⟩ : ByteArray)]]) rfl (fun w Z u h => Rep.listM (xs := [[(⟨#[97]⟩ : ByteArray)]]) rfl h)) ?_
    refine VO.op rfl (OpE.call rfl hB rfl Tryd.call27 rfl (slices_Repeat_M (x := [⟨#[97]⟩]) (n := 9) (by decide)) ?_)
    rintro _ rfl
    obtain ⟨p, hps, hpl, hpe⟩ : ∃ p : List (List ByteArray), SmSS p ∧ p.length ≤ 20 ∧ List.replicate 9 [(⟨#[97]⟩ : ByteArray)] = p := ⟨_, SmSS.rep, by simp, rfl⟩
    rw [hpe]
    refine VO.val rfl rfl (OpV.move (.inr rfl) rfl) ?_
    refine VO.nil ?_
    show VC _ _ _ _ _
    refine VC.seq ?_
    have hbl := bestL_len a p
    have hbr := bestRL_len a p
    have hnl := nearL_len a p
    refine VC.region ?_
    refine VO.val rfl rfl (OpV.move (.inl rfl) rfl) ?_
    refine VO.val rfl rfl (OpV.move (.inl rfl) rfl) ?_
    refine VO.op rfl (OpE.callH (hp := []) (rest := _) rfl hB rfl Tryd.call28 rfl rfl (setup_Best has hps) (List.Perm.refl _) (fun _ h => by obtain ⟨e, he, _⟩ := h; cases he) ?_)
    rintro _ _ ⟨u38, rfl, rfl⟩
    refine VO.val rfl rfl (OpV.move (.inl rfl) rfl) ?_
    first
      | refine VO.val rfl rfl (OpV.extract rfl rfl rfl) ?_
      | refine VO.val rfl rfl (OpV.extract_v rfl rfl rfl) ?_
    refine VO.le _ (Le.rowI (t := 39) (i := 0) hB hnew rfl rfl (by first | rfl | simp)) ?_
    first
      | refine VO.val rfl rfl (OpV.extract rfl rfl rfl) ?_
      | refine VO.val rfl rfl (OpV.extract_v rfl rfl rfl) ?_
    first
      | refine VO.val rfl rfl (OpV.extract rfl rfl rfl) ?_
      | refine VO.val rfl rfl (OpV.extract_v rfl rfl rfl) ?_
    refine VO.val rfl rfl (OpV.move (.inr rfl) rfl) ?_
    refine VO.val rfl rfl (OpV.move (.inr rfl) rfl) ?_
    refine VO.val rfl rfl (OpV.move (.inr rfl) rfl) ?_
    refine VO.nil ?_
    show VC _ _ _ _ _
    refine VC.seq ?_
    refine VC.region ?_
    refine VO.val rfl rfl (OpV.move (.inl rfl) rfl) ?_
    refine VO.val rfl rfl (OpV.move (.inl rfl) rfl) ?_
    refine VO.op rfl (OpE.callH (hp := []) (rest := _) rfl hB rfl Tryd.call29 rfl rfl (setup_Nearest has hps) (List.Perm.refl _) (fun _ h => by obtain ⟨e, he, _⟩ := h; cases he) ?_)
    rintro _ _ ⟨u45, rfl, rfl⟩
    refine VO.val rfl rfl (OpV.move (.inl rfl) rfl) ?_
    first
      | refine VO.val rfl rfl (OpV.extract rfl rfl rfl) ?_
      | refine VO.val rfl rfl (OpV.extract_v rfl rfl rfl) ?_
    refine VO.le _ (Le.rowI (t := 46) (i := 0) hB hnew rfl rfl (by first | rfl | simp)) ?_
    first
      | refine VO.val rfl rfl (OpV.extract rfl rfl rfl) ?_
      | refine VO.val rfl rfl (OpV.extract_v rfl rfl rfl) ?_
    first
      | refine VO.val rfl rfl (OpV.extract rfl rfl rfl) ?_
      | refine VO.val rfl rfl (OpV.extract_v rfl rfl rfl) ?_
    refine VO.val rfl rfl (OpV.move (.inr rfl) rfl) ?_
    refine VO.val rfl rfl (OpV.move (.inr rfl) rfl) ?_
    refine VO.val rfl rfl (OpV.move (.inr rfl) rfl) ?_
    refine VO.nil ?_
    show VC _ _ _ _ _
    refine VC.seq ?_
    refine VC.region ?_
    refine VO.val rfl rfl (OpV.move (.inl rfl) rfl) ?_
    refine VO.val rfl rfl (OpV.move (.inl rfl) rfl) ?_
    refine VO.op rfl (OpE.call rfl hB rfl Tryd.call30 rfl (SpecN.spec (rf_setsFault has hps)) ?_)
    rintro _ rfl
    refine VO.val rfl rfl (OpV.move (.inr rfl) rfl) ?_
    refine VO.nil ?_
    show VC _ _ _ _ _
    refine VC.seq ?_
    refine VC.region ?_
    refine VO.val rfl rfl (OpV.move (.inl rfl) rfl) ?_
    refine VO.val rfl rfl (OpV.move (.inr rfl) rfl) ?_
    refine VO.nil ?_
    show VC _ _ _ _ _
    refine VC.seq ?_
    refine VC.region ?_
    refine VO.val rfl rfl (OpV.move (.inr rfl) rfl) ?_
    first | refine VO.le _ (Le.recast (t := 15) (y := avInts []) rfl (fun w Z u h => by rw [h.eq_v]; exact .nil _ _)) ?_ | skip
    refine VO.val rfl rfl (OpV.move (.inr rfl) rfl) ?_
    first | refine VO.le _ (Le.recast (t := 16) (y := avInts []) rfl (fun w Z u h => by rw [h.eq_v]; exact .nil _ _)) ?_ | skip
    refine VO.nil ?_
    show VC _ _ _ _ _
    refine VC.seq ?_
    refine VC.region ?_
    refine VO.val rfl rfl (OpV.move (.inr rfl) rfl) ?_
    refine VO.val rfl rfl (OpV.move (.inr rfl) rfl) ?_
    refine VO.nil ?_
    show VC _ _ _ _ _
    refine VC.seq ?_
    refine VC.seq ?_
    refine VC.region ?_
    refine VO.val rfl rfl (OpV.move (.inl rfl) rfl) ?_
    refine VO.val rfl rfl (OpV.eql rfl rfl rfl) ?_
    refine VO.nil ?_
    show VC _ _ _ _ _
    refine VC.cond rfl (fun h1b => ?_) (fun h1b => ?_)
    · have h1 := h1b
      try simp only [decide_eq_true_eq, decide_eq_false_iff_not, Bool.not_eq_true', Bool.not_eq_false', Int.not_lt, Int.not_le] at h1
      have z2 := (setsF_zero h1).2.1
      have z3 := (setsF_zero h1).2.2.1
      have z4 := (setsF_zero h1).2.2.2.1
      have y1 := (best_all h1).1
      have y2 := (best_all h1).2.1
      have y3 := (best_all h1).2.2
      have y4 := (near_good h1).1
      have y5 := (near_good h1).2.1
      have y6 := (near_good h1).2.2
      refine VC.seq ?_
      refine VC.region ?_
      refine VO.val rfl rfl (OpV.move (.inl rfl) rfl) ?_
      refine VO.val rfl rfl (OpV.move (.inl rfl) rfl) ?_
      refine VO.op rfl (OpE.callH (hp := []) (rest := _) rfl hB rfl Tryd.call31 rfl rfl (rf_NearestOf z2 z4 hps z3) (List.Perm.refl _) (fun _ h => by obtain ⟨e, he, _⟩ := h; cases he) ?_)
      rintro _ _ ⟨u58, rfl, rfl⟩
      refine VO.val rfl rfl (OpV.move (.inl rfl) rfl) ?_
      first
        | refine VO.val rfl rfl (OpV.extract rfl rfl rfl) ?_
        | refine VO.val rfl rfl (OpV.extract_v rfl rfl rfl) ?_
      refine VO.le _ (Le.rowI (t := 59) (i := 0) hB hnew rfl rfl y6.symm) ?_
      first
        | refine VO.val rfl rfl (OpV.extract rfl rfl rfl) ?_
        | refine VO.val rfl rfl (OpV.extract_v rfl rfl rfl) ?_
      refine VO.val rfl rfl (OpV.move (.inr rfl) rfl) ?_
      first | refine VO.le _ (Le.recast (t := 16) (y := avInts []) rfl (fun w Z u h => by rw [h.eq_v]; exact .nil _ _)) ?_ | skip
      refine VO.val rfl rfl (OpV.move (.inr rfl) rfl) ?_
      refine VO.nil ?_
      show VC _ _ _ _ _
      refine VC.region ?_
      refine VO.val rfl rfl (OpV.move (.inl rfl) rfl) ?_
      refine VO.val rfl rfl (OpV.move (.inl rfl) rfl) ?_
      refine VO.op rfl (OpE.callH (hp := []) (rest := _) rfl hB rfl Tryd.call32 rfl rfl (rf_BestOf z2 z4 hps) (List.Perm.refl _) (fun _ h => by obtain ⟨e, he, _⟩ := h; cases he) ?_)
      rintro _ _ ⟨u64, rfl, rfl⟩
      refine VO.val rfl rfl (OpV.move (.inl rfl) rfl) ?_
      first
        | refine VO.val rfl rfl (OpV.extract rfl rfl rfl) ?_
        | refine VO.val rfl rfl (OpV.extract_v rfl rfl rfl) ?_
      refine VO.le _ (Le.rowI (t := 65) (i := 0) hB hnew rfl rfl (by first | rfl | simp)) ?_
      first
        | refine VO.val rfl rfl (OpV.extract rfl rfl rfl) ?_
        | refine VO.val rfl rfl (OpV.extract_v rfl rfl rfl) ?_
      first
        | refine VO.val rfl rfl (OpV.extract rfl rfl rfl) ?_
        | refine VO.val rfl rfl (OpV.extract_v rfl rfl rfl) ?_
      refine VO.val rfl rfl (OpV.move (.inr rfl) rfl) ?_
      first | refine VO.le _ (Le.recast (t := 15) (y := avInts []) rfl (fun w Z u h => by rw [h.eq_v]; exact .nil _ _)) ?_ | skip
      refine VO.val rfl rfl (OpV.move (.inr rfl) rfl) ?_
      refine VO.val rfl rfl (OpV.move (.inr rfl) rfl) ?_
      refine VO.nil ?_
      show VC _ _ _ _ _
      refine VC.seq ?_
      refine VC.region ?_
      refine VO.val rfl rfl (OpV.move (.inl rfl) rfl) ?_
      refine VO.val rfl rfl (OpV.move (.inl rfl) rfl) ?_
      refine VO.val rfl rfl (OpV.eql rfl rfl rfl) ?_
      refine VO.le _ (Le.boolT (t := 70) rfl (decide_eq_true y1)) ?_
      refine VO.val rfl rfl (OpV.move (.inl rfl) rfl) ?_
      refine VO.opY rfl rfl rfl rfl rfl ?_
      refine OpE.val (W := NoB) (OpV.move (.inl rfl) rfl) rfl ?_
      refine VO.opY rfl rfl rfl rfl rfl ?_
      refine OpE.val (W := NoB) (OpV.move (.inl rfl) rfl) rfl ?_
      refine VO.opY rfl rfl rfl rfl rfl ?_
      refine OpE.call rfl hB rfl Tryd.call33 rfl (SpecN.spec (slices_Equal_ints (by omega) (by first | omega | decide))) ?_
      rintro _ rfl
      refine VO.le _ (Le.boolT (t := 74) rfl (by rw [y2]; first | exact eqLs_self iEq_refl _ | rfl)) ?_
      refine VO.val rfl rfl (OpV.pickT rfl rfl rfl rfl rfl) ?_
      refine VO.val rfl rfl (OpV.move (.inl rfl) rfl) ?_
      refine VO.opY rfl rfl rfl rfl rfl ?_
      refine OpE.val (W := NoB) (OpV.move (.inl rfl) rfl) rfl ?_
      refine VO.opY rfl rfl rfl rfl rfl ?_
      refine OpE.val (W := NoB) (OpV.move (.inl rfl) rfl) rfl ?_
      refine VO.opY rfl rfl rfl rfl rfl ?_
      refine OpE.val (W := NoB) (OpV.eql rfl rfl rfl) rfl ?_
      refine VO.le _ (Le.boolT (t := 79) rfl (decide_eq_true y3)) ?_
      refine VO.val rfl rfl (OpV.pickT rfl rfl rfl rfl rfl) ?_
      refine VO.val rfl rfl (OpV.move (.inl rfl) rfl) ?_
      refine VO.opY rfl rfl rfl rfl rfl ?_
      refine OpE.val (W := NoB) (OpV.move (.inl rfl) rfl) rfl ?_
      refine VO.opY rfl rfl rfl rfl rfl ?_
      refine OpE.val (W := NoB) (OpV.move (.inl rfl) rfl) rfl ?_
      refine VO.opY rfl rfl rfl rfl rfl ?_
      refine OpE.val (W := NoB) (OpV.eql rfl rfl rfl) rfl ?_
      refine VO.le _ (Le.boolT (t := 84) rfl (decide_eq_true rfl)) ?_
      refine VO.val rfl rfl (OpV.pickT rfl rfl rfl rfl rfl) ?_
      refine VO.val rfl rfl (OpV.move (.inl rfl) rfl) ?_
      refine VO.opY rfl rfl rfl rfl rfl ?_
      refine OpE.val (W := NoB) (OpV.move (.inl rfl) rfl) rfl ?_
      refine VO.opY rfl rfl rfl rfl rfl ?_
      refine OpE.val (W := NoB) (OpV.move (.inl rfl) rfl) rfl ?_
      refine VO.opY rfl rfl rfl rfl rfl ?_
      refine OpE.call rfl hB rfl Tryd.call33 rfl (SpecN.spec (slices_Equal_ints (by omega) (by first | omega | decide))) ?_
      rintro _ rfl
      refine VO.le _ (Le.boolT (t := 89) rfl (by rw [y4]; first | exact eqLs_self iEq_refl _ | rfl)) ?_
      refine VO.val rfl rfl (OpV.pickT rfl rfl rfl rfl rfl) ?_
      refine VO.val rfl rfl (OpV.move (.inl rfl) rfl) ?_
      refine VO.opY rfl rfl rfl rfl rfl ?_
      refine OpE.val (W := NoB) (OpV.move (.inl rfl) rfl) rfl ?_
      refine VO.opY rfl rfl rfl rfl rfl ?_
      refine OpE.val (W := NoB) (OpV.move (.inl rfl) rfl) rfl ?_
      refine VO.opY rfl rfl rfl rfl rfl ?_
      refine OpE.val (W := NoB) (OpV.eql rfl rfl rfl) rfl ?_
      refine VO.le _ (Le.boolT (t := 94) rfl (decide_eq_true y5)) ?_
      refine VO.val rfl rfl (OpV.pickT rfl rfl rfl rfl rfl) ?_
      refine VO.val rfl rfl (OpV.move (.inl rfl) rfl) ?_
      refine VO.opY rfl rfl rfl rfl rfl ?_
      refine OpE.call rfl hB rfl Tryd.call25 rfl (SpecN.spec (rf_loaded)) ?_
      rintro _ rfl
      refine VO.le _ (Le.boolT (t := 97) rfl rfl) ?_
      refine VO.val rfl rfl (OpV.pickT rfl rfl rfl rfl rfl) ?_
      refine VO.val rfl rfl (OpV.move (.inr rfl) rfl) ?_
      refine VO.nil ?_
      show VC _ _ _ _ _
      refine VC.ret ?_
      exact And.intro rfl rfl
    · have h1 := h1b
      try simp only [decide_eq_true_eq, decide_eq_false_iff_not, Bool.not_eq_true', Bool.not_eq_false', Int.not_lt, Int.not_le] at h1
      have y1 := (best_bad h1).1
      have y2 := (best_bad h1).2.1
      have y3 := (best_bad h1).2.2.1
      have y4 := (best_bad h1).2.2.2.1
      have y5 := (best_bad h1).2.2.2.2
      refine VC.skip ?_
      show VC _ _ _ _ _
      refine VC.seq ?_
      refine VC.region ?_
      refine VO.val rfl rfl (OpV.move (.inl rfl) rfl) ?_
      refine VO.val rfl rfl (OpV.move (.inl rfl) rfl) ?_
      refine VO.val rfl rfl (OpV.eql rfl rfl rfl) ?_
      refine VO.le _ (Le.boolT (t := 70) rfl (decide_eq_true y1)) ?_
      refine VO.val rfl rfl (OpV.move (.inl rfl) rfl) ?_
      refine VO.opY rfl rfl rfl rfl rfl ?_
      refine OpE.val (W := NoB) (OpV.move (.inl rfl) rfl) rfl ?_
      refine VO.opY rfl rfl rfl rfl rfl ?_
      refine OpE.val (W := NoB) (OpV.move (.inl rfl) rfl) rfl ?_
      refine VO.opY rfl rfl rfl rfl rfl ?_
      refine OpE.call rfl hB rfl Tryd.call33 rfl (SpecN.spec (slices_Equal_ints (by omega) (by first | omega | decide))) ?_
      rintro _ rfl
      refine VO.le _ (Le.boolT (t := 74) rfl (by rw [y2]; first | exact eqLs_self iEq_refl _ | rfl)) ?_
      refine VO.val rfl rfl (OpV.pickT rfl rfl rfl rfl rfl) ?_
      refine VO.val rfl rfl (OpV.move (.inl rfl) rfl) ?_
      refine VO.opY rfl rfl rfl rfl rfl ?_
      refine OpE.val (W := NoB) (OpV.move (.inl rfl) rfl) rfl ?_
      refine VO.opY rfl rfl rfl rfl rfl ?_
      refine OpE.val (W := NoB) (OpV.move (.inl rfl) rfl) rfl ?_
      refine VO.opY rfl rfl rfl rfl rfl ?_
      refine OpE.val (W := NoB) (OpV.eql rfl rfl rfl) rfl ?_
      refine VO.le _ (Le.boolT (t := 79) rfl (decide_eq_true y3)) ?_
      refine VO.val rfl rfl (OpV.pickT rfl rfl rfl rfl rfl) ?_
      refine VO.val rfl rfl (OpV.move (.inl rfl) rfl) ?_
      refine VO.opY rfl rfl rfl rfl rfl ?_
      refine OpE.val (W := NoB) (OpV.move (.inl rfl) rfl) rfl ?_
      refine VO.opY rfl rfl rfl rfl rfl ?_
      refine OpE.val (W := NoB) (OpV.move (.inl rfl) rfl) rfl ?_
      refine VO.opY rfl rfl rfl rfl rfl ?_
      refine OpE.val (W := NoB) (OpV.eql rfl rfl rfl) rfl ?_
      refine VO.le _ (Le.boolT (t := 84) rfl (decide_eq_true rfl)) ?_
      refine VO.val rfl rfl (OpV.pickT rfl rfl rfl rfl rfl) ?_
      refine VO.val rfl rfl (OpV.move (.inl rfl) rfl) ?_
      refine VO.opY rfl rfl rfl rfl rfl ?_
      refine OpE.val (W := NoB) (OpV.move (.inl rfl) rfl) rfl ?_
      refine VO.opY rfl rfl rfl rfl rfl ?_
      refine OpE.val (W := NoB) (OpV.move (.inl rfl) rfl) rfl ?_
      refine VO.opY rfl rfl rfl rfl rfl ?_
      refine OpE.call rfl hB rfl Tryd.call33 rfl (SpecN.spec (slices_Equal_ints (by omega) (by first | omega | decide))) ?_
      rintro _ rfl
      refine VO.le _ (Le.boolT (t := 89) rfl (by rw [y4]; first | exact eqLs_self iEq_refl _ | rfl)) ?_
      refine VO.val rfl rfl (OpV.pickT rfl rfl rfl rfl rfl) ?_
      refine VO.val rfl rfl (OpV.move (.inl rfl) rfl) ?_
      refine VO.opY rfl rfl rfl rfl rfl ?_
      refine OpE.val (W := NoB) (OpV.move (.inl rfl) rfl) rfl ?_
      refine VO.opY rfl rfl rfl rfl rfl ?_
      refine OpE.val (W := NoB) (OpV.move (.inl rfl) rfl) rfl ?_
      refine VO.opY rfl rfl rfl rfl rfl ?_
      refine OpE.val (W := NoB) (OpV.eql rfl rfl rfl) rfl ?_
      refine VO.le _ (Le.boolT (t := 94) rfl (decide_eq_true y5)) ?_
      refine VO.val rfl rfl (OpV.pickT rfl rfl rfl rfl rfl) ?_
      refine VO.val rfl rfl (OpV.move (.inl rfl) rfl) ?_
      refine VO.opY rfl rfl rfl rfl rfl ?_
      refine OpE.call rfl hB rfl Tryd.call25 rfl (SpecN.spec (rf_loaded)) ?_
      rintro _ rfl
      refine VO.le _ (Le.boolT (t := 97) rfl rfl) ?_
      refine VO.val rfl rfl (OpV.pickT rfl rfl rfl rfl rfl) ?_
      refine VO.val rfl rfl (OpV.move (.inr rfl) rfl) ?_
      refine VO.nil ?_
      show VC _ _ _ _ _
      refine VC.ret ?_
      exact And.intro rfl rfl
  · have hz := hzb
    try simp only [decide_eq_true_eq, decide_eq_false_iff_not, Bool.not_eq_true', Bool.not_eq_false', Int.not_lt, Int.not_le] at hz
    have has := ha.sms (by decide)
    have hal := ha.1
    obtain ⟨p, hps, hpl, hpe⟩ : ∃ p : List (List ByteArray), SmSS p ∧ p.length ≤ 20 ∧ p = p0 := ⟨_, hp0.smss, hp0.1, rfl⟩
    subst hpe
    refine VC.skip ?_
    show VC _ _ _ _ _
    refine VC.seq ?_
    have hbl := bestL_len a p
    have hbr := bestRL_len a p
    have hnl := nearL_len a p
    refine VC.region ?_
    refine VO.val rfl rfl (OpV.move (.inl rfl) rfl) ?_
    refine VO.val rfl rfl (OpV.move (.inl rfl) rfl) ?_
    refine VO.op rfl (OpE.callH (hp := []) (rest := _) rfl hB rfl Tryd.call28 rfl rfl (setup_Best has hps) (List.Perm.refl _) (fun _ h => by obtain ⟨e, he, _⟩ := h; cases he) ?_)
    rintro _ _ ⟨u38, rfl, rfl⟩
    refine VO.val rfl rfl (OpV.move (.inl rfl) rfl) ?_
    first
      | refine VO.val rfl rfl (OpV.extract rfl rfl rfl) ?_
      | refine VO.val rfl rfl (OpV.extract_v rfl rfl rfl) ?_
    refine VO.le _ (Le.rowI (t := 39) (i := 0) hB hnew rfl rfl (by first | rfl | simp)) ?_
    first
      | refine VO.val rfl rfl (OpV.extract rfl rfl rfl) ?_
      | refine VO.val rfl rfl (OpV.extract_v rfl rfl rfl) ?_
    first
      | refine VO.val rfl rfl (OpV.extract rfl rfl rfl) ?_
      | refine VO.val rfl rfl (OpV.extract_v rfl rfl rfl) ?_
    refine VO.val rfl rfl (OpV.move (.inr rfl) rfl) ?_
    refine VO.val rfl rfl (OpV.move (.inr rfl) rfl) ?_
    refine VO.val rfl rfl (OpV.move (.inr rfl) rfl) ?_
    refine VO.nil ?_
    show VC _ _ _ _ _
    refine VC.seq ?_
    refine VC.region ?_
    refine VO.val rfl rfl (OpV.move (.inl rfl) rfl) ?_
    refine VO.val rfl rfl (OpV.move (.inl rfl) rfl) ?_
    refine VO.op rfl (OpE.callH (hp := []) (rest := _) rfl hB rfl Tryd.call29 rfl rfl (setup_Nearest has hps) (List.Perm.refl _) (fun _ h => by obtain ⟨e, he, _⟩ := h; cases he) ?_)
    rintro _ _ ⟨u45, rfl, rfl⟩
    refine VO.val rfl rfl (OpV.move (.inl rfl) rfl) ?_
    first
      | refine VO.val rfl rfl (OpV.extract rfl rfl rfl) ?_
      | refine VO.val rfl rfl (OpV.extract_v rfl rfl rfl) ?_
    refine VO.le _ (Le.rowI (t := 46) (i := 0) hB hnew rfl rfl (by first | rfl | simp)) ?_
    first
      | refine VO.val rfl rfl (OpV.extract rfl rfl rfl) ?_
      | refine VO.val rfl rfl (OpV.extract_v rfl rfl rfl) ?_
    first
      | refine VO.val rfl rfl (OpV.extract rfl rfl rfl) ?_
      | refine VO.val rfl rfl (OpV.extract_v rfl rfl rfl) ?_
    refine VO.val rfl rfl (OpV.move (.inr rfl) rfl) ?_
    refine VO.val rfl rfl (OpV.move (.inr rfl) rfl) ?_
    refine VO.val rfl rfl (OpV.move (.inr rfl) rfl) ?_
    refine VO.nil ?_
    show VC _ _ _ _ _
    refine VC.seq ?_
    refine VC.region ?_
    refine VO.val rfl rfl (OpV.move (.inl rfl) rfl) ?_
    refine VO.val rfl rfl (OpV.move (.inl rfl) rfl) ?_
    refine VO.op rfl (OpE.call rfl hB rfl Tryd.call30 rfl (SpecN.spec (rf_setsFault has hps)) ?_)
    rintro _ rfl
    refine VO.val rfl rfl (OpV.move (.inr rfl) rfl) ?_
    refine VO.nil ?_
    show VC _ _ _ _ _
    refine VC.seq ?_
    refine VC.region ?_
    refine VO.val rfl rfl (OpV.move (.inl rfl) rfl) ?_
    refine VO.val rfl rfl (OpV.move (.inr rfl) rfl) ?_
    refine VO.nil ?_
    show VC _ _ _ _ _
    refine VC.seq ?_
    refine VC.region ?_
    refine VO.val rfl rfl (OpV.move (.inr rfl) rfl) ?_
    first | refine VO.le _ (Le.recast (t := 15) (y := avInts []) rfl (fun w Z u h => by rw [h.eq_v]; exact .nil _ _)) ?_ | skip
    refine VO.val rfl rfl (OpV.move (.inr rfl) rfl) ?_
    first | refine VO.le _ (Le.recast (t := 16) (y := avInts []) rfl (fun w Z u h => by rw [h.eq_v]; exact .nil _ _)) ?_ | skip
    refine VO.nil ?_
    show VC _ _ _ _ _
    refine VC.seq ?_
    refine VC.region ?_
    refine VO.val rfl rfl (OpV.move (.inr rfl) rfl) ?_
    refine VO.val rfl rfl (OpV.move (.inr rfl) rfl) ?_
    refine VO.nil ?_
    show VC _ _ _ _ _
    refine VC.seq ?_
    refine VC.seq ?_
    refine VC.region ?_
    refine VO.val rfl rfl (OpV.move (.inl rfl) rfl) ?_
    refine VO.val rfl rfl (OpV.eql rfl rfl rfl) ?_
    refine VO.nil ?_
    show VC _ _ _ _ _
    refine VC.cond rfl (fun h1b => ?_) (fun h1b => ?_)
    · have h1 := h1b
      try simp only [decide_eq_true_eq, decide_eq_false_iff_not, Bool.not_eq_true', Bool.not_eq_false', Int.not_lt, Int.not_le] at h1
      have z2 := (setsF_zero h1).2.1
      have z3 := (setsF_zero h1).2.2.1
      have z4 := (setsF_zero h1).2.2.2.1
      have y1 := (best_all h1).1
      have y2 := (best_all h1).2.1
      have y3 := (best_all h1).2.2
      have y4 := (near_good h1).1
      have y5 := (near_good h1).2.1
      have y6 := (near_good h1).2.2
      refine VC.seq ?_
      refine VC.region ?_
      refine VO.val rfl rfl (OpV.move (.inl rfl) rfl) ?_
      refine VO.val rfl rfl (OpV.move (.inl rfl) rfl) ?_
      refine VO.op rfl (OpE.callH (hp := []) (rest := _) rfl hB rfl Tryd.call31 rfl rfl (rf_NearestOf z2 z4 hps z3) (List.Perm.refl _) (fun _ h => by obtain ⟨e, he, _⟩ := h; cases he) ?_)
      rintro _ _ ⟨u58, rfl, rfl⟩
      refine VO.val rfl rfl (OpV.move (.inl rfl) rfl) ?_
      first
        | refine VO.val rfl rfl (OpV.extract rfl rfl rfl) ?_
        | refine VO.val rfl rfl (OpV.extract_v rfl rfl rfl) ?_
      refine VO.le _ (Le.rowI (t := 59) (i := 0) hB hnew rfl rfl y6.symm) ?_
      first
        | refine VO.val rfl rfl (OpV.extract rfl rfl rfl) ?_
        | refine VO.val rfl rfl (OpV.extract_v rfl rfl rfl) ?_
      refine VO.val rfl rfl (OpV.move (.inr rfl) rfl) ?_
      first | refine VO.le _ (Le.recast (t := 16) (y := avInts []) rfl (fun w Z u h => by rw [h.eq_v]; exact .nil _ _)) ?_ | skip
      refine VO.val rfl rfl (OpV.move (.inr rfl) rfl) ?_
      refine VO.nil ?_
      show VC _ _ _ _ _
      refine VC.region ?_
      refine VO.val rfl rfl (OpV.move (.inl rfl) rfl) ?_
      refine VO.val rfl rfl (OpV.move (.inl rfl) rfl) ?_
      refine VO.op rfl (OpE.callH (hp := []) (rest := _) rfl hB rfl Tryd.call32 rfl rfl (rf_BestOf z2 z4 hps) (List.Perm.refl _) (fun _ h => by obtain ⟨e, he, _⟩ := h; cases he) ?_)
      rintro _ _ ⟨u64, rfl, rfl⟩
      refine VO.val rfl rfl (OpV.move (.inl rfl) rfl) ?_
      first
        | refine VO.val rfl rfl (OpV.extract rfl rfl rfl) ?_
        | refine VO.val rfl rfl (OpV.extract_v rfl rfl rfl) ?_
      refine VO.le _ (Le.rowI (t := 65) (i := 0) hB hnew rfl rfl (by first | rfl | simp)) ?_
      first
        | refine VO.val rfl rfl (OpV.extract rfl rfl rfl) ?_
        | refine VO.val rfl rfl (OpV.extract_v rfl rfl rfl) ?_
      first
        | refine VO.val rfl rfl (OpV.extract rfl rfl rfl) ?_
        | refine VO.val rfl rfl (OpV.extract_v rfl rfl rfl) ?_
      refine VO.val rfl rfl (OpV.move (.inr rfl) rfl) ?_
      first | refine VO.le _ (Le.recast (t := 15) (y := avInts []) rfl (fun w Z u h => by rw [h.eq_v]; exact .nil _ _)) ?_ | skip
      refine VO.val rfl rfl (OpV.move (.inr rfl) rfl) ?_
      refine VO.val rfl rfl (OpV.move (.inr rfl) rfl) ?_
      refine VO.nil ?_
      show VC _ _ _ _ _
      refine VC.seq ?_
      refine VC.region ?_
      refine VO.val rfl rfl (OpV.move (.inl rfl) rfl) ?_
      refine VO.val rfl rfl (OpV.move (.inl rfl) rfl) ?_
      refine VO.val rfl rfl (OpV.eql rfl rfl rfl) ?_
      refine VO.le _ (Le.boolT (t := 70) rfl (decide_eq_true y1)) ?_
      refine VO.val rfl rfl (OpV.move (.inl rfl) rfl) ?_
      refine VO.opY rfl rfl rfl rfl rfl ?_
      refine OpE.val (W := NoB) (OpV.move (.inl rfl) rfl) rfl ?_
      refine VO.opY rfl rfl rfl rfl rfl ?_
      refine OpE.val (W := NoB) (OpV.move (.inl rfl) rfl) rfl ?_
      refine VO.opY rfl rfl rfl rfl rfl ?_
      refine OpE.call rfl hB rfl Tryd.call33 rfl (SpecN.spec (slices_Equal_ints (by omega) (by first | omega | decide))) ?_
      rintro _ rfl
      refine VO.le _ (Le.boolT (t := 74) rfl (by rw [y2]; first | exact eqLs_self iEq_refl _ | rfl)) ?_
      refine VO.val rfl rfl (OpV.pickT rfl rfl rfl rfl rfl) ?_
      refine VO.val rfl rfl (OpV.move (.inl rfl) rfl) ?_
      refine VO.opY rfl rfl rfl rfl rfl ?_
      refine OpE.val (W := NoB) (OpV.move (.inl rfl) rfl) rfl ?_
      refine VO.opY rfl rfl rfl rfl rfl ?_
      refine OpE.val (W := NoB) (OpV.move (.inl rfl) rfl) rfl ?_
      refine VO.opY rfl rfl rfl rfl rfl ?_
      refine OpE.val (W := NoB) (OpV.eql rfl rfl rfl) rfl ?_
      refine VO.le _ (Le.boolT (t := 79) rfl (decide_eq_true y3)) ?_
      refine VO.val rfl rfl (OpV.pickT rfl rfl rfl rfl rfl) ?_
      refine VO.val rfl rfl (OpV.move (.inl rfl) rfl) ?_
      refine VO.opY rfl rfl rfl rfl rfl ?_
      refine OpE.val (W := NoB) (OpV.move (.inl rfl) rfl) rfl ?_
      refine VO.opY rfl rfl rfl rfl rfl ?_
      refine OpE.val (W := NoB) (OpV.move (.inl rfl) rfl) rfl ?_
      refine VO.opY rfl rfl rfl rfl rfl ?_
      refine OpE.val (W := NoB) (OpV.eql rfl rfl rfl) rfl ?_
      refine VO.le _ (Le.boolT (t := 84) rfl (decide_eq_true rfl)) ?_
      refine VO.val rfl rfl (OpV.pickT rfl rfl rfl rfl rfl) ?_
      refine VO.val rfl rfl (OpV.move (.inl rfl) rfl) ?_
      refine VO.opY rfl rfl rfl rfl rfl ?_
      refine OpE.val (W := NoB) (OpV.move (.inl rfl) rfl) rfl ?_
      refine VO.opY rfl rfl rfl rfl rfl ?_
      refine OpE.val (W := NoB) (OpV.move (.inl rfl) rfl) rfl ?_
      refine VO.opY rfl rfl rfl rfl rfl ?_
      refine OpE.call rfl hB rfl Tryd.call33 rfl (SpecN.spec (slices_Equal_ints (by omega) (by first | omega | decide))) ?_
      rintro _ rfl
      refine VO.le _ (Le.boolT (t := 89) rfl (by rw [y4]; first | exact eqLs_self iEq_refl _ | rfl)) ?_
      refine VO.val rfl rfl (OpV.pickT rfl rfl rfl rfl rfl) ?_
      refine VO.val rfl rfl (OpV.move (.inl rfl) rfl) ?_
      refine VO.opY rfl rfl rfl rfl rfl ?_
      refine OpE.val (W := NoB) (OpV.move (.inl rfl) rfl) rfl ?_
      refine VO.opY rfl rfl rfl rfl rfl ?_
      refine OpE.val (W := NoB) (OpV.move (.inl rfl) rfl) rfl ?_
      refine VO.opY rfl rfl rfl rfl rfl ?_
      refine OpE.val (W := NoB) (OpV.eql rfl rfl rfl) rfl ?_
      refine VO.le _ (Le.boolT (t := 94) rfl (decide_eq_true y5)) ?_
      refine VO.val rfl rfl (OpV.pickT rfl rfl rfl rfl rfl) ?_
      refine VO.val rfl rfl (OpV.move (.inl rfl) rfl) ?_
      refine VO.opY rfl rfl rfl rfl rfl ?_
      refine OpE.call rfl hB rfl Tryd.call25 rfl (SpecN.spec (rf_loaded)) ?_
      rintro _ rfl
      refine VO.le _ (Le.boolT (t := 97) rfl rfl) ?_
      refine VO.val rfl rfl (OpV.pickT rfl rfl rfl rfl rfl) ?_
      refine VO.val rfl rfl (OpV.move (.inr rfl) rfl) ?_
      refine VO.nil ?_
      show VC _ _ _ _ _
      refine VC.ret ?_
      exact And.intro rfl rfl
    · have h1 := h1b
      try simp only [decide_eq_true_eq, decide_eq_false_iff_not, Bool.not_eq_true', Bool.not_eq_false', Int.not_lt, Int.not_le] at h1
      have y1 := (best_bad h1).1
      have y2 := (best_bad h1).2.1
      have y3 := (best_bad h1).2.2.1
      have y4 := (best_bad h1).2.2.2.1
      have y5 := (best_bad h1).2.2.2.2
      refine VC.skip ?_
      show VC _ _ _ _ _
      refine VC.seq ?_
      refine VC.region ?_
      refine VO.val rfl rfl (OpV.move (.inl rfl) rfl) ?_
      refine VO.val rfl rfl (OpV.move (.inl rfl) rfl) ?_
      refine VO.val rfl rfl (OpV.eql rfl rfl rfl) ?_
      refine VO.le _ (Le.boolT (t := 70) rfl (decide_eq_true y1)) ?_
      refine VO.val rfl rfl (OpV.move (.inl rfl) rfl) ?_
      refine VO.opY rfl rfl rfl rfl rfl ?_
      refine OpE.val (W := NoB) (OpV.move (.inl rfl) rfl) rfl ?_
      refine VO.opY rfl rfl rfl rfl rfl ?_
      refine OpE.val (W := NoB) (OpV.move (.inl rfl) rfl) rfl ?_
      refine VO.opY rfl rfl rfl rfl rfl ?_
      refine OpE.call rfl hB rfl Tryd.call33 rfl (SpecN.spec (slices_Equal_ints (by omega) (by first | omega | decide))) ?_
      rintro _ rfl
      refine VO.le _ (Le.boolT (t := 74) rfl (by rw [y2]; first | exact eqLs_self iEq_refl _ | rfl)) ?_
      refine VO.val rfl rfl (OpV.pickT rfl rfl rfl rfl rfl) ?_
      refine VO.val rfl rfl (OpV.move (.inl rfl) rfl) ?_
      refine VO.opY rfl rfl rfl rfl rfl ?_
      refine OpE.val (W := NoB) (OpV.move (.inl rfl) rfl) rfl ?_
      refine VO.opY rfl rfl rfl rfl rfl ?_
      refine OpE.val (W := NoB) (OpV.move (.inl rfl) rfl) rfl ?_
      refine VO.opY rfl rfl rfl rfl rfl ?_
      refine OpE.val (W := NoB) (OpV.eql rfl rfl rfl) rfl ?_
      refine VO.le _ (Le.boolT (t := 79) rfl (decide_eq_true y3)) ?_
      refine VO.val rfl rfl (OpV.pickT rfl rfl rfl rfl rfl) ?_
      refine VO.val rfl rfl (OpV.move (.inl rfl) rfl) ?_
      refine VO.opY rfl rfl rfl rfl rfl ?_
      refine OpE.val (W := NoB) (OpV.move (.inl rfl) rfl) rfl ?_
      refine VO.opY rfl rfl rfl rfl rfl ?_
      refine OpE.val (W := NoB) (OpV.move (.inl rfl) rfl) rfl ?_
      refine VO.opY rfl rfl rfl rfl rfl ?_
      refine OpE.val (W := NoB) (OpV.eql rfl rfl rfl) rfl ?_
      refine VO.le _ (Le.boolT (t := 84) rfl (decide_eq_true rfl)) ?_
      refine VO.val rfl rfl (OpV.pickT rfl rfl rfl rfl rfl) ?_
      refine VO.val rfl rfl (OpV.move (.inl rfl) rfl) ?_
      refine VO.opY rfl rfl rfl rfl rfl ?_
      refine OpE.val (W := NoB) (OpV.move (.inl rfl) rfl) rfl ?_
      refine VO.opY rfl rfl rfl rfl rfl ?_
      refine OpE.val (W := NoB) (OpV.move (.inl rfl) rfl) rfl ?_
      refine VO.opY rfl rfl rfl rfl rfl ?_
      refine OpE.call rfl hB rfl Tryd.call33 rfl (SpecN.spec (slices_Equal_ints (by omega) (by first | omega | decide))) ?_
      rintro _ rfl
      refine VO.le _ (Le.boolT (t := 89) rfl (by rw [y4]; first | exact eqLs_self iEq_refl _ | rfl)) ?_
      refine VO.val rfl rfl (OpV.pickT rfl rfl rfl rfl rfl) ?_
      refine VO.val rfl rfl (OpV.move (.inl rfl) rfl) ?_
      refine VO.opY rfl rfl rfl rfl rfl ?_
      refine OpE.val (W := NoB) (OpV.move (.inl rfl) rfl) rfl ?_
      refine VO.opY rfl rfl rfl rfl rfl ?_
      refine OpE.val (W := NoB) (OpV.move (.inl rfl) rfl) rfl ?_
      refine VO.opY rfl rfl rfl rfl rfl ?_
      refine OpE.val (W := NoB) (OpV.eql rfl rfl rfl) rfl ?_
      refine VO.le _ (Le.boolT (t := 94) rfl (decide_eq_true y5)) ?_
      refine VO.val rfl rfl (OpV.pickT rfl rfl rfl rfl rfl) ?_
      refine VO.val rfl rfl (OpV.move (.inl rfl) rfl) ?_
      refine VO.opY rfl rfl rfl rfl rfl ?_
      refine OpE.call rfl hB rfl Tryd.call25 rfl (SpecN.spec (rf_loaded)) ?_
      rintro _ rfl
      refine VO.le _ (Le.boolT (t := 97) rfl rfl) ?_
      refine VO.val rfl rfl (OpV.pickT rfl rfl rfl rfl rfl) ?_
      refine VO.val rfl rfl (OpV.move (.inr rfl) rfl) ?_
      refine VO.nil ?_
      show VC _ _ _ _ _
      refine VC.ret ?_
      exact And.intro rfl rfl
end Go.Proofs.YtpajnlcikmhpdaaDoor
