/- Walks: changes and loads, lists held against each other, the small law 'loaded'. -/
import Derived.Test.YtpajnlcikmhpdaaDoorNextS2
import Derived.Test.YtpajnlcikmhpdaaDoorErrs
namespace Go.Proofs.YtpajnlcikmhpdaaDoor
open Go.RowKit
set_option linter.unusedVariables false
set_option linter.unusedSimpArgs false
theorem two_sms {a b : List ByteArray} (ha : SmS a) (hb : SmS b) (q : Nat) : SmS ([a, b].getD q default) := by
  match q with
  | 0 => exact ha
  | 1 => exact hb
  | q + 2 => exact SmS.nil
set_option maxRecDepth 100000 in
theorem setup_Changes {a b : List ByteArray} (ha : SmS a) (hb : SmS b) :
    SpecH Tryd.prog 12 [avStrs a, avStrs b] [] (fun y hp' => ∃ u, y = .tup [.v u, avI (changesE a b)] ∧ hp' = [.row u ((changesF a b).length) (3) (rowL (changesF a b)) (51)]) := by
  have hl2 : [a, b].length = 2 := rfl
  refine SpecH.of_VC Tryd.func12 rfl Tryd.ntmps12 (Nat.le_of_ble_eq_true rfl) fun w A hB => ?_
  have hnew : True := trivial
  refine VC.seq ?_
  refine VC.region ?_
  refine VO.val rfl rfl (OpV.move (.inr rfl) rfl) ?_
  refine VO.val rfl rfl (OpV.move (.inr rfl) rfl) ?_
  refine VO.nil ?_
  show VC _ _ _ _ _
  refine VC.seq ?_
  refine VC.seq ?_
  refine VC.region ?_
  refine VO.val rfl rfl (OpV.move (.inl rfl) rfl) ?_
  refine VO.val rfl rfl (OpV.move (.inl rfl) rfl) ?_
  refine VO.op rfl (OpE.buildSlice (zc := #[.slice none 0 0, .slice none 0 0]) rfl hB rfl Tryd.underlying30 Tryd.sizeOf27 Tryd.zeroValue27 (by decide) (by decide) (by kernel_rfl) rfl rfl ?_)
  refine VO.le _ (Le.recast (t := 13) (y := avM [a, b]) rfl (fun w Z u h => Rep.listM (xs := [a, b]) rfl h)) ?_
  first
    | refine VO.val rfl rfl (OpV.len_im rfl Tryd.underlying30 rfl) ?_
    | refine VO.val rfl rfl (OpV.len_v rfl Tryd.underlying30 rfl) ?_
  refine VO.val rfl rfl (OpV.move (.inl rfl) rfl) ?_
  refine VO.nil ?_
  show VC _ _ _ _ _
  refine VC.block ?_
  refine VC.loopK [(0, _), (1, _), (13, _), (14, _)] ⟨rfl, rfl, rfl, rfl, trivial⟩ ({q : Nat // q ≤ [a, b].length ∧ ∀ j, j < q → setupF ([a, b].getD j default) = 0}) (fun (i : {q : Nat // q ≤ [a, b].length ∧ ∀ j, j < q → setupF ([a, b].getD j default) = 0}) => match i with | ⟨q, hq, hn⟩ => [(15, avI (q : Int))]) (fun (i : {q : Nat // q ≤ [a, b].length ∧ ∀ j, j < q → setupF ([a, b].getD j default) = 0}) => match i with | ⟨q, hq, hn⟩ => []) (fun (i : {q : Nat // q ≤ [a, b].length ∧ ∀ j, j < q → setupF ([a, b].getD j default) = 0}) => match i with | ⟨q, hq, hn⟩ => 0) (fun (i : {q : Nat // q ≤ [a, b].length ∧ ∀ j, j < q → setupF ([a, b].getD j default) = 0}) => match i with | ⟨q, hq, hn⟩ => [a, b].length - q) ⟨0, Nat.zero_le _, fun j hj => absurd hj (Nat.not_lt_zero j)⟩ (Le.mk hB [] ⟨rfl, rfl, rfl, rfl, rfl, trivial⟩ rfl rfl (Nat.le_refl _)) ?_
  rintro ⟨q, hq, hn⟩
  show VC _ _ _ _ ⟨[(15, avI (q : Int))] ++ [(0, _), (1, _), (13, _), (14, _)], [], 0⟩
  refine VC.seq ?_
  refine VC.region ?_
  refine VO.val rfl rfl (OpV.lss rfl rfl rfl) ?_
  refine VO.nil ?_
  show VC _ _ _ _ _
  refine VC.seq ?_
  refine VC.cond rfl (fun aH1b => ?_) (fun aH1b => ?_)
  · have aH1 := aH1b
    try simp only [decide_eq_true_eq, decide_eq_false_iff_not, Bool.not_eq_true', Bool.not_eq_false', Int.not_lt, Int.not_le] at aH1
    refine VC.skip ?_
    show VC _ _ _ _ _
    refine VC.seq ?_
    refine VC.block ?_
    refine VC.seq ?_
    refine VC.region ?_
    first
      | refine VO.val rfl rfl (OpV.indexAddr_1 rfl Tryd.underlying30 Tryd.sizeOf27 rfl rfl rfl (by omega)) ?_
      | refine VO.val rfl rfl (OpV.indexAddr_1 rfl Tryd.underlying30 Tryd.sizeOf27 rfl rfl (Int.toNat_of_nonneg (by omega)).symm (by omega)) ?_
      | refine VO.val rfl rfl (OpV.indexAddr_o rfl Tryd.underlying30 Tryd.sizeOf27 rfl rfl rfl (by omega)) ?_
      | refine VO.val rfl rfl (OpV.indexAddr_o rfl Tryd.underlying30 Tryd.sizeOf27 rfl rfl (Int.toNat_of_nonneg (by omega)).symm (by omega)) ?_
      | refine VO.val rfl rfl (OpV.indexAddr_q rfl Tryd.underlying30 Tryd.sizeOf27 rfl rfl rfl (by omega)) ?_
      | refine VO.val rfl rfl (OpV.indexAddr_q rfl Tryd.underlying30 Tryd.sizeOf27 rfl rfl (Int.toNat_of_nonneg (by omega)).symm (by omega)) ?_
      | refine VO.val rfl rfl (OpV.indexAddr_im rfl Tryd.underlying30 Tryd.sizeOf27 rfl rfl (by omega) (by omega)) ?_
    refine VO.val rfl rfl (OpV.load_at rfl hB OutW.no Tryd.isAgg27 rfl rfl) ?_
    refine VO.val rfl rfl (OpV.move (.inr rfl) rfl) ?_
    refine VO.nil ?_
    show VC _ _ _ _ _
    refine VC.seq ?_
    refine VC.region ?_
    refine VO.val rfl rfl (OpV.move (.inl rfl) rfl) ?_
    refine VO.op rfl (OpE.call rfl hB rfl Tryd.call21 rfl (SpecN.spec (setup_CheckSetup (two_sms ha hb _))) ?_)
    rintro _ rfl
    refine VO.val rfl rfl (OpV.move (.inr rfl) rfl) ?_
    refine VO.nil ?_
    show VC _ _ _ _ _
    refine VC.seq ?_
    refine VC.region ?_
    refine VO.val rfl rfl (OpV.move (.inl rfl) rfl) ?_
    refine VO.val rfl rfl (OpV.neq rfl rfl rfl) ?_
    refine VO.nil ?_
    show VC _ _ _ _ _
    refine VC.cond rfl (fun h1b => ?_) (fun h1b => ?_)
    · have h1 := h1b
      try simp only [decide_eq_true_eq, decide_eq_false_iff_not, Bool.not_eq_true', Bool.not_eq_false', Int.not_lt, Int.not_le] at h1
      have he : changesE a b = setupF ([a, b].getD q default) := by
        have hq2 : q = 0 ∨ q = 1 := by omega
        rcases hq2 with rfl | rfl
        · have h1' : setupF a ≠ 0 := h1
          rw [changesE, if_pos h1']; rfl
        · have h1' : setupF b ≠ 0 := h1
          have h0' : setupF a = 0 := hn 0 (by omega)
          rw [changesE, if_neg (fun h => h h0'), if_pos h1']; rfl
      have hcf : changesF a b = [] := by rw [changesF, if_neg (by rw [he]; exact h1)]
      rw [hcf, he]
      refine VC.seq ?_
      refine VC.region ?_
      refine VO.val rfl rfl (OpV.move (.inl rfl) rfl) ?_
      refine VO.val rfl rfl (OpV.move (.inr rfl) rfl) ?_
      refine VO.val rfl rfl (OpV.move (.inr rfl) rfl) ?_
      refine VO.nil ?_
      show VC _ _ _ _ _
      refine VC.le _ (Le.nilRow 3 51) ?_
      refine VC.le ⟨[(4, _), (5, _)], [_], 0⟩ (Le.pick hB [0] ⟨rfl, rfl, trivial⟩ rfl rfl (Nat.le_refl _)) ?_
      refine VC.ret ?_
      exact Exists.intro _ (And.intro (RetV.two Tryd.results12 (ResV.tmp rfl) (ResV.tmp rfl)) (⟨_, rfl, rfl⟩))
    · have h1 := h1b
      try simp only [decide_eq_true_eq, decide_eq_false_iff_not, Bool.not_eq_true', Bool.not_eq_false', Int.not_lt, Int.not_le] at h1
      refine VC.skip ?_
      show VC _ _ _ _ _
      refine VC.region ?_
      refine VO.val rfl rfl (OpV.add rfl rfl rfl (by unfold fits; omega)) ?_
      refine VO.val rfl rfl (OpV.move (.inl rfl) rfl) ?_
      refine VO.nil ?_
      exact Exists.intro (⟨q + 1, by omega, lt_succ_cases hn (by omega)⟩) (And.intro (Le.mk hB [] ⟨rfl, rfl, rfl, rfl, rfl, trivial⟩ rfl rfl (Nat.le_refl _)) (by first | omega | (show _ < _; omega) | (simp only []; omega)))
  · have aH1 := aH1b
    try simp only [decide_eq_true_eq, decide_eq_false_iff_not, Bool.not_eq_true', Bool.not_eq_false', Int.not_lt, Int.not_le] at aH1
    have e0 : setupF a = 0 := hn 0 (by omega)
    have e1 : setupF b = 0 := hn 1 (by omega)
    refine VC.exit ?_
    show VC _ _ _ _ _
    refine VC.seq ?_
    refine VC.seq ?_
    refine VC.region ?_
    refine VO.val rfl rfl (OpV.move (.inl rfl) rfl) ?_
    first
      | refine VO.val rfl rfl (OpV.len_im rfl Tryd.underlying27 rfl) ?_
      | refine VO.val rfl rfl (OpV.len_v rfl Tryd.underlying27 rfl) ?_
    refine VO.val rfl rfl (OpV.move (.inl rfl) rfl) ?_
    first
      | refine VO.val rfl rfl (OpV.len_im rfl Tryd.underlying27 rfl) ?_
      | refine VO.val rfl rfl (OpV.len_v rfl Tryd.underlying27 rfl) ?_
    refine VO.val rfl rfl (OpV.neq rfl rfl rfl) ?_
    refine VO.nil ?_
    show VC _ _ _ _ _
    refine VC.cond rfl (fun h2b => ?_) (fun h2b => ?_)
    · have h2 := h2b
      try simp only [decide_eq_true_eq, decide_eq_false_iff_not, Bool.not_eq_true', Bool.not_eq_false', Int.not_lt, Int.not_le] at h2
      have he : changesE a b = 3 := by rw [changesE, if_neg (by omega), if_neg (by omega), if_pos (by omega)]
      have hcf : changesF a b = [] := by rw [changesF, if_neg (by rw [he]; decide)]
      rw [hcf, he]
      refine VC.seq ?_
      refine VC.region ?_
      refine VO.val rfl rfl (OpV.move (.inr rfl) rfl) ?_
      refine VO.val rfl rfl (OpV.move (.inr rfl) rfl) ?_
      refine VO.nil ?_
      show VC _ _ _ _ _
      refine VC.le _ (Le.nilRow 3 51) ?_
      refine VC.le ⟨[(4, _), (5, _)], [_], 0⟩ (Le.pick hB [0] ⟨rfl, rfl, trivial⟩ rfl rfl (Nat.le_refl _)) ?_
      refine VC.ret ?_
      exact Exists.intro _ (And.intro (RetV.two Tryd.results12 (ResV.tmp rfl) (ResV.tmp rfl)) (⟨_, rfl, rfl⟩))
    · have h2 := h2b
      try simp only [decide_eq_true_eq, decide_eq_false_iff_not, Bool.not_eq_true', Bool.not_eq_false', Int.not_lt, Int.not_le] at h2
      have he : changesE a b = 0 := by rw [changesE, if_neg (by omega), if_neg (by omega), if_neg (by omega)]
      have hcf : changesF a b = chgF a b a.length := by rw [changesF, if_pos he]
      rw [hcf, he]
      have hla := ha.1
      refine VC.skip ?_
      show VC _ _ _ _ _
      refine VC.seq ?_
      refine VC.region ?_
      refine VO.val rfl rfl (OpV.move (.inr rfl) rfl) ?_
      refine VO.nil ?_
      show VC _ _ _ _ _
      refine VC.seq ?_
      refine VC.seq ?_
      refine VC.region ?_
      refine VO.val rfl rfl (OpV.move (.inl rfl) rfl) ?_
      first
        | refine VO.val rfl rfl (OpV.len_im rfl Tryd.underlying27 rfl) ?_
        | refine VO.val rfl rfl (OpV.len_v rfl Tryd.underlying27 rfl) ?_
      refine VO.val rfl rfl (OpV.move (.inl rfl) rfl) ?_
      refine VO.nil ?_
      show VC _ _ _ _ _
      refine VC.block ?_
      refine VC.le _ (Le.nilRow 3 51) ?_
      refine VC.loopK [(0, _), (1, _), (31, _)] ⟨rfl, rfl, rfl, trivial⟩ ({zz : Value × Nat // zz.2 ≤ a.length}) (fun (i : {zz : Value × Nat // zz.2 ≤ a.length}) => match i with | ⟨⟨u, r⟩, hq1⟩ => [(9, .v u), (32, avI (r : Int))]) (fun (i : {zz : Value × Nat // zz.2 ≤ a.length}) => match i with | ⟨⟨u, r⟩, hq1⟩ => [.row u (chgF a b r).length 3 (rowL (chgF a b r)) 51]) (fun (i : {zz : Value × Nat // zz.2 ≤ a.length}) => match i with | ⟨⟨u, r⟩, hq1⟩ => 0) (fun (i : {zz : Value × Nat // zz.2 ≤ a.length}) => match i with | ⟨⟨u, r⟩, hq1⟩ => a.length - r) ⟨(.slice none 0 0, 0), Nat.zero_le _⟩ (Le.mk hB [0] ⟨rfl, rfl, rfl, rfl, rfl, trivial⟩ rfl rfl (Nat.le_refl _)) ?_
      rintro ⟨⟨u, r⟩, hq1⟩
      show VC _ _ _ _ ⟨[(9, .v u), (32, avI (r : Int))] ++ [(0, _), (1, _), (31, _)], [.row u (chgF a b r).length 3 (rowL (chgF a b r)) 51], 0⟩
      simp only at hq1
      refine VC.seq ?_
      refine VC.region ?_
      refine VO.val rfl rfl (OpV.lss rfl rfl rfl) ?_
      refine VO.nil ?_
      show VC _ _ _ _ _
      refine VC.seq ?_
      refine VC.cond rfl (fun aH1b => ?_) (fun aH1b => ?_)
      · have aH1 := aH1b
        try simp only [decide_eq_true_eq, decide_eq_false_iff_not, Bool.not_eq_true', Bool.not_eq_false', Int.not_lt, Int.not_le] at aH1
        refine VC.skip ?_
        show VC _ _ _ _ _
        refine VC.seq ?_
        refine VC.block ?_
        refine VC.seq ?_
        refine VC.region ?_
        refine VO.val rfl rfl (OpV.move (.inl rfl) rfl) ?_
        refine VO.val rfl rfl (OpV.move (.inr rfl) rfl) ?_
        refine VO.nil ?_
        show VC _ _ _ _ _
        refine VC.seq ?_
        refine VC.draw (fun _ => NoB) hB (by kernel_rfl) ?_
        refine VA.take (i := 0) rfl (by kernel_rfl) (by kernel_rfl) (by kernel_rfl) rfl rfl (OpV.move (.inl rfl) rfl) ?_
        refine VA.take (i := 1) rfl (by kernel_rfl) (by kernel_rfl) (by kernel_rfl) rfl rfl (OpV.move (.inl rfl) rfl) ?_
        first
          | refine VA.take (i := 2) rfl (by kernel_rfl) (by kernel_rfl) (by kernel_rfl) rfl rfl (OpV.indexAddr_1 rfl Tryd.underlying27 Tryd.sizeOf9 rfl rfl rfl (by omega)) ?_
          | refine VA.take (i := 2) rfl (by kernel_rfl) (by kernel_rfl) (by kernel_rfl) rfl rfl (OpV.indexAddr_1 rfl Tryd.underlying27 Tryd.sizeOf9 rfl rfl (Int.toNat_of_nonneg (by omega)).symm (by omega)) ?_
          | refine VA.take (i := 2) rfl (by kernel_rfl) (by kernel_rfl) (by kernel_rfl) rfl rfl (OpV.indexAddr_o rfl Tryd.underlying27 Tryd.sizeOf9 rfl rfl rfl (by omega)) ?_
          | refine VA.take (i := 2) rfl (by kernel_rfl) (by kernel_rfl) (by kernel_rfl) rfl rfl (OpV.indexAddr_o rfl Tryd.underlying27 Tryd.sizeOf9 rfl rfl (Int.toNat_of_nonneg (by omega)).symm (by omega)) ?_
          | refine VA.take (i := 2) rfl (by kernel_rfl) (by kernel_rfl) (by kernel_rfl) rfl rfl (OpV.indexAddr_q rfl Tryd.underlying27 Tryd.sizeOf9 rfl rfl rfl (by omega)) ?_
          | refine VA.take (i := 2) rfl (by kernel_rfl) (by kernel_rfl) (by kernel_rfl) rfl rfl (OpV.indexAddr_q rfl Tryd.underlying27 Tryd.sizeOf9 rfl rfl (Int.toNat_of_nonneg (by omega)).symm (by omega)) ?_
          | refine VA.take (i := 2) rfl (by kernel_rfl) (by kernel_rfl) (by kernel_rfl) rfl rfl (OpV.indexAddr_im rfl Tryd.underlying27 Tryd.sizeOf9 rfl rfl (by omega) (by omega)) ?_
        first
          | refine VA.take (i := 3) rfl (by kernel_rfl) (by kernel_rfl) (by kernel_rfl) rfl rfl (OpV.load_at rfl hB OutW.wi0 Tryd.isAgg9 rfl rfl) ?_
          | refine VA.take (i := 3) rfl (by kernel_rfl) (by kernel_rfl) (by kernel_rfl) rfl rfl (OpV.load_own (i := 0) rfl hB Tryd.isAgg9 rfl rfl rfl Wi.not0) ?_
        refine VA.take (i := 4) rfl (by kernel_rfl) (by kernel_rfl) (by kernel_rfl) rfl rfl (OpV.move (.inl rfl) rfl) ?_
        refine VA.take (i := 5) rfl (by kernel_rfl) (by kernel_rfl) (by kernel_rfl) rfl rfl (OpV.move (.inl rfl) rfl) ?_
        first
          | refine VA.take (i := 6) rfl (by kernel_rfl) (by kernel_rfl) (by kernel_rfl) rfl rfl (OpV.indexAddr_1 rfl Tryd.underlying27 Tryd.sizeOf9 rfl rfl rfl (by omega)) ?_
          | refine VA.take (i := 6) rfl (by kernel_rfl) (by kernel_rfl) (by kernel_rfl) rfl rfl (OpV.indexAddr_1 rfl Tryd.underlying27 Tryd.sizeOf9 rfl rfl (Int.toNat_of_nonneg (by omega)).symm (by omega)) ?_
          | refine VA.take (i := 6) rfl (by kernel_rfl) (by kernel_rfl) (by kernel_rfl) rfl rfl (OpV.indexAddr_o rfl Tryd.underlying27 Tryd.sizeOf9 rfl rfl rfl (by omega)) ?_
          | refine VA.take (i := 6) rfl (by kernel_rfl) (by kernel_rfl) (by kernel_rfl) rfl rfl (OpV.indexAddr_o rfl Tryd.underlying27 Tryd.sizeOf9 rfl rfl (Int.toNat_of_nonneg (by omega)).symm (by omega)) ?_
          | refine VA.take (i := 6) rfl (by kernel_rfl) (by kernel_rfl) (by kernel_rfl) rfl rfl (OpV.indexAddr_q rfl Tryd.underlying27 Tryd.sizeOf9 rfl rfl rfl (by omega)) ?_
          | refine VA.take (i := 6) rfl (by kernel_rfl) (by kernel_rfl) (by kernel_rfl) rfl rfl (OpV.indexAddr_q rfl Tryd.underlying27 Tryd.sizeOf9 rfl rfl (Int.toNat_of_nonneg (by omega)).symm (by omega)) ?_
          | refine VA.take (i := 6) rfl (by kernel_rfl) (by kernel_rfl) (by kernel_rfl) rfl rfl (OpV.indexAddr_im rfl Tryd.underlying27 Tryd.sizeOf9 rfl rfl (by omega) (by omega)) ?_
        first
          | refine VA.take (i := 7) rfl (by kernel_rfl) (by kernel_rfl) (by kernel_rfl) rfl rfl (OpV.load_at rfl hB OutW.wi0 Tryd.isAgg9 rfl rfl) ?_
          | refine VA.take (i := 7) rfl (by kernel_rfl) (by kernel_rfl) (by kernel_rfl) rfl rfl (OpV.load_own (i := 0) rfl hB Tryd.isAgg9 rfl rfl rfl Wi.not0) ?_
        refine VA.take (i := 8) rfl (by kernel_rfl) (by kernel_rfl) (by kernel_rfl) rfl rfl (OpV.sneq rfl rfl rfl) ?_
        refine VA.done (by kernel_rfl) ?_
        show VC _ _ _ _ _
        refine VC.cond rfl (fun h4b => ?_) (fun h4b => ?_)
        · have h4 := h4b
          try simp only [decide_eq_true_eq, decide_eq_false_iff_not, Bool.not_eq_true', Bool.not_eq_false', Int.not_lt, Int.not_le] at h4
          have e4 := chgF_yes (a := a) (b := b) (q := r) h4
          have hm1 := chgF_len a b r
          refine VC.draw (fun j b => j = 12 ∧ u.ownBlock = some b) hB (by kernel_rfl) ?_
          refine VA.take (i := 0) rfl (by kernel_rfl) (by kernel_rfl) (by kernel_rfl) rfl rfl (OpV.move (.inl rfl) rfl) ?_
          refine VA.take (i := 1) rfl (by kernel_rfl) (by kernel_rfl) (by kernel_rfl) rfl rfl (OpV.move (.inl rfl) rfl) ?_
          refine VA.take (i := 2) rfl (by kernel_rfl) (by kernel_rfl) (by kernel_rfl) rfl rfl (OpV.move (.inl rfl) rfl) ?_
          refine VA.take (i := 3) rfl (by kernel_rfl) (by kernel_rfl) (by kernel_rfl) rfl rfl (OpV.move (.inl rfl) rfl) ?_
          first
            | refine VA.take (i := 4) rfl (by kernel_rfl) (by kernel_rfl) (by kernel_rfl) rfl rfl (OpV.indexAddr_1 rfl Tryd.underlying27 Tryd.sizeOf9 rfl rfl rfl (by omega)) ?_
            | refine VA.take (i := 4) rfl (by kernel_rfl) (by kernel_rfl) (by kernel_rfl) rfl rfl (OpV.indexAddr_1 rfl Tryd.underlying27 Tryd.sizeOf9 rfl rfl (Int.toNat_of_nonneg (by omega)).symm (by omega)) ?_
            | refine VA.take (i := 4) rfl (by kernel_rfl) (by kernel_rfl) (by kernel_rfl) rfl rfl (OpV.indexAddr_o rfl Tryd.underlying27 Tryd.sizeOf9 rfl rfl rfl (by omega)) ?_
            | refine VA.take (i := 4) rfl (by kernel_rfl) (by kernel_rfl) (by kernel_rfl) rfl rfl (OpV.indexAddr_o rfl Tryd.underlying27 Tryd.sizeOf9 rfl rfl (Int.toNat_of_nonneg (by omega)).symm (by omega)) ?_
            | refine VA.take (i := 4) rfl (by kernel_rfl) (by kernel_rfl) (by kernel_rfl) rfl rfl (OpV.indexAddr_q rfl Tryd.underlying27 Tryd.sizeOf9 rfl rfl rfl (by omega)) ?_
            | refine VA.take (i := 4) rfl (by kernel_rfl) (by kernel_rfl) (by kernel_rfl) rfl rfl (OpV.indexAddr_q rfl Tryd.underlying27 Tryd.sizeOf9 rfl rfl (Int.toNat_of_nonneg (by omega)).symm (by omega)) ?_
            | refine VA.take (i := 4) rfl (by kernel_rfl) (by kernel_rfl) (by kernel_rfl) rfl rfl (OpV.indexAddr_im rfl Tryd.underlying27 Tryd.sizeOf9 rfl rfl (by omega) (by omega)) ?_
          first
            | refine VA.take (i := 5) rfl (by kernel_rfl) (by kernel_rfl) (by kernel_rfl) rfl rfl (OpV.load_at rfl hB (by first | exact OutW.wiU (k := 0) rfl) Tryd.isAgg9 rfl rfl) ?_
            | refine VA.take (i := 5) rfl (by kernel_rfl) (by kernel_rfl) (by kernel_rfl) rfl rfl (OpV.load_own (i := 0) rfl hB Tryd.isAgg9 rfl rfl rfl (by exact Wi.notX (by kernel_rfl))) ?_
          refine VA.take (i := 6) rfl (by kernel_rfl) (by kernel_rfl) (by kernel_rfl) rfl rfl (OpV.move (.inl rfl) rfl) ?_
          refine VA.take (i := 7) rfl (by kernel_rfl) (by kernel_rfl) (by kernel_rfl) rfl rfl (OpV.move (.inl rfl) rfl) ?_
          first
            | refine VA.take (i := 8) rfl (by kernel_rfl) (by kernel_rfl) (by kernel_rfl) rfl rfl (OpV.indexAddr_1 rfl Tryd.underlying27 Tryd.sizeOf9 rfl rfl rfl (by omega)) ?_
            | refine VA.take (i := 8) rfl (by kernel_rfl) (by kernel_rfl) (by kernel_rfl) rfl rfl (OpV.indexAddr_1 rfl Tryd.underlying27 Tryd.sizeOf9 rfl rfl (Int.toNat_of_nonneg (by omega)).symm (by omega)) ?_
            | refine VA.take (i := 8) rfl (by kernel_rfl) (by kernel_rfl) (by kernel_rfl) rfl rfl (OpV.indexAddr_o rfl Tryd.underlying27 Tryd.sizeOf9 rfl rfl rfl (by omega)) ?_
            | refine VA.take (i := 8) rfl (by kernel_rfl) (by kernel_rfl) (by kernel_rfl) rfl rfl (OpV.indexAddr_o rfl Tryd.underlying27 Tryd.sizeOf9 rfl rfl (Int.toNat_of_nonneg (by omega)).symm (by omega)) ?_
            | refine VA.take (i := 8) rfl (by kernel_rfl) (by kernel_rfl) (by kernel_rfl) rfl rfl (OpV.indexAddr_q rfl Tryd.underlying27 Tryd.sizeOf9 rfl rfl rfl (by omega)) ?_
            | refine VA.take (i := 8) rfl (by kernel_rfl) (by kernel_rfl) (by kernel_rfl) rfl rfl (OpV.indexAddr_q rfl Tryd.underlying27 Tryd.sizeOf9 rfl rfl (Int.toNat_of_nonneg (by omega)).symm (by omega)) ?_
            | refine VA.take (i := 8) rfl (by kernel_rfl) (by kernel_rfl) (by kernel_rfl) rfl rfl (OpV.indexAddr_im rfl Tryd.underlying27 Tryd.sizeOf9 rfl rfl (by omega) (by omega)) ?_
          first
            | refine VA.take (i := 9) rfl (by kernel_rfl) (by kernel_rfl) (by kernel_rfl) rfl rfl (OpV.load_at rfl hB (by first | exact OutW.wiU (k := 0) rfl) Tryd.isAgg9 rfl rfl) ?_
            | refine VA.take (i := 9) rfl (by kernel_rfl) (by kernel_rfl) (by kernel_rfl) rfl rfl (OpV.load_own (i := 0) rfl hB Tryd.isAgg9 rfl rfl rfl (by exact Wi.notX (by kernel_rfl))) ?_
          refine VA.take (i := 10) rfl (by kernel_rfl) (by kernel_rfl) (by kernel_rfl) rfl rfl (OpV.build (pls := #[(0, 1), (1, 1), (2, 1)]) rfl Tryd.zeroValue51 Tryd.underlying51 (fun w => by kernel_rfl) rfl rfl) ?_
          refine VA.all (rs := [11]) (by kernel_rfl) (by decide) ?_
          refine ⟨⟨_, rfl, .inl rfl, ?_⟩, trivial⟩
          refine OpE.buildSlice (zc := #[.int .i64 0, .string ⟨#[]⟩, .string ⟨#[]⟩]) rfl hB rfl Tryd.underlying36 Tryd.sizeOf51 Tryd.zeroValue51 (by decide) (by decide) (by kernel_rfl) rfl rfl ?_
          refine VA.all (rs := [12]) (by kernel_rfl) (by decide) ?_
          refine ⟨⟨_, rfl, .inl rfl, ?_⟩, trivial⟩
          refine OpE.append1 (i := 0) rfl hB rfl Tryd.underlying36 (infoOf Tryd.t51 3 (by kernel_rfl) rfl rfl) rfl (by decide) (by decide) rfl rfl rfl rfl (rowL_snoc (chgF a b r) (⟨(r : Int), a.getD r ByteArray.empty, b.getD r ByteArray.empty⟩ : ChgS)) (by omega) (fun _ h => ⟨rfl, h⟩) ?_
          intro u2
          refine VA.take (i := 13) rfl (by kernel_rfl) (by kernel_rfl) (by kernel_rfl) rfl rfl (OpV.move (.inr rfl) rfl) ?_
          refine VA.done (by kernel_rfl) ?_
          show VC _ _ _ _ _
          refine VC.region ?_
          refine VO.val rfl rfl (OpV.add rfl rfl rfl (by unfold fits; omega)) ?_
          refine VO.val rfl rfl (OpV.move (.inl rfl) rfl) ?_
          refine VO.nil ?_
          first
            | exact Exists.intro (⟨(u2, r + 1), by show _ ≤ _; omega⟩) (And.intro (Le.mk hB [0] ⟨rfl, rfl, rfl, rfl, rfl, trivial⟩ rfl (by dsimp only; first | (rw [e4]; rfl) | (rw [e4, List.length_append]; rfl)) (Nat.le_refl _)) (by first | omega | (show _ < _; omega) | (simp only []; omega)))
            | exact Exists.intro (⟨(u, r + 1), by show _ ≤ _; omega⟩) (And.intro (Le.mk hB [0] ⟨rfl, rfl, rfl, rfl, rfl, trivial⟩ rfl (by dsimp only; first | (rw [e4]; rfl) | (rw [e4, List.length_append]; rfl)) (Nat.le_refl _)) (by first | omega | (show _ < _; omega) | (simp only []; omega)))
        · have h4 := h4b
          try simp only [decide_eq_true_eq, decide_eq_false_iff_not, Bool.not_eq_true', Bool.not_eq_false', Int.not_lt, Int.not_le] at h4
          have e4 := chgF_no (a := a) (b := b) (q := r) h4
          refine VC.skip ?_
          show VC _ _ _ _ _
          refine VC.region ?_
          refine VO.val rfl rfl (OpV.add rfl rfl rfl (by unfold fits; omega)) ?_
          refine VO.val rfl rfl (OpV.move (.inl rfl) rfl) ?_
          refine VO.nil ?_
          first
            | exact Exists.intro (⟨(u2, r + 1), by show _ ≤ _; omega⟩) (And.intro (Le.mk hB [0] ⟨rfl, rfl, rfl, rfl, rfl, trivial⟩ rfl (by dsimp only; first | (rw [e4]; rfl) | (rw [e4, List.length_append]; rfl)) (Nat.le_refl _)) (by first | omega | (show _ < _; omega) | (simp only []; omega)))
            | exact Exists.intro (⟨(u, r + 1), by show _ ≤ _; omega⟩) (And.intro (Le.mk hB [0] ⟨rfl, rfl, rfl, rfl, rfl, trivial⟩ rfl (by dsimp only; first | (rw [e4]; rfl) | (rw [e4, List.length_append]; rfl)) (Nat.le_refl _)) (by first | omega | (show _ < _; omega) | (simp only []; omega)))
      · have aH1 := aH1b
        try simp only [decide_eq_true_eq, decide_eq_false_iff_not, Bool.not_eq_true', Bool.not_eq_false', Int.not_lt, Int.not_le] at aH1
        obtain rfl : r = a.length := by omega
        refine VC.exit ?_
        show VC _ _ _ _ _
        refine VC.seq ?_
        refine VC.region ?_
        refine VO.val rfl rfl (OpV.move (.inl rfl) rfl) ?_
        refine VO.val rfl rfl (OpV.move (.inr rfl) rfl) ?_
        refine VO.val rfl rfl (OpV.move (.inr rfl) rfl) ?_
        refine VO.nil ?_
        show VC _ _ _ _ _
        refine VC.le ⟨[(4, _), (5, _)], [_], 0⟩ (Le.pick hB [0] ⟨rfl, rfl, trivial⟩ rfl rfl (Nat.le_refl _)) ?_
        refine VC.ret ?_
        exact Exists.intro _ (And.intro (RetV.two Tryd.results12 (ResV.tmp rfl) (ResV.tmp rfl)) (⟨_, rfl, rfl⟩))
theorem changesF_len (a b : List ByteArray) : (changesF a b).length ≤ a.length := by
  unfold changesF
  split
  · exact chgF_len _ _ _
  · simp
theorem loadN_take {l : List ChgS} {q : Nat} (h : q < l.length) : loadN (l.take (q + 1)) = loadN (l.take q) + (if sEq (l.getD q default).inn ε = true then 0 else 1) := by
  rw [take_succ_getD (d := default) h, loadN_snoc]
theorem loadN_in : ∀ l : List ChgS, 0 ≤ loadN l ∧ loadN l ≤ l.length
  | [] => by simp [loadN]
  | c :: r => by have := loadN_in r; simp only [loadN, List.length_cons]; split <;> omega
set_option maxRecDepth 100000 in
theorem setup_Loads {a b : List ByteArray} (ha : SmS a) (hb : SmS b) :
    SpecN Tryd.prog 13 [avStrs a, avStrs b] (fun y => y = .tup [avI (loadN (changesF a b)), avI (changesE a b)]) := by
  have hla := ha.1
  have hcl := changesF_len a b
  refine SpecN.of_VCN Tryd.func13 rfl Tryd.ntmps13 (Nat.le_of_ble_eq_true rfl) fun w A hB => ?_
  have hnew : True := trivial
  refine VC.seq ?_
  refine VC.region ?_
  refine VO.val rfl rfl (OpV.move (.inr rfl) rfl) ?_
  refine VO.val rfl rfl (OpV.move (.inr rfl) rfl) ?_
  refine VO.nil ?_
  show VC _ _ _ _ _
  refine VC.seq ?_
  refine VC.region ?_
  refine VO.val rfl rfl (OpV.move (.inl rfl) rfl) ?_
  refine VO.val rfl rfl (OpV.move (.inl rfl) rfl) ?_
  refine VO.op rfl (OpE.callH (hp := []) (rest := _) rfl hB rfl Tryd.call12 rfl rfl (setup_Changes ha hb) (List.Perm.refl _) (fun _ h => by obtain ⟨e, he, _⟩ := h; cases he) ?_)
  rintro _ _ ⟨u14, rfl, rfl⟩
  refine VO.val rfl rfl (OpV.move (.inl rfl) rfl) ?_
  first
    | refine VO.val rfl rfl (OpV.extract rfl rfl rfl) ?_
    | refine VO.val rfl rfl (OpV.extract_v rfl rfl rfl) ?_
  refine VO.le _ (Le.rowT (t := 15) (i := 0) hB hnew rfl rfl (by first | rfl | simp)) ?_
  first
    | refine VO.val rfl rfl (OpV.extract rfl rfl rfl) ?_
    | refine VO.val rfl rfl (OpV.extract_v rfl rfl rfl) ?_
  refine VO.val rfl rfl (OpV.move (.inr rfl) rfl) ?_
  refine VO.val rfl rfl (OpV.move (.inr rfl) rfl) ?_
  refine VO.nil ?_
  show VC _ _ _ _ _
  refine VC.seq ?_
  refine VC.region ?_
  refine VO.val rfl rfl (OpV.move (.inr rfl) rfl) ?_
  refine VO.nil ?_
  show VC _ _ _ _ _
  refine VC.seq ?_
  refine VC.seq ?_
  refine VC.region ?_
  refine VO.val rfl rfl (OpV.move (.inl rfl) rfl) ?_
  first
    | refine VO.val rfl rfl (OpV.len_im rfl Tryd.underlying36 rfl) ?_
    | refine VO.val rfl rfl (OpV.len_v rfl Tryd.underlying36 rfl) ?_
    | refine VO.val rfl rfl (OpV.len_row (i := 0) rfl Tryd.underlying36 rfl rfl) ?_
  refine VO.val rfl rfl (OpV.move (.inl rfl) rfl) ?_
  refine VO.nil ?_
  show VC _ _ _ _ _
  refine VC.block ?_
  refine VC.loopK [(7, _), (17, _), (18, _)] ⟨rfl, rfl, rfl, trivial⟩ ({q : Nat // q ≤ (changesF a b).length}) (fun (i : {q : Nat // q ≤ (changesF a b).length}) => match i with | ⟨q, hq⟩ => [(8, avI (loadN ((changesF a b).take q))), (19, avI (q : Int))]) (fun (i : {q : Nat // q ≤ (changesF a b).length}) => match i with | ⟨q, hq⟩ => []) (fun (i : {q : Nat // q ≤ (changesF a b).length}) => match i with | ⟨q, hq⟩ => 0) (fun (i : {q : Nat // q ≤ (changesF a b).length}) => match i with | ⟨q, hq⟩ => (changesF a b).length - q) ⟨0, Nat.zero_le _⟩ (Le.mk hB [] ⟨rfl, rfl, rfl, rfl, rfl, trivial⟩ rfl rfl (Nat.le_refl _)) ?_
  rintro ⟨q, hq⟩
  show VC _ _ _ _ ⟨[(8, avI (loadN ((changesF a b).take q))), (19, avI (q : Int))] ++ [(7, _), (17, _), (18, _)], [], 0⟩
  refine VC.seq ?_
  refine VC.region ?_
  refine VO.val rfl rfl (OpV.lss rfl rfl rfl) ?_
  refine VO.nil ?_
  show VC _ _ _ _ _
  refine VC.seq ?_
  refine VC.cond rfl (fun aH1b => ?_) (fun aH1b => ?_)
  · have aH1 := aH1b
    try simp only [decide_eq_true_eq, decide_eq_false_iff_not, Bool.not_eq_true', Bool.not_eq_false', Int.not_lt, Int.not_le] at aH1
    have hli := loadN_in ((changesF a b).take q)
    have hlt : ((changesF a b).take q).length ≤ q := by simp; omega
    refine VC.skip ?_
    show VC _ _ _ _ _
    refine VC.seq ?_
    refine VC.block ?_
    refine VC.seq ?_
    refine VC.region ?_
    first
      | refine VO.val rfl rfl (OpV.indexAddr_E rfl Tryd.underlying36 Tryd.sizeOf51 rfl rfl rfl (by omega)) ?_
      | refine VO.val rfl rfl (OpV.indexAddr_E rfl Tryd.underlying36 Tryd.sizeOf51 rfl rfl (Int.toNat_of_nonneg (by omega)).symm (by omega)) ?_
      | refine VO.val rfl rfl (OpV.indexAddr_q rfl Tryd.underlying36 Tryd.sizeOf51 rfl rfl rfl (by omega)) ?_
      | refine VO.val rfl rfl (OpV.indexAddr_q rfl Tryd.underlying36 Tryd.sizeOf51 rfl rfl (Int.toNat_of_nonneg (by omega)).symm (by omega)) ?_
      | refine VO.val rfl rfl (OpV.indexAddr_im rfl Tryd.underlying36 Tryd.sizeOf51 rfl rfl (by omega) (by omega)) ?_
    refine VO.val rfl rfl (OpV.loadK_at rfl hB OutW.no Tryd.isAgg51 Tryd.sizeOf51 rfl rfl) ?_
    refine VO.op rfl (OpE.alloc rfl hB rfl Tryd.zeroValue51 rfl ?_)
    intro g10
    refine VO.op rfl (OpE.store (i := 0) rfl hB rfl Tryd.sizeOf51 rfl rfl rfl rfl rfl rfl (Nat.le_of_ble_eq_true rfl) trivial ?_)
    refine VO.nil ?_
    show VC _ _ _ _ _
    refine VC.seq ?_
    refine VC.region ?_
    first
      | refine VO.val rfl rfl (OpV.fieldAddr_atO 2 rfl Tryd.underlying51 rfl rfl Tryd.sizeOf9 rfl rfl) ?_
      | refine VO.val rfl rfl (OpV.fieldAddrO 2 rfl Tryd.underlying51 rfl rfl Tryd.sizeOf9 rfl) ?_
    first
      | refine VO.val rfl rfl (OpV.load_at rfl hB OutW.no Tryd.isAgg9 rfl rfl) ?_
      | refine VO.val rfl rfl (OpV.load_own (i := 0) rfl hB Tryd.isAgg9 rfl rfl rfl (fun h => h)) ?_
    refine VO.val rfl rfl (OpV.sneq rfl rfl rfl) ?_
    refine VO.nil ?_
    show VC _ _ _ _ _
    refine VC.cond rfl (fun h1b => ?_) (fun h1b => ?_)
    · have h1 := h1b
      try simp only [decide_eq_true_eq, decide_eq_false_iff_not, Bool.not_eq_true', Bool.not_eq_false', Int.not_lt, Int.not_le] at h1
      refine VC.region ?_
      refine VO.val rfl rfl (OpV.move (.inl rfl) rfl) ?_
      refine VO.val rfl rfl (OpV.add rfl rfl rfl (by unfold fits; omega)) ?_
      refine VO.val rfl rfl (OpV.move (.inr rfl) rfl) ?_
      refine VO.nil ?_
      show VC _ _ _ _ _
      refine VC.region ?_
      refine VO.val rfl rfl (OpV.add rfl rfl rfl (by unfold fits; omega)) ?_
      refine VO.val rfl rfl (OpV.move (.inl rfl) rfl) ?_
      refine VO.nil ?_
      exact Exists.intro (⟨q + 1, by omega⟩) (And.intro (Le.mk hB [] ⟨(by dsimp only; rw [loadN_take (by omega)]; first | (rw [if_neg (by simp_all)]; rfl) | (rw [if_pos (by simp_all)]; rw [Int.add_zero]; rfl)), rfl, rfl, rfl, rfl, trivial⟩ rfl rfl (Nat.le_refl _)) (by first | omega | (show _ < _; omega) | (simp only []; omega)))
    · have h1 := h1b
      try simp only [decide_eq_true_eq, decide_eq_false_iff_not, Bool.not_eq_true', Bool.not_eq_false', Int.not_lt, Int.not_le] at h1
      refine VC.skip ?_
      show VC _ _ _ _ _
      refine VC.region ?_
      refine VO.val rfl rfl (OpV.add rfl rfl rfl (by unfold fits; omega)) ?_
      refine VO.val rfl rfl (OpV.move (.inl rfl) rfl) ?_
      refine VO.nil ?_
      exact Exists.intro (⟨q + 1, by omega⟩) (And.intro (Le.mk hB [] ⟨(by dsimp only; rw [loadN_take (by omega)]; first | (rw [if_neg (by simp_all)]; rfl) | (rw [if_pos (by simp_all)]; rw [Int.add_zero]; rfl)), rfl, rfl, rfl, rfl, trivial⟩ rfl rfl (Nat.le_refl _)) (by first | omega | (show _ < _; omega) | (simp only []; omega)))
  · have aH1 := aH1b
    try simp only [decide_eq_true_eq, decide_eq_false_iff_not, Bool.not_eq_true', Bool.not_eq_false', Int.not_lt, Int.not_le] at aH1
    refine VC.exit ?_
    show VC _ _ _ _ _
    refine VC.seq ?_
    refine VC.region ?_
    refine VO.val rfl rfl (OpV.move (.inl rfl) rfl) ?_
    refine VO.val rfl rfl (OpV.move (.inl rfl) rfl) ?_
    refine VO.val rfl rfl (OpV.move (.inr rfl) rfl) ?_
    refine VO.val rfl rfl (OpV.move (.inr rfl) rfl) ?_
    refine VO.nil ?_
    show VC _ _ _ _ _
    refine VC.ret ?_
    exact Exists.intro _ (And.intro (RetN.two Tryd.results13 (ResN.v rfl) (ResN.v rfl)) (by rw [List.take_of_length_le (by omega)]))
set_option maxRecDepth 100000 in
theorem rf_LoadsOf {a b : List ByteArray} (ha : a.length ≤ 1000000000) (hab : b.length = a.length) :
    SpecN Tryd.prog 20 [avStrs a, avStrs b] (fun y => y = avI (loadN (chgF a b a.length))) := by
  have hcl := chgF_len a b a.length
  refine SpecN.of_VCN Tryd.func20 rfl Tryd.ntmps20 (Nat.le_of_ble_eq_true rfl) fun w A hB => ?_
  have hnew : True := trivial
  refine VC.seq ?_
  refine VC.region ?_
  refine VO.val rfl rfl (OpV.move (.inr rfl) rfl) ?_
  refine VO.nil ?_
  show VC _ _ _ _ _
  refine VC.seq ?_
  refine VC.region ?_
  refine VO.val rfl rfl (OpV.move (.inr rfl) rfl) ?_
  refine VO.nil ?_
  show VC _ _ _ _ _
  refine VC.seq ?_
  refine VC.seq ?_
  refine VC.region ?_
  refine VO.val rfl rfl (OpV.move (.inl rfl) rfl) ?_
  refine VO.val rfl rfl (OpV.move (.inl rfl) rfl) ?_
  refine VO.op rfl (OpE.callH (hp := []) (rest := _) rfl hB rfl Tryd.call19 rfl rfl (rf_ChangesOf ha hab) (List.Perm.refl _) (fun _ h => by obtain ⟨e, he, _⟩ := h; cases he) ?_)
  rintro _ _ ⟨u10, rfl, rfl⟩
  refine VO.le _ (Le.rowT (t := 10) (i := 0) hB hnew rfl rfl (by first | rfl | simp)) ?_
  first
    | refine VO.val rfl rfl (OpV.len_im rfl Tryd.underlying36 rfl) ?_
    | refine VO.val rfl rfl (OpV.len_v rfl Tryd.underlying36 rfl) ?_
    | refine VO.val rfl rfl (OpV.len_row (i := 0) rfl Tryd.underlying36 rfl rfl) ?_
  refine VO.val rfl rfl (OpV.move (.inl rfl) rfl) ?_
  refine VO.nil ?_
  show VC _ _ _ _ _
  refine VC.block ?_
  refine VC.loopK [(10, _), (11, _)] ⟨rfl, rfl, trivial⟩ ({q : Nat // q ≤ (chgF a b a.length).length}) (fun (i : {q : Nat // q ≤ (chgF a b a.length).length}) => match i with | ⟨q, hq⟩ => [(5, avI (loadN ((chgF a b a.length).take q))), (12, avI (q : Int))]) (fun (i : {q : Nat // q ≤ (chgF a b a.length).length}) => match i with | ⟨q, hq⟩ => []) (fun (i : {q : Nat // q ≤ (chgF a b a.length).length}) => match i with | ⟨q, hq⟩ => 0) (fun (i : {q : Nat // q ≤ (chgF a b a.length).length}) => match i with | ⟨q, hq⟩ => (chgF a b a.length).length - q) ⟨0, Nat.zero_le _⟩ (Le.mk hB [] ⟨rfl, rfl, rfl, rfl, trivial⟩ rfl rfl (Nat.le_refl _)) ?_
  rintro ⟨q, hq⟩
  show VC _ _ _ _ ⟨[(5, avI (loadN ((chgF a b a.length).take q))), (12, avI (q : Int))] ++ [(10, _), (11, _)], [], 0⟩
  refine VC.seq ?_
  refine VC.region ?_
  refine VO.val rfl rfl (OpV.lss rfl rfl rfl) ?_
  refine VO.nil ?_
  show VC _ _ _ _ _
  refine VC.seq ?_
  refine VC.cond rfl (fun aH1b => ?_) (fun aH1b => ?_)
  · have aH1 := aH1b
    try simp only [decide_eq_true_eq, decide_eq_false_iff_not, Bool.not_eq_true', Bool.not_eq_false', Int.not_lt, Int.not_le] at aH1
    have hli := loadN_in ((chgF a b a.length).take q)
    have hlt : ((chgF a b a.length).take q).length ≤ q := by simp; omega
    refine VC.skip ?_
    show VC _ _ _ _ _
    refine VC.seq ?_
    refine VC.block ?_
    refine VC.seq ?_
    refine VC.region ?_
    first
      | refine VO.val rfl rfl (OpV.indexAddr_E rfl Tryd.underlying36 Tryd.sizeOf51 rfl rfl rfl (by omega)) ?_
      | refine VO.val rfl rfl (OpV.indexAddr_E rfl Tryd.underlying36 Tryd.sizeOf51 rfl rfl (Int.toNat_of_nonneg (by omega)).symm (by omega)) ?_
      | refine VO.val rfl rfl (OpV.indexAddr_q rfl Tryd.underlying36 Tryd.sizeOf51 rfl rfl rfl (by omega)) ?_
      | refine VO.val rfl rfl (OpV.indexAddr_q rfl Tryd.underlying36 Tryd.sizeOf51 rfl rfl (Int.toNat_of_nonneg (by omega)).symm (by omega)) ?_
      | refine VO.val rfl rfl (OpV.indexAddr_im rfl Tryd.underlying36 Tryd.sizeOf51 rfl rfl (by omega) (by omega)) ?_
    refine VO.val rfl rfl (OpV.loadK_at rfl hB OutW.no Tryd.isAgg51 Tryd.sizeOf51 rfl rfl) ?_
    refine VO.op rfl (OpE.alloc rfl hB rfl Tryd.zeroValue51 rfl ?_)
    intro g7
    refine VO.op rfl (OpE.store (i := 0) rfl hB rfl Tryd.sizeOf51 rfl rfl rfl rfl rfl rfl (Nat.le_of_ble_eq_true rfl) trivial ?_)
    refine VO.nil ?_
    show VC _ _ _ _ _
    refine VC.seq ?_
    refine VC.region ?_
    first
      | refine VO.val rfl rfl (OpV.fieldAddr_atO 2 rfl Tryd.underlying51 rfl rfl Tryd.sizeOf9 rfl rfl) ?_
      | refine VO.val rfl rfl (OpV.fieldAddrO 2 rfl Tryd.underlying51 rfl rfl Tryd.sizeOf9 rfl) ?_
    first
      | refine VO.val rfl rfl (OpV.load_at rfl hB OutW.no Tryd.isAgg9 rfl rfl) ?_
      | refine VO.val rfl rfl (OpV.load_own (i := 0) rfl hB Tryd.isAgg9 rfl rfl rfl (fun h => h)) ?_
    refine VO.val rfl rfl (OpV.sneq rfl rfl rfl) ?_
    refine VO.nil ?_
    show VC _ _ _ _ _
    refine VC.cond rfl (fun h1b => ?_) (fun h1b => ?_)
    · have h1 := h1b
      try simp only [decide_eq_true_eq, decide_eq_false_iff_not, Bool.not_eq_true', Bool.not_eq_false', Int.not_lt, Int.not_le] at h1
      refine VC.region ?_
      refine VO.val rfl rfl (OpV.move (.inl rfl) rfl) ?_
      refine VO.val rfl rfl (OpV.add rfl rfl rfl (by unfold fits; omega)) ?_
      refine VO.val rfl rfl (OpV.move (.inr rfl) rfl) ?_
      refine VO.nil ?_
      show VC _ _ _ _ _
      refine VC.region ?_
      refine VO.val rfl rfl (OpV.add rfl rfl rfl (by unfold fits; omega)) ?_
      refine VO.val rfl rfl (OpV.move (.inl rfl) rfl) ?_
      refine VO.nil ?_
      exact Exists.intro (⟨q + 1, by omega⟩) (And.intro (Le.mk hB [] ⟨(by dsimp only; rw [loadN_take (by omega)]; first | (rw [if_neg (by simp_all)]; rfl) | (rw [if_pos (by simp_all)]; rw [Int.add_zero]; rfl)), rfl, rfl, rfl, trivial⟩ rfl rfl (Nat.le_refl _)) (by first | omega | (show _ < _; omega) | (simp only []; omega)))
    · have h1 := h1b
      try simp only [decide_eq_true_eq, decide_eq_false_iff_not, Bool.not_eq_true', Bool.not_eq_false', Int.not_lt, Int.not_le] at h1
      refine VC.skip ?_
      show VC _ _ _ _ _
      refine VC.region ?_
      refine VO.val rfl rfl (OpV.add rfl rfl rfl (by unfold fits; omega)) ?_
      refine VO.val rfl rfl (OpV.move (.inl rfl) rfl) ?_
      refine VO.nil ?_
      exact Exists.intro (⟨q + 1, by omega⟩) (And.intro (Le.mk hB [] ⟨(by dsimp only; rw [loadN_take (by omega)]; first | (rw [if_neg (by simp_all)]; rfl) | (rw [if_pos (by simp_all)]; rw [Int.add_zero]; rfl)), rfl, rfl, rfl, trivial⟩ rfl rfl (Nat.le_refl _)) (by first | omega | (show _ < _; omega) | (simp only []; omega)))
  · have aH1 := aH1b
    try simp only [decide_eq_true_eq, decide_eq_false_iff_not, Bool.not_eq_true', Bool.not_eq_false', Int.not_lt, Int.not_le] at aH1
    refine VC.exit ?_
    show VC _ _ _ _ _
    refine VC.seq ?_
    refine VC.region ?_
    refine VO.val rfl rfl (OpV.move (.inl rfl) rfl) ?_
    refine VO.val rfl rfl (OpV.move (.inr rfl) rfl) ?_
    refine VO.nil ?_
    show VC _ _ _ _ _
    refine VC.ret ?_
    exact Exists.intro _ (And.intro (RetN.one Tryd.results20 (ResN.v rfl)) (by rw [List.take_of_length_le (by omega)]))
/-- Two lists are equal. -/
def eqLs {α : Type} (e : α → α → Bool) : List α → List α → Bool
  | [], [] => true
  | x :: l, y :: r => e x y && eqLs e l r
  | _, _ => false
theorem eqLs_self {α : Type} {e : α → α → Bool} (h : ∀ x, e x x = true) : ∀ l : List α, eqLs e l l = true
  | [] => rfl
  | x :: l => by rw [eqLs, h, eqLs_self h l]; rfl
theorem eqLs_len {α : Type} {e : α → α → Bool} : ∀ {l r : List α}, l.length ≠ r.length → eqLs e l r = false
  | [], [], h => absurd rfl h
  | [], _ :: _, _ => rfl
  | _ :: _, [], _ => rfl
  | x :: l, y :: r, h => by rw [eqLs, eqLs_len (by simpa using h), Bool.and_false]
theorem eqLs_at {α : Type} {e : α → α → Bool} {d : α} : ∀ {l r : List α} {q : Nat}, q < l.length → e (l.getD q d) (r.getD q d) = false → eqLs e l r = false
  | [], _, q, h, _ => by simp at h
  | x :: l, [], q, h, _ => rfl
  | x :: l, y :: r, 0, _, h2 => by simp at h2; rw [eqLs, h2]; rfl
  | x :: l, y :: r, q + 1, h1, h2 => by rw [eqLs, eqLs_at (d := d) (q := q) (by simpa using h1) (by simpa using h2), Bool.and_false]
theorem eqLs_all {α : Type} {e : α → α → Bool} {d : α} : ∀ {l r : List α}, l.length = r.length → (∀ j, j < l.length → e (l.getD j d) (r.getD j d) = true) → eqLs e l r = true
  | [], [], _, _ => rfl
  | [], _ :: _, h, _ => by simp at h
  | _ :: _, [], h, _ => by simp at h
  | x :: l, y :: r, h, h2 => by
    have h0 := h2 0 (by simp)
    simp at h0
    rw [eqLs, h0, eqLs_all (d := d) (by simpa using h) (fun j hj => by simpa using h2 (j + 1) (by simpa using hj))]
    rfl
theorem eqLs_dec {α : Type} [DecidableEq α] {e : α → α → Bool} (h : ∀ x y, e x y = true ↔ x = y) (l r : List α) : eqLs e l r = decide (l = r) := by
  by_cases hlr : l = r
  · subst hlr; rw [eqLs_self (fun x => (h x x).2 rfl)]; simp
  · rw [decide_eq_false hlr]
    induction l generalizing r with
    | nil => cases r with
      | nil => exact absurd rfl hlr
      | cons y r => rfl
    | cons x l ih => cases r with
      | nil => rfl
      | cons y r =>
        rw [eqLs]
        by_cases hxy : x = y
        · subst hxy
          rw [ih r (fun e => hlr (by rw [e])), Bool.and_false]
        · have : e x y = false := Bool.eq_false_iff.2 fun hc => hxy ((h x y).1 hc)
          rw [this]; rfl
set_option maxRecDepth 100000 in
theorem slices_Equal_str {xs ys : List ByteArray} (hl : xs.length ≤ 1000000000) (hl' : ys.length ≤ 1000000000) :
    SpecN Tryd.prog 23 [avStrs xs, avStrs ys] (fun y => y = avB (eqLs sEq xs ys)) := by
  refine SpecN.of_VCN Tryd.func23 rfl Tryd.ntmps23 (Nat.le_of_ble_eq_true rfl) fun w A hB => ?_
  have hnew : True := trivial
  refine VC.seq ?_
  refine VC.region ?_
  refine VO.val rfl rfl (OpV.move (.inr rfl) rfl) ?_
  refine VO.nil ?_
  show VC _ _ _ _ _
  refine VC.seq ?_
  refine VC.seq ?_
  refine VC.region ?_
  refine VO.val rfl rfl (OpV.move (.inl rfl) rfl) ?_
  first
    | refine VO.val rfl rfl (OpV.len_im rfl Tryd.underlying27 rfl) ?_
    | refine VO.val rfl rfl (OpV.len_v rfl Tryd.underlying27 rfl) ?_
  refine VO.val rfl rfl (OpV.move (.inl rfl) rfl) ?_
  first
    | refine VO.val rfl rfl (OpV.len_im rfl Tryd.underlying27 rfl) ?_
    | refine VO.val rfl rfl (OpV.len_v rfl Tryd.underlying27 rfl) ?_
  refine VO.val rfl rfl (OpV.neq rfl rfl rfl) ?_
  refine VO.nil ?_
  show VC _ _ _ _ _
  refine VC.cond rfl (fun aH1b => ?_) (fun aH1b => ?_)
  · have aH1 := aH1b
    try simp only [decide_eq_true_eq, decide_eq_false_iff_not, Bool.not_eq_true', Bool.not_eq_false', Int.not_lt, Int.not_le] at aH1
    refine VC.seq ?_
    refine VC.region ?_
    refine VO.val rfl rfl (OpV.move (.inr rfl) rfl) ?_
    refine VO.nil ?_
    show VC _ _ _ _ _
    refine VC.ret ?_
    exact Exists.intro _ (And.intro (RetN.one Tryd.results23 (ResN.v rfl)) (by first | rw [eqLs_len (by omega)] | rw [eqLs_at (d := ByteArray.empty) (q := q) (by omega) (not_true_false h2b)] | rw [eqLs_all (d := ByteArray.empty) (by omega) (fun j hj => hn j (by omega))]))
  · have aH1 := aH1b
    try simp only [decide_eq_true_eq, decide_eq_false_iff_not, Bool.not_eq_true', Bool.not_eq_false', Int.not_lt, Int.not_le] at aH1
    refine VC.skip ?_
    show VC _ _ _ _ _
    refine VC.seq ?_
    refine VC.seq ?_
    refine VC.region ?_
    refine VO.val rfl rfl (OpV.move (.inl rfl) rfl) ?_
    first
      | refine VO.val rfl rfl (OpV.len_im rfl Tryd.underlying27 rfl) ?_
      | refine VO.val rfl rfl (OpV.len_v rfl Tryd.underlying27 rfl) ?_
    refine VO.val rfl rfl (OpV.move (.inl rfl) rfl) ?_
    refine VO.nil ?_
    show VC _ _ _ _ _
    refine VC.block ?_
    refine VC.loopK [(0, _), (1, _), (12, _)] ⟨rfl, rfl, rfl, trivial⟩ ({q : Nat // q ≤ xs.length ∧ ∀ j, j < q → sEq (xs.getD j ByteArray.empty) (ys.getD j ByteArray.empty) = true}) (fun (i : {q : Nat // q ≤ xs.length ∧ ∀ j, j < q → sEq (xs.getD j ByteArray.empty) (ys.getD j ByteArray.empty) = true}) => match i with | ⟨q, hq, hn⟩ => [(13, avI (q : Int))]) (fun (i : {q : Nat // q ≤ xs.length ∧ ∀ j, j < q → sEq (xs.getD j ByteArray.empty) (ys.getD j ByteArray.empty) = true}) => match i with | ⟨q, hq, hn⟩ => []) (fun (i : {q : Nat // q ≤ xs.length ∧ ∀ j, j < q → sEq (xs.getD j ByteArray.empty) (ys.getD j ByteArray.empty) = true}) => match i with | ⟨q, hq, hn⟩ => 0) (fun (i : {q : Nat // q ≤ xs.length ∧ ∀ j, j < q → sEq (xs.getD j ByteArray.empty) (ys.getD j ByteArray.empty) = true}) => match i with | ⟨q, hq, hn⟩ => xs.length - q) ⟨0, Nat.zero_le _, fun j hj => absurd hj (Nat.not_lt_zero j)⟩ (Le.mk hB [] ⟨rfl, rfl, rfl, rfl, trivial⟩ rfl rfl (Nat.le_refl _)) ?_
    rintro ⟨q, hq, hn⟩
    show VC _ _ _ _ ⟨[(13, avI (q : Int))] ++ [(0, _), (1, _), (12, _)], [], 0⟩
    refine VC.seq ?_
    refine VC.region ?_
    refine VO.val rfl rfl (OpV.lss rfl rfl rfl) ?_
    refine VO.nil ?_
    show VC _ _ _ _ _
    refine VC.seq ?_
    refine VC.cond rfl (fun aH2b => ?_) (fun aH2b => ?_)
    · have aH2 := aH2b
      try simp only [decide_eq_true_eq, decide_eq_false_iff_not, Bool.not_eq_true', Bool.not_eq_false', Int.not_lt, Int.not_le] at aH2
      refine VC.skip ?_
      show VC _ _ _ _ _
      refine VC.seq ?_
      refine VC.block ?_
      refine VC.seq ?_
      refine VC.region ?_
      refine VO.val rfl rfl (OpV.move (.inl rfl) rfl) ?_
      refine VO.val rfl rfl (OpV.move (.inr rfl) rfl) ?_
      refine VO.nil ?_
      show VC _ _ _ _ _
      refine VC.seq ?_
      refine VC.draw (fun _ => NoB) hB (by kernel_rfl) ?_
      refine VA.take (i := 0) rfl (by kernel_rfl) (by kernel_rfl) (by kernel_rfl) rfl rfl (OpV.move (.inl rfl) rfl) ?_
      refine VA.take (i := 1) rfl (by kernel_rfl) (by kernel_rfl) (by kernel_rfl) rfl rfl (OpV.move (.inl rfl) rfl) ?_
      first
        | refine VA.take (i := 2) rfl (by kernel_rfl) (by kernel_rfl) (by kernel_rfl) rfl rfl (OpV.indexAddr_1 rfl Tryd.underlying27 Tryd.sizeOf9 rfl rfl rfl (by omega)) ?_
        | refine VA.take (i := 2) rfl (by kernel_rfl) (by kernel_rfl) (by kernel_rfl) rfl rfl (OpV.indexAddr_1 rfl Tryd.underlying27 Tryd.sizeOf9 rfl rfl (Int.toNat_of_nonneg (by omega)).symm (by omega)) ?_
        | refine VA.take (i := 2) rfl (by kernel_rfl) (by kernel_rfl) (by kernel_rfl) rfl rfl (OpV.indexAddr_o rfl Tryd.underlying27 Tryd.sizeOf9 rfl rfl rfl (by omega)) ?_
        | refine VA.take (i := 2) rfl (by kernel_rfl) (by kernel_rfl) (by kernel_rfl) rfl rfl (OpV.indexAddr_o rfl Tryd.underlying27 Tryd.sizeOf9 rfl rfl (Int.toNat_of_nonneg (by omega)).symm (by omega)) ?_
        | refine VA.take (i := 2) rfl (by kernel_rfl) (by kernel_rfl) (by kernel_rfl) rfl rfl (OpV.indexAddr_q rfl Tryd.underlying27 Tryd.sizeOf9 rfl rfl rfl (by omega)) ?_
        | refine VA.take (i := 2) rfl (by kernel_rfl) (by kernel_rfl) (by kernel_rfl) rfl rfl (OpV.indexAddr_q rfl Tryd.underlying27 Tryd.sizeOf9 rfl rfl (Int.toNat_of_nonneg (by omega)).symm (by omega)) ?_
        | refine VA.take (i := 2) rfl (by kernel_rfl) (by kernel_rfl) (by kernel_rfl) rfl rfl (OpV.indexAddr_im rfl Tryd.underlying27 Tryd.sizeOf9 rfl rfl (by omega) (by omega)) ?_
      refine VA.take (i := 3) rfl (by kernel_rfl) (by kernel_rfl) (by kernel_rfl) rfl rfl (OpV.load_at rfl hB OutW.wi0 Tryd.isAgg9 rfl rfl) ?_
      refine VA.take (i := 4) rfl (by kernel_rfl) (by kernel_rfl) (by kernel_rfl) rfl rfl (OpV.move (.inl rfl) rfl) ?_
      refine VA.take (i := 5) rfl (by kernel_rfl) (by kernel_rfl) (by kernel_rfl) rfl rfl (OpV.move (.inl rfl) rfl) ?_
      first
        | refine VA.take (i := 6) rfl (by kernel_rfl) (by kernel_rfl) (by kernel_rfl) rfl rfl (OpV.indexAddr_1 rfl Tryd.underlying27 Tryd.sizeOf9 rfl rfl rfl (by omega)) ?_
        | refine VA.take (i := 6) rfl (by kernel_rfl) (by kernel_rfl) (by kernel_rfl) rfl rfl (OpV.indexAddr_1 rfl Tryd.underlying27 Tryd.sizeOf9 rfl rfl (Int.toNat_of_nonneg (by omega)).symm (by omega)) ?_
        | refine VA.take (i := 6) rfl (by kernel_rfl) (by kernel_rfl) (by kernel_rfl) rfl rfl (OpV.indexAddr_o rfl Tryd.underlying27 Tryd.sizeOf9 rfl rfl rfl (by omega)) ?_
        | refine VA.take (i := 6) rfl (by kernel_rfl) (by kernel_rfl) (by kernel_rfl) rfl rfl (OpV.indexAddr_o rfl Tryd.underlying27 Tryd.sizeOf9 rfl rfl (Int.toNat_of_nonneg (by omega)).symm (by omega)) ?_
        | refine VA.take (i := 6) rfl (by kernel_rfl) (by kernel_rfl) (by kernel_rfl) rfl rfl (OpV.indexAddr_q rfl Tryd.underlying27 Tryd.sizeOf9 rfl rfl rfl (by omega)) ?_
        | refine VA.take (i := 6) rfl (by kernel_rfl) (by kernel_rfl) (by kernel_rfl) rfl rfl (OpV.indexAddr_q rfl Tryd.underlying27 Tryd.sizeOf9 rfl rfl (Int.toNat_of_nonneg (by omega)).symm (by omega)) ?_
        | refine VA.take (i := 6) rfl (by kernel_rfl) (by kernel_rfl) (by kernel_rfl) rfl rfl (OpV.indexAddr_im rfl Tryd.underlying27 Tryd.sizeOf9 rfl rfl (by omega) (by omega)) ?_
      refine VA.take (i := 7) rfl (by kernel_rfl) (by kernel_rfl) (by kernel_rfl) rfl rfl (OpV.load_at rfl hB OutW.wi0 Tryd.isAgg9 rfl rfl) ?_
      refine VA.take (i := 8) rfl (by kernel_rfl) (by kernel_rfl) (by kernel_rfl) rfl rfl (OpV.sneq rfl rfl rfl) ?_
      refine VA.done (by kernel_rfl) ?_
      show VC _ _ _ _ _
      refine VC.cond rfl (fun h2b => ?_) (fun h2b => ?_)
      · have h2 := h2b
        try simp only [decide_eq_true_eq, decide_eq_false_iff_not, Bool.not_eq_true', Bool.not_eq_false', Int.not_lt, Int.not_le] at h2
        refine VC.seq ?_
        refine VC.region ?_
        refine VO.val rfl rfl (OpV.move (.inr rfl) rfl) ?_
        refine VO.nil ?_
        show VC _ _ _ _ _
        refine VC.ret ?_
        exact Exists.intro _ (And.intro (RetN.one Tryd.results23 (ResN.v rfl)) (by first | rw [eqLs_len (by omega)] | rw [eqLs_at (d := ByteArray.empty) (q := q) (by omega) (not_true_false h2b)] | rw [eqLs_all (d := ByteArray.empty) (by omega) (fun j hj => hn j (by omega))]))
      · have h2 := h2b
        try simp only [decide_eq_true_eq, decide_eq_false_iff_not, Bool.not_eq_true', Bool.not_eq_false', Int.not_lt, Int.not_le] at h2
        refine VC.skip ?_
        show VC _ _ _ _ _
        refine VC.region ?_
        refine VO.val rfl rfl (OpV.add rfl rfl rfl (by unfold fits; omega)) ?_
        refine VO.val rfl rfl (OpV.move (.inl rfl) rfl) ?_
        refine VO.nil ?_
        exact Exists.intro (⟨q + 1, by omega, lt_succ_cases hn (not_false_true h2b)⟩) (And.intro (Le.mk hB [] ⟨rfl, rfl, rfl, rfl, trivial⟩ rfl rfl (Nat.le_refl _)) (by first | omega | (show _ < _; omega) | (simp only []; omega)))
    · have aH2 := aH2b
      try simp only [decide_eq_true_eq, decide_eq_false_iff_not, Bool.not_eq_true', Bool.not_eq_false', Int.not_lt, Int.not_le] at aH2
      refine VC.exit ?_
      show VC _ _ _ _ _
      refine VC.seq ?_
      refine VC.region ?_
      refine VO.val rfl rfl (OpV.move (.inr rfl) rfl) ?_
      refine VO.nil ?_
      show VC _ _ _ _ _
      refine VC.ret ?_
      exact Exists.intro _ (And.intro (RetN.one Tryd.results23 (ResN.v rfl)) (by first | rw [eqLs_len (by omega)] | rw [eqLs_at (d := ByteArray.empty) (q := q) (by omega) (not_true_false h2b)] | rw [eqLs_all (d := ByteArray.empty) (by omega) (fun j hj => hn j (by omega))]))
def eqC (x y : ChgS) : Bool := decide (x.slot = y.slot) && (sEq x.out y.out && (sEq x.inn y.inn && true))
theorem eqC_self (x : ChgS) : eqC x x = true := by simp [eqC, sEq_refl]
set_option maxRecDepth 100000 in
theorem slices_Equal_chg {xs ys : List ChgS} (hl : xs.length ≤ 1000000000) (hl' : ys.length ≤ 1000000000) :
    SpecN Tryd.prog 24 [avL xs, avL ys] (fun y => y = avB (eqLs eqC xs ys)) := by
  refine SpecN.of_VCN Tryd.func24 rfl Tryd.ntmps24 (Nat.le_of_ble_eq_true rfl) fun w A hB => ?_
  have hnew : True := trivial
  refine VC.seq ?_
  refine VC.region ?_
  refine VO.val rfl rfl (OpV.move (.inr rfl) rfl) ?_
  refine VO.nil ?_
  show VC _ _ _ _ _
  refine VC.seq ?_
  refine VC.seq ?_
  refine VC.region ?_
  refine VO.val rfl rfl (OpV.move (.inl rfl) rfl) ?_
  first
    | refine VO.val rfl rfl (OpV.len_im rfl Tryd.underlying36 rfl) ?_
    | refine VO.val rfl rfl (OpV.len_v rfl Tryd.underlying36 rfl) ?_
  refine VO.val rfl rfl (OpV.move (.inl rfl) rfl) ?_
  first
    | refine VO.val rfl rfl (OpV.len_im rfl Tryd.underlying36 rfl) ?_
    | refine VO.val rfl rfl (OpV.len_v rfl Tryd.underlying36 rfl) ?_
  refine VO.val rfl rfl (OpV.neq rfl rfl rfl) ?_
  refine VO.nil ?_
  show VC _ _ _ _ _
  refine VC.cond rfl (fun aH1b => ?_) (fun aH1b => ?_)
  · have aH1 := aH1b
    try simp only [decide_eq_true_eq, decide_eq_false_iff_not, Bool.not_eq_true', Bool.not_eq_false', Int.not_lt, Int.not_le] at aH1
    refine VC.seq ?_
    refine VC.region ?_
    refine VO.val rfl rfl (OpV.move (.inr rfl) rfl) ?_
    refine VO.nil ?_
    show VC _ _ _ _ _
    refine VC.ret ?_
    exact Exists.intro _ (And.intro (RetN.one Tryd.results24 (ResN.v rfl)) (by first | rw [eqLs_len (by omega)] | rw [eqLs_at (d := default) (q := q) (by omega) (not_true_false h2b)] | rw [eqLs_all (d := default) (by omega) (fun j hj => hn j (by omega))]))
  · have aH1 := aH1b
    try simp only [decide_eq_true_eq, decide_eq_false_iff_not, Bool.not_eq_true', Bool.not_eq_false', Int.not_lt, Int.not_le] at aH1
    refine VC.skip ?_
    show VC _ _ _ _ _
    refine VC.seq ?_
    refine VC.seq ?_
    refine VC.region ?_
    refine VO.val rfl rfl (OpV.move (.inl rfl) rfl) ?_
    first
      | refine VO.val rfl rfl (OpV.len_im rfl Tryd.underlying36 rfl) ?_
      | refine VO.val rfl rfl (OpV.len_v rfl Tryd.underlying36 rfl) ?_
    refine VO.val rfl rfl (OpV.move (.inl rfl) rfl) ?_
    refine VO.nil ?_
    show VC _ _ _ _ _
    refine VC.block ?_
    refine VC.loopK [(0, _), (1, _), (12, _)] ⟨rfl, rfl, rfl, trivial⟩ ({q : Nat // q ≤ xs.length ∧ ∀ j, j < q → eqC (xs.getD j default) (ys.getD j default) = true}) (fun (i : {q : Nat // q ≤ xs.length ∧ ∀ j, j < q → eqC (xs.getD j default) (ys.getD j default) = true}) => match i with | ⟨q, hq, hn⟩ => [(13, avI (q : Int))]) (fun (i : {q : Nat // q ≤ xs.length ∧ ∀ j, j < q → eqC (xs.getD j default) (ys.getD j default) = true}) => match i with | ⟨q, hq, hn⟩ => []) (fun (i : {q : Nat // q ≤ xs.length ∧ ∀ j, j < q → eqC (xs.getD j default) (ys.getD j default) = true}) => match i with | ⟨q, hq, hn⟩ => 0) (fun (i : {q : Nat // q ≤ xs.length ∧ ∀ j, j < q → eqC (xs.getD j default) (ys.getD j default) = true}) => match i with | ⟨q, hq, hn⟩ => xs.length - q) ⟨0, Nat.zero_le _, fun j hj => absurd hj (Nat.not_lt_zero j)⟩ (Le.mk hB [] ⟨rfl, rfl, rfl, rfl, trivial⟩ rfl rfl (Nat.le_refl _)) ?_
    rintro ⟨q, hq, hn⟩
    show VC _ _ _ _ ⟨[(13, avI (q : Int))] ++ [(0, _), (1, _), (12, _)], [], 0⟩
    refine VC.seq ?_
    refine VC.region ?_
    refine VO.val rfl rfl (OpV.lss rfl rfl rfl) ?_
    refine VO.nil ?_
    show VC _ _ _ _ _
    refine VC.seq ?_
    refine VC.cond rfl (fun aH2b => ?_) (fun aH2b => ?_)
    · have aH2 := aH2b
      try simp only [decide_eq_true_eq, decide_eq_false_iff_not, Bool.not_eq_true', Bool.not_eq_false', Int.not_lt, Int.not_le] at aH2
      refine VC.skip ?_
      show VC _ _ _ _ _
      refine VC.seq ?_
      refine VC.block ?_
      refine VC.seq ?_
      refine VC.region ?_
      refine VO.val rfl rfl (OpV.move (.inl rfl) rfl) ?_
      refine VO.val rfl rfl (OpV.move (.inr rfl) rfl) ?_
      refine VO.nil ?_
      show VC _ _ _ _ _
      refine VC.seq ?_
      refine VC.draw (fun _ => NoB) hB (by kernel_rfl) ?_
      refine VA.take (i := 0) rfl (by kernel_rfl) (by kernel_rfl) (by kernel_rfl) rfl rfl (OpV.move (.inl rfl) rfl) ?_
      refine VA.take (i := 1) rfl (by kernel_rfl) (by kernel_rfl) (by kernel_rfl) rfl rfl (OpV.move (.inl rfl) rfl) ?_
      first
        | refine VA.take (i := 2) rfl (by kernel_rfl) (by kernel_rfl) (by kernel_rfl) rfl rfl (OpV.indexAddr_E rfl Tryd.underlying36 Tryd.sizeOf51 rfl rfl rfl (by omega)) ?_
        | refine VA.take (i := 2) rfl (by kernel_rfl) (by kernel_rfl) (by kernel_rfl) rfl rfl (OpV.indexAddr_E rfl Tryd.underlying36 Tryd.sizeOf51 rfl rfl (Int.toNat_of_nonneg (by omega)).symm (by omega)) ?_
        | refine VA.take (i := 2) rfl (by kernel_rfl) (by kernel_rfl) (by kernel_rfl) rfl rfl (OpV.indexAddr_q rfl Tryd.underlying36 Tryd.sizeOf51 rfl rfl rfl (by omega)) ?_
        | refine VA.take (i := 2) rfl (by kernel_rfl) (by kernel_rfl) (by kernel_rfl) rfl rfl (OpV.indexAddr_q rfl Tryd.underlying36 Tryd.sizeOf51 rfl rfl (Int.toNat_of_nonneg (by omega)).symm (by omega)) ?_
        | refine VA.take (i := 2) rfl (by kernel_rfl) (by kernel_rfl) (by kernel_rfl) rfl rfl (OpV.indexAddr_im rfl Tryd.underlying36 Tryd.sizeOf51 rfl rfl (by omega) (by omega)) ?_
      refine VA.take (i := 3) rfl (by kernel_rfl) (by kernel_rfl) (by kernel_rfl) rfl rfl (OpV.loadK_at rfl hB OutW.wi0 Tryd.isAgg51 Tryd.sizeOf51 rfl rfl) ?_
      refine VA.take (i := 4) rfl (by kernel_rfl) (by kernel_rfl) (by kernel_rfl) rfl rfl (OpV.move (.inl rfl) rfl) ?_
      refine VA.take (i := 5) rfl (by kernel_rfl) (by kernel_rfl) (by kernel_rfl) rfl rfl (OpV.move (.inl rfl) rfl) ?_
      first
        | refine VA.take (i := 6) rfl (by kernel_rfl) (by kernel_rfl) (by kernel_rfl) rfl rfl (OpV.indexAddr_E rfl Tryd.underlying36 Tryd.sizeOf51 rfl rfl rfl (by omega)) ?_
        | refine VA.take (i := 6) rfl (by kernel_rfl) (by kernel_rfl) (by kernel_rfl) rfl rfl (OpV.indexAddr_E rfl Tryd.underlying36 Tryd.sizeOf51 rfl rfl (Int.toNat_of_nonneg (by omega)).symm (by omega)) ?_
        | refine VA.take (i := 6) rfl (by kernel_rfl) (by kernel_rfl) (by kernel_rfl) rfl rfl (OpV.indexAddr_q rfl Tryd.underlying36 Tryd.sizeOf51 rfl rfl rfl (by omega)) ?_
        | refine VA.take (i := 6) rfl (by kernel_rfl) (by kernel_rfl) (by kernel_rfl) rfl rfl (OpV.indexAddr_q rfl Tryd.underlying36 Tryd.sizeOf51 rfl rfl (Int.toNat_of_nonneg (by omega)).symm (by omega)) ?_
        | refine VA.take (i := 6) rfl (by kernel_rfl) (by kernel_rfl) (by kernel_rfl) rfl rfl (OpV.indexAddr_im rfl Tryd.underlying36 Tryd.sizeOf51 rfl rfl (by omega) (by omega)) ?_
      refine VA.take (i := 7) rfl (by kernel_rfl) (by kernel_rfl) (by kernel_rfl) rfl rfl (OpV.loadK_at rfl hB OutW.wi0 Tryd.isAgg51 Tryd.sizeOf51 rfl rfl) ?_
      refine VA.take (i := 8) rfl (by kernel_rfl) (by kernel_rfl) (by kernel_rfl) rfl rfl (OpV.aneq rfl Tryd.underlying51 (by kernel_rfl) (by kernel_rfl) rfl rfl (EqFs.int Tryd.underlying3 Tryd.isAgg3 rfl (by decide) (EqFs.str Tryd.underlying9 Tryd.isAgg9 rfl (by decide) (EqFs.str Tryd.underlying9 Tryd.isAgg9 rfl (by decide) (EqFs.nil _))))) ?_
      refine VA.done (by kernel_rfl) ?_
      show VC _ _ _ _ _
      refine VC.cond rfl (fun h2b => ?_) (fun h2b => ?_)
      · have h2 := h2b
        try simp only [decide_eq_true_eq, decide_eq_false_iff_not, Bool.not_eq_true', Bool.not_eq_false', Int.not_lt, Int.not_le] at h2
        refine VC.seq ?_
        refine VC.region ?_
        refine VO.val rfl rfl (OpV.move (.inr rfl) rfl) ?_
        refine VO.nil ?_
        show VC _ _ _ _ _
        refine VC.ret ?_
        exact Exists.intro _ (And.intro (RetN.one Tryd.results24 (ResN.v rfl)) (by first | rw [eqLs_len (by omega)] | rw [eqLs_at (d := default) (q := q) (by omega) (not_true_false h2b)] | rw [eqLs_all (d := default) (by omega) (fun j hj => hn j (by omega))]))
      · have h2 := h2b
        try simp only [decide_eq_true_eq, decide_eq_false_iff_not, Bool.not_eq_true', Bool.not_eq_false', Int.not_lt, Int.not_le] at h2
        refine VC.skip ?_
        show VC _ _ _ _ _
        refine VC.region ?_
        refine VO.val rfl rfl (OpV.add rfl rfl rfl (by unfold fits; omega)) ?_
        refine VO.val rfl rfl (OpV.move (.inl rfl) rfl) ?_
        refine VO.nil ?_
        exact Exists.intro (⟨q + 1, by omega, lt_succ_cases hn (not_false_true h2b)⟩) (And.intro (Le.mk hB [] ⟨rfl, rfl, rfl, rfl, trivial⟩ rfl rfl (Nat.le_refl _)) (by first | omega | (show _ < _; omega) | (simp only []; omega)))
    · have aH2 := aH2b
      try simp only [decide_eq_true_eq, decide_eq_false_iff_not, Bool.not_eq_true', Bool.not_eq_false', Int.not_lt, Int.not_le] at aH2
      refine VC.exit ?_
      show VC _ _ _ _ _
      refine VC.seq ?_
      refine VC.region ?_
      refine VO.val rfl rfl (OpV.move (.inr rfl) rfl) ?_
      refine VO.nil ?_
      show VC _ _ _ _ _
      refine VC.ret ?_
      exact Exists.intro _ (And.intro (RetN.one Tryd.results24 (ResN.v rfl)) (by first | rw [eqLs_len (by omega)] | rw [eqLs_at (d := default) (q := q) (by omega) (not_true_false h2b)] | rw [eqLs_all (d := default) (by omega) (fun j hj => hn j (by omega))]))
def loadS : List ByteArray := [ε]
def loadP : List (List ByteArray) := [[⟨#[97]⟩], [⟨#[98]⟩]]
theorem load_sms : SmS loadS := ⟨by decide, fun i => by cases i with | zero => decide | succ i => simp [loadS]⟩
theorem load_smss : SmSS loadP := ⟨by decide, fun i => by
  match i with
  | 0 => exact ⟨by decide, fun i => by cases i with | zero => decide | succ i => simp [loadP]⟩
  | 1 => exact ⟨by decide, fun i => by cases i with | zero => decide | succ i => simp [loadP]⟩
  | i + 2 => exact SmS.nil⟩
theorem load_ok : setsF loadS loadP = 0 := by decide +kernel
theorem load_two : totE loadS loadP = 2 := by decide +kernel
set_option maxRecDepth 100000 in
theorem rf_loaded   :
    SpecN Tryd.prog 25 [] (fun y => y = avB true) := by
  refine SpecN.of_VCN Tryd.func25 rfl Tryd.ntmps25 (Nat.le_of_ble_eq_true rfl) fun w A hB => ?_
  have hnew : True := trivial
  refine VC.seq ?_
  refine VC.region ?_
  refine VO.val rfl rfl (OpV.move (.inr rfl) rfl) ?_
  refine VO.nil ?_
  show VC _ _ _ _ _
  refine VC.seq ?_
  refine VC.region ?_
  refine VO.op rfl (OpE.buildSlice (zc := #[.string ⟨#[]⟩]) rfl hB rfl Tryd.underlying27 Tryd.sizeOf9 Tryd.zeroValue9 (by decide) (by decide) (by kernel_rfl) rfl rfl ?_)
  refine VO.le _ (Le.recast (t := 4) (y := avStrs loadS) rfl (fun w Z u h => Rep.strs (xs := loadS) rfl h)) ?_
  refine VO.op rfl (OpE.buildSlice (zc := #[.string ⟨#[]⟩]) rfl hB rfl Tryd.underlying27 Tryd.sizeOf9 Tryd.zeroValue9 (by decide) (by decide) (by kernel_rfl) rfl rfl ?_)
  refine VO.le _ (Le.recast (t := 5) (y := avStrs [⟨#[97]⟩]) rfl (fun w Z u h => Rep.strs (xs := [⟨#[97]⟩]) rfl h)) ?_
  refine VO.op rfl (OpE.buildSlice (zc := #[.string ⟨#[]⟩]) rfl hB rfl Tryd.underlying27 Tryd.sizeOf9 Tryd.zeroValue9 (by decide) (by decide) (by kernel_rfl) rfl rfl ?_)
  refine VO.le _ (Le.recast (t := 6) (y := avStrs [⟨#[98]⟩]) rfl (fun w Z u h => Rep.strs (xs := [⟨#[98]⟩]) rfl h)) ?_
  refine VO.op rfl (OpE.buildSlice (zc := #[.slice none 0 0, .slice none 0 0]) rfl hB rfl Tryd.underlying30 Tryd.sizeOf27 Tryd.zeroValue27 (by decide) (by decide) (by kernel_rfl) rfl rfl ?_)
  refine VO.le _ (Le.recast (t := 7) (y := avM loadP) rfl (fun w Z u h => Rep.listM (xs := loadP) rfl h)) ?_
  refine VO.op rfl (OpE.call rfl hB rfl Tryd.call36 rfl (SpecN.spec (setup_Total load_sms load_smss)) ?_)
  rintro _ rfl
  refine VO.val rfl rfl (OpV.move (.inl rfl) rfl) ?_
  first
    | refine VO.val rfl rfl (OpV.extract rfl rfl rfl) ?_
    | refine VO.val rfl rfl (OpV.extract_v rfl rfl rfl) ?_
  first
    | refine VO.val rfl rfl (OpV.extract rfl rfl rfl) ?_
    | refine VO.val rfl rfl (OpV.extract_v rfl rfl rfl) ?_
  refine VO.val rfl rfl (OpV.move (.inr rfl) rfl) ?_
  refine VO.val rfl rfl (OpV.move (.inr rfl) rfl) ?_
  refine VO.nil ?_
  show VC _ _ _ _ _
  refine VC.seq ?_
  refine VC.region ?_
  refine VO.val rfl rfl (OpV.move (.inl rfl) rfl) ?_
  refine VO.val rfl rfl (OpV.eql rfl rfl rfl) ?_
  refine VO.val rfl rfl (OpV.move (.inl rfl) rfl) ?_
  refine VO.opG rfl rfl rfl rfl (fun aK1b => ?_) (fun aK1b => ?_)
  · replace aK1b : _ = true := aK1b
    have aK1 := aK1b
    try simp only [decide_eq_true_eq, decide_eq_false_iff_not, Bool.not_eq_true', Bool.not_eq_false', Int.not_lt, Int.not_le] at aK1
    refine OpE.val (W := NoB) (OpV.move (.inl rfl) rfl) rfl ?_
    refine VO.opY rfl rfl rfl rfl aK1b ?_
    refine OpE.val (W := NoB) (OpV.eql rfl rfl rfl) rfl ?_
    refine VO.val rfl rfl (OpV.pickT rfl rfl rfl rfl aK1b) ?_
    refine VO.val rfl rfl (OpV.move (.inr rfl) rfl) ?_
    refine VO.nil ?_
    show VC _ _ _ _ _
    refine VC.ret ?_
    exact Exists.intro _ (And.intro (RetN.one Tryd.results25 (ResN.v rfl)) (by first | rfl | (rw [load_two, load_ok]; rfl) | (simp_all [load_two, load_ok])))
  · replace aK1b : _ = false := aK1b
    have aK1 := aK1b
    try simp only [decide_eq_true_eq, decide_eq_false_iff_not, Bool.not_eq_true', Bool.not_eq_false', Int.not_lt, Int.not_le] at aK1
    refine VO.opX rfl rfl rfl rfl aK1b ?_
    refine VO.val rfl rfl (OpV.pickF rfl rfl rfl rfl aK1b) ?_
    refine VO.val rfl rfl (OpV.move (.inr rfl) rfl) ?_
    refine VO.nil ?_
    show VC _ _ _ _ _
    refine VC.ret ?_
    exact Exists.intro _ (And.intro (RetN.one Tryd.results25 (ResN.v rfl)) (by first | rfl | (rw [load_two, load_ok]; rfl) | (simp_all [load_two, load_ok])))
end Go.Proofs.YtpajnlcikmhpdaaDoor
