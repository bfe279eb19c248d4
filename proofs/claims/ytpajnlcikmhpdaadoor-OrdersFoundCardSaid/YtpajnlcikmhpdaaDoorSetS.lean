/- Walks: setups and parts compared. -/
import Derived.Test.YtpajnlcikmhpdaaDoorNext
import Derived.Test.YtpajnlcikmhpdaaDoorSlicesS
import Derived.Test.YtpajnlcikmhpdaaDoorCloneS
import Derived.Test.YtpajnlcikmhpdaaDoorStrOrd
namespace Go.Proofs.YtpajnlcikmhpdaaDoor
open Go.RowKit
set_option linter.unusedVariables false
set_option linter.unusedSimpArgs false

/-- No string of the list is very long. -/
def SmS (s : List ByteArray) : Prop := s.length ≤ 1000000000 ∧ ∀ i, (s.getD i ByteArray.empty).size ≤ 1000000000
def SmSS (p : List (List ByteArray)) : Prop := p.length ≤ 1000000000 ∧ ∀ i, SmS (p.getD i default)
theorem has_def (s : List ByteArray) (x : ByteArray) : (s.any fun y => sEq x y) = has s x := rfl
set_option maxRecDepth 100000 in
theorem setup_CheckSetup {s : List ByteArray} (hs : SmS s) :
    SpecN Tryd.prog 21 [avStrs s] (fun y => y = avI (setupF s)) := by
  have hl := hs.1
  refine SpecN.of_VCN Tryd.func21 rfl Tryd.ntmps21 (Nat.le_of_ble_eq_true rfl) fun w A hB => ?_
  have hnew : True := trivial
  refine VC.seq ?_
  refine VC.region ?_
  refine VO.val rfl rfl (OpV.move (.inr rfl) rfl) ?_
  refine VO.nil ?_
  show VC _ _ _ _ _
  refine VC.seq ?_
  refine VC.seq ?_
  refine VC.region ?_
  refine VO.val rfl rfl (OpV.move (.inl rfl) rfl) ?_
  first
    | refine VO.val rfl rfl (OpV.len_im rfl Tryd.underlying27 rfl) ?_
    | refine VO.val rfl rfl (OpV.len_v rfl Tryd.underlying27 rfl) ?_
  refine VO.val rfl rfl (OpV.eql rfl rfl rfl) ?_
  refine VO.nil ?_
  show VC _ _ _ _ _
  refine VC.cond rfl (fun aH1b => ?_) (fun aH1b => ?_)
  · have aH1 := aH1b
    try simp only [decide_eq_true_eq, decide_eq_false_iff_not, Bool.not_eq_true', Bool.not_eq_false', Int.not_lt, Int.not_le] at aH1
    refine VC.seq ?_
    refine VC.region ?_
    refine VO.val rfl rfl (OpV.move (.inr rfl) rfl) ?_
    refine VO.nil ?_
    show VC _ _ _ _ _
    refine VC.ret ?_
    exact Exists.intro _ (And.intro (RetN.one Tryd.results21 (ResN.v rfl)) (by rw [setupF_none (by omega)]))
  · have aH1 := aH1b
    try simp only [decide_eq_true_eq, decide_eq_false_iff_not, Bool.not_eq_true', Bool.not_eq_false', Int.not_lt, Int.not_le] at aH1
    refine VC.skip ?_
    show VC _ _ _ _ _
    refine VC.seq ?_
    refine VC.seq ?_
    refine VC.region ?_
    refine VO.val rfl rfl (OpV.move (.inl rfl) rfl) ?_
    first
      | refine VO.val rfl rfl (OpV.len_im rfl Tryd.underlying27 rfl) ?_
      | refine VO.val rfl rfl (OpV.len_v rfl Tryd.underlying27 rfl) ?_
    refine VO.val rfl rfl (OpV.gtr rfl rfl rfl) ?_
    refine VO.nil ?_
    show VC _ _ _ _ _
    refine VC.cond rfl (fun aH2b => ?_) (fun aH2b => ?_)
    · have aH2 := aH2b
      try simp only [decide_eq_true_eq, decide_eq_false_iff_not, Bool.not_eq_true', Bool.not_eq_false', Int.not_lt, Int.not_le] at aH2
      refine VC.seq ?_
      refine VC.region ?_
      refine VO.val rfl rfl (OpV.move (.inr rfl) rfl) ?_
      refine VO.nil ?_
      show VC _ _ _ _ _
      refine VC.ret ?_
      exact Exists.intro _ (And.intro (RetN.one Tryd.results21 (ResN.v rfl)) (by rw [setupF_big (by omega)]))
    · have aH2 := aH2b
      try simp only [decide_eq_true_eq, decide_eq_false_iff_not, Bool.not_eq_true', Bool.not_eq_false', Int.not_lt, Int.not_le] at aH2
      refine VC.skip ?_
      show VC _ _ _ _ _
      refine VC.seq ?_
      refine VC.seq ?_
      refine VC.region ?_
      refine VO.val rfl rfl (OpV.move (.inl rfl) rfl) ?_
      first
        | refine VO.val rfl rfl (OpV.len_im rfl Tryd.underlying27 rfl) ?_
        | refine VO.val rfl rfl (OpV.len_v rfl Tryd.underlying27 rfl) ?_
      refine VO.val rfl rfl (OpV.move (.inl rfl) rfl) ?_
      refine VO.nil ?_
      show VC _ _ _ _ _
      refine VC.block ?_
      refine VC.loopK [(0, _), (11, _), (12, _)] ⟨rfl, rfl, rfl, trivial⟩ ({q : Nat // q ≤ s.length ∧ ∀ j, j < q → setupE s j = 0}) (fun (i : {q : Nat // q ≤ s.length ∧ ∀ j, j < q → setupE s j = 0}) => match i with | ⟨q, hq, hn⟩ => [(13, avI (q : Int))]) (fun (i : {q : Nat // q ≤ s.length ∧ ∀ j, j < q → setupE s j = 0}) => match i with | ⟨q, hq, hn⟩ => []) (fun (i : {q : Nat // q ≤ s.length ∧ ∀ j, j < q → setupE s j = 0}) => match i with | ⟨q, hq, hn⟩ => 0) (fun (i : {q : Nat // q ≤ s.length ∧ ∀ j, j < q → setupE s j = 0}) => match i with | ⟨q, hq, hn⟩ => s.length - q) ⟨0, Nat.zero_le _, fun j hj => absurd hj (Nat.not_lt_zero j)⟩ (Le.mk hB [] ⟨rfl, rfl, rfl, rfl, trivial⟩ rfl rfl (Nat.le_refl _)) ?_
      rintro ⟨q, hq, hn⟩
      show VC _ _ _ _ ⟨[(13, avI (q : Int))] ++ [(0, _), (11, _), (12, _)], [], 0⟩
      refine VC.seq ?_
      refine VC.region ?_
      refine VO.val rfl rfl (OpV.lss rfl rfl rfl) ?_
      refine VO.nil ?_
      show VC _ _ _ _ _
      refine VC.seq ?_
      refine VC.cond rfl (fun aH3b => ?_) (fun aH3b => ?_)
      · have aH3 := aH3b
        try simp only [decide_eq_true_eq, decide_eq_false_iff_not, Bool.not_eq_true', Bool.not_eq_false', Int.not_lt, Int.not_le] at aH3
        refine VC.skip ?_
        show VC _ _ _ _ _
        refine VC.seq ?_
        refine VC.block ?_
        refine VC.seq ?_
        refine VC.region ?_
        refine VO.val rfl rfl (OpV.move (.inl rfl) rfl) ?_
        first
          | refine VO.val rfl rfl (OpV.indexAddr_1 rfl Tryd.underlying27 Tryd.sizeOf9 rfl rfl rfl (by omega)) ?_
          | refine VO.val rfl rfl (OpV.indexAddr_1 rfl Tryd.underlying27 Tryd.sizeOf9 rfl rfl (Int.toNat_of_nonneg (by omega)).symm (by omega)) ?_
          | refine VO.val rfl rfl (OpV.indexAddr_o rfl Tryd.underlying27 Tryd.sizeOf9 rfl rfl rfl (by omega)) ?_
          | refine VO.val rfl rfl (OpV.indexAddr_o rfl Tryd.underlying27 Tryd.sizeOf9 rfl rfl (Int.toNat_of_nonneg (by omega)).symm (by omega)) ?_
          | refine VO.val rfl rfl (OpV.indexAddr_q rfl Tryd.underlying27 Tryd.sizeOf9 rfl rfl rfl (by omega)) ?_
          | refine VO.val rfl rfl (OpV.indexAddr_q rfl Tryd.underlying27 Tryd.sizeOf9 rfl rfl (Int.toNat_of_nonneg (by omega)).symm (by omega)) ?_
          | refine VO.val rfl rfl (OpV.indexAddr_im rfl Tryd.underlying27 Tryd.sizeOf9 rfl rfl (by omega) (by omega)) ?_
        refine VO.val rfl rfl (OpV.load_at rfl hB OutW.no Tryd.isAgg9 rfl rfl) ?_
        refine VO.val rfl rfl (OpV.move (.inr rfl) rfl) ?_
        refine VO.val rfl rfl (OpV.move (.inr rfl) rfl) ?_
        refine VO.nil ?_
        show VC _ _ _ _ _
        refine VC.block ?_
        refine VC.seq ?_
        refine VC.region ?_
        refine VO.val rfl rfl (OpV.move (.inl rfl) rfl) ?_
        refine VO.val rfl rfl (OpV.seql rfl rfl rfl) ?_
        refine VO.val rfl rfl (OpV.move (.inr rfl) rfl) ?_
        refine VO.nil ?_
        show VC _ _ _ _ _
        refine VC.cond rfl (fun h3b => ?_) (fun h3b => ?_)
        · have h3 := h3b
          try simp only [decide_eq_true_eq, decide_eq_false_iff_not, Bool.not_eq_true', Bool.not_eq_false', Int.not_lt, Int.not_le] at h3
          refine VC.skip ?_
          show VC _ _ _ _ _
          refine VC.region ?_
          refine VO.val rfl rfl (OpV.add rfl rfl rfl (by unfold fits; omega)) ?_
          refine VO.val rfl rfl (OpV.move (.inl rfl) rfl) ?_
          refine VO.nil ?_
          first
            | exact Exists.intro (⟨q + 1, by omega, lt_succ_cases hn (setupE_e h3b)⟩) (And.intro (Le.mk hB [] ⟨rfl, rfl, rfl, rfl, trivial⟩ rfl rfl (Nat.le_refl _)) (by first | omega | (show _ < _; omega) | (simp only []; omega)))
            | exact Exists.intro (⟨q + 1, by omega, lt_succ_cases hn (setupE_0 h3b h4 h5)⟩) (And.intro (Le.mk hB [] ⟨rfl, rfl, rfl, rfl, trivial⟩ rfl rfl (Nat.le_refl _)) (by first | omega | (show _ < _; omega) | (simp only []; omega)))
        · have h3 := h3b
          try simp only [decide_eq_true_eq, decide_eq_false_iff_not, Bool.not_eq_true', Bool.not_eq_false', Int.not_lt, Int.not_le] at h3
          refine VC.seq ?_
          refine VC.region ?_
          refine VO.val rfl rfl (OpV.move (.inl rfl) rfl) ?_
          refine VO.op rfl (OpE.call rfl hB rfl Tryd.call53 rfl (SpecN.spec (kit_IsKey (hs.2 _))) ?_)
          rintro _ rfl
          refine VO.val rfl rfl (OpV.not rfl rfl) ?_
          refine VO.val rfl rfl (OpV.move (.inr rfl) rfl) ?_
          refine VO.nil ?_
          show VC _ _ _ _ _
          refine VC.cond rfl (fun h4b => ?_) (fun h4b => ?_)
          · have h4 := h4b
            try simp only [decide_eq_true_eq, decide_eq_false_iff_not, Bool.not_eq_true', Bool.not_eq_false', Int.not_lt, Int.not_le] at h4
            refine VC.seq ?_
            refine VC.region ?_
            refine VO.val rfl rfl (OpV.move (.inr rfl) rfl) ?_
            refine VO.nil ?_
            show VC _ _ _ _ _
            refine VC.ret ?_
            exact Exists.intro _ (And.intro (RetN.one Tryd.results21 (ResN.v rfl)) (by rw [setupF_at (by omega) (by omega) (by omega) hn (setupE_5 h3b h4) (by decide)]))
          · have h4 := h4b
            try simp only [decide_eq_true_eq, decide_eq_false_iff_not, Bool.not_eq_true', Bool.not_eq_false', Int.not_lt, Int.not_le] at h4
            refine VC.seq ?_
            refine VC.region ?_
            refine VO.val rfl rfl (OpV.move (.inl rfl) rfl) ?_
            refine VO.val rfl rfl (OpV.move (.inl rfl) rfl) ?_
            first
              | refine VO.val rfl rfl (OpV.slice_ints (h := q) rfl Tryd.underlying27 Tryd.sizeOf9 rfl rfl ⟨_, _, rfl, rfl⟩ (by omega) (by omega)) ?_
              | refine VO.val rfl rfl (OpV.slice_strs (h := q) rfl Tryd.underlying27 Tryd.sizeOf9 rfl rfl ⟨_, _, rfl, rfl⟩ (by omega) (by omega)) ?_
              | refine VO.val rfl rfl (OpV.slice_M (h := q) rfl Tryd.underlying27 Tryd.sizeOf9 rfl rfl ⟨_, _, rfl, rfl⟩ (by omega) (by omega)) ?_
              | refine VO.val rfl rfl (OpV.slice_L (h := q) rfl Tryd.underlying27 Tryd.sizeOf9 rfl rfl ⟨_, _, rfl, rfl⟩ (by omega) (by omega)) ?_
              | refine VO.val rfl rfl (OpV.slice_im (h := q) rfl Tryd.underlying27 Tryd.sizeOf9 rfl rfl ⟨_, _, rfl, rfl⟩ (by omega) (by omega)) ?_
            refine VO.val rfl rfl (OpV.move (.inl rfl) rfl) ?_
            refine VO.op rfl (OpE.call rfl hB rfl Tryd.call43 rfl (SpecN.spec (slices_Contains_str (by rw [len_cut (by omega)]; omega))) ?_)
            rintro _ rfl
            refine VO.val rfl rfl (OpV.move (.inr rfl) rfl) ?_
            refine VO.nil ?_
            show VC _ _ _ _ _
            refine VC.cond rfl (fun h5b => ?_) (fun h5b => ?_)
            · have h5 := h5b
              try simp only [decide_eq_true_eq, decide_eq_false_iff_not, Bool.not_eq_true', Bool.not_eq_false', Int.not_lt, Int.not_le] at h5
              refine VC.seq ?_
              refine VC.region ?_
              refine VO.val rfl rfl (OpV.move (.inr rfl) rfl) ?_
              refine VO.nil ?_
              show VC _ _ _ _ _
              refine VC.ret ?_
              exact Exists.intro _ (And.intro (RetN.one Tryd.results21 (ResN.v rfl)) (by rw [setupF_at (by omega) (by omega) (by omega) hn (setupE_6 h3b h4 h5) (by decide)]))
            · have h5 := h5b
              try simp only [decide_eq_true_eq, decide_eq_false_iff_not, Bool.not_eq_true', Bool.not_eq_false', Int.not_lt, Int.not_le] at h5
              refine VC.skip ?_
              show VC _ _ _ _ _
              refine VC.region ?_
              refine VO.val rfl rfl (OpV.add rfl rfl rfl (by unfold fits; omega)) ?_
              refine VO.val rfl rfl (OpV.move (.inl rfl) rfl) ?_
              refine VO.nil ?_
              first
                | exact Exists.intro (⟨q + 1, by omega, lt_succ_cases hn (setupE_e h3b)⟩) (And.intro (Le.mk hB [] ⟨rfl, rfl, rfl, rfl, trivial⟩ rfl rfl (Nat.le_refl _)) (by first | omega | (show _ < _; omega) | (simp only []; omega)))
                | exact Exists.intro (⟨q + 1, by omega, lt_succ_cases hn (setupE_0 h3b h4 h5)⟩) (And.intro (Le.mk hB [] ⟨rfl, rfl, rfl, rfl, trivial⟩ rfl rfl (Nat.le_refl _)) (by first | omega | (show _ < _; omega) | (simp only []; omega)))
      · have aH3 := aH3b
        try simp only [decide_eq_true_eq, decide_eq_false_iff_not, Bool.not_eq_true', Bool.not_eq_false', Int.not_lt, Int.not_le] at aH3
        refine VC.exit ?_
        show VC _ _ _ _ _
        refine VC.seq ?_
        refine VC.region ?_
        refine VO.val rfl rfl (OpV.move (.inr rfl) rfl) ?_
        refine VO.nil ?_
        show VC _ _ _ _ _
        refine VC.ret ?_
        exact Exists.intro _ (And.intro (RetN.one Tryd.results21 (ResN.v rfl)) (by rw [setupF_ok (by omega) (by omega) (fun j hj => hn j (by omega))]))
set_option maxRecDepth 100000 in
theorem rf_SetupFault {s : List ByteArray} (hs : SmS s) :
    SpecN Tryd.prog 14 [avStrs s] (fun y => y = avI (setupF s)) := by
  have hl := hs.1
  refine SpecN.of_VCN Tryd.func14 rfl Tryd.ntmps14 (Nat.le_of_ble_eq_true rfl) fun w A hB => ?_
  have hnew : True := trivial
  refine VC.seq ?_
  refine VC.region ?_
  refine VO.val rfl rfl (OpV.move (.inr rfl) rfl) ?_
  refine VO.nil ?_
  show VC _ _ _ _ _
  refine VC.seq ?_
  refine VC.block ?_
  refine VC.seq ?_
  refine VC.region ?_
  refine VO.val rfl rfl (OpV.move (.inl rfl) rfl) ?_
  first
    | refine VO.val rfl rfl (OpV.len_im rfl Tryd.underlying27 rfl) ?_
    | refine VO.val rfl rfl (OpV.len_v rfl Tryd.underlying27 rfl) ?_
  refine VO.val rfl rfl (OpV.eql rfl rfl rfl) ?_
  refine VO.val rfl rfl (OpV.move (.inr rfl) rfl) ?_
  refine VO.nil ?_
  show VC _ _ _ _ _
  refine VC.cond rfl (fun aH1b => ?_) (fun aH1b => ?_)
  · have aH1 := aH1b
    try simp only [decide_eq_true_eq, decide_eq_false_iff_not, Bool.not_eq_true', Bool.not_eq_false', Int.not_lt, Int.not_le] at aH1
    refine VC.seq ?_
    refine VC.region ?_
    refine VO.val rfl rfl (OpV.move (.inr rfl) rfl) ?_
    refine VO.nil ?_
    show VC _ _ _ _ _
    refine VC.ret ?_
    exact Exists.intro _ (And.intro (RetN.one Tryd.results14 (ResN.v rfl)) (by rw [setupF_none (by omega)]))
  · have aH1 := aH1b
    try simp only [decide_eq_true_eq, decide_eq_false_iff_not, Bool.not_eq_true', Bool.not_eq_false', Int.not_lt, Int.not_le] at aH1
    refine VC.seq ?_
    refine VC.region ?_
    refine VO.val rfl rfl (OpV.move (.inl rfl) rfl) ?_
    first
      | refine VO.val rfl rfl (OpV.len_im rfl Tryd.underlying27 rfl) ?_
      | refine VO.val rfl rfl (OpV.len_v rfl Tryd.underlying27 rfl) ?_
    refine VO.val rfl rfl (OpV.gtr rfl rfl rfl) ?_
    refine VO.val rfl rfl (OpV.move (.inr rfl) rfl) ?_
    refine VO.nil ?_
    show VC _ _ _ _ _
    refine VC.cond rfl (fun aH2b => ?_) (fun aH2b => ?_)
    · have aH2 := aH2b
      try simp only [decide_eq_true_eq, decide_eq_false_iff_not, Bool.not_eq_true', Bool.not_eq_false', Int.not_lt, Int.not_le] at aH2
      refine VC.seq ?_
      refine VC.region ?_
      refine VO.val rfl rfl (OpV.move (.inr rfl) rfl) ?_
      refine VO.nil ?_
      show VC _ _ _ _ _
      refine VC.ret ?_
      exact Exists.intro _ (And.intro (RetN.one Tryd.results14 (ResN.v rfl)) (by rw [setupF_big (by omega)]))
    · have aH2 := aH2b
      try simp only [decide_eq_true_eq, decide_eq_false_iff_not, Bool.not_eq_true', Bool.not_eq_false', Int.not_lt, Int.not_le] at aH2
      refine VC.skip ?_
      show VC _ _ _ _ _
      refine VC.seq ?_
      refine VC.seq ?_
      refine VC.region ?_
      refine VO.val rfl rfl (OpV.move (.inl rfl) rfl) ?_
      first
        | refine VO.val rfl rfl (OpV.len_im rfl Tryd.underlying27 rfl) ?_
        | refine VO.val rfl rfl (OpV.len_v rfl Tryd.underlying27 rfl) ?_
      refine VO.val rfl rfl (OpV.move (.inl rfl) rfl) ?_
      refine VO.nil ?_
      show VC _ _ _ _ _
      refine VC.block ?_
      refine VC.loopK [(0, _), (13, _), (14, _)] ⟨rfl, rfl, rfl, trivial⟩ ({q : Nat // q ≤ s.length ∧ ∀ j, j < q → setupE s j = 0}) (fun (i : {q : Nat // q ≤ s.length ∧ ∀ j, j < q → setupE s j = 0}) => match i with | ⟨q, hq, hn⟩ => [(15, avI (q : Int))]) (fun (i : {q : Nat // q ≤ s.length ∧ ∀ j, j < q → setupE s j = 0}) => match i with | ⟨q, hq, hn⟩ => []) (fun (i : {q : Nat // q ≤ s.length ∧ ∀ j, j < q → setupE s j = 0}) => match i with | ⟨q, hq, hn⟩ => 0) (fun (i : {q : Nat // q ≤ s.length ∧ ∀ j, j < q → setupE s j = 0}) => match i with | ⟨q, hq, hn⟩ => s.length - q) ⟨0, Nat.zero_le _, fun j hj => absurd hj (Nat.not_lt_zero j)⟩ (Le.mk hB [] ⟨rfl, rfl, rfl, rfl, trivial⟩ rfl rfl (Nat.le_refl _)) ?_
      rintro ⟨q, hq, hn⟩
      show VC _ _ _ _ ⟨[(15, avI (q : Int))] ++ [(0, _), (13, _), (14, _)], [], 0⟩
      refine VC.seq ?_
      refine VC.region ?_
      refine VO.val rfl rfl (OpV.lss rfl rfl rfl) ?_
      refine VO.nil ?_
      show VC _ _ _ _ _
      refine VC.seq ?_
      refine VC.cond rfl (fun aH3b => ?_) (fun aH3b => ?_)
      · have aH3 := aH3b
        try simp only [decide_eq_true_eq, decide_eq_false_iff_not, Bool.not_eq_true', Bool.not_eq_false', Int.not_lt, Int.not_le] at aH3
        refine VC.skip ?_
        show VC _ _ _ _ _
        refine VC.seq ?_
        refine VC.block ?_
        refine VC.seq ?_
        refine VC.region ?_
        refine VO.val rfl rfl (OpV.move (.inl rfl) rfl) ?_
        first
          | refine VO.val rfl rfl (OpV.indexAddr_1 rfl Tryd.underlying27 Tryd.sizeOf9 rfl rfl rfl (by omega)) ?_
          | refine VO.val rfl rfl (OpV.indexAddr_1 rfl Tryd.underlying27 Tryd.sizeOf9 rfl rfl (Int.toNat_of_nonneg (by omega)).symm (by omega)) ?_
          | refine VO.val rfl rfl (OpV.indexAddr_o rfl Tryd.underlying27 Tryd.sizeOf9 rfl rfl rfl (by omega)) ?_
          | refine VO.val rfl rfl (OpV.indexAddr_o rfl Tryd.underlying27 Tryd.sizeOf9 rfl rfl (Int.toNat_of_nonneg (by omega)).symm (by omega)) ?_
          | refine VO.val rfl rfl (OpV.indexAddr_q rfl Tryd.underlying27 Tryd.sizeOf9 rfl rfl rfl (by omega)) ?_
          | refine VO.val rfl rfl (OpV.indexAddr_q rfl Tryd.underlying27 Tryd.sizeOf9 rfl rfl (Int.toNat_of_nonneg (by omega)).symm (by omega)) ?_
          | refine VO.val rfl rfl (OpV.indexAddr_im rfl Tryd.underlying27 Tryd.sizeOf9 rfl rfl (by omega) (by omega)) ?_
        refine VO.val rfl rfl (OpV.load_at rfl hB OutW.no Tryd.isAgg9 rfl rfl) ?_
        refine VO.val rfl rfl (OpV.move (.inr rfl) rfl) ?_
        refine VO.val rfl rfl (OpV.move (.inr rfl) rfl) ?_
        refine VO.nil ?_
        show VC _ _ _ _ _
        refine VC.block ?_
        refine VC.seq ?_
        refine VC.region ?_
        refine VO.val rfl rfl (OpV.move (.inl rfl) rfl) ?_
        refine VO.val rfl rfl (OpV.seql rfl rfl rfl) ?_
        refine VO.val rfl rfl (OpV.move (.inr rfl) rfl) ?_
        refine VO.nil ?_
        show VC _ _ _ _ _
        refine VC.cond rfl (fun h3b => ?_) (fun h3b => ?_)
        · have h3 := h3b
          try simp only [decide_eq_true_eq, decide_eq_false_iff_not, Bool.not_eq_true', Bool.not_eq_false', Int.not_lt, Int.not_le] at h3
          refine VC.skip ?_
          show VC _ _ _ _ _
          refine VC.region ?_
          refine VO.val rfl rfl (OpV.add rfl rfl rfl (by unfold fits; omega)) ?_
          refine VO.val rfl rfl (OpV.move (.inl rfl) rfl) ?_
          refine VO.nil ?_
          first
            | exact Exists.intro (⟨q + 1, by omega, lt_succ_cases hn (setupE_e h3b)⟩) (And.intro (Le.mk hB [] ⟨rfl, rfl, rfl, rfl, trivial⟩ rfl rfl (Nat.le_refl _)) (by first | omega | (show _ < _; omega) | (simp only []; omega)))
            | exact Exists.intro (⟨q + 1, by omega, lt_succ_cases hn (setupE_0 h3b h4 h5)⟩) (And.intro (Le.mk hB [] ⟨rfl, rfl, rfl, rfl, trivial⟩ rfl rfl (Nat.le_refl _)) (by first | omega | (show _ < _; omega) | (simp only []; omega)))
        · have h3 := h3b
          try simp only [decide_eq_true_eq, decide_eq_false_iff_not, Bool.not_eq_true', Bool.not_eq_false', Int.not_lt, Int.not_le] at h3
          refine VC.seq ?_
          refine VC.region ?_
          refine VO.val rfl rfl (OpV.move (.inl rfl) rfl) ?_
          refine VO.op rfl (OpE.call rfl hB rfl Tryd.call49 rfl (SpecN.spec (rf_Key (hs.2 _))) ?_)
          rintro _ rfl
          refine VO.val rfl rfl (OpV.not rfl rfl) ?_
          refine VO.val rfl rfl (OpV.move (.inr rfl) rfl) ?_
          refine VO.nil ?_
          show VC _ _ _ _ _
          refine VC.cond rfl (fun h4b => ?_) (fun h4b => ?_)
          · have h4 := h4b
            try simp only [decide_eq_true_eq, decide_eq_false_iff_not, Bool.not_eq_true', Bool.not_eq_false', Int.not_lt, Int.not_le] at h4
            refine VC.seq ?_
            refine VC.region ?_
            refine VO.val rfl rfl (OpV.move (.inr rfl) rfl) ?_
            refine VO.nil ?_
            show VC _ _ _ _ _
            refine VC.ret ?_
            exact Exists.intro _ (And.intro (RetN.one Tryd.results14 (ResN.v rfl)) (by rw [setupF_at (by omega) (by omega) (by omega) hn (setupE_5 h3b h4) (by decide)]))
          · have h4 := h4b
            try simp only [decide_eq_true_eq, decide_eq_false_iff_not, Bool.not_eq_true', Bool.not_eq_false', Int.not_lt, Int.not_le] at h4
            refine VC.seq ?_
            refine VC.region ?_
            refine VO.val rfl rfl (OpV.move (.inl rfl) rfl) ?_
            refine VO.val rfl rfl (OpV.move (.inl rfl) rfl) ?_
            first
              | refine VO.val rfl rfl (OpV.slice_ints (h := q) rfl Tryd.underlying27 Tryd.sizeOf9 rfl rfl ⟨_, _, rfl, rfl⟩ (by omega) (by omega)) ?_
              | refine VO.val rfl rfl (OpV.slice_strs (h := q) rfl Tryd.underlying27 Tryd.sizeOf9 rfl rfl ⟨_, _, rfl, rfl⟩ (by omega) (by omega)) ?_
              | refine VO.val rfl rfl (OpV.slice_M (h := q) rfl Tryd.underlying27 Tryd.sizeOf9 rfl rfl ⟨_, _, rfl, rfl⟩ (by omega) (by omega)) ?_
              | refine VO.val rfl rfl (OpV.slice_L (h := q) rfl Tryd.underlying27 Tryd.sizeOf9 rfl rfl ⟨_, _, rfl, rfl⟩ (by omega) (by omega)) ?_
              | refine VO.val rfl rfl (OpV.slice_im (h := q) rfl Tryd.underlying27 Tryd.sizeOf9 rfl rfl ⟨_, _, rfl, rfl⟩ (by omega) (by omega)) ?_
            refine VO.val rfl rfl (OpV.move (.inl rfl) rfl) ?_
            refine VO.op rfl (OpE.call rfl hB rfl Tryd.call43 rfl (SpecN.spec (slices_Contains_str (by rw [len_cut (by omega)]; omega))) ?_)
            rintro _ rfl
            refine VO.val rfl rfl (OpV.move (.inr rfl) rfl) ?_
            refine VO.nil ?_
            show VC _ _ _ _ _
            refine VC.cond rfl (fun h5b => ?_) (fun h5b => ?_)
            · have h5 := h5b
              try simp only [decide_eq_true_eq, decide_eq_false_iff_not, Bool.not_eq_true', Bool.not_eq_false', Int.not_lt, Int.not_le] at h5
              refine VC.seq ?_
              refine VC.region ?_
              refine VO.val rfl rfl (OpV.move (.inr rfl) rfl) ?_
              refine VO.nil ?_
              show VC _ _ _ _ _
              refine VC.ret ?_
              exact Exists.intro _ (And.intro (RetN.one Tryd.results14 (ResN.v rfl)) (by rw [setupF_at (by omega) (by omega) (by omega) hn (setupE_6 h3b h4 h5) (by decide)]))
            · have h5 := h5b
              try simp only [decide_eq_true_eq, decide_eq_false_iff_not, Bool.not_eq_true', Bool.not_eq_false', Int.not_lt, Int.not_le] at h5
              refine VC.skip ?_
              show VC _ _ _ _ _
              refine VC.region ?_
              refine VO.val rfl rfl (OpV.add rfl rfl rfl (by unfold fits; omega)) ?_
              refine VO.val rfl rfl (OpV.move (.inl rfl) rfl) ?_
              refine VO.nil ?_
              first
                | exact Exists.intro (⟨q + 1, by omega, lt_succ_cases hn (setupE_e h3b)⟩) (And.intro (Le.mk hB [] ⟨rfl, rfl, rfl, rfl, trivial⟩ rfl rfl (Nat.le_refl _)) (by first | omega | (show _ < _; omega) | (simp only []; omega)))
                | exact Exists.intro (⟨q + 1, by omega, lt_succ_cases hn (setupE_0 h3b h4 h5)⟩) (And.intro (Le.mk hB [] ⟨rfl, rfl, rfl, rfl, trivial⟩ rfl rfl (Nat.le_refl _)) (by first | omega | (show _ < _; omega) | (simp only []; omega)))
      · have aH3 := aH3b
        try simp only [decide_eq_true_eq, decide_eq_false_iff_not, Bool.not_eq_true', Bool.not_eq_false', Int.not_lt, Int.not_le] at aH3
        refine VC.exit ?_
        show VC _ _ _ _ _
        refine VC.seq ?_
        refine VC.region ?_
        refine VO.val rfl rfl (OpV.move (.inr rfl) rfl) ?_
        refine VO.nil ?_
        show VC _ _ _ _ _
        refine VC.ret ?_
        exact Exists.intro _ (And.intro (RetN.one Tryd.results14 (ResN.v rfl)) (by rw [setupF_ok (by omega) (by omega) (fun j hj => hn j (by omega))]))
set_option maxRecDepth 100000 in
theorem setup_CheckParts {n : Int} {p : List (List ByteArray)} (hp : SmSS p) :
    SpecN Tryd.prog 22 [avI n, avM p] (fun y => y = avI (partsF n p)) := by
  have hl := hp.1
  refine SpecN.of_VCN Tryd.func22 rfl Tryd.ntmps22 (Nat.le_of_ble_eq_true rfl) fun w A hB => ?_
  have hnew : True := trivial
  refine VC.seq ?_
  refine VC.region ?_
  refine VO.val rfl rfl (OpV.move (.inr rfl) rfl) ?_
  refine VO.nil ?_
  show VC _ _ _ _ _
  refine VC.seq ?_
  refine VC.seq ?_
  refine VC.region ?_
  refine VO.val rfl rfl (OpV.move (.inl rfl) rfl) ?_
  refine VO.op rfl (OpE.call rfl hB rfl Tryd.call54 rfl (SpecN.spec (kit_Outside)) ?_)
  rintro _ rfl
  refine VO.nil ?_
  show VC _ _ _ _ _
  refine VC.cond rfl (fun h0b => ?_) (fun h0b => ?_)
  · have h0 := h0b
    try simp only [decide_eq_true_eq, decide_eq_false_iff_not, Bool.not_eq_true', Bool.not_eq_false', Int.not_lt, Int.not_le] at h0
    refine VC.seq ?_
    refine VC.region ?_
    refine VO.val rfl rfl (OpV.move (.inr rfl) rfl) ?_
    refine VO.nil ?_
    show VC _ _ _ _ _
    refine VC.ret ?_
    exact Exists.intro _ (And.intro (RetN.one Tryd.results22 (ResN.v rfl)) (by rw [partsF_1 h0b]))
  · have h0 := h0b
    try simp only [decide_eq_true_eq, decide_eq_false_iff_not, Bool.not_eq_true', Bool.not_eq_false', Int.not_lt, Int.not_le] at h0
    refine VC.skip ?_
    show VC _ _ _ _ _
    refine VC.seq ?_
    refine VC.seq ?_
    refine VC.region ?_
    refine VO.val rfl rfl (OpV.move (.inl rfl) rfl) ?_
    first
      | refine VO.val rfl rfl (OpV.len_im rfl Tryd.underlying30 rfl) ?_
      | refine VO.val rfl rfl (OpV.len_v rfl Tryd.underlying30 rfl) ?_
    refine VO.val rfl rfl (OpV.gtr rfl rfl rfl) ?_
    refine VO.nil ?_
    show VC _ _ _ _ _
    refine VC.cond rfl (fun aH1b => ?_) (fun aH1b => ?_)
    · have aH1 := aH1b
      try simp only [decide_eq_true_eq, decide_eq_false_iff_not, Bool.not_eq_true', Bool.not_eq_false', Int.not_lt, Int.not_le] at aH1
      refine VC.seq ?_
      refine VC.region ?_
      refine VO.val rfl rfl (OpV.move (.inr rfl) rfl) ?_
      refine VO.nil ?_
      show VC _ _ _ _ _
      refine VC.ret ?_
      exact Exists.intro _ (And.intro (RetN.one Tryd.results22 (ResN.v rfl)) (by rw [partsF_2 h0b (by omega)]))
    · have aH1 := aH1b
      try simp only [decide_eq_true_eq, decide_eq_false_iff_not, Bool.not_eq_true', Bool.not_eq_false', Int.not_lt, Int.not_le] at aH1
      refine VC.skip ?_
      show VC _ _ _ _ _
      refine VC.seq ?_
      refine VC.seq ?_
      refine VC.region ?_
      refine VO.val rfl rfl (OpV.move (.inl rfl) rfl) ?_
      first
        | refine VO.val rfl rfl (OpV.len_im rfl Tryd.underlying30 rfl) ?_
        | refine VO.val rfl rfl (OpV.len_v rfl Tryd.underlying30 rfl) ?_
      refine VO.val rfl rfl (OpV.move (.inl rfl) rfl) ?_
      refine VO.nil ?_
      show VC _ _ _ _ _
      refine VC.block ?_
      refine VC.loopK [(0, _), (14, _), (15, _)] ⟨rfl, rfl, rfl, trivial⟩ ({q : Nat // q ≤ p.length ∧ ∀ j, j < q → partE n (p.getD j default) = 0}) (fun (i : {q : Nat // q ≤ p.length ∧ ∀ j, j < q → partE n (p.getD j default) = 0}) => match i with | ⟨q, hq, hn⟩ => [(16, avI (q : Int))]) (fun (i : {q : Nat // q ≤ p.length ∧ ∀ j, j < q → partE n (p.getD j default) = 0}) => match i with | ⟨q, hq, hn⟩ => []) (fun (i : {q : Nat // q ≤ p.length ∧ ∀ j, j < q → partE n (p.getD j default) = 0}) => match i with | ⟨q, hq, hn⟩ => 0) (fun (i : {q : Nat // q ≤ p.length ∧ ∀ j, j < q → partE n (p.getD j default) = 0}) => match i with | ⟨q, hq, hn⟩ => p.length - q) ⟨0, Nat.zero_le _, fun j hj => absurd hj (Nat.not_lt_zero j)⟩ (Le.mk hB [] ⟨rfl, rfl, rfl, rfl, trivial⟩ rfl rfl (Nat.le_refl _)) ?_
      rintro ⟨q, hq, hn⟩
      show VC _ _ _ _ ⟨[(16, avI (q : Int))] ++ [(0, _), (14, _), (15, _)], [], 0⟩
      refine VC.seq ?_
      refine VC.region ?_
      refine VO.val rfl rfl (OpV.lss rfl rfl rfl) ?_
      refine VO.nil ?_
      show VC _ _ _ _ _
      refine VC.seq ?_
      refine VC.cond rfl (fun aH2b => ?_) (fun aH2b => ?_)
      · have aH2 := aH2b
        try simp only [decide_eq_true_eq, decide_eq_false_iff_not, Bool.not_eq_true', Bool.not_eq_false', Int.not_lt, Int.not_le] at aH2
        refine VC.skip ?_
        show VC _ _ _ _ _
        refine VC.seq ?_
        refine VC.block ?_
        refine VC.seq ?_
        refine VC.region ?_
        first
          | refine VO.val rfl rfl (OpV.indexAddr_1 rfl Tryd.underlying30 Tryd.sizeOf27 rfl rfl rfl (by omega)) ?_
          | refine VO.val rfl rfl (OpV.indexAddr_1 rfl Tryd.underlying30 Tryd.sizeOf27 rfl rfl (Int.toNat_of_nonneg (by omega)).symm (by omega)) ?_
          | refine VO.val rfl rfl (OpV.indexAddr_o rfl Tryd.underlying30 Tryd.sizeOf27 rfl rfl rfl (by omega)) ?_
          | refine VO.val rfl rfl (OpV.indexAddr_o rfl Tryd.underlying30 Tryd.sizeOf27 rfl rfl (Int.toNat_of_nonneg (by omega)).symm (by omega)) ?_
          | refine VO.val rfl rfl (OpV.indexAddr_q rfl Tryd.underlying30 Tryd.sizeOf27 rfl rfl rfl (by omega)) ?_
          | refine VO.val rfl rfl (OpV.indexAddr_q rfl Tryd.underlying30 Tryd.sizeOf27 rfl rfl (Int.toNat_of_nonneg (by omega)).symm (by omega)) ?_
          | refine VO.val rfl rfl (OpV.indexAddr_im rfl Tryd.underlying30 Tryd.sizeOf27 rfl rfl (by omega) (by omega)) ?_
        refine VO.val rfl rfl (OpV.load_at rfl hB OutW.no Tryd.isAgg27 rfl rfl) ?_
        refine VO.val rfl rfl (OpV.move (.inr rfl) rfl) ?_
        refine VO.nil ?_
        show VC _ _ _ _ _
        refine VC.seq ?_
        refine VC.seq ?_
        refine VC.region ?_
        refine VO.val rfl rfl (OpV.move (.inl rfl) rfl) ?_
        first
          | refine VO.val rfl rfl (OpV.len_im rfl Tryd.underlying27 rfl) ?_
          | refine VO.val rfl rfl (OpV.len_v rfl Tryd.underlying27 rfl) ?_
        refine VO.val rfl rfl (OpV.move (.inl rfl) rfl) ?_
        refine VO.val rfl rfl (OpV.gtr rfl rfl rfl) ?_
        refine VO.nil ?_
        show VC _ _ _ _ _
        refine VC.cond rfl (fun h3b => ?_) (fun h3b => ?_)
        · have h3 := h3b
          try simp only [decide_eq_true_eq, decide_eq_false_iff_not, Bool.not_eq_true', Bool.not_eq_false', Int.not_lt, Int.not_le] at h3
          have hq0 := partE_12 (slots := n) (l := p.getD q default) (by omega)
          refine VC.seq ?_
          refine VC.region ?_
          refine VO.val rfl rfl (OpV.move (.inr rfl) rfl) ?_
          refine VO.nil ?_
          show VC _ _ _ _ _
          refine VC.ret ?_
          exact Exists.intro _ (And.intro (RetN.one Tryd.results22 (ResN.v rfl)) (by rw [partsF_at h0b (by omega) (by omega) hn hq0 (by decide)]))
        · have h3 := h3b
          try simp only [decide_eq_true_eq, decide_eq_false_iff_not, Bool.not_eq_true', Bool.not_eq_false', Int.not_lt, Int.not_le] at h3
          have hlq := (hp.2 q).1
          have h3' : ¬ n < ((p.getD q default).length : Int) := by omega
          refine VC.skip ?_
          show VC _ _ _ _ _
          refine VC.seq ?_
          refine VC.region ?_
          refine VO.val rfl rfl (OpV.move (.inl rfl) rfl) ?_
          first
            | refine VO.val rfl rfl (OpV.len_im rfl Tryd.underlying27 rfl) ?_
            | refine VO.val rfl rfl (OpV.len_v rfl Tryd.underlying27 rfl) ?_
          refine VO.val rfl rfl (OpV.move (.inl rfl) rfl) ?_
          refine VO.nil ?_
          show VC _ _ _ _ _
          refine VC.block ?_
          refine VC.loopK [(0, _), (6, _), (14, _), (15, _), (16, _), (24, _), (25, _)] ⟨rfl, rfl, rfl, rfl, rfl, rfl, rfl, trivial⟩ ({r : Nat // r ≤ (p.getD q default).length ∧ ∀ j, j < r → canE (p.getD q default) j = 0}) (fun (i : {r : Nat // r ≤ (p.getD q default).length ∧ ∀ j, j < r → canE (p.getD q default) j = 0}) => match i with | ⟨r, hq1, hn1⟩ => [(26, avI (r : Int))]) (fun (i : {r : Nat // r ≤ (p.getD q default).length ∧ ∀ j, j < r → canE (p.getD q default) j = 0}) => match i with | ⟨r, hq1, hn1⟩ => []) (fun (i : {r : Nat // r ≤ (p.getD q default).length ∧ ∀ j, j < r → canE (p.getD q default) j = 0}) => match i with | ⟨r, hq1, hn1⟩ => 0) (fun (i : {r : Nat // r ≤ (p.getD q default).length ∧ ∀ j, j < r → canE (p.getD q default) j = 0}) => match i with | ⟨r, hq1, hn1⟩ => (p.getD q default).length - r) ⟨0, Nat.zero_le _, fun j hj => absurd hj (Nat.not_lt_zero j)⟩ (Le.mk hB [] ⟨rfl, rfl, rfl, rfl, rfl, rfl, rfl, rfl, trivial⟩ rfl rfl (Nat.le_refl _)) ?_
          rintro ⟨r, hq1, hn1⟩
          show VC _ _ _ _ ⟨[(26, avI (r : Int))] ++ [(0, _), (6, _), (14, _), (15, _), (16, _), (24, _), (25, _)], [], 0⟩
          refine VC.seq ?_
          refine VC.region ?_
          refine VO.val rfl rfl (OpV.lss rfl rfl rfl) ?_
          refine VO.nil ?_
          show VC _ _ _ _ _
          refine VC.seq ?_
          refine VC.cond rfl (fun aH3b => ?_) (fun aH3b => ?_)
          · have aH3 := aH3b
            try simp only [decide_eq_true_eq, decide_eq_false_iff_not, Bool.not_eq_true', Bool.not_eq_false', Int.not_lt, Int.not_le] at aH3
            refine VC.skip ?_
            show VC _ _ _ _ _
            refine VC.seq ?_
            refine VC.block ?_
            refine VC.seq ?_
            refine VC.region ?_
            refine VO.val rfl rfl (OpV.move (.inl rfl) rfl) ?_
            first
              | refine VO.val rfl rfl (OpV.indexAddr_1 rfl Tryd.underlying27 Tryd.sizeOf9 rfl rfl rfl (by omega)) ?_
              | refine VO.val rfl rfl (OpV.indexAddr_1 rfl Tryd.underlying27 Tryd.sizeOf9 rfl rfl (Int.toNat_of_nonneg (by omega)).symm (by omega)) ?_
              | refine VO.val rfl rfl (OpV.indexAddr_o rfl Tryd.underlying27 Tryd.sizeOf9 rfl rfl rfl (by omega)) ?_
              | refine VO.val rfl rfl (OpV.indexAddr_o rfl Tryd.underlying27 Tryd.sizeOf9 rfl rfl (Int.toNat_of_nonneg (by omega)).symm (by omega)) ?_
              | refine VO.val rfl rfl (OpV.indexAddr_q rfl Tryd.underlying27 Tryd.sizeOf9 rfl rfl rfl (by omega)) ?_
              | refine VO.val rfl rfl (OpV.indexAddr_q rfl Tryd.underlying27 Tryd.sizeOf9 rfl rfl (Int.toNat_of_nonneg (by omega)).symm (by omega)) ?_
              | refine VO.val rfl rfl (OpV.indexAddr_im rfl Tryd.underlying27 Tryd.sizeOf9 rfl rfl (by omega) (by omega)) ?_
            refine VO.val rfl rfl (OpV.load_at rfl hB OutW.no Tryd.isAgg9 rfl rfl) ?_
            refine VO.val rfl rfl (OpV.move (.inr rfl) rfl) ?_
            refine VO.val rfl rfl (OpV.move (.inr rfl) rfl) ?_
            refine VO.nil ?_
            show VC _ _ _ _ _
            refine VC.seq ?_
            refine VC.seq ?_
            refine VC.region ?_
            refine VO.val rfl rfl (OpV.move (.inl rfl) rfl) ?_
            refine VO.op rfl (OpE.call rfl hB rfl Tryd.call53 rfl (SpecN.spec (kit_IsKey ((hp.2 _).2 _))) ?_)
            rintro _ rfl
            refine VO.val rfl rfl (OpV.not rfl rfl) ?_
            refine VO.nil ?_
            show VC _ _ _ _ _
            refine VC.cond rfl (fun hkb => ?_) (fun hkb => ?_)
            · have hk := hkb
              try simp only [decide_eq_true_eq, decide_eq_false_iff_not, Bool.not_eq_true', Bool.not_eq_false', Int.not_lt, Int.not_le] at hk
              refine VC.seq ?_
              refine VC.region ?_
              refine VO.val rfl rfl (OpV.move (.inr rfl) rfl) ?_
              refine VO.nil ?_
              show VC _ _ _ _ _
              refine VC.ret ?_
              exact Exists.intro _ (And.intro (RetN.one Tryd.results22 (ResN.v rfl)) (by rw [partsF_at h0b (by omega) (by omega) hn (partE_at h3' (by omega) hn1 (canE_5 hk) (by decide)) (by decide)]))
            · have hk := hkb
              try simp only [decide_eq_true_eq, decide_eq_false_iff_not, Bool.not_eq_true', Bool.not_eq_false', Int.not_lt, Int.not_le] at hk
              refine VC.skip ?_
              show VC _ _ _ _ _
              refine VC.seq ?_
              refine VC.region ?_
              refine VO.val rfl rfl (OpV.move (.inl rfl) rfl) ?_
              refine VO.val rfl rfl (OpV.gtr rfl rfl rfl) ?_
              refine VO.val rfl rfl (OpV.move (.inl rfl) rfl) ?_
              refine VO.opG rfl rfl rfl rfl (fun aK4b => ?_) (fun aK4b => ?_)
              · replace aK4b : _ = true := aK4b
                have aK4 := aK4b
                try simp only [decide_eq_true_eq, decide_eq_false_iff_not, Bool.not_eq_true', Bool.not_eq_false', Int.not_lt, Int.not_le] at aK4
                refine OpE.val (W := NoB) (OpV.move (.inl rfl) rfl) rfl ?_
                refine VO.opY rfl rfl rfl rfl aK4b ?_
                refine OpE.val (W := NoB) (OpV.move (.inl rfl) rfl) rfl ?_
                refine VO.opY rfl rfl rfl rfl aK4b ?_
                refine OpE.val (W := NoB) (OpV.move (.inl rfl) rfl) rfl ?_
                refine VO.opY rfl rfl rfl rfl aK4b ?_
                refine OpE.val (W := NoB) (OpV.sub rfl rfl rfl (by unfold fits; omega)) rfl ?_
                refine VO.opY rfl rfl rfl rfl aK4b ?_
                first
                  | refine OpE.val (W := NoB) (OpV.indexAddr_1 rfl Tryd.underlying27 Tryd.sizeOf9 rfl rfl (show ((r : Int) - 1) = ((r - 1 : Nat) : Int) by omega) (by omega)) rfl ?_
                  | refine OpE.val (W := NoB) (OpV.indexAddr_o rfl Tryd.underlying27 Tryd.sizeOf9 rfl rfl (show ((r : Int) - 1) = ((r - 1 : Nat) : Int) by omega) (by omega)) rfl ?_
                  | refine OpE.val (W := NoB) (OpV.indexAddr_q rfl Tryd.underlying27 Tryd.sizeOf9 rfl rfl (show ((r : Int) - 1) = ((r - 1 : Nat) : Int) by omega) (by omega)) rfl ?_
                  | refine OpE.val (W := NoB) (OpV.indexAddr_im rfl Tryd.underlying27 Tryd.sizeOf9 rfl rfl (by omega) (by omega)) rfl ?_
                refine VO.opY rfl rfl rfl rfl aK4b ?_
                refine OpE.val (W := NoB) (OpV.load_at rfl hB OutW.no Tryd.isAgg9 rfl rfl) rfl ?_
                refine VO.opY rfl rfl rfl rfl aK4b ?_
                refine OpE.val (W := NoB) (OpV.sleq rfl rfl rfl) rfl ?_
                refine VO.val rfl rfl (OpV.pickT rfl rfl rfl rfl aK4b) ?_
                refine VO.nil ?_
                show VC _ _ _ _ _
                refine VC.cond rfl (fun hsb => ?_) (fun hsb => ?_)
                · have hs := hsb
                  try simp only [decide_eq_true_eq, decide_eq_false_iff_not, Bool.not_eq_true', Bool.not_eq_false', Int.not_lt, Int.not_le] at hs
                  refine VC.seq ?_
                  refine VC.region ?_
                  refine VO.val rfl rfl (OpV.move (.inr rfl) rfl) ?_
                  refine VO.nil ?_
                  show VC _ _ _ _ _
                  refine VC.ret ?_
                  exact Exists.intro _ (And.intro (RetN.one Tryd.results22 (ResN.v rfl)) (by rw [partsF_at h0b (by omega) (by omega) hn (partE_at h3' (by omega) hn1 (canE_7 hk (by omega) hs) (by decide)) (by decide)]))
                · have hs := hsb
                  try simp only [decide_eq_true_eq, decide_eq_false_iff_not, Bool.not_eq_true', Bool.not_eq_false', Int.not_lt, Int.not_le] at hs
                  refine VC.skip ?_
                  show VC _ _ _ _ _
                  refine VC.region ?_
                  refine VO.val rfl rfl (OpV.add rfl rfl rfl (by unfold fits; omega)) ?_
                  refine VO.val rfl rfl (OpV.move (.inl rfl) rfl) ?_
                  refine VO.nil ?_
                  first
                    | exact Exists.intro (⟨r + 1, by omega, lt_succ_cases hn1 (canE_0 hk (.inr hs))⟩) (And.intro (Le.mk hB [] ⟨rfl, rfl, rfl, rfl, rfl, rfl, rfl, rfl, trivial⟩ rfl rfl (Nat.le_refl _)) (by first | omega | (show _ < _; omega) | (simp only []; omega)))
                    | exact Exists.intro (⟨r + 1, by omega, lt_succ_cases hn1 (canE_0 hk (.inl (by omega)))⟩) (And.intro (Le.mk hB [] ⟨rfl, rfl, rfl, rfl, rfl, rfl, rfl, rfl, trivial⟩ rfl rfl (Nat.le_refl _)) (by first | omega | (show _ < _; omega) | (simp only []; omega)))
              · replace aK4b : _ = false := aK4b
                have aK4 := aK4b
                try simp only [decide_eq_true_eq, decide_eq_false_iff_not, Bool.not_eq_true', Bool.not_eq_false', Int.not_lt, Int.not_le] at aK4
                refine VO.opX rfl rfl rfl rfl aK4b ?_
                refine VO.opX rfl rfl rfl rfl aK4b ?_
                refine VO.opX rfl rfl rfl rfl aK4b ?_
                refine VO.opX rfl rfl rfl rfl aK4b ?_
                refine VO.opX rfl rfl rfl rfl aK4b ?_
                refine VO.opX rfl rfl rfl rfl aK4b ?_
                refine VO.val rfl rfl (OpV.pickF rfl rfl rfl rfl aK4b) ?_
                refine VO.nil ?_
                show VC _ _ _ _ _
                refine VC.condF rfl rfl ?_
                refine VC.skip ?_
                show VC _ _ _ _ _
                refine VC.region ?_
                refine VO.val rfl rfl (OpV.add rfl rfl rfl (by unfold fits; omega)) ?_
                refine VO.val rfl rfl (OpV.move (.inl rfl) rfl) ?_
                refine VO.nil ?_
                first
                  | exact Exists.intro (⟨r + 1, by omega, lt_succ_cases hn1 (canE_0 hk (.inr hs))⟩) (And.intro (Le.mk hB [] ⟨rfl, rfl, rfl, rfl, rfl, rfl, rfl, rfl, trivial⟩ rfl rfl (Nat.le_refl _)) (by first | omega | (show _ < _; omega) | (simp only []; omega)))
                  | exact Exists.intro (⟨r + 1, by omega, lt_succ_cases hn1 (canE_0 hk (.inl (by omega)))⟩) (And.intro (Le.mk hB [] ⟨rfl, rfl, rfl, rfl, rfl, rfl, rfl, rfl, trivial⟩ rfl rfl (Nat.le_refl _)) (by first | omega | (show _ < _; omega) | (simp only []; omega)))
          · have aH3 := aH3b
            try simp only [decide_eq_true_eq, decide_eq_false_iff_not, Bool.not_eq_true', Bool.not_eq_false', Int.not_lt, Int.not_le] at aH3
            refine VC.exit ?_
            show VC _ _ _ _ _
            refine VC.region ?_
            refine VO.val rfl rfl (OpV.add rfl rfl rfl (by unfold fits; omega)) ?_
            refine VO.val rfl rfl (OpV.move (.inl rfl) rfl) ?_
            refine VO.nil ?_
            exact Exists.intro (⟨q + 1, by omega, lt_succ_cases hn (partE_ok h3' (fun j hj => hn1 j (by omega)))⟩) (And.intro (Le.mk hB [] ⟨rfl, rfl, rfl, rfl, trivial⟩ rfl rfl (Nat.le_refl _)) (by first | omega | (show _ < _; omega) | (simp only []; omega)))
      · have aH2 := aH2b
        try simp only [decide_eq_true_eq, decide_eq_false_iff_not, Bool.not_eq_true', Bool.not_eq_false', Int.not_lt, Int.not_le] at aH2
        refine VC.exit ?_
        show VC _ _ _ _ _
        refine VC.seq ?_
        refine VC.region ?_
        refine VO.val rfl rfl (OpV.move (.inr rfl) rfl) ?_
        refine VO.nil ?_
        show VC _ _ _ _ _
        refine VC.ret ?_
        exact Exists.intro _ (And.intro (RetN.one Tryd.results22 (ResN.v rfl)) (by rw [partsF_ok h0b (by omega) (fun j hj => hn j (by omega))]))
end Go.Proofs.YtpajnlcikmhpdaaDoor
