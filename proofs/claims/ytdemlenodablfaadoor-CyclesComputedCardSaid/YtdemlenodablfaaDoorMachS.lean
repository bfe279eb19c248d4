/- Walks: the checks of machines and needs. -/
import Derived.Test.YtdemlenodablfaaDoorMach
import Derived.Test.YtdemlenodablfaaDoorSlicesS
namespace Go.Proofs.YtdemlenodablfaaDoor
open Go.RowKit
set_option linter.unusedVariables false
set_option linter.unusedSimpArgs false
set_option maxRecDepth 100000 in
theorem line_canFault {l : List ByteArray} (hl : l.length ≤ 1000000000) (hb : ∀ i, (l.getD i ByteArray.empty).size ≤ 1000000000) :
    SpecN Tryd.prog 41 [avStrs l] (fun y => y = avI (canF l)) := by
  refine SpecN.of_VCN Tryd.func41 rfl Tryd.ntmps41 (Nat.le_of_ble_eq_true rfl) fun w A hB => ?_
  have hnew : ∀ b, (B0 w A 30).S b → (B0 w A 30).str b := fun _ h => h.elim
  refine VC.seq ?_
  refine VC.region ?_
  refine VO.val rfl rfl (OpV.move (.inr rfl) rfl) ?_
  refine VO.nil ?_
  show VC _ _ _ _ _
  refine VC.seq ?_
  refine VC.seq ?_
  refine VC.region ?_
  refine VO.val rfl rfl (OpV.move (.inl rfl) rfl) ?_
  first
    | refine VO.val rfl rfl (OpV.len_im rfl Tryd.underlying52 rfl) ?_
    | refine VO.val rfl rfl (OpV.len_v rfl Tryd.underlying52 rfl) ?_
  refine VO.val rfl rfl (OpV.gtr rfl rfl rfl) ?_
  refine VO.nil ?_
  show VC _ _ _ _ _
  refine VC.cond rfl (fun aH1b => ?_) (fun aH1b => ?_)
  · have aH1 := aH1b
    try simp only [decide_eq_true_eq, decide_eq_false_iff_not, Bool.not_eq_true', Bool.not_eq_false', Int.not_lt, Int.not_le] at aH1
    refine VC.seq ?_
    refine VC.region ?_
    refine VO.val rfl rfl (OpV.move (.inr rfl) rfl) ?_
    refine VO.nil ?_
    show VC _ _ _ _ _
    refine VC.ret ?_
    exact Exists.intro _ (And.intro (RetN.one Tryd.results41 (ResN.v rfl)) (by rw [canF_big (by omega)]))
  · have aH1 := aH1b
    try simp only [decide_eq_true_eq, decide_eq_false_iff_not, Bool.not_eq_true', Bool.not_eq_false', Int.not_lt, Int.not_le] at aH1
    refine VC.skip ?_
    show VC _ _ _ _ _
    refine VC.seq ?_
    refine VC.seq ?_
    refine VC.region ?_
    refine VO.val rfl rfl (OpV.move (.inl rfl) rfl) ?_
    first
      | refine VO.val rfl rfl (OpV.len_im rfl Tryd.underlying52 rfl) ?_
      | refine VO.val rfl rfl (OpV.len_v rfl Tryd.underlying52 rfl) ?_
    refine VO.val rfl rfl (OpV.move (.inl rfl) rfl) ?_
    refine VO.nil ?_
    show VC _ _ _ _ _
    refine VC.block ?_
    refine VC.loop' ({q : Nat // q ≤ l.length ∧ ∀ j, j < q → canE l j = 0}) (fun (i : {q : Nat // q ≤ l.length ∧ ∀ j, j < q → canE l j = 0}) => match i with | ⟨q, hq, hn⟩ => ⟨[(0, avStrs l), (8, avStrs l), (9, avI l.length), (10, avI (q : Int))], [], 0⟩) (fun (i : {q : Nat // q ≤ l.length ∧ ∀ j, j < q → canE l j = 0}) => match i with | ⟨q, hq, hn⟩ => l.length - q) ⟨0, Nat.zero_le _, fun j hj => absurd hj (Nat.not_lt_zero j)⟩ (Le.mk hB [] ⟨rfl, rfl, rfl, rfl, trivial⟩ rfl rfl (Nat.le_refl _)) ?_
    rintro ⟨q, hq, hn⟩
    show VC _ _ _ _ ⟨[(0, avStrs l), (8, avStrs l), (9, avI l.length), (10, avI (q : Int))], [], 0⟩
    refine VC.seq ?_
    refine VC.region ?_
    refine VO.val rfl rfl (OpV.lss rfl rfl rfl) ?_
    refine VO.nil ?_
    show VC _ _ _ _ _
    refine VC.seq ?_
    refine VC.cond rfl (fun hib => ?_) (fun hib => ?_)
    · have hi := hib
      try simp only [decide_eq_true_eq, decide_eq_false_iff_not, Bool.not_eq_true', Bool.not_eq_false', Int.not_lt, Int.not_le] at hi
      refine VC.skip ?_
      show VC _ _ _ _ _
      refine VC.seq ?_
      refine VC.block ?_
      refine VC.seq ?_
      refine VC.region ?_
      refine VO.val rfl rfl (OpV.move (.inl rfl) rfl) ?_
      first
        | refine VO.val rfl rfl (OpV.indexAddr_1 rfl Tryd.underlying52 Tryd.sizeOf9 rfl rfl rfl (by omega)) ?_
        | refine VO.val rfl rfl (OpV.indexAddr_1 rfl Tryd.underlying52 Tryd.sizeOf9 rfl rfl (Int.toNat_of_nonneg (by omega)).symm (by omega)) ?_
        | refine VO.val rfl rfl (OpV.indexAddr_o rfl Tryd.underlying52 Tryd.sizeOf9 rfl rfl rfl (by omega)) ?_
        | refine VO.val rfl rfl (OpV.indexAddr_o rfl Tryd.underlying52 Tryd.sizeOf9 rfl rfl (Int.toNat_of_nonneg (by omega)).symm (by omega)) ?_
        | refine VO.val rfl rfl (OpV.indexAddr_q rfl Tryd.underlying52 Tryd.sizeOf9 rfl rfl rfl (by omega)) ?_
        | refine VO.val rfl rfl (OpV.indexAddr_q rfl Tryd.underlying52 Tryd.sizeOf9 rfl rfl (Int.toNat_of_nonneg (by omega)).symm (by omega)) ?_
        | refine VO.val rfl rfl (OpV.indexAddr_im rfl Tryd.underlying52 Tryd.sizeOf9 rfl rfl (by omega) (by omega)) ?_
      refine VO.val rfl rfl (OpV.load_at rfl hB OutW.no Tryd.isAgg9 rfl rfl) ?_
      refine VO.val rfl rfl (OpV.move (.inr rfl) rfl) ?_
      refine VO.val rfl rfl (OpV.move (.inr rfl) rfl) ?_
      refine VO.nil ?_
      show VC _ _ _ _ _
      refine VC.seq ?_
      refine VC.seq ?_
      refine VC.region ?_
      refine VO.val rfl rfl (OpV.move (.inl rfl) rfl) ?_
      refine VO.op rfl (OpE.call rfl hB rfl Tryd.call38 rfl (SpecN.spec (kit_IsKey (hb _))) ?_)
      rintro _ rfl
      refine VO.val rfl rfl (OpV.not rfl rfl) ?_
      refine VO.nil ?_
      show VC _ _ _ _ _
      refine VC.cond rfl (fun hkb => ?_) (fun hkb => ?_)
      · have hk := hkb
        try simp only [decide_eq_true_eq, decide_eq_false_iff_not, Bool.not_eq_true', Bool.not_eq_false', Int.not_lt, Int.not_le] at hk
        refine VC.seq ?_
        refine VC.region ?_
        refine VO.val rfl rfl (OpV.move (.inr rfl) rfl) ?_
        refine VO.nil ?_
        show VC _ _ _ _ _
        refine VC.ret ?_
        exact Exists.intro _ (And.intro (RetN.one Tryd.results41 (ResN.v rfl)) (by rw [canF_at (by omega) (by omega) hn (by rw [canE_5 hk]; decide), canE_5 hk]))
      · have hk := hkb
        try simp only [decide_eq_true_eq, decide_eq_false_iff_not, Bool.not_eq_true', Bool.not_eq_false', Int.not_lt, Int.not_le] at hk
        refine VC.skip ?_
        show VC _ _ _ _ _
        refine VC.seq ?_
        refine VC.region ?_
        refine VO.val rfl rfl (OpV.move (.inl rfl) rfl) ?_
        refine VO.val rfl rfl (OpV.gtr rfl rfl rfl) ?_
        refine VO.val rfl rfl (OpV.move (.inl rfl) rfl) ?_
        refine VO.opG rfl rfl rfl rfl (fun aK2b => ?_) (fun aK2b => ?_)
        · replace aK2b : _ = true := aK2b
          have aK2 := aK2b
          try simp only [decide_eq_true_eq, decide_eq_false_iff_not, Bool.not_eq_true', Bool.not_eq_false', Int.not_lt, Int.not_le] at aK2
          refine OpE.val (W := NoB) (OpV.move (.inl rfl) rfl) rfl ?_
          refine VO.opY rfl rfl rfl rfl aK2b ?_
          refine OpE.val (W := NoB) (OpV.move (.inl rfl) rfl) rfl ?_
          refine VO.opY rfl rfl rfl rfl aK2b ?_
          refine OpE.val (W := NoB) (OpV.move (.inl rfl) rfl) rfl ?_
          refine VO.opY rfl rfl rfl rfl aK2b ?_
          refine OpE.val (W := NoB) (OpV.sub rfl rfl rfl (by unfold fits; omega)) rfl ?_
          refine VO.opY rfl rfl rfl rfl aK2b ?_
          first
            | refine OpE.val (W := NoB) (OpV.indexAddr_1 rfl Tryd.underlying52 Tryd.sizeOf9 rfl rfl (show ((q : Int) - 1) = ((q - 1 : Nat) : Int) by omega) (by omega)) rfl ?_
            | refine OpE.val (W := NoB) (OpV.indexAddr_o rfl Tryd.underlying52 Tryd.sizeOf9 rfl rfl (show ((q : Int) - 1) = ((q - 1 : Nat) : Int) by omega) (by omega)) rfl ?_
            | refine OpE.val (W := NoB) (OpV.indexAddr_q rfl Tryd.underlying52 Tryd.sizeOf9 rfl rfl (show ((q : Int) - 1) = ((q - 1 : Nat) : Int) by omega) (by omega)) rfl ?_
            | refine OpE.val (W := NoB) (OpV.indexAddr_im rfl Tryd.underlying52 Tryd.sizeOf9 rfl rfl (by omega) (by omega)) rfl ?_
          refine VO.opY rfl rfl rfl rfl aK2b ?_
          refine OpE.val (W := NoB) (OpV.load_at rfl hB OutW.no Tryd.isAgg9 rfl rfl) rfl ?_
          refine VO.opY rfl rfl rfl rfl aK2b ?_
          refine OpE.val (W := NoB) (OpV.sleq rfl rfl rfl) rfl ?_
          refine VO.val rfl rfl (OpV.pickT rfl rfl rfl rfl aK2b) ?_
          refine VO.nil ?_
          show VC _ _ _ _ _
          refine VC.cond rfl (fun hsb => ?_) (fun hsb => ?_)
          · have hs := hsb
            try simp only [decide_eq_true_eq, decide_eq_false_iff_not, Bool.not_eq_true', Bool.not_eq_false', Int.not_lt, Int.not_le] at hs
            refine VC.seq ?_
            refine VC.region ?_
            refine VO.val rfl rfl (OpV.move (.inr rfl) rfl) ?_
            refine VO.nil ?_
            show VC _ _ _ _ _
            refine VC.ret ?_
            exact Exists.intro _ (And.intro (RetN.one Tryd.results41 (ResN.v rfl)) (by rw [canF_at (by omega) (by omega) hn (by rw [canE_7 hk (by omega) hs]; decide), canE_7 hk (by omega) hs]))
          · have hs := hsb
            try simp only [decide_eq_true_eq, decide_eq_false_iff_not, Bool.not_eq_true', Bool.not_eq_false', Int.not_lt, Int.not_le] at hs
            refine VC.skip ?_
            show VC _ _ _ _ _
            refine VC.region ?_
            refine VO.val rfl rfl (OpV.add rfl rfl rfl (by unfold fits; omega)) ?_
            refine VO.val rfl rfl (OpV.move (.inl rfl) rfl) ?_
            refine VO.nil ?_
            first
              | exact Exists.intro (⟨q + 1, by omega, lt_succ_cases hn (canE_0 hk (.inr hs))⟩) (And.intro (Le.mk hB [] ⟨rfl, rfl, rfl, rfl, trivial⟩ rfl rfl (Nat.le_refl _)) (by first | omega | (show _ < _; omega) | (simp only []; omega)))
              | exact Exists.intro (⟨q + 1, by omega, lt_succ_cases hn (canE_0 hk (.inl (by omega)))⟩) (And.intro (Le.mk hB [] ⟨rfl, rfl, rfl, rfl, trivial⟩ rfl rfl (Nat.le_refl _)) (by first | omega | (show _ < _; omega) | (simp only []; omega)))
        · replace aK2b : _ = false := aK2b
          have aK2 := aK2b
          try simp only [decide_eq_true_eq, decide_eq_false_iff_not, Bool.not_eq_true', Bool.not_eq_false', Int.not_lt, Int.not_le] at aK2
          refine VO.opX rfl rfl rfl rfl aK2b ?_
          refine VO.opX rfl rfl rfl rfl aK2b ?_
          refine VO.opX rfl rfl rfl rfl aK2b ?_
          refine VO.opX rfl rfl rfl rfl aK2b ?_
          refine VO.opX rfl rfl rfl rfl aK2b ?_
          refine VO.opX rfl rfl rfl rfl aK2b ?_
          refine VO.val rfl rfl (OpV.pickF rfl rfl rfl rfl aK2b) ?_
          refine VO.nil ?_
          show VC _ _ _ _ _
          refine VC.condF rfl rfl ?_
          refine VC.skip ?_
          show VC _ _ _ _ _
          refine VC.region ?_
          refine VO.val rfl rfl (OpV.add rfl rfl rfl (by unfold fits; omega)) ?_
          refine VO.val rfl rfl (OpV.move (.inl rfl) rfl) ?_
          refine VO.nil ?_
          first
            | exact Exists.intro (⟨q + 1, by omega, lt_succ_cases hn (canE_0 hk (.inr hs))⟩) (And.intro (Le.mk hB [] ⟨rfl, rfl, rfl, rfl, trivial⟩ rfl rfl (Nat.le_refl _)) (by first | omega | (show _ < _; omega) | (simp only []; omega)))
            | exact Exists.intro (⟨q + 1, by omega, lt_succ_cases hn (canE_0 hk (.inl (by omega)))⟩) (And.intro (Le.mk hB [] ⟨rfl, rfl, rfl, rfl, trivial⟩ rfl rfl (Nat.le_refl _)) (by first | omega | (show _ < _; omega) | (simp only []; omega)))
    · have hi := hib
      try simp only [decide_eq_true_eq, decide_eq_false_iff_not, Bool.not_eq_true', Bool.not_eq_false', Int.not_lt, Int.not_le] at hi
      refine VC.exit ?_
      show VC _ _ _ _ _
      refine VC.seq ?_
      refine VC.region ?_
      refine VO.val rfl rfl (OpV.move (.inr rfl) rfl) ?_
      refine VO.nil ?_
      show VC _ _ _ _ _
      refine VC.ret ?_
      exact Exists.intro _ (And.intro (RetN.one Tryd.results41 (ResN.v rfl)) (by rw [canF_ok (by omega) (fun j hj => hn j (by omega))]))
set_option maxRecDepth 100000 in
theorem line_NeedsFault {l : List NeedS} {lo hi : Int} (hl : l.length ≤ 1000000000) (hb : ∀ i, (l.getD i default).key.size ≤ 1000000000) :
    SpecN Tryd.prog 42 [avL l, avI lo, avI hi] (fun y => y = avI (needsF l lo hi)) := by
  refine SpecN.of_VCN Tryd.func42 rfl Tryd.ntmps42 (Nat.le_of_ble_eq_true rfl) fun w A hB => ?_
  have hnew : ∀ b, (B0 w A 45).S b → (B0 w A 45).str b := fun _ h => h.elim
  refine VC.seq ?_
  refine VC.region ?_
  refine VO.val rfl rfl (OpV.move (.inr rfl) rfl) ?_
  refine VO.nil ?_
  show VC _ _ _ _ _
  refine VC.seq ?_
  refine VC.seq ?_
  refine VC.region ?_
  refine VO.val rfl rfl (OpV.move (.inl rfl) rfl) ?_
  first
    | refine VO.val rfl rfl (OpV.len_im rfl Tryd.underlying28 rfl) ?_
    | refine VO.val rfl rfl (OpV.len_v rfl Tryd.underlying28 rfl) ?_
  refine VO.val rfl rfl (OpV.gtr rfl rfl rfl) ?_
  refine VO.nil ?_
  show VC _ _ _ _ _
  refine VC.cond rfl (fun aH1b => ?_) (fun aH1b => ?_)
  · have aH1 := aH1b
    try simp only [decide_eq_true_eq, decide_eq_false_iff_not, Bool.not_eq_true', Bool.not_eq_false', Int.not_lt, Int.not_le] at aH1
    refine VC.seq ?_
    refine VC.region ?_
    refine VO.val rfl rfl (OpV.move (.inr rfl) rfl) ?_
    refine VO.nil ?_
    show VC _ _ _ _ _
    refine VC.ret ?_
    exact Exists.intro _ (And.intro (RetN.one Tryd.results42 (ResN.v rfl)) (by rw [needsF_big (by omega)]))
  · have aH1 := aH1b
    try simp only [decide_eq_true_eq, decide_eq_false_iff_not, Bool.not_eq_true', Bool.not_eq_false', Int.not_lt, Int.not_le] at aH1
    refine VC.skip ?_
    show VC _ _ _ _ _
    refine VC.seq ?_
    refine VC.seq ?_
    refine VC.region ?_
    refine VO.val rfl rfl (OpV.move (.inl rfl) rfl) ?_
    first
      | refine VO.val rfl rfl (OpV.len_im rfl Tryd.underlying28 rfl) ?_
      | refine VO.val rfl rfl (OpV.len_v rfl Tryd.underlying28 rfl) ?_
    refine VO.val rfl rfl (OpV.move (.inl rfl) rfl) ?_
    refine VO.nil ?_
    show VC _ _ _ _ _
    refine VC.block ?_
    refine VC.loop' ({q : Nat // q ≤ l.length ∧ ∀ j, j < q → needE l lo hi j = 0}) (fun (i : {q : Nat // q ≤ l.length ∧ ∀ j, j < q → needE l lo hi j = 0}) => match i with | ⟨q, hq, hn⟩ => ⟨[(0, avL l), (1, avI lo), (2, avI hi), (12, avL l), (13, avI l.length), (14, avI (q : Int))], [], 0⟩) (fun (i : {q : Nat // q ≤ l.length ∧ ∀ j, j < q → needE l lo hi j = 0}) => match i with | ⟨q, hq, hn⟩ => l.length - q) ⟨0, Nat.zero_le _, fun j hj => absurd hj (Nat.not_lt_zero j)⟩ (Le.mk hB [] ⟨rfl, rfl, rfl, rfl, rfl, rfl, trivial⟩ rfl rfl (Nat.le_refl _)) ?_
    rintro ⟨q, hq, hn⟩
    show VC _ _ _ _ ⟨[(0, avL l), (1, avI lo), (2, avI hi), (12, avL l), (13, avI l.length), (14, avI (q : Int))], [], 0⟩
    refine VC.seq ?_
    refine VC.region ?_
    refine VO.val rfl rfl (OpV.lss rfl rfl rfl) ?_
    refine VO.nil ?_
    show VC _ _ _ _ _
    refine VC.seq ?_
    refine VC.cond rfl (fun aH2b => ?_) (fun aH2b => ?_)
    · have aH2 := aH2b
      try simp only [decide_eq_true_eq, decide_eq_false_iff_not, Bool.not_eq_true', Bool.not_eq_false', Int.not_lt, Int.not_le] at aH2
      refine VC.skip ?_
      show VC _ _ _ _ _
      refine VC.seq ?_
      refine VC.block ?_
      refine VC.seq ?_
      refine VC.region ?_
      refine VO.val rfl rfl (OpV.move (.inl rfl) rfl) ?_
      first
        | refine VO.val rfl rfl (OpV.indexAddr_E rfl Tryd.underlying28 Tryd.sizeOf60 rfl rfl rfl (by omega)) ?_
        | refine VO.val rfl rfl (OpV.indexAddr_E rfl Tryd.underlying28 Tryd.sizeOf60 rfl rfl (Int.toNat_of_nonneg (by omega)).symm (by omega)) ?_
        | refine VO.val rfl rfl (OpV.indexAddr_q rfl Tryd.underlying28 Tryd.sizeOf60 rfl rfl rfl (by omega)) ?_
        | refine VO.val rfl rfl (OpV.indexAddr_q rfl Tryd.underlying28 Tryd.sizeOf60 rfl rfl (Int.toNat_of_nonneg (by omega)).symm (by omega)) ?_
        | refine VO.val rfl rfl (OpV.indexAddr_im rfl Tryd.underlying28 Tryd.sizeOf60 rfl rfl (by omega) (by omega)) ?_
      refine VO.val rfl rfl (OpV.loadK_at rfl hB OutW.no Tryd.isAgg60 Tryd.sizeOf60 rfl rfl) ?_
      refine VO.op rfl (OpE.alloc rfl hB rfl Tryd.zeroValue60 rfl ?_)
      intro g8
      refine VO.val rfl rfl (OpV.move (.inr rfl) rfl) ?_
      refine VO.op rfl (OpE.store (i := 0) rfl hB rfl Tryd.sizeOf60 rfl rfl rfl rfl rfl rfl (Nat.le_of_ble_eq_true rfl) trivial ?_)
      refine VO.nil ?_
      show VC _ _ _ _ _
      refine VC.block ?_
      refine VC.seq ?_
      refine VC.region ?_
      first
        | refine VO.val rfl rfl (OpV.fieldAddr_atO 0 rfl Tryd.underlying60 rfl rfl Tryd.sizeOf9 rfl rfl) ?_
        | refine VO.val rfl rfl (OpV.fieldAddrO 0 rfl Tryd.underlying60 rfl rfl Tryd.sizeOf9 rfl) ?_
      first
        | refine VO.val rfl rfl (OpV.load_at rfl hB OutW.no Tryd.isAgg9 rfl rfl) ?_
        | refine VO.val rfl rfl (OpV.load_own (i := 0) rfl hB Tryd.isAgg9 rfl rfl rfl (fun h => h)) ?_
      refine VO.op rfl (OpE.call rfl hB rfl Tryd.call38 rfl (SpecN.spec (kit_IsKey (hb _))) ?_)
      rintro _ rfl
      refine VO.val rfl rfl (OpV.not rfl rfl) ?_
      refine VO.val rfl rfl (OpV.move (.inr rfl) rfl) ?_
      refine VO.nil ?_
      show VC _ _ _ _ _
      refine VC.cond rfl (fun hkb => ?_) (fun hkb => ?_)
      · have hk := hkb
        try simp only [decide_eq_true_eq, decide_eq_false_iff_not, Bool.not_eq_true', Bool.not_eq_false', Int.not_lt, Int.not_le] at hk
        refine VC.seq ?_
        refine VC.region ?_
        refine VO.val rfl rfl (OpV.move (.inr rfl) rfl) ?_
        refine VO.nil ?_
        show VC _ _ _ _ _
        refine VC.ret ?_
        exact Exists.intro _ (And.intro (RetN.one Tryd.results42 (ResN.v rfl)) (by rw [needsF_at (by omega) (by omega) hn (needE_5 hk) (by decide)]))
      · have hk := hkb
        try simp only [decide_eq_true_eq, decide_eq_false_iff_not, Bool.not_eq_true', Bool.not_eq_false', Int.not_lt, Int.not_le] at hk
        refine VC.seq ?_
        refine VC.draw (fun _ => NoB) hB (by kernel_rfl) ?_
        refine VA.take (i := 0) rfl (by kernel_rfl) (by kernel_rfl) (by kernel_rfl) rfl rfl (OpV.move (.inl rfl) rfl) ?_
        refine VA.take (i := 1) rfl (by kernel_rfl) (by kernel_rfl) (by kernel_rfl) rfl rfl (OpV.gtr rfl rfl rfl) ?_
        refine VA.take (i := 2) rfl (by kernel_rfl) (by kernel_rfl) (by kernel_rfl) rfl rfl (OpV.move (.inl rfl) rfl) ?_
        refine VA.split (t := 27) rfl (fun aK3b => ?_) (fun aK3b => ?_)
        · have aK3 := aK3b
          try simp only [decide_eq_true_eq, decide_eq_false_iff_not, Bool.not_eq_true', Bool.not_eq_false', Int.not_lt, Int.not_le] at aK3
          first
            | refine VA.takeY (i := 3) rfl (by kernel_rfl) (by kernel_rfl) (by kernel_rfl) rfl rfl rfl rfl aK3b (OpV.fieldAddr_atO 0 rfl Tryd.underlying60 rfl rfl Tryd.sizeOf9 rfl rfl) ?_
            | refine VA.takeY (i := 3) rfl (by kernel_rfl) (by kernel_rfl) (by kernel_rfl) rfl rfl rfl rfl aK3b (OpV.fieldAddrO 0 rfl Tryd.underlying60 rfl rfl Tryd.sizeOf9 rfl) ?_
          first
            | refine VA.takeY (i := 4) rfl (by kernel_rfl) (by kernel_rfl) (by kernel_rfl) rfl rfl rfl rfl aK3b (OpV.load_at rfl hB OutW.wi0 Tryd.isAgg9 rfl rfl) ?_
            | refine VA.takeY (i := 4) rfl (by kernel_rfl) (by kernel_rfl) (by kernel_rfl) rfl rfl rfl rfl aK3b (OpV.load_own (i := 0) rfl hB Tryd.isAgg9 rfl rfl rfl Wi.not0) ?_
          refine VA.takeY (i := 5) rfl (by kernel_rfl) (by kernel_rfl) (by kernel_rfl) rfl rfl rfl rfl aK3b (OpV.move (.inl rfl) rfl) ?_
          refine VA.takeY (i := 6) rfl (by kernel_rfl) (by kernel_rfl) (by kernel_rfl) rfl rfl rfl rfl aK3b (OpV.move (.inl rfl) rfl) ?_
          refine VA.takeY (i := 7) rfl (by kernel_rfl) (by kernel_rfl) (by kernel_rfl) rfl rfl rfl rfl aK3b (OpV.sub rfl rfl rfl (by unfold fits; omega)) ?_
          first
            | refine VA.takeY (i := 8) rfl (by kernel_rfl) (by kernel_rfl) (by kernel_rfl) rfl rfl rfl rfl aK3b (OpV.indexAddr_E rfl Tryd.underlying28 Tryd.sizeOf60 rfl rfl (show ((q : Int) - 1) = ((q - 1 : Nat) : Int) by omega) (by omega)) ?_
            | refine VA.takeY (i := 8) rfl (by kernel_rfl) (by kernel_rfl) (by kernel_rfl) rfl rfl rfl rfl aK3b (OpV.indexAddr_q rfl Tryd.underlying28 Tryd.sizeOf60 rfl rfl (show ((q : Int) - 1) = ((q - 1 : Nat) : Int) by omega) (by omega)) ?_
            | refine VA.takeY (i := 8) rfl (by kernel_rfl) (by kernel_rfl) (by kernel_rfl) rfl rfl rfl rfl aK3b (OpV.indexAddr_im rfl Tryd.underlying28 Tryd.sizeOf60 rfl rfl (by omega) (by omega)) ?_
          first
            | refine VA.takeY (i := 9) rfl (by kernel_rfl) (by kernel_rfl) (by kernel_rfl) rfl rfl rfl rfl aK3b (OpV.fieldAddr_atO 0 rfl Tryd.underlying60 rfl rfl Tryd.sizeOf9 rfl rfl) ?_
            | refine VA.takeY (i := 9) rfl (by kernel_rfl) (by kernel_rfl) (by kernel_rfl) rfl rfl rfl rfl aK3b (OpV.fieldAddrO 0 rfl Tryd.underlying60 rfl rfl Tryd.sizeOf9 rfl) ?_
          first
            | refine VA.takeY (i := 10) rfl (by kernel_rfl) (by kernel_rfl) (by kernel_rfl) rfl rfl rfl rfl aK3b (OpV.load_at rfl hB OutW.wi0 Tryd.isAgg9 rfl rfl) ?_
            | refine VA.takeY (i := 10) rfl (by kernel_rfl) (by kernel_rfl) (by kernel_rfl) rfl rfl rfl rfl aK3b (OpV.load_own (i := 0) rfl hB Tryd.isAgg9 rfl rfl rfl Wi.not0) ?_
          refine VA.takeY (i := 11) rfl (by kernel_rfl) (by kernel_rfl) (by kernel_rfl) rfl rfl rfl rfl aK3b (OpV.sleq rfl rfl rfl) ?_
          refine VA.take (i := 12) rfl (by kernel_rfl) (by kernel_rfl) (by kernel_rfl) rfl rfl (OpV.pickT rfl rfl rfl rfl aK3b) ?_
          refine VA.take (i := 13) rfl (by kernel_rfl) (by kernel_rfl) (by kernel_rfl) rfl rfl (OpV.move (.inr rfl) rfl) ?_
          refine VA.done (by kernel_rfl) ?_
          show VC _ _ _ _ _
          refine VC.cond rfl (fun hsb => ?_) (fun hsb => ?_)
          · have hs := hsb
            try simp only [decide_eq_true_eq, decide_eq_false_iff_not, Bool.not_eq_true', Bool.not_eq_false', Int.not_lt, Int.not_le] at hs
            refine VC.seq ?_
            refine VC.region ?_
            refine VO.val rfl rfl (OpV.move (.inr rfl) rfl) ?_
            refine VO.nil ?_
            show VC _ _ _ _ _
            refine VC.ret ?_
            exact Exists.intro _ (And.intro (RetN.one Tryd.results42 (ResN.v rfl)) (by rw [needsF_at (by omega) (by omega) hn (needE_7 hk (by omega) hs) (by decide)]))
          · have hs := hsb
            try simp only [decide_eq_true_eq, decide_eq_false_iff_not, Bool.not_eq_true', Bool.not_eq_false', Int.not_lt, Int.not_le] at hs
            refine VC.seq ?_
            refine VC.region ?_
            first
              | refine VO.val rfl rfl (OpV.fieldAddr_atO 1 rfl Tryd.underlying60 rfl rfl Tryd.sizeOf3 rfl rfl) ?_
              | refine VO.val rfl rfl (OpV.fieldAddrO 1 rfl Tryd.underlying60 rfl rfl Tryd.sizeOf3 rfl) ?_
            first
              | refine VO.val rfl rfl (OpV.load_at rfl hB OutW.no Tryd.isAgg3 rfl rfl) ?_
              | refine VO.val rfl rfl (OpV.load_own (i := 0) rfl hB Tryd.isAgg3 rfl rfl rfl (fun h => h)) ?_
            refine VO.val rfl rfl (OpV.move (.inl rfl) rfl) ?_
            refine VO.val rfl rfl (OpV.move (.inl rfl) rfl) ?_
            refine VO.op rfl (OpE.call rfl hB rfl Tryd.call40 rfl (SpecN.spec (kit_Outside)) ?_)
            rintro _ rfl
            refine VO.val rfl rfl (OpV.move (.inr rfl) rfl) ?_
            refine VO.nil ?_
            show VC _ _ _ _ _
            refine VC.cond rfl (fun hob => ?_) (fun hob => ?_)
            · have ho := hob
              try simp only [decide_eq_true_eq, decide_eq_false_iff_not, Bool.not_eq_true', Bool.not_eq_false', Int.not_lt, Int.not_le] at ho
              refine VC.seq ?_
              refine VC.region ?_
              refine VO.val rfl rfl (OpV.move (.inr rfl) rfl) ?_
              refine VO.nil ?_
              show VC _ _ _ _ _
              refine VC.ret ?_
              exact Exists.intro _ (And.intro (RetN.one Tryd.results42 (ResN.v rfl)) (by first | rw [needsF_at (by omega) (by omega) hn (needE_1 hk (.inr hs) ho) (by decide)] | rw [needsF_at (by omega) (by omega) hn (needE_1 hk (.inl (by omega)) ho) (by decide)]))
            · have ho := hob
              try simp only [decide_eq_true_eq, decide_eq_false_iff_not, Bool.not_eq_true', Bool.not_eq_false', Int.not_lt, Int.not_le] at ho
              refine VC.skip ?_
              show VC _ _ _ _ _
              refine VC.region ?_
              refine VO.val rfl rfl (OpV.add rfl rfl rfl (by unfold fits; omega)) ?_
              refine VO.val rfl rfl (OpV.move (.inl rfl) rfl) ?_
              refine VO.nil ?_
              first
                | exact Exists.intro (⟨q + 1, by omega, lt_succ_cases hn (needE_0 hk (.inr hs) ho)⟩) (And.intro (Le.mk hB [] ⟨rfl, rfl, rfl, rfl, rfl, rfl, trivial⟩ rfl rfl (Nat.le_refl _)) (by first | omega | (show _ < _; omega) | (simp only []; omega)))
                | exact Exists.intro (⟨q + 1, by omega, lt_succ_cases hn (needE_0 hk (.inl (by omega)) ho)⟩) (And.intro (Le.mk hB [] ⟨rfl, rfl, rfl, rfl, rfl, rfl, trivial⟩ rfl rfl (Nat.le_refl _)) (by first | omega | (show _ < _; omega) | (simp only []; omega)))
        · have aK3 := aK3b
          try simp only [decide_eq_true_eq, decide_eq_false_iff_not, Bool.not_eq_true', Bool.not_eq_false', Int.not_lt, Int.not_le] at aK3
          refine VA.takeX (i := 3) rfl (by kernel_rfl) (by kernel_rfl) (by kernel_rfl) rfl rfl rfl rfl aK3b ?_
          refine VA.takeX (i := 4) rfl (by kernel_rfl) (by kernel_rfl) (by kernel_rfl) rfl rfl rfl rfl aK3b ?_
          refine VA.takeX (i := 5) rfl (by kernel_rfl) (by kernel_rfl) (by kernel_rfl) rfl rfl rfl rfl aK3b ?_
          refine VA.takeX (i := 6) rfl (by kernel_rfl) (by kernel_rfl) (by kernel_rfl) rfl rfl rfl rfl aK3b ?_
          refine VA.takeX (i := 7) rfl (by kernel_rfl) (by kernel_rfl) (by kernel_rfl) rfl rfl rfl rfl aK3b ?_
          refine VA.takeX (i := 8) rfl (by kernel_rfl) (by kernel_rfl) (by kernel_rfl) rfl rfl rfl rfl aK3b ?_
          refine VA.takeX (i := 9) rfl (by kernel_rfl) (by kernel_rfl) (by kernel_rfl) rfl rfl rfl rfl aK3b ?_
          refine VA.takeX (i := 10) rfl (by kernel_rfl) (by kernel_rfl) (by kernel_rfl) rfl rfl rfl rfl aK3b ?_
          refine VA.takeX (i := 11) rfl (by kernel_rfl) (by kernel_rfl) (by kernel_rfl) rfl rfl rfl rfl aK3b ?_
          refine VA.take (i := 12) rfl (by kernel_rfl) (by kernel_rfl) (by kernel_rfl) rfl rfl (OpV.pickF rfl rfl rfl rfl aK3b) ?_
          refine VA.take (i := 13) rfl (by kernel_rfl) (by kernel_rfl) (by kernel_rfl) rfl rfl (OpV.move (.inr rfl) rfl) ?_
          refine VA.done (by kernel_rfl) ?_
          show VC _ _ _ _ _
          refine VC.condF rfl rfl ?_
          refine VC.seq ?_
          refine VC.region ?_
          first
            | refine VO.val rfl rfl (OpV.fieldAddr_atO 1 rfl Tryd.underlying60 rfl rfl Tryd.sizeOf3 rfl rfl) ?_
            | refine VO.val rfl rfl (OpV.fieldAddrO 1 rfl Tryd.underlying60 rfl rfl Tryd.sizeOf3 rfl) ?_
          first
            | refine VO.val rfl rfl (OpV.load_at rfl hB OutW.no Tryd.isAgg3 rfl rfl) ?_
            | refine VO.val rfl rfl (OpV.load_own (i := 0) rfl hB Tryd.isAgg3 rfl rfl rfl (fun h => h)) ?_
          refine VO.val rfl rfl (OpV.move (.inl rfl) rfl) ?_
          refine VO.val rfl rfl (OpV.move (.inl rfl) rfl) ?_
          refine VO.op rfl (OpE.call rfl hB rfl Tryd.call40 rfl (SpecN.spec (kit_Outside)) ?_)
          rintro _ rfl
          refine VO.val rfl rfl (OpV.move (.inr rfl) rfl) ?_
          refine VO.nil ?_
          show VC _ _ _ _ _
          refine VC.cond rfl (fun hob => ?_) (fun hob => ?_)
          · have ho := hob
            try simp only [decide_eq_true_eq, decide_eq_false_iff_not, Bool.not_eq_true', Bool.not_eq_false', Int.not_lt, Int.not_le] at ho
            refine VC.seq ?_
            refine VC.region ?_
            refine VO.val rfl rfl (OpV.move (.inr rfl) rfl) ?_
            refine VO.nil ?_
            show VC _ _ _ _ _
            refine VC.ret ?_
            exact Exists.intro _ (And.intro (RetN.one Tryd.results42 (ResN.v rfl)) (by first | rw [needsF_at (by omega) (by omega) hn (needE_1 hk (.inr hs) ho) (by decide)] | rw [needsF_at (by omega) (by omega) hn (needE_1 hk (.inl (by omega)) ho) (by decide)]))
          · have ho := hob
            try simp only [decide_eq_true_eq, decide_eq_false_iff_not, Bool.not_eq_true', Bool.not_eq_false', Int.not_lt, Int.not_le] at ho
            refine VC.skip ?_
            show VC _ _ _ _ _
            refine VC.region ?_
            refine VO.val rfl rfl (OpV.add rfl rfl rfl (by unfold fits; omega)) ?_
            refine VO.val rfl rfl (OpV.move (.inl rfl) rfl) ?_
            refine VO.nil ?_
            first
              | exact Exists.intro (⟨q + 1, by omega, lt_succ_cases hn (needE_0 hk (.inr hs) ho)⟩) (And.intro (Le.mk hB [] ⟨rfl, rfl, rfl, rfl, rfl, rfl, trivial⟩ rfl rfl (Nat.le_refl _)) (by first | omega | (show _ < _; omega) | (simp only []; omega)))
              | exact Exists.intro (⟨q + 1, by omega, lt_succ_cases hn (needE_0 hk (.inl (by omega)) ho)⟩) (And.intro (Le.mk hB [] ⟨rfl, rfl, rfl, rfl, rfl, rfl, trivial⟩ rfl rfl (Nat.le_refl _)) (by first | omega | (show _ < _; omega) | (simp only []; omega)))
    · have aH2 := aH2b
      try simp only [decide_eq_true_eq, decide_eq_false_iff_not, Bool.not_eq_true', Bool.not_eq_false', Int.not_lt, Int.not_le] at aH2
      refine VC.exit ?_
      show VC _ _ _ _ _
      refine VC.seq ?_
      refine VC.region ?_
      refine VO.val rfl rfl (OpV.move (.inr rfl) rfl) ?_
      refine VO.nil ?_
      show VC _ _ _ _ _
      refine VC.ret ?_
      exact Exists.intro _ (And.intro (RetN.one Tryd.results42 (ResN.v rfl)) (by rw [needsF_ok (by omega) (fun j hj => hn j (by omega))]))
set_option maxRecDepth 100000 in
theorem line_CheckNeeds {l : List NeedS} (hl : l.length ≤ 1000000000) (hb : ∀ i, (l.getD i default).key.size ≤ 1000000000) :
    SpecN Tryd.prog 18 [avL l] (fun y => y = avI (needsF l 1 1000)) := by
  refine SpecN.of_VCN Tryd.func18 rfl Tryd.ntmps18 (Nat.le_of_ble_eq_true rfl) fun w A hB => ?_
  have hnew : ∀ b, (B0 w A 5).S b → (B0 w A 5).str b := fun _ h => h.elim
  refine VC.seq ?_
  refine VC.region ?_
  refine VO.val rfl rfl (OpV.move (.inr rfl) rfl) ?_
  refine VO.nil ?_
  show VC _ _ _ _ _
  refine VC.seq ?_
  refine VC.region ?_
  refine VO.val rfl rfl (OpV.move (.inl rfl) rfl) ?_
  refine VO.op rfl (OpE.call rfl hB rfl Tryd.call42 rfl (SpecN.spec (line_NeedsFault hl hb)) ?_)
  rintro _ rfl
  refine VO.val rfl rfl (OpV.move (.inr rfl) rfl) ?_
  refine VO.nil ?_
  show VC _ _ _ _ _
  refine VC.ret ?_
  exact Exists.intro _ (And.intro (RetN.one Tryd.results18 (ResN.v rfl)) (rfl))
set_option maxRecDepth 100000 in
theorem slices_IndexFunc_mach {xs : List Mach} {F : FuncId} {cs : List AV} {p : Mach → Bool} (hl : xs.length ≤ 1000000000) (hcall : ∀ us w, (callFunc F us).run Tryd.prog w = .ok (.enter F us) w) (hF : ∀ x, Spec Tryd.prog F ([avT x] ++ cs) (fun y => y = avB (p x))) :
    SpecN Tryd.prog 49 [avL xs, .fn F cs] (fun y => y = avI (fidx p xs)) := by
  refine SpecN.of_VCN Tryd.func49 rfl Tryd.ntmps49 (Nat.le_of_ble_eq_true rfl) fun w A hB => ?_
  have hnew : ∀ b, (B0 w A 19).S b → (B0 w A 19).str b := fun _ h => h.elim
  refine VC.seq ?_
  refine VC.region ?_
  refine VO.val rfl rfl (OpV.move (.inr rfl) rfl) ?_
  refine VO.nil ?_
  show VC _ _ _ _ _
  refine VC.seq ?_
  refine VC.seq ?_
  refine VC.region ?_
  refine VO.val rfl rfl (OpV.move (.inl rfl) rfl) ?_
  first
    | refine VO.val rfl rfl (OpV.len_im rfl Tryd.underlying26 rfl) ?_
    | refine VO.val rfl rfl (OpV.len_v rfl Tryd.underlying26 rfl) ?_
  refine VO.val rfl rfl (OpV.move (.inl rfl) rfl) ?_
  refine VO.nil ?_
  show VC _ _ _ _ _
  refine VC.block ?_
  refine VC.loop' ({q : Nat // q ≤ xs.length ∧ ∀ j, j < q → p (xs.getD j default) = false}) (fun (i : {q : Nat // q ≤ xs.length ∧ ∀ j, j < q → p (xs.getD j default) = false}) => match i with | ⟨q, hq, hn⟩ => ⟨[(0, avL xs), (1, .fn F cs), (6, avL xs), (7, avI xs.length), (8, avI (q : Int))], [], 0⟩) (fun (i : {q : Nat // q ≤ xs.length ∧ ∀ j, j < q → p (xs.getD j default) = false}) => match i with | ⟨q, hq, hn⟩ => xs.length - q) ⟨0, Nat.zero_le _, fun j hj => absurd hj (Nat.not_lt_zero j)⟩ (Le.mk hB [] ⟨rfl, rfl, rfl, rfl, rfl, trivial⟩ rfl rfl (Nat.le_refl _)) ?_
  rintro ⟨q, hq, hn⟩
  show VC _ _ _ _ ⟨[(0, avL xs), (1, .fn F cs), (6, avL xs), (7, avI xs.length), (8, avI (q : Int))], [], 0⟩
  refine VC.seq ?_
  refine VC.region ?_
  refine VO.val rfl rfl (OpV.lss rfl rfl rfl) ?_
  refine VO.nil ?_
  show VC _ _ _ _ _
  refine VC.seq ?_
  refine VC.cond rfl (fun aH1b => ?_) (fun aH1b => ?_)
  · have aH1 := aH1b
    try simp only [decide_eq_true_eq, decide_eq_false_iff_not, Bool.not_eq_true', Bool.not_eq_false', Int.not_lt, Int.not_le] at aH1
    refine VC.skip ?_
    show VC _ _ _ _ _
    refine VC.seq ?_
    refine VC.block ?_
    refine VC.seq ?_
    refine VC.region ?_
    refine VO.val rfl rfl (OpV.move (.inl rfl) rfl) ?_
    refine VO.val rfl rfl (OpV.move (.inr rfl) rfl) ?_
    refine VO.nil ?_
    show VC _ _ _ _ _
    refine VC.seq ?_
    refine VC.region ?_
    refine VO.val rfl rfl (OpV.move (.inl rfl) rfl) ?_
    refine VO.val rfl rfl (OpV.move (.inl rfl) rfl) ?_
    refine VO.val rfl rfl (OpV.move (.inl rfl) rfl) ?_
    first
      | refine VO.val rfl rfl (OpV.indexAddr_E rfl Tryd.underlying26 Tryd.sizeOf54 rfl rfl rfl (by omega)) ?_
      | refine VO.val rfl rfl (OpV.indexAddr_E rfl Tryd.underlying26 Tryd.sizeOf54 rfl rfl (Int.toNat_of_nonneg (by omega)).symm (by omega)) ?_
      | refine VO.val rfl rfl (OpV.indexAddr_q rfl Tryd.underlying26 Tryd.sizeOf54 rfl rfl rfl (by omega)) ?_
      | refine VO.val rfl rfl (OpV.indexAddr_q rfl Tryd.underlying26 Tryd.sizeOf54 rfl rfl (Int.toNat_of_nonneg (by omega)).symm (by omega)) ?_
      | refine VO.val rfl rfl (OpV.indexAddr_im rfl Tryd.underlying26 Tryd.sizeOf54 rfl rfl (by omega) (by omega)) ?_
    refine VO.val rfl rfl (OpV.loadK_at rfl hB OutW.no Tryd.isAgg54 Tryd.sizeOf54 rfl rfl) ?_
    refine VO.op rfl (OpE.callF rfl hB rfl hcall rfl rfl (hF _) ?_)
    rintro _ rfl
    refine VO.nil ?_
    show VC _ _ _ _ _
    refine VC.cond rfl (fun aH2b => ?_) (fun aH2b => ?_)
    · have aH2 := aH2b
      try simp only [decide_eq_true_eq, decide_eq_false_iff_not, Bool.not_eq_true', Bool.not_eq_false', Int.not_lt, Int.not_le] at aH2
      refine VC.seq ?_
      refine VC.region ?_
      refine VO.val rfl rfl (OpV.move (.inl rfl) rfl) ?_
      refine VO.val rfl rfl (OpV.move (.inr rfl) rfl) ?_
      refine VO.nil ?_
      show VC _ _ _ _ _
      refine VC.ret ?_
      exact Exists.intro _ (And.intro (RetN.one Tryd.results49 (ResN.v rfl)) (by first | (rw [fidx_found (d := default) (q := q) (by omega) hn (by assumption)]) | (rw [fidx_none (d := default) (fun j hj => hn j (by omega))])))
    · have aH2 := aH2b
      try simp only [decide_eq_true_eq, decide_eq_false_iff_not, Bool.not_eq_true', Bool.not_eq_false', Int.not_lt, Int.not_le] at aH2
      refine VC.skip ?_
      show VC _ _ _ _ _
      refine VC.region ?_
      refine VO.val rfl rfl (OpV.add rfl rfl rfl (by unfold fits; omega)) ?_
      refine VO.val rfl rfl (OpV.move (.inl rfl) rfl) ?_
      refine VO.nil ?_
      exact Exists.intro (⟨q + 1, by omega, lt_succ_cases hn (by assumption)⟩) (And.intro (Le.mk hB [] ⟨rfl, rfl, rfl, rfl, rfl, trivial⟩ rfl rfl (Nat.le_refl _)) (by first | omega | (show _ < _; omega) | (simp only []; omega)))
  · have aH1 := aH1b
    try simp only [decide_eq_true_eq, decide_eq_false_iff_not, Bool.not_eq_true', Bool.not_eq_false', Int.not_lt, Int.not_le] at aH1
    refine VC.exit ?_
    show VC _ _ _ _ _
    refine VC.seq ?_
    refine VC.region ?_
    refine VO.val rfl rfl (OpV.move (.inr rfl) rfl) ?_
    refine VO.nil ?_
    show VC _ _ _ _ _
    refine VC.ret ?_
    exact Exists.intro _ (And.intro (RetN.one Tryd.results49 (ResN.v rfl)) (by first | (rw [fidx_found (d := default) (q := q) (by omega) hn (by assumption)]) | (rw [fidx_none (d := default) (fun j hj => hn j (by omega))])))
set_option maxRecDepth 100000 in
theorem slices_ContainsFunc_mach {xs : List Mach} {F : FuncId} {cs : List AV} {p : Mach → Bool} (hl : xs.length ≤ 1000000000) (hcall : ∀ us w, (callFunc F us).run Tryd.prog w = .ok (.enter F us) w) (hF : ∀ x, Spec Tryd.prog F ([avT x] ++ cs) (fun y => y = avB (p x))) :
    SpecN Tryd.prog 34 [avL xs, .fn F cs] (fun y => y = avB (xs.any p)) := by
  refine SpecN.of_VCN Tryd.func34 rfl Tryd.ntmps34 (Nat.le_of_ble_eq_true rfl) fun w A hB => ?_
  have hnew : ∀ b, (B0 w A 9).S b → (B0 w A 9).str b := fun _ h => h.elim
  refine VC.seq ?_
  refine VC.region ?_
  refine VO.val rfl rfl (OpV.move (.inr rfl) rfl) ?_
  refine VO.nil ?_
  show VC _ _ _ _ _
  refine VC.seq ?_
  refine VC.region ?_
  refine VO.val rfl rfl (OpV.move (.inl rfl) rfl) ?_
  refine VO.val rfl rfl (OpV.move (.inl rfl) rfl) ?_
  refine VO.op rfl (OpE.call rfl hB rfl Tryd.call49 rfl (SpecN.spec (slices_IndexFunc_mach hl hcall hF)) ?_)
  rintro _ rfl
  refine VO.val rfl rfl (OpV.geq rfl rfl rfl) ?_
  refine VO.val rfl rfl (OpV.move (.inr rfl) rfl) ?_
  refine VO.nil ?_
  show VC _ _ _ _ _
  refine VC.ret ?_
  exact Exists.intro _ (And.intro (RetN.one Tryd.results34 (ResN.v rfl)) (by rw [← fidx_any]))
set_option maxRecDepth 100000 in
theorem line_CheckMachines1 {x o : Mach}  :
    SpecN Tryd.prog 39 [avT o, .at_ 5 (Sxc.cell x)] (fun y => y = avB (sEq o.key x.key)) := by
  refine SpecN.of_VCN Tryd.func39 rfl Tryd.ntmps39 (Nat.le_of_ble_eq_true rfl) fun w A hB => ?_
  have hnew : ∀ b, (B0 w A 9).S b → (B0 w A 9).str b := fun _ h => h.elim
  refine VC.seq ?_
  refine VC.region ?_
  refine VO.op rfl (OpE.box rfl hB rfl rfl rfl ?_)
  intro g2
  refine VO.val rfl rfl (OpV.move (.inr rfl) rfl) ?_
  refine VO.nil ?_
  show VC _ _ _ _ _
  refine VC.seq ?_
  refine VC.region ?_
  first
    | refine VO.val rfl rfl (OpV.fieldAddr_atO 0 rfl Tryd.underlying54 rfl rfl Tryd.sizeOf9 rfl rfl) ?_
    | refine VO.val rfl rfl (OpV.fieldAddrO 0 rfl Tryd.underlying54 rfl rfl Tryd.sizeOf9 rfl) ?_
  first
    | refine VO.val rfl rfl (OpV.load_at rfl hB OutW.no Tryd.isAgg9 rfl rfl) ?_
    | refine VO.val rfl rfl (OpV.load_own (i := 0) rfl hB Tryd.isAgg9 rfl rfl rfl (fun h => h)) ?_
  first
    | refine VO.val rfl rfl (OpV.fieldAddr_atO 0 rfl Tryd.underlying54 rfl rfl Tryd.sizeOf9 rfl rfl) ?_
    | refine VO.val rfl rfl (OpV.fieldAddrO 0 rfl Tryd.underlying54 rfl rfl Tryd.sizeOf9 rfl) ?_
  first
    | refine VO.val rfl rfl (OpV.load_at rfl hB OutW.no Tryd.isAgg9 rfl rfl) ?_
    | refine VO.val rfl rfl (OpV.load_own (i := 0) rfl hB Tryd.isAgg9 rfl rfl rfl (fun h => h)) ?_
  refine VO.val rfl rfl (OpV.seql rfl rfl rfl) ?_
  refine VO.val rfl rfl (OpV.move (.inr rfl) rfl) ?_
  refine VO.nil ?_
  show VC _ _ _ _ _
  refine VC.ret ?_
  exact Exists.intro _ (And.intro (RetN.one Tryd.results39 (ResN.v rfl)) (rfl))
set_option maxRecDepth 100000 in
theorem rf_MachinesFault1 {x o : Mach}  :
    SpecN Tryd.prog 35 [avT o, .at_ 5 (Sxc.cell x)] (fun y => y = avB (sEq o.key x.key)) := by
  refine SpecN.of_VCN Tryd.func35 rfl Tryd.ntmps35 (Nat.le_of_ble_eq_true rfl) fun w A hB => ?_
  have hnew : ∀ b, (B0 w A 9).S b → (B0 w A 9).str b := fun _ h => h.elim
  refine VC.seq ?_
  refine VC.region ?_
  refine VO.op rfl (OpE.box rfl hB rfl rfl rfl ?_)
  intro g2
  refine VO.val rfl rfl (OpV.move (.inr rfl) rfl) ?_
  refine VO.nil ?_
  show VC _ _ _ _ _
  refine VC.seq ?_
  refine VC.region ?_
  first
    | refine VO.val rfl rfl (OpV.fieldAddr_atO 0 rfl Tryd.underlying54 rfl rfl Tryd.sizeOf9 rfl rfl) ?_
    | refine VO.val rfl rfl (OpV.fieldAddrO 0 rfl Tryd.underlying54 rfl rfl Tryd.sizeOf9 rfl) ?_
  first
    | refine VO.val rfl rfl (OpV.load_at rfl hB OutW.no Tryd.isAgg9 rfl rfl) ?_
    | refine VO.val rfl rfl (OpV.load_own (i := 0) rfl hB Tryd.isAgg9 rfl rfl rfl (fun h => h)) ?_
  first
    | refine VO.val rfl rfl (OpV.fieldAddr_atO 0 rfl Tryd.underlying54 rfl rfl Tryd.sizeOf9 rfl rfl) ?_
    | refine VO.val rfl rfl (OpV.fieldAddrO 0 rfl Tryd.underlying54 rfl rfl Tryd.sizeOf9 rfl) ?_
  first
    | refine VO.val rfl rfl (OpV.load_at rfl hB OutW.no Tryd.isAgg9 rfl rfl) ?_
    | refine VO.val rfl rfl (OpV.load_own (i := 0) rfl hB Tryd.isAgg9 rfl rfl rfl (fun h => h)) ?_
  refine VO.val rfl rfl (OpV.seql rfl rfl rfl) ?_
  refine VO.val rfl rfl (OpV.move (.inr rfl) rfl) ?_
  refine VO.nil ?_
  show VC _ _ _ _ _
  refine VC.ret ?_
  exact Exists.intro _ (And.intro (RetN.one Tryd.results35 (ResN.v rfl)) (rfl))
set_option maxRecDepth 100000 in
theorem line_CheckMachines {ms : List Mach} (hl : ms.length ≤ 1000000000) (hb : ∀ i, (ms.getD i default).key.size ≤ 1000000000) (hc : ∀ i, (ms.getD i default).can.length ≤ 1000000000) (hcb : ∀ i j, ((ms.getD i default).can.getD j ByteArray.empty).size ≤ 1000000000) :
    SpecN Tryd.prog 17 [avL ms] (fun y => y = avI (machF ms)) := by
  refine SpecN.of_VCN Tryd.func17 rfl Tryd.ntmps17 (Nat.le_of_ble_eq_true rfl) fun w A hB => ?_
  have hnew : ∀ b, (B0 w A 51).S b → (B0 w A 51).str b := fun _ h => h.elim
  refine VC.seq ?_
  refine VC.region ?_
  refine VO.val rfl rfl (OpV.move (.inr rfl) rfl) ?_
  refine VO.nil ?_
  show VC _ _ _ _ _
  refine VC.seq ?_
  refine VC.seq ?_
  refine VC.region ?_
  refine VO.val rfl rfl (OpV.move (.inl rfl) rfl) ?_
  first
    | refine VO.val rfl rfl (OpV.len_im rfl Tryd.underlying26 rfl) ?_
    | refine VO.val rfl rfl (OpV.len_v rfl Tryd.underlying26 rfl) ?_
  refine VO.val rfl rfl (OpV.eql rfl rfl rfl) ?_
  refine VO.nil ?_
  show VC _ _ _ _ _
  refine VC.cond rfl (fun aH1b => ?_) (fun aH1b => ?_)
  · have aH1 := aH1b
    try simp only [decide_eq_true_eq, decide_eq_false_iff_not, Bool.not_eq_true', Bool.not_eq_false', Int.not_lt, Int.not_le] at aH1
    refine VC.seq ?_
    refine VC.region ?_
    refine VO.val rfl rfl (OpV.move (.inr rfl) rfl) ?_
    refine VO.nil ?_
    show VC _ _ _ _ _
    refine VC.ret ?_
    exact Exists.intro _ (And.intro (RetN.one Tryd.results17 (ResN.v rfl)) (by rw [machF_none (by omega)]))
  · have aH1 := aH1b
    try simp only [decide_eq_true_eq, decide_eq_false_iff_not, Bool.not_eq_true', Bool.not_eq_false', Int.not_lt, Int.not_le] at aH1
    refine VC.skip ?_
    show VC _ _ _ _ _
    refine VC.seq ?_
    refine VC.seq ?_
    refine VC.region ?_
    refine VO.val rfl rfl (OpV.move (.inl rfl) rfl) ?_
    first
      | refine VO.val rfl rfl (OpV.len_im rfl Tryd.underlying26 rfl) ?_
      | refine VO.val rfl rfl (OpV.len_v rfl Tryd.underlying26 rfl) ?_
    refine VO.val rfl rfl (OpV.gtr rfl rfl rfl) ?_
    refine VO.nil ?_
    show VC _ _ _ _ _
    refine VC.cond rfl (fun aH2b => ?_) (fun aH2b => ?_)
    · have aH2 := aH2b
      try simp only [decide_eq_true_eq, decide_eq_false_iff_not, Bool.not_eq_true', Bool.not_eq_false', Int.not_lt, Int.not_le] at aH2
      refine VC.seq ?_
      refine VC.region ?_
      refine VO.val rfl rfl (OpV.move (.inr rfl) rfl) ?_
      refine VO.nil ?_
      show VC _ _ _ _ _
      refine VC.ret ?_
      exact Exists.intro _ (And.intro (RetN.one Tryd.results17 (ResN.v rfl)) (by rw [machF_big (by omega)]))
    · have aH2 := aH2b
      try simp only [decide_eq_true_eq, decide_eq_false_iff_not, Bool.not_eq_true', Bool.not_eq_false', Int.not_lt, Int.not_le] at aH2
      refine VC.skip ?_
      show VC _ _ _ _ _
      refine VC.seq ?_
      refine VC.seq ?_
      refine VC.region ?_
      refine VO.val rfl rfl (OpV.move (.inl rfl) rfl) ?_
      first
        | refine VO.val rfl rfl (OpV.len_im rfl Tryd.underlying26 rfl) ?_
        | refine VO.val rfl rfl (OpV.len_v rfl Tryd.underlying26 rfl) ?_
      refine VO.val rfl rfl (OpV.move (.inl rfl) rfl) ?_
      refine VO.nil ?_
      show VC _ _ _ _ _
      refine VC.block ?_
      refine VC.loop' ({q : Nat // q ≤ ms.length ∧ ∀ j, j < q → machE ms j = 0}) (fun (i : {q : Nat // q ≤ ms.length ∧ ∀ j, j < q → machE ms j = 0}) => match i with | ⟨q, hq, hn⟩ => ⟨[(0, avL ms), (12, avL ms), (13, avI ms.length), (14, avI (q : Int))], [], 0⟩) (fun (i : {q : Nat // q ≤ ms.length ∧ ∀ j, j < q → machE ms j = 0}) => match i with | ⟨q, hq, hn⟩ => ms.length - q) ⟨0, Nat.zero_le _, fun j hj => absurd hj (Nat.not_lt_zero j)⟩ (Le.mk hB [] ⟨rfl, rfl, rfl, rfl, trivial⟩ rfl rfl (Nat.le_refl _)) ?_
      rintro ⟨q, hq, hn⟩
      show VC _ _ _ _ ⟨[(0, avL ms), (12, avL ms), (13, avI ms.length), (14, avI (q : Int))], [], 0⟩
      refine VC.seq ?_
      refine VC.region ?_
      refine VO.val rfl rfl (OpV.lss rfl rfl rfl) ?_
      refine VO.nil ?_
      show VC _ _ _ _ _
      refine VC.seq ?_
      refine VC.cond rfl (fun aH3b => ?_) (fun aH3b => ?_)
      · have aH3 := aH3b
        try simp only [decide_eq_true_eq, decide_eq_false_iff_not, Bool.not_eq_true', Bool.not_eq_false', Int.not_lt, Int.not_le] at aH3
        refine VC.skip ?_
        show VC _ _ _ _ _
        refine VC.seq ?_
        refine VC.block ?_
        refine VC.seq ?_
        refine VC.region ?_
        refine VO.val rfl rfl (OpV.move (.inl rfl) rfl) ?_
        first
          | refine VO.val rfl rfl (OpV.indexAddr_E rfl Tryd.underlying26 Tryd.sizeOf54 rfl rfl rfl (by omega)) ?_
          | refine VO.val rfl rfl (OpV.indexAddr_E rfl Tryd.underlying26 Tryd.sizeOf54 rfl rfl (Int.toNat_of_nonneg (by omega)).symm (by omega)) ?_
          | refine VO.val rfl rfl (OpV.indexAddr_q rfl Tryd.underlying26 Tryd.sizeOf54 rfl rfl rfl (by omega)) ?_
          | refine VO.val rfl rfl (OpV.indexAddr_q rfl Tryd.underlying26 Tryd.sizeOf54 rfl rfl (Int.toNat_of_nonneg (by omega)).symm (by omega)) ?_
          | refine VO.val rfl rfl (OpV.indexAddr_im rfl Tryd.underlying26 Tryd.sizeOf54 rfl rfl (by omega) (by omega)) ?_
        refine VO.val rfl rfl (OpV.loadK_at rfl hB OutW.no Tryd.isAgg54 Tryd.sizeOf54 rfl rfl) ?_
        refine VO.op rfl (OpE.alloc rfl hB rfl Tryd.zeroValue54 rfl ?_)
        intro g4
        refine VO.val rfl rfl (OpV.move (.inr rfl) rfl) ?_
        refine VO.op rfl (OpE.store (i := 0) rfl hB rfl Tryd.sizeOf54 rfl rfl rfl rfl rfl rfl (Nat.le_of_ble_eq_true rfl) trivial ?_)
        refine VO.nil ?_
        show VC _ _ _ _ _
        refine VC.seq ?_
        refine VC.block ?_
        refine VC.seq ?_
        refine VC.region ?_
        first
          | refine VO.val rfl rfl (OpV.fieldAddr_atO 0 rfl Tryd.underlying54 rfl rfl Tryd.sizeOf9 rfl rfl) ?_
          | refine VO.val rfl rfl (OpV.fieldAddrO 0 rfl Tryd.underlying54 rfl rfl Tryd.sizeOf9 rfl) ?_
        first
          | refine VO.val rfl rfl (OpV.load_at rfl hB OutW.no Tryd.isAgg9 rfl rfl) ?_
          | refine VO.val rfl rfl (OpV.load_own (i := 0) rfl hB Tryd.isAgg9 rfl rfl rfl (fun h => h)) ?_
        refine VO.op rfl (OpE.call rfl hB rfl Tryd.call38 rfl (SpecN.spec (kit_IsKey (hb _))) ?_)
        rintro _ rfl
        refine VO.val rfl rfl (OpV.not rfl rfl) ?_
        refine VO.val rfl rfl (OpV.move (.inr rfl) rfl) ?_
        refine VO.nil ?_
        show VC _ _ _ _ _
        refine VC.cond rfl (fun hkb => ?_) (fun hkb => ?_)
        · have hk := hkb
          try simp only [decide_eq_true_eq, decide_eq_false_iff_not, Bool.not_eq_true', Bool.not_eq_false', Int.not_lt, Int.not_le] at hk
          refine VC.seq ?_
          refine VC.region ?_
          refine VO.val rfl rfl (OpV.move (.inr rfl) rfl) ?_
          refine VO.nil ?_
          show VC _ _ _ _ _
          refine VC.ret ?_
          exact Exists.intro _ (And.intro (RetN.one Tryd.results17 (ResN.v rfl)) (by rw [machF_at (by omega) (by omega) (by omega) hn (machE_5 hk) (by decide)]))
        · have hk := hkb
          try simp only [decide_eq_true_eq, decide_eq_false_iff_not, Bool.not_eq_true', Bool.not_eq_false', Int.not_lt, Int.not_le] at hk
          refine VC.seq ?_
          refine VC.region ?_
          refine VO.val rfl rfl (OpV.move (.inl rfl) rfl) ?_
          refine VO.val rfl rfl (OpV.move (.inl rfl) rfl) ?_
          first
            | refine VO.val rfl rfl (OpV.slice_ints (h := q) rfl Tryd.underlying26 Tryd.sizeOf54 rfl rfl ⟨_, _, rfl, rfl⟩ (by omega) (by omega)) ?_
            | refine VO.val rfl rfl (OpV.slice_strs (h := q) rfl Tryd.underlying26 Tryd.sizeOf54 rfl rfl ⟨_, _, rfl, rfl⟩ (by omega) (by omega)) ?_
            | refine VO.val rfl rfl (OpV.slice_L (h := q) rfl Tryd.underlying26 Tryd.sizeOf54 rfl rfl ⟨_, _, rfl, rfl⟩ (by omega) (by omega)) ?_
            | refine VO.val rfl rfl (OpV.slice_im (h := q) rfl Tryd.underlying26 Tryd.sizeOf54 rfl rfl ⟨_, _, rfl, rfl⟩ (by omega) (by omega)) ?_
          refine VO.val rfl rfl (OpV.makeFunc1 rfl rfl) ?_
          refine VO.op rfl (OpE.callL rfl hB rfl Tryd.call34 (slices_ContainsFunc_mach (p := fun o => sEq o.key (ms.getD q default).key) (by rw [len_cut (by omega)]; omega) Tryd.call39 (fun x => line_CheckMachines1.spec)) (ArgsP.cons (ArgP.ev rfl) (ArgsP.cons (ArgP.fn1 (i := 0) (m := 5) (f := Sxc.cell (ms.getD q default)) rfl rfl (Nat.le_of_ble_eq_true rfl) (lt5 rfl rfl rfl rfl rfl)) (ArgsP.nil))) ?_)
          rintro _ rfl
          refine VO.val rfl rfl (OpV.move (.inr rfl) rfl) ?_
          refine VO.nil ?_
          show VC _ _ _ _ _
          refine VC.cond rfl (fun h2b => ?_) (fun h2b => ?_)
          · have h2 := h2b
            try simp only [decide_eq_true_eq, decide_eq_false_iff_not, Bool.not_eq_true', Bool.not_eq_false', Int.not_lt, Int.not_le] at h2
            refine VC.seq ?_
            refine VC.region ?_
            refine VO.val rfl rfl (OpV.move (.inr rfl) rfl) ?_
            refine VO.nil ?_
            show VC _ _ _ _ _
            refine VC.ret ?_
            exact Exists.intro _ (And.intro (RetN.one Tryd.results17 (ResN.v rfl)) (by rw [machF_at (by omega) (by omega) (by omega) hn (machE_6 hk h2) (by decide)]))
          · have h2 := h2b
            try simp only [decide_eq_true_eq, decide_eq_false_iff_not, Bool.not_eq_true', Bool.not_eq_false', Int.not_lt, Int.not_le] at h2
            refine VC.seq ?_
            refine VC.region ?_
            first
              | refine VO.val rfl rfl (OpV.fieldAddr_atO 1 rfl Tryd.underlying54 rfl rfl Tryd.sizeOf3 rfl rfl) ?_
              | refine VO.val rfl rfl (OpV.fieldAddrO 1 rfl Tryd.underlying54 rfl rfl Tryd.sizeOf3 rfl) ?_
            first
              | refine VO.val rfl rfl (OpV.load_at rfl hB OutW.no Tryd.isAgg3 rfl rfl) ?_
              | refine VO.val rfl rfl (OpV.load_own (i := 0) rfl hB Tryd.isAgg3 rfl rfl rfl (fun h => h)) ?_
            refine VO.op rfl (OpE.call rfl hB rfl Tryd.call40 rfl (SpecN.spec (kit_Outside)) ?_)
            rintro _ rfl
            refine VO.val rfl rfl (OpV.move (.inl rfl) rfl) ?_
            refine VO.opG rfl rfl rfl rfl (fun aK4b => ?_) (fun aK4b => ?_)
            · replace aK4b : _ = false := aK4b
              have aK4 := aK4b
              try simp only [decide_eq_true_eq, decide_eq_false_iff_not, Bool.not_eq_true', Bool.not_eq_false', Int.not_lt, Int.not_le] at aK4
              first
                | refine OpE.val (W := NoB) (OpV.fieldAddr_atO 2 rfl Tryd.underlying54 rfl rfl Tryd.sizeOf3 rfl rfl) rfl ?_
                | refine OpE.val (W := NoB) (OpV.fieldAddrO 2 rfl Tryd.underlying54 rfl rfl Tryd.sizeOf3 rfl) rfl ?_
              refine VO.opY rfl rfl rfl rfl aK4b ?_
              first
                | refine OpE.val (W := NoB) (OpV.load_at rfl hB OutW.no Tryd.isAgg3 rfl rfl) rfl ?_
                | refine OpE.val (W := NoB) (OpV.load_own (i := 0) rfl hB Tryd.isAgg3 rfl rfl rfl (fun h => h)) rfl ?_
              refine VO.opY rfl rfl rfl rfl aK4b ?_
              refine OpE.call rfl hB rfl Tryd.call40 rfl (SpecN.spec (kit_Outside)) ?_
              rintro _ rfl
              refine VO.val rfl rfl (OpV.pickF rfl rfl rfl rfl aK4b) ?_
              refine VO.val rfl rfl (OpV.move (.inl rfl) rfl) ?_
              refine VO.opG rfl rfl rfl rfl (fun aK5b => ?_) (fun aK5b => ?_)
              · replace aK5b : _ = false := aK5b
                have aK5 := aK5b
                try simp only [decide_eq_true_eq, decide_eq_false_iff_not, Bool.not_eq_true', Bool.not_eq_false', Int.not_lt, Int.not_le] at aK5
                first
                  | refine OpE.val (W := NoB) (OpV.fieldAddr_atO 3 rfl Tryd.underlying54 rfl rfl Tryd.sizeOf3 rfl rfl) rfl ?_
                  | refine OpE.val (W := NoB) (OpV.fieldAddrO 3 rfl Tryd.underlying54 rfl rfl Tryd.sizeOf3 rfl) rfl ?_
                refine VO.opY rfl rfl rfl rfl aK5b ?_
                first
                  | refine OpE.val (W := NoB) (OpV.load_at rfl hB OutW.no Tryd.isAgg3 rfl rfl) rfl ?_
                  | refine OpE.val (W := NoB) (OpV.load_own (i := 0) rfl hB Tryd.isAgg3 rfl rfl rfl (fun h => h)) rfl ?_
                refine VO.opY rfl rfl rfl rfl aK5b ?_
                refine OpE.call rfl hB rfl Tryd.call40 rfl (SpecN.spec (kit_Outside)) ?_
                rintro _ rfl
                refine VO.val rfl rfl (OpV.pickF rfl rfl rfl rfl aK5b) ?_
                refine VO.val rfl rfl (OpV.move (.inr rfl) rfl) ?_
                refine VO.nil ?_
                show VC _ _ _ _ _
                refine VC.cond rfl (fun h3b => ?_) (fun h3b => ?_)
                · have h3 := h3b
                  try simp only [decide_eq_true_eq, decide_eq_false_iff_not, Bool.not_eq_true', Bool.not_eq_false', Int.not_lt, Int.not_le] at h3
                  refine VC.seq ?_
                  refine VC.region ?_
                  refine VO.val rfl rfl (OpV.move (.inr rfl) rfl) ?_
                  refine VO.nil ?_
                  show VC _ _ _ _ _
                  refine VC.ret ?_
                  exact Exists.intro _ (And.intro (RetN.one Tryd.results17 (ResN.v rfl)) (by rw [machF_at (by omega) (by omega) (by omega) hn (machE_1 hk h2 (by first | exact or3a (by assumption) | exact or3b (by assumption) | exact or3c (by assumption))) (by decide)]))
                · have h3 := h3b
                  try simp only [decide_eq_true_eq, decide_eq_false_iff_not, Bool.not_eq_true', Bool.not_eq_false', Int.not_lt, Int.not_le] at h3
                  refine VC.skip ?_
                  show VC _ _ _ _ _
                  refine VC.seq ?_
                  refine VC.region ?_
                  first
                    | refine VO.val rfl rfl (OpV.fieldAddr_atO 4 rfl Tryd.underlying54 rfl rfl Tryd.sizeOf52 rfl rfl) ?_
                    | refine VO.val rfl rfl (OpV.fieldAddrO 4 rfl Tryd.underlying54 rfl rfl Tryd.sizeOf52 rfl) ?_
                  first
                    | refine VO.val rfl rfl (OpV.load_at rfl hB OutW.no Tryd.isAgg52 rfl rfl) ?_
                    | refine VO.val rfl rfl (OpV.load_own (i := 0) rfl hB Tryd.isAgg52 rfl rfl rfl (fun h => h)) ?_
                  refine VO.op rfl (OpE.call rfl hB rfl Tryd.call41 rfl (SpecN.spec (line_canFault (hc _) (hcb _))) ?_)
                  rintro _ rfl
                  refine VO.val rfl rfl (OpV.move (.inr rfl) rfl) ?_
                  refine VO.nil ?_
                  show VC _ _ _ _ _
                  refine VC.seq ?_
                  refine VC.region ?_
                  refine VO.val rfl rfl (OpV.move (.inl rfl) rfl) ?_
                  refine VO.val rfl rfl (OpV.neq rfl rfl rfl) ?_
                  refine VO.nil ?_
                  show VC _ _ _ _ _
                  refine VC.cond rfl (fun h4b => ?_) (fun h4b => ?_)
                  · have h4 := h4b
                    try simp only [decide_eq_true_eq, decide_eq_false_iff_not, Bool.not_eq_true', Bool.not_eq_false', Int.not_lt, Int.not_le] at h4
                    refine VC.seq ?_
                    refine VC.region ?_
                    refine VO.val rfl rfl (OpV.move (.inl rfl) rfl) ?_
                    refine VO.val rfl rfl (OpV.move (.inr rfl) rfl) ?_
                    refine VO.nil ?_
                    show VC _ _ _ _ _
                    refine VC.ret ?_
                    exact Exists.intro _ (And.intro (RetN.one Tryd.results17 (ResN.v rfl)) (by rw [machF_at (by omega) (by omega) (by omega) hn (machE_x hk h2 (or3f (by assumption) (by assumption) (by assumption))) h4]))
                  · have h4 := h4b
                    try simp only [decide_eq_true_eq, decide_eq_false_iff_not, Bool.not_eq_true', Bool.not_eq_false', Int.not_lt, Int.not_le] at h4
                    refine VC.skip ?_
                    show VC _ _ _ _ _
                    refine VC.region ?_
                    refine VO.val rfl rfl (OpV.add rfl rfl rfl (by unfold fits; omega)) ?_
                    refine VO.val rfl rfl (OpV.move (.inl rfl) rfl) ?_
                    refine VO.nil ?_
                    exact Exists.intro (⟨q + 1, by omega, lt_succ_cases hn (by rw [machE_x hk h2 (or3f (by assumption) (by assumption) (by assumption))]; omega)⟩) (And.intro (Le.mk hB [] ⟨rfl, rfl, rfl, rfl, trivial⟩ rfl rfl (Nat.le_refl _)) (by first | omega | (show _ < _; omega) | (simp only []; omega)))
              · replace aK5b : _ = true := aK5b
                have aK5 := aK5b
                try simp only [decide_eq_true_eq, decide_eq_false_iff_not, Bool.not_eq_true', Bool.not_eq_false', Int.not_lt, Int.not_le] at aK5
                refine VO.opX rfl rfl rfl rfl aK5b ?_
                refine VO.opX rfl rfl rfl rfl aK5b ?_
                refine VO.val rfl rfl (OpV.pickT rfl rfl rfl rfl aK5b) ?_
                refine VO.val rfl rfl (OpV.move (.inr rfl) rfl) ?_
                refine VO.nil ?_
                show VC _ _ _ _ _
                refine VC.condT rfl rfl ?_
                refine VC.seq ?_
                refine VC.region ?_
                refine VO.val rfl rfl (OpV.move (.inr rfl) rfl) ?_
                refine VO.nil ?_
                show VC _ _ _ _ _
                refine VC.ret ?_
                exact Exists.intro _ (And.intro (RetN.one Tryd.results17 (ResN.v rfl)) (by rw [machF_at (by omega) (by omega) (by omega) hn (machE_1 hk h2 (by first | exact or3a (by assumption) | exact or3b (by assumption) | exact or3c (by assumption))) (by decide)]))
            · replace aK4b : _ = true := aK4b
              have aK4 := aK4b
              try simp only [decide_eq_true_eq, decide_eq_false_iff_not, Bool.not_eq_true', Bool.not_eq_false', Int.not_lt, Int.not_le] at aK4
              refine VO.opX rfl rfl rfl rfl aK4b ?_
              refine VO.opX rfl rfl rfl rfl aK4b ?_
              refine VO.val rfl rfl (OpV.pickT rfl rfl rfl rfl aK4b) ?_
              refine VO.val rfl rfl (OpV.move (.inl rfl) rfl) ?_
              refine VO.opX rfl rfl rfl rfl rfl ?_
              refine VO.opX rfl rfl rfl rfl rfl ?_
              refine VO.opX rfl rfl rfl rfl rfl ?_
              refine VO.val rfl rfl (OpV.pickT rfl rfl rfl rfl rfl) ?_
              refine VO.val rfl rfl (OpV.move (.inr rfl) rfl) ?_
              refine VO.nil ?_
              show VC _ _ _ _ _
              refine VC.condT rfl rfl ?_
              refine VC.seq ?_
              refine VC.region ?_
              refine VO.val rfl rfl (OpV.move (.inr rfl) rfl) ?_
              refine VO.nil ?_
              show VC _ _ _ _ _
              refine VC.ret ?_
              exact Exists.intro _ (And.intro (RetN.one Tryd.results17 (ResN.v rfl)) (by rw [machF_at (by omega) (by omega) (by omega) hn (machE_1 hk h2 (by first | exact or3a (by assumption) | exact or3b (by assumption) | exact or3c (by assumption))) (by decide)]))
      · have aH3 := aH3b
        try simp only [decide_eq_true_eq, decide_eq_false_iff_not, Bool.not_eq_true', Bool.not_eq_false', Int.not_lt, Int.not_le] at aH3
        refine VC.exit ?_
        show VC _ _ _ _ _
        refine VC.seq ?_
        refine VC.region ?_
        refine VO.val rfl rfl (OpV.move (.inr rfl) rfl) ?_
        refine VO.nil ?_
        show VC _ _ _ _ _
        refine VC.ret ?_
        exact Exists.intro _ (And.intro (RetN.one Tryd.results17 (ResN.v rfl)) (by rw [machF_ok (by omega) (by omega) (fun j hj => hn j (by omega))]))
set_option maxRecDepth 100000 in
theorem rf_MachinesFault {ms : List Mach} (hl : ms.length ≤ 1000000000) (hb : ∀ i, (ms.getD i default).key.size ≤ 1000000000) (hc : ∀ i, (ms.getD i default).can.length ≤ 1000000000) (hcb : ∀ i j, ((ms.getD i default).can.getD j ByteArray.empty).size ≤ 1000000000) :
    SpecN Tryd.prog 11 [avL ms] (fun y => y = avI (machF ms)) := by
  refine SpecN.of_VCN Tryd.func11 rfl Tryd.ntmps11 (Nat.le_of_ble_eq_true rfl) fun w A hB => ?_
  have hnew : ∀ b, (B0 w A 74).S b → (B0 w A 74).str b := fun _ h => h.elim
  refine VC.seq ?_
  refine VC.region ?_
  refine VO.val rfl rfl (OpV.move (.inr rfl) rfl) ?_
  refine VO.nil ?_
  show VC _ _ _ _ _
  refine VC.seq ?_
  refine VC.block ?_
  refine VC.seq ?_
  refine VC.region ?_
  refine VO.val rfl rfl (OpV.move (.inl rfl) rfl) ?_
  first
    | refine VO.val rfl rfl (OpV.len_im rfl Tryd.underlying26 rfl) ?_
    | refine VO.val rfl rfl (OpV.len_v rfl Tryd.underlying26 rfl) ?_
  refine VO.val rfl rfl (OpV.eql rfl rfl rfl) ?_
  refine VO.val rfl rfl (OpV.move (.inr rfl) rfl) ?_
  refine VO.nil ?_
  show VC _ _ _ _ _
  refine VC.cond rfl (fun aH1b => ?_) (fun aH1b => ?_)
  · have aH1 := aH1b
    try simp only [decide_eq_true_eq, decide_eq_false_iff_not, Bool.not_eq_true', Bool.not_eq_false', Int.not_lt, Int.not_le] at aH1
    refine VC.seq ?_
    refine VC.region ?_
    refine VO.val rfl rfl (OpV.move (.inr rfl) rfl) ?_
    refine VO.nil ?_
    show VC _ _ _ _ _
    refine VC.ret ?_
    exact Exists.intro _ (And.intro (RetN.one Tryd.results11 (ResN.v rfl)) (by rw [machF_none (by omega)]))
  · have aH1 := aH1b
    try simp only [decide_eq_true_eq, decide_eq_false_iff_not, Bool.not_eq_true', Bool.not_eq_false', Int.not_lt, Int.not_le] at aH1
    refine VC.seq ?_
    refine VC.region ?_
    refine VO.val rfl rfl (OpV.move (.inl rfl) rfl) ?_
    first
      | refine VO.val rfl rfl (OpV.len_im rfl Tryd.underlying26 rfl) ?_
      | refine VO.val rfl rfl (OpV.len_v rfl Tryd.underlying26 rfl) ?_
    refine VO.val rfl rfl (OpV.gtr rfl rfl rfl) ?_
    refine VO.val rfl rfl (OpV.move (.inr rfl) rfl) ?_
    refine VO.nil ?_
    show VC _ _ _ _ _
    refine VC.cond rfl (fun aH2b => ?_) (fun aH2b => ?_)
    · have aH2 := aH2b
      try simp only [decide_eq_true_eq, decide_eq_false_iff_not, Bool.not_eq_true', Bool.not_eq_false', Int.not_lt, Int.not_le] at aH2
      refine VC.seq ?_
      refine VC.region ?_
      refine VO.val rfl rfl (OpV.move (.inr rfl) rfl) ?_
      refine VO.nil ?_
      show VC _ _ _ _ _
      refine VC.ret ?_
      exact Exists.intro _ (And.intro (RetN.one Tryd.results11 (ResN.v rfl)) (by rw [machF_big (by omega)]))
    · have aH2 := aH2b
      try simp only [decide_eq_true_eq, decide_eq_false_iff_not, Bool.not_eq_true', Bool.not_eq_false', Int.not_lt, Int.not_le] at aH2
      refine VC.skip ?_
      show VC _ _ _ _ _
      refine VC.seq ?_
      refine VC.seq ?_
      refine VC.region ?_
      refine VO.val rfl rfl (OpV.move (.inl rfl) rfl) ?_
      first
        | refine VO.val rfl rfl (OpV.len_im rfl Tryd.underlying26 rfl) ?_
        | refine VO.val rfl rfl (OpV.len_v rfl Tryd.underlying26 rfl) ?_
      refine VO.val rfl rfl (OpV.move (.inl rfl) rfl) ?_
      refine VO.nil ?_
      show VC _ _ _ _ _
      refine VC.block ?_
      refine VC.loop' ({q : Nat // q ≤ ms.length ∧ ∀ j, j < q → machE ms j = 0}) (fun (i : {q : Nat // q ≤ ms.length ∧ ∀ j, j < q → machE ms j = 0}) => match i with | ⟨q, hq, hn⟩ => ⟨[(0, avL ms), (16, avL ms), (17, avI ms.length), (18, avI (q : Int))], [], 0⟩) (fun (i : {q : Nat // q ≤ ms.length ∧ ∀ j, j < q → machE ms j = 0}) => match i with | ⟨q, hq, hn⟩ => ms.length - q) ⟨0, Nat.zero_le _, fun j hj => absurd hj (Nat.not_lt_zero j)⟩ (Le.mk hB [] ⟨rfl, rfl, rfl, rfl, trivial⟩ rfl rfl (Nat.le_refl _)) ?_
      rintro ⟨q, hq, hn⟩
      show VC _ _ _ _ ⟨[(0, avL ms), (16, avL ms), (17, avI ms.length), (18, avI (q : Int))], [], 0⟩
      refine VC.seq ?_
      refine VC.region ?_
      refine VO.val rfl rfl (OpV.lss rfl rfl rfl) ?_
      refine VO.nil ?_
      show VC _ _ _ _ _
      refine VC.seq ?_
      refine VC.cond rfl (fun aH3b => ?_) (fun aH3b => ?_)
      · have aH3 := aH3b
        try simp only [decide_eq_true_eq, decide_eq_false_iff_not, Bool.not_eq_true', Bool.not_eq_false', Int.not_lt, Int.not_le] at aH3
        refine VC.skip ?_
        show VC _ _ _ _ _
        refine VC.seq ?_
        refine VC.block ?_
        refine VC.seq ?_
        refine VC.region ?_
        refine VO.val rfl rfl (OpV.move (.inl rfl) rfl) ?_
        first
          | refine VO.val rfl rfl (OpV.indexAddr_E rfl Tryd.underlying26 Tryd.sizeOf54 rfl rfl rfl (by omega)) ?_
          | refine VO.val rfl rfl (OpV.indexAddr_E rfl Tryd.underlying26 Tryd.sizeOf54 rfl rfl (Int.toNat_of_nonneg (by omega)).symm (by omega)) ?_
          | refine VO.val rfl rfl (OpV.indexAddr_q rfl Tryd.underlying26 Tryd.sizeOf54 rfl rfl rfl (by omega)) ?_
          | refine VO.val rfl rfl (OpV.indexAddr_q rfl Tryd.underlying26 Tryd.sizeOf54 rfl rfl (Int.toNat_of_nonneg (by omega)).symm (by omega)) ?_
          | refine VO.val rfl rfl (OpV.indexAddr_im rfl Tryd.underlying26 Tryd.sizeOf54 rfl rfl (by omega) (by omega)) ?_
        refine VO.val rfl rfl (OpV.loadK_at rfl hB OutW.no Tryd.isAgg54 Tryd.sizeOf54 rfl rfl) ?_
        refine VO.op rfl (OpE.alloc rfl hB rfl Tryd.zeroValue54 rfl ?_)
        intro g4
        refine VO.val rfl rfl (OpV.move (.inr rfl) rfl) ?_
        refine VO.op rfl (OpE.store (i := 0) rfl hB rfl Tryd.sizeOf54 rfl rfl rfl rfl rfl rfl (Nat.le_of_ble_eq_true rfl) trivial ?_)
        refine VO.nil ?_
        show VC _ _ _ _ _
        refine VC.seq ?_
        refine VC.block ?_
        refine VC.seq ?_
        refine VC.region ?_
        first
          | refine VO.val rfl rfl (OpV.fieldAddr_atO 0 rfl Tryd.underlying54 rfl rfl Tryd.sizeOf9 rfl rfl) ?_
          | refine VO.val rfl rfl (OpV.fieldAddrO 0 rfl Tryd.underlying54 rfl rfl Tryd.sizeOf9 rfl) ?_
        first
          | refine VO.val rfl rfl (OpV.load_at rfl hB OutW.no Tryd.isAgg9 rfl rfl) ?_
          | refine VO.val rfl rfl (OpV.load_own (i := 0) rfl hB Tryd.isAgg9 rfl rfl rfl (fun h => h)) ?_
        refine VO.op rfl (OpE.call rfl hB rfl Tryd.call33 rfl (SpecN.spec (rf_Key (hb _))) ?_)
        rintro _ rfl
        refine VO.val rfl rfl (OpV.not rfl rfl) ?_
        refine VO.val rfl rfl (OpV.move (.inr rfl) rfl) ?_
        refine VO.nil ?_
        show VC _ _ _ _ _
        refine VC.cond rfl (fun hkb => ?_) (fun hkb => ?_)
        · have hk := hkb
          try simp only [decide_eq_true_eq, decide_eq_false_iff_not, Bool.not_eq_true', Bool.not_eq_false', Int.not_lt, Int.not_le] at hk
          refine VC.seq ?_
          refine VC.region ?_
          refine VO.val rfl rfl (OpV.move (.inr rfl) rfl) ?_
          refine VO.nil ?_
          show VC _ _ _ _ _
          refine VC.ret ?_
          exact Exists.intro _ (And.intro (RetN.one Tryd.results11 (ResN.v rfl)) (by rw [machF_at (by omega) (by omega) (by omega) hn (machE_5 hk) (by decide)]))
        · have hk := hkb
          try simp only [decide_eq_true_eq, decide_eq_false_iff_not, Bool.not_eq_true', Bool.not_eq_false', Int.not_lt, Int.not_le] at hk
          refine VC.seq ?_
          refine VC.region ?_
          refine VO.val rfl rfl (OpV.move (.inl rfl) rfl) ?_
          refine VO.val rfl rfl (OpV.move (.inl rfl) rfl) ?_
          first
            | refine VO.val rfl rfl (OpV.slice_ints (h := q) rfl Tryd.underlying26 Tryd.sizeOf54 rfl rfl ⟨_, _, rfl, rfl⟩ (by omega) (by omega)) ?_
            | refine VO.val rfl rfl (OpV.slice_strs (h := q) rfl Tryd.underlying26 Tryd.sizeOf54 rfl rfl ⟨_, _, rfl, rfl⟩ (by omega) (by omega)) ?_
            | refine VO.val rfl rfl (OpV.slice_L (h := q) rfl Tryd.underlying26 Tryd.sizeOf54 rfl rfl ⟨_, _, rfl, rfl⟩ (by omega) (by omega)) ?_
            | refine VO.val rfl rfl (OpV.slice_im (h := q) rfl Tryd.underlying26 Tryd.sizeOf54 rfl rfl ⟨_, _, rfl, rfl⟩ (by omega) (by omega)) ?_
          refine VO.val rfl rfl (OpV.makeFunc1 rfl rfl) ?_
          refine VO.op rfl (OpE.callL rfl hB rfl Tryd.call34 (slices_ContainsFunc_mach (p := fun o => sEq o.key (ms.getD q default).key) (by rw [len_cut (by omega)]; omega) Tryd.call35 (fun x => rf_MachinesFault1.spec)) (ArgsP.cons (ArgP.ev rfl) (ArgsP.cons (ArgP.fn1 (i := 0) (m := 5) (f := Sxc.cell (ms.getD q default)) rfl rfl (Nat.le_of_ble_eq_true rfl) (lt5 rfl rfl rfl rfl rfl)) (ArgsP.nil))) ?_)
          rintro _ rfl
          refine VO.val rfl rfl (OpV.move (.inr rfl) rfl) ?_
          refine VO.nil ?_
          show VC _ _ _ _ _
          refine VC.cond rfl (fun h2b => ?_) (fun h2b => ?_)
          · have h2 := h2b
            try simp only [decide_eq_true_eq, decide_eq_false_iff_not, Bool.not_eq_true', Bool.not_eq_false', Int.not_lt, Int.not_le] at h2
            refine VC.seq ?_
            refine VC.region ?_
            refine VO.val rfl rfl (OpV.move (.inr rfl) rfl) ?_
            refine VO.nil ?_
            show VC _ _ _ _ _
            refine VC.ret ?_
            exact Exists.intro _ (And.intro (RetN.one Tryd.results11 (ResN.v rfl)) (by rw [machF_at (by omega) (by omega) (by omega) hn (machE_6 hk h2) (by decide)]))
          · have h2 := h2b
            try simp only [decide_eq_true_eq, decide_eq_false_iff_not, Bool.not_eq_true', Bool.not_eq_false', Int.not_lt, Int.not_le] at h2
            refine VC.seq ?_
            refine VC.region ?_
            first
              | refine VO.val rfl rfl (OpV.fieldAddr_atO 1 rfl Tryd.underlying54 rfl rfl Tryd.sizeOf3 rfl rfl) ?_
              | refine VO.val rfl rfl (OpV.fieldAddrO 1 rfl Tryd.underlying54 rfl rfl Tryd.sizeOf3 rfl) ?_
            first
              | refine VO.val rfl rfl (OpV.load_at rfl hB OutW.no Tryd.isAgg3 rfl rfl) ?_
              | refine VO.val rfl rfl (OpV.load_own (i := 0) rfl hB Tryd.isAgg3 rfl rfl rfl (fun h => h)) ?_
            refine VO.op rfl (OpE.call rfl hB rfl Tryd.call36 rfl (SpecN.spec (rf_in)) ?_)
            rintro _ rfl
            refine VO.val rfl rfl (OpV.not rfl rfl) ?_
            refine VO.val rfl rfl (OpV.move (.inl rfl) rfl) ?_
            refine VO.opG rfl rfl rfl rfl (fun aK4b => ?_) (fun aK4b => ?_)
            · replace aK4b : _ = false := aK4b
              have aK4 := aK4b
              try simp only [decide_eq_true_eq, decide_eq_false_iff_not, Bool.not_eq_true', Bool.not_eq_false', Int.not_lt, Int.not_le] at aK4
              first
                | refine OpE.val (W := NoB) (OpV.fieldAddr_atO 2 rfl Tryd.underlying54 rfl rfl Tryd.sizeOf3 rfl rfl) rfl ?_
                | refine OpE.val (W := NoB) (OpV.fieldAddrO 2 rfl Tryd.underlying54 rfl rfl Tryd.sizeOf3 rfl) rfl ?_
              refine VO.opY rfl rfl rfl rfl aK4b ?_
              first
                | refine OpE.val (W := NoB) (OpV.load_at rfl hB OutW.no Tryd.isAgg3 rfl rfl) rfl ?_
                | refine OpE.val (W := NoB) (OpV.load_own (i := 0) rfl hB Tryd.isAgg3 rfl rfl rfl (fun h => h)) rfl ?_
              refine VO.opY rfl rfl rfl rfl aK4b ?_
              refine OpE.call rfl hB rfl Tryd.call36 rfl (SpecN.spec (rf_in)) ?_
              rintro _ rfl
              refine VO.opY rfl rfl rfl rfl aK4b ?_
              refine OpE.val (W := NoB) (OpV.not rfl rfl) rfl ?_
              refine VO.val rfl rfl (OpV.pickF rfl rfl rfl rfl aK4b) ?_
              refine VO.val rfl rfl (OpV.move (.inl rfl) rfl) ?_
              refine VO.opG rfl rfl rfl rfl (fun aK5b => ?_) (fun aK5b => ?_)
              · replace aK5b : _ = false := aK5b
                have aK5 := aK5b
                try simp only [decide_eq_true_eq, decide_eq_false_iff_not, Bool.not_eq_true', Bool.not_eq_false', Int.not_lt, Int.not_le] at aK5
                first
                  | refine OpE.val (W := NoB) (OpV.fieldAddr_atO 3 rfl Tryd.underlying54 rfl rfl Tryd.sizeOf3 rfl rfl) rfl ?_
                  | refine OpE.val (W := NoB) (OpV.fieldAddrO 3 rfl Tryd.underlying54 rfl rfl Tryd.sizeOf3 rfl) rfl ?_
                refine VO.opY rfl rfl rfl rfl aK5b ?_
                first
                  | refine OpE.val (W := NoB) (OpV.load_at rfl hB OutW.no Tryd.isAgg3 rfl rfl) rfl ?_
                  | refine OpE.val (W := NoB) (OpV.load_own (i := 0) rfl hB Tryd.isAgg3 rfl rfl rfl (fun h => h)) rfl ?_
                refine VO.opY rfl rfl rfl rfl aK5b ?_
                refine OpE.call rfl hB rfl Tryd.call36 rfl (SpecN.spec (rf_in)) ?_
                rintro _ rfl
                refine VO.opY rfl rfl rfl rfl aK5b ?_
                refine OpE.val (W := NoB) (OpV.not rfl rfl) rfl ?_
                refine VO.val rfl rfl (OpV.pickF rfl rfl rfl rfl aK5b) ?_
                refine VO.val rfl rfl (OpV.move (.inr rfl) rfl) ?_
                refine VO.nil ?_
                show VC _ _ _ _ _
                refine VC.cond rfl (fun aH6b => ?_) (fun aH6b => ?_)
                · have aH6 := aH6b
                  try simp only [decide_eq_true_eq, decide_eq_false_iff_not, Bool.not_eq_true', Bool.not_eq_false', Int.not_lt, Int.not_le] at aH6
                  refine VC.seq ?_
                  refine VC.region ?_
                  refine VO.val rfl rfl (OpV.move (.inr rfl) rfl) ?_
                  refine VO.nil ?_
                  show VC _ _ _ _ _
                  refine VC.ret ?_
                  exact Exists.intro _ (And.intro (RetN.one Tryd.results11 (ResN.v rfl)) (by rw [machF_at (by omega) (by omega) (by omega) hn (machE_1 hk h2 (by first | exact o3a (by assumption) | exact o3b (by assumption) | exact o3c (by assumption))) (by decide)]))
                · have aH6 := aH6b
                  try simp only [decide_eq_true_eq, decide_eq_false_iff_not, Bool.not_eq_true', Bool.not_eq_false', Int.not_lt, Int.not_le] at aH6
                  refine VC.seq ?_
                  refine VC.region ?_
                  first
                    | refine VO.val rfl rfl (OpV.fieldAddr_atO 4 rfl Tryd.underlying54 rfl rfl Tryd.sizeOf52 rfl rfl) ?_
                    | refine VO.val rfl rfl (OpV.fieldAddrO 4 rfl Tryd.underlying54 rfl rfl Tryd.sizeOf52 rfl) ?_
                  first
                    | refine VO.val rfl rfl (OpV.load_at rfl hB OutW.no Tryd.isAgg52 rfl rfl) ?_
                    | refine VO.val rfl rfl (OpV.load_own (i := 0) rfl hB Tryd.isAgg52 rfl rfl rfl (fun h => h)) ?_
                  first
                    | refine VO.val rfl rfl (OpV.len_im rfl Tryd.underlying52 rfl) ?_
                    | refine VO.val rfl rfl (OpV.len_v rfl Tryd.underlying52 rfl) ?_
                    | refine VO.val rfl rfl (OpV.len_row (i := 0) rfl Tryd.underlying52 rfl rfl) ?_
                  refine VO.val rfl rfl (OpV.gtr rfl rfl rfl) ?_
                  refine VO.val rfl rfl (OpV.move (.inr rfl) rfl) ?_
                  refine VO.nil ?_
                  show VC _ _ _ _ _
                  refine VC.cond rfl (fun h4b => ?_) (fun h4b => ?_)
                  · have h4 := h4b
                    try simp only [decide_eq_true_eq, decide_eq_false_iff_not, Bool.not_eq_true', Bool.not_eq_false', Int.not_lt, Int.not_le] at h4
                    refine VC.seq ?_
                    refine VC.region ?_
                    refine VO.val rfl rfl (OpV.move (.inr rfl) rfl) ?_
                    refine VO.nil ?_
                    show VC _ _ _ _ _
                    refine VC.ret ?_
                    exact Exists.intro _ (And.intro (RetN.one Tryd.results11 (ResN.v rfl)) (by rw [machF_at (by omega) (by omega) (by omega) hn ((machE_x hk h2 (o3f (by assumption) (by assumption) (by assumption))).trans (canF_big (by omega))) (by decide)]))
                  · have h4 := h4b
                    try simp only [decide_eq_true_eq, decide_eq_false_iff_not, Bool.not_eq_true', Bool.not_eq_false', Int.not_lt, Int.not_le] at h4
                    refine VC.skip ?_
                    show VC _ _ _ _ _
                    refine VC.seq ?_
                    refine VC.region ?_
                    refine VO.val rfl rfl (OpV.move (.inr rfl) rfl) ?_
                    refine VO.nil ?_
                    show VC _ _ _ _ _
                    refine VC.seq ?_
                    refine VC.region ?_
                    first
                      | refine VO.val rfl rfl (OpV.fieldAddr_atO 4 rfl Tryd.underlying54 rfl rfl Tryd.sizeOf52 rfl rfl) ?_
                      | refine VO.val rfl rfl (OpV.fieldAddrO 4 rfl Tryd.underlying54 rfl rfl Tryd.sizeOf52 rfl) ?_
                    first
                      | refine VO.val rfl rfl (OpV.load_at rfl hB OutW.no Tryd.isAgg52 rfl rfl) ?_
                      | refine VO.val rfl rfl (OpV.load_own (i := 0) rfl hB Tryd.isAgg52 rfl rfl rfl (fun h => h)) ?_
                    first
                      | refine VO.val rfl rfl (OpV.len_im rfl Tryd.underlying52 rfl) ?_
                      | refine VO.val rfl rfl (OpV.len_v rfl Tryd.underlying52 rfl) ?_
                      | refine VO.val rfl rfl (OpV.len_row (i := 0) rfl Tryd.underlying52 rfl rfl) ?_
                    refine VO.val rfl rfl (OpV.move (.inl rfl) rfl) ?_
                    refine VO.nil ?_
                    show VC _ _ _ _ _
                    refine VC.block ?_
                    have hx := o3f (n := (ms.getD q default).each) (m := (ms.getD q default).fixed) (k := (ms.getD q default).feeders) (by assumption) (by assumption) (by assumption)
                    refine VC.loop' ({r : Nat // r ≤ (ms.getD q default).can.length ∧ ∀ j, j < r → canE (ms.getD q default).can j = 0}) (fun (i : {r : Nat // r ≤ (ms.getD q default).can.length ∧ ∀ j, j < r → canE (ms.getD q default).can j = 0}) => match i with | ⟨r, hrl, hr⟩ => ⟨[(0, avL ms), (16, avL ms), (17, avI ms.length), (18, avI (q : Int)), (57, avStrs (ms.getD q default).can), (58, avI (ms.getD q default).can.length), (59, avI (r : Int)), (5, avS (lastS (ms.getD q default).can r))], [], 0⟩) (fun (i : {r : Nat // r ≤ (ms.getD q default).can.length ∧ ∀ j, j < r → canE (ms.getD q default).can j = 0}) => match i with | ⟨r, hrl, hr⟩ => (ms.getD q default).can.length - r) ⟨0, Nat.zero_le _, fun j hj => absurd hj (Nat.not_lt_zero j)⟩ (Le.mk hB [] ⟨rfl, rfl, rfl, rfl, rfl, rfl, rfl, rfl, trivial⟩ rfl rfl (Nat.le_refl _)) ?_
                    rintro ⟨r, hrl, hr⟩
                    show VC _ _ _ _ ⟨[(0, avL ms), (16, avL ms), (17, avI ms.length), (18, avI (q : Int)), (57, avStrs (ms.getD q default).can), (58, avI (ms.getD q default).can.length), (59, avI (r : Int)), (5, avS (lastS (ms.getD q default).can r))], [], 0⟩
                    refine VC.seq ?_
                    refine VC.region ?_
                    refine VO.val rfl rfl (OpV.lss rfl rfl rfl) ?_
                    refine VO.nil ?_
                    show VC _ _ _ _ _
                    refine VC.seq ?_
                    refine VC.cond rfl (fun aH7b => ?_) (fun aH7b => ?_)
                    · have aH7 := aH7b
                      try simp only [decide_eq_true_eq, decide_eq_false_iff_not, Bool.not_eq_true', Bool.not_eq_false', Int.not_lt, Int.not_le] at aH7
                      refine VC.skip ?_
                      show VC _ _ _ _ _
                      refine VC.seq ?_
                      refine VC.block ?_
                      refine VC.seq ?_
                      refine VC.region ?_
                      first
                        | refine VO.val rfl rfl (OpV.indexAddr_1 rfl Tryd.underlying52 Tryd.sizeOf9 rfl rfl rfl (by omega)) ?_
                        | refine VO.val rfl rfl (OpV.indexAddr_1 rfl Tryd.underlying52 Tryd.sizeOf9 rfl rfl (Int.toNat_of_nonneg (by omega)).symm (by omega)) ?_
                        | refine VO.val rfl rfl (OpV.indexAddr_o rfl Tryd.underlying52 Tryd.sizeOf9 rfl rfl rfl (by omega)) ?_
                        | refine VO.val rfl rfl (OpV.indexAddr_o rfl Tryd.underlying52 Tryd.sizeOf9 rfl rfl (Int.toNat_of_nonneg (by omega)).symm (by omega)) ?_
                        | refine VO.val rfl rfl (OpV.indexAddr_q rfl Tryd.underlying52 Tryd.sizeOf9 rfl rfl rfl (by omega)) ?_
                        | refine VO.val rfl rfl (OpV.indexAddr_q rfl Tryd.underlying52 Tryd.sizeOf9 rfl rfl (Int.toNat_of_nonneg (by omega)).symm (by omega)) ?_
                        | refine VO.val rfl rfl (OpV.indexAddr_im rfl Tryd.underlying52 Tryd.sizeOf9 rfl rfl (by omega) (by omega)) ?_
                      refine VO.val rfl rfl (OpV.load_at rfl hB OutW.no Tryd.isAgg9 rfl rfl) ?_
                      refine VO.val rfl rfl (OpV.move (.inr rfl) rfl) ?_
                      refine VO.nil ?_
                      show VC _ _ _ _ _
                      refine VC.seq ?_
                      refine VC.block ?_
                      refine VC.seq ?_
                      refine VC.region ?_
                      refine VO.val rfl rfl (OpV.move (.inl rfl) rfl) ?_
                      refine VO.op rfl (OpE.call rfl hB rfl Tryd.call33 rfl (SpecN.spec (rf_Key (hcb _ _))) ?_)
                      rintro _ rfl
                      refine VO.val rfl rfl (OpV.not rfl rfl) ?_
                      refine VO.val rfl rfl (OpV.move (.inr rfl) rfl) ?_
                      refine VO.nil ?_
                      show VC _ _ _ _ _
                      refine VC.cond rfl (fun k1b => ?_) (fun k1b => ?_)
                      · have k1 := k1b
                        try simp only [decide_eq_true_eq, decide_eq_false_iff_not, Bool.not_eq_true', Bool.not_eq_false', Int.not_lt, Int.not_le] at k1
                        refine VC.seq ?_
                        refine VC.region ?_
                        refine VO.val rfl rfl (OpV.move (.inr rfl) rfl) ?_
                        refine VO.nil ?_
                        show VC _ _ _ _ _
                        refine VC.ret ?_
                        exact Exists.intro _ (And.intro (RetN.one Tryd.results11 (ResN.v rfl)) (by rw [machF_at (by omega) (by omega) (by omega) hn ((machE_x hk h2 hx).trans ((canF_at (by omega) (by omega) hr (by rw [canE_5 k1]; decide)).trans (canE_5 k1))) (by decide)]))
                      · have k1 := k1b
                        try simp only [decide_eq_true_eq, decide_eq_false_iff_not, Bool.not_eq_true', Bool.not_eq_false', Int.not_lt, Int.not_le] at k1
                        refine VC.seq ?_
                        refine VC.region ?_
                        refine VO.val rfl rfl (OpV.move (.inl rfl) rfl) ?_
                        refine VO.val rfl rfl (OpV.move (.inl rfl) rfl) ?_
                        refine VO.val rfl rfl (OpV.sleq rfl rfl rfl) ?_
                        refine VO.val rfl rfl (OpV.move (.inr rfl) rfl) ?_
                        refine VO.nil ?_
                        show VC _ _ _ _ _
                        refine VC.cond rfl (fun k2b => ?_) (fun k2b => ?_)
                        · have k2 := k2b
                          try simp only [decide_eq_true_eq, decide_eq_false_iff_not, Bool.not_eq_true', Bool.not_eq_false', Int.not_lt, Int.not_le] at k2
                          refine VC.seq ?_
                          refine VC.region ?_
                          refine VO.val rfl rfl (OpV.move (.inr rfl) rfl) ?_
                          refine VO.nil ?_
                          show VC _ _ _ _ _
                          refine VC.ret ?_
                          exact Exists.intro _ (And.intro (RetN.one Tryd.results11 (ResN.v rfl)) (by rw [machF_at (by omega) (by omega) (by omega) hn ((machE_x hk h2 hx).trans ((canF_at (by omega) (by omega) hr (by rw [canE_7' k1 k2]; decide)).trans (canE_7' k1 k2))) (by decide)]))
                        · have k2 := k2b
                          try simp only [decide_eq_true_eq, decide_eq_false_iff_not, Bool.not_eq_true', Bool.not_eq_false', Int.not_lt, Int.not_le] at k2
                          refine VC.skip ?_
                          show VC _ _ _ _ _
                          refine VC.region ?_
                          refine VO.val rfl rfl (OpV.move (.inl rfl) rfl) ?_
                          refine VO.val rfl rfl (OpV.move (.inr rfl) rfl) ?_
                          refine VO.nil ?_
                          show VC _ _ _ _ _
                          refine VC.region ?_
                          refine VO.val rfl rfl (OpV.add rfl rfl rfl (by unfold fits; omega)) ?_
                          refine VO.val rfl rfl (OpV.move (.inl rfl) rfl) ?_
                          refine VO.nil ?_
                          exact Exists.intro (⟨r + 1, by omega, lt_succ_cases hr (canE_0' k1 k2)⟩) (And.intro (Le.mk hB [] ⟨rfl, rfl, rfl, rfl, rfl, rfl, rfl, (by rw [lastS_succ]; rfl), trivial⟩ rfl rfl (Nat.le_refl _)) (by first | omega | (show _ < _; omega) | (simp only []; omega)))
                    · have aH7 := aH7b
                      try simp only [decide_eq_true_eq, decide_eq_false_iff_not, Bool.not_eq_true', Bool.not_eq_false', Int.not_lt, Int.not_le] at aH7
                      refine VC.exit ?_
                      show VC _ _ _ _ _
                      refine VC.region ?_
                      refine VO.val rfl rfl (OpV.add rfl rfl rfl (by unfold fits; omega)) ?_
                      refine VO.val rfl rfl (OpV.move (.inl rfl) rfl) ?_
                      refine VO.nil ?_
                      exact Exists.intro (⟨q + 1, by omega, lt_succ_cases hn (by rw [machE_x hk h2 hx]; exact canF_ok (by omega) (fun j hj => hr j (by omega)))⟩) (And.intro (Le.mk hB [] ⟨rfl, rfl, rfl, rfl, trivial⟩ rfl rfl (Nat.le_refl _)) (by first | omega | (show _ < _; omega) | (simp only []; omega)))
              · replace aK5b : _ = true := aK5b
                have aK5 := aK5b
                try simp only [decide_eq_true_eq, decide_eq_false_iff_not, Bool.not_eq_true', Bool.not_eq_false', Int.not_lt, Int.not_le] at aK5
                refine VO.opX rfl rfl rfl rfl aK5b ?_
                refine VO.opX rfl rfl rfl rfl aK5b ?_
                refine VO.opX rfl rfl rfl rfl aK5b ?_
                refine VO.val rfl rfl (OpV.pickT rfl rfl rfl rfl aK5b) ?_
                refine VO.val rfl rfl (OpV.move (.inr rfl) rfl) ?_
                refine VO.nil ?_
                show VC _ _ _ _ _
                refine VC.condT rfl rfl ?_
                refine VC.seq ?_
                refine VC.region ?_
                refine VO.val rfl rfl (OpV.move (.inr rfl) rfl) ?_
                refine VO.nil ?_
                show VC _ _ _ _ _
                refine VC.ret ?_
                exact Exists.intro _ (And.intro (RetN.one Tryd.results11 (ResN.v rfl)) (by rw [machF_at (by omega) (by omega) (by omega) hn (machE_1 hk h2 (by first | exact o3a (by assumption) | exact o3b (by assumption) | exact o3c (by assumption))) (by decide)]))
            · replace aK4b : _ = true := aK4b
              have aK4 := aK4b
              try simp only [decide_eq_true_eq, decide_eq_false_iff_not, Bool.not_eq_true', Bool.not_eq_false', Int.not_lt, Int.not_le] at aK4
              refine VO.opX rfl rfl rfl rfl aK4b ?_
              refine VO.opX rfl rfl rfl rfl aK4b ?_
              refine VO.opX rfl rfl rfl rfl aK4b ?_
              refine VO.val rfl rfl (OpV.pickT rfl rfl rfl rfl aK4b) ?_
              refine VO.val rfl rfl (OpV.move (.inl rfl) rfl) ?_
              refine VO.opX rfl rfl rfl rfl rfl ?_
              refine VO.opX rfl rfl rfl rfl rfl ?_
              refine VO.opX rfl rfl rfl rfl rfl ?_
              refine VO.opX rfl rfl rfl rfl rfl ?_
              refine VO.val rfl rfl (OpV.pickT rfl rfl rfl rfl rfl) ?_
              refine VO.val rfl rfl (OpV.move (.inr rfl) rfl) ?_
              refine VO.nil ?_
              show VC _ _ _ _ _
              refine VC.condT rfl rfl ?_
              refine VC.seq ?_
              refine VC.region ?_
              refine VO.val rfl rfl (OpV.move (.inr rfl) rfl) ?_
              refine VO.nil ?_
              show VC _ _ _ _ _
              refine VC.ret ?_
              exact Exists.intro _ (And.intro (RetN.one Tryd.results11 (ResN.v rfl)) (by rw [machF_at (by omega) (by omega) (by omega) hn (machE_1 hk h2 (by first | exact o3a (by assumption) | exact o3b (by assumption) | exact o3c (by assumption))) (by decide)]))
      · have aH3 := aH3b
        try simp only [decide_eq_true_eq, decide_eq_false_iff_not, Bool.not_eq_true', Bool.not_eq_false', Int.not_lt, Int.not_le] at aH3
        refine VC.exit ?_
        show VC _ _ _ _ _
        refine VC.seq ?_
        refine VC.region ?_
        refine VO.val rfl rfl (OpV.move (.inr rfl) rfl) ?_
        refine VO.nil ?_
        show VC _ _ _ _ _
        refine VC.ret ?_
        exact Exists.intro _ (And.intro (RetN.one Tryd.results11 (ResN.v rfl)) (by rw [machF_ok (by omega) (by omega) (fun j hj => hn j (by omega))]))
set_option maxRecDepth 100000 in
theorem rf_needsFault {l : List NeedS} {lo hi : Int} (hl : l.length ≤ 1000000000) (hb : ∀ i, (l.getD i default).key.size ≤ 1000000000) :
    SpecN Tryd.prog 37 [avL l, avI lo, avI hi] (fun y => y = avI (needsF l lo hi)) := by
  refine SpecN.of_VCN Tryd.func37 rfl Tryd.ntmps37 (Nat.le_of_ble_eq_true rfl) fun w A hB => ?_
  have hnew : ∀ b, (B0 w A 39).S b → (B0 w A 39).str b := fun _ h => h.elim
  refine VC.seq ?_
  refine VC.region ?_
  refine VO.val rfl rfl (OpV.move (.inr rfl) rfl) ?_
  refine VO.nil ?_
  show VC _ _ _ _ _
  refine VC.seq ?_
  refine VC.seq ?_
  refine VC.region ?_
  refine VO.val rfl rfl (OpV.move (.inl rfl) rfl) ?_
  first
    | refine VO.val rfl rfl (OpV.len_im rfl Tryd.underlying28 rfl) ?_
    | refine VO.val rfl rfl (OpV.len_v rfl Tryd.underlying28 rfl) ?_
  refine VO.val rfl rfl (OpV.gtr rfl rfl rfl) ?_
  refine VO.nil ?_
  show VC _ _ _ _ _
  refine VC.cond rfl (fun aH1b => ?_) (fun aH1b => ?_)
  · have aH1 := aH1b
    try simp only [decide_eq_true_eq, decide_eq_false_iff_not, Bool.not_eq_true', Bool.not_eq_false', Int.not_lt, Int.not_le] at aH1
    refine VC.seq ?_
    refine VC.region ?_
    refine VO.val rfl rfl (OpV.move (.inr rfl) rfl) ?_
    refine VO.nil ?_
    show VC _ _ _ _ _
    refine VC.ret ?_
    exact Exists.intro _ (And.intro (RetN.one Tryd.results37 (ResN.v rfl)) (by rw [needsF_big (by omega)]))
  · have aH1 := aH1b
    try simp only [decide_eq_true_eq, decide_eq_false_iff_not, Bool.not_eq_true', Bool.not_eq_false', Int.not_lt, Int.not_le] at aH1
    refine VC.skip ?_
    show VC _ _ _ _ _
    refine VC.seq ?_
    refine VC.region ?_
    refine VO.val rfl rfl (OpV.move (.inr rfl) rfl) ?_
    refine VO.nil ?_
    show VC _ _ _ _ _
    refine VC.seq ?_
    refine VC.seq ?_
    refine VC.region ?_
    refine VO.val rfl rfl (OpV.move (.inl rfl) rfl) ?_
    first
      | refine VO.val rfl rfl (OpV.len_im rfl Tryd.underlying28 rfl) ?_
      | refine VO.val rfl rfl (OpV.len_v rfl Tryd.underlying28 rfl) ?_
    refine VO.val rfl rfl (OpV.move (.inl rfl) rfl) ?_
    refine VO.nil ?_
    show VC _ _ _ _ _
    refine VC.block ?_
    refine VC.loop' ({q : Nat // q ≤ l.length ∧ ∀ j, j < q → needE l lo hi j = 0}) (fun (i : {q : Nat // q ≤ l.length ∧ ∀ j, j < q → needE l lo hi j = 0}) => match i with | ⟨q, hq, hn⟩ => ⟨[(0, avL l), (1, avI lo), (2, avI hi), (13, avL l), (14, avI l.length), (15, avI (q : Int)), (7, avS (lastN l q))], [], 0⟩) (fun (i : {q : Nat // q ≤ l.length ∧ ∀ j, j < q → needE l lo hi j = 0}) => match i with | ⟨q, hq, hn⟩ => l.length - q) ⟨0, Nat.zero_le _, fun j hj => absurd hj (Nat.not_lt_zero j)⟩ (Le.mk hB [] ⟨rfl, rfl, rfl, rfl, rfl, rfl, rfl, trivial⟩ rfl rfl (Nat.le_refl _)) ?_
    rintro ⟨q, hq, hn⟩
    show VC _ _ _ _ ⟨[(0, avL l), (1, avI lo), (2, avI hi), (13, avL l), (14, avI l.length), (15, avI (q : Int)), (7, avS (lastN l q))], [], 0⟩
    refine VC.seq ?_
    refine VC.region ?_
    refine VO.val rfl rfl (OpV.lss rfl rfl rfl) ?_
    refine VO.nil ?_
    show VC _ _ _ _ _
    refine VC.seq ?_
    refine VC.cond rfl (fun aH2b => ?_) (fun aH2b => ?_)
    · have aH2 := aH2b
      try simp only [decide_eq_true_eq, decide_eq_false_iff_not, Bool.not_eq_true', Bool.not_eq_false', Int.not_lt, Int.not_le] at aH2
      refine VC.skip ?_
      show VC _ _ _ _ _
      refine VC.seq ?_
      refine VC.block ?_
      refine VC.seq ?_
      refine VC.region ?_
      first
        | refine VO.val rfl rfl (OpV.indexAddr_E rfl Tryd.underlying28 Tryd.sizeOf60 rfl rfl rfl (by omega)) ?_
        | refine VO.val rfl rfl (OpV.indexAddr_E rfl Tryd.underlying28 Tryd.sizeOf60 rfl rfl (Int.toNat_of_nonneg (by omega)).symm (by omega)) ?_
        | refine VO.val rfl rfl (OpV.indexAddr_q rfl Tryd.underlying28 Tryd.sizeOf60 rfl rfl rfl (by omega)) ?_
        | refine VO.val rfl rfl (OpV.indexAddr_q rfl Tryd.underlying28 Tryd.sizeOf60 rfl rfl (Int.toNat_of_nonneg (by omega)).symm (by omega)) ?_
        | refine VO.val rfl rfl (OpV.indexAddr_im rfl Tryd.underlying28 Tryd.sizeOf60 rfl rfl (by omega) (by omega)) ?_
      refine VO.val rfl rfl (OpV.loadK_at rfl hB OutW.no Tryd.isAgg60 Tryd.sizeOf60 rfl rfl) ?_
      refine VO.op rfl (OpE.alloc rfl hB rfl Tryd.zeroValue60 rfl ?_)
      intro g9
      refine VO.op rfl (OpE.store (i := 0) rfl hB rfl Tryd.sizeOf60 rfl rfl rfl rfl rfl rfl (Nat.le_of_ble_eq_true rfl) trivial ?_)
      refine VO.nil ?_
      show VC _ _ _ _ _
      refine VC.seq ?_
      refine VC.block ?_
      refine VC.seq ?_
      refine VC.region ?_
      first
        | refine VO.val rfl rfl (OpV.fieldAddr_atO 0 rfl Tryd.underlying60 rfl rfl Tryd.sizeOf9 rfl rfl) ?_
        | refine VO.val rfl rfl (OpV.fieldAddrO 0 rfl Tryd.underlying60 rfl rfl Tryd.sizeOf9 rfl) ?_
      first
        | refine VO.val rfl rfl (OpV.load_at rfl hB OutW.no Tryd.isAgg9 rfl rfl) ?_
        | refine VO.val rfl rfl (OpV.load_own (i := 0) rfl hB Tryd.isAgg9 rfl rfl rfl (fun h => h)) ?_
      refine VO.op rfl (OpE.call rfl hB rfl Tryd.call33 rfl (SpecN.spec (rf_Key (hb _))) ?_)
      rintro _ rfl
      refine VO.val rfl rfl (OpV.not rfl rfl) ?_
      refine VO.val rfl rfl (OpV.move (.inr rfl) rfl) ?_
      refine VO.nil ?_
      show VC _ _ _ _ _
      refine VC.cond rfl (fun hkb => ?_) (fun hkb => ?_)
      · have hk := hkb
        try simp only [decide_eq_true_eq, decide_eq_false_iff_not, Bool.not_eq_true', Bool.not_eq_false', Int.not_lt, Int.not_le] at hk
        refine VC.seq ?_
        refine VC.region ?_
        refine VO.val rfl rfl (OpV.move (.inr rfl) rfl) ?_
        refine VO.nil ?_
        show VC _ _ _ _ _
        refine VC.ret ?_
        exact Exists.intro _ (And.intro (RetN.one Tryd.results37 (ResN.v rfl)) (by rw [needsF_at (by omega) (by omega) hn (needE_5 hk) (by decide)]))
      · have hk := hkb
        try simp only [decide_eq_true_eq, decide_eq_false_iff_not, Bool.not_eq_true', Bool.not_eq_false', Int.not_lt, Int.not_le] at hk
        refine VC.seq ?_
        refine VC.region ?_
        first
          | refine VO.val rfl rfl (OpV.fieldAddr_atO 0 rfl Tryd.underlying60 rfl rfl Tryd.sizeOf9 rfl rfl) ?_
          | refine VO.val rfl rfl (OpV.fieldAddrO 0 rfl Tryd.underlying60 rfl rfl Tryd.sizeOf9 rfl) ?_
        first
          | refine VO.val rfl rfl (OpV.load_at rfl hB OutW.no Tryd.isAgg9 rfl rfl) ?_
          | refine VO.val rfl rfl (OpV.load_own (i := 0) rfl hB Tryd.isAgg9 rfl rfl rfl (fun h => h)) ?_
        refine VO.val rfl rfl (OpV.move (.inl rfl) rfl) ?_
        refine VO.val rfl rfl (OpV.sleq rfl rfl rfl) ?_
        refine VO.val rfl rfl (OpV.move (.inr rfl) rfl) ?_
        refine VO.nil ?_
        show VC _ _ _ _ _
        refine VC.cond rfl (fun hsb => ?_) (fun hsb => ?_)
        · have hs := hsb
          try simp only [decide_eq_true_eq, decide_eq_false_iff_not, Bool.not_eq_true', Bool.not_eq_false', Int.not_lt, Int.not_le] at hs
          refine VC.seq ?_
          refine VC.region ?_
          refine VO.val rfl rfl (OpV.move (.inr rfl) rfl) ?_
          refine VO.nil ?_
          show VC _ _ _ _ _
          refine VC.ret ?_
          exact Exists.intro _ (And.intro (RetN.one Tryd.results37 (ResN.v rfl)) (by rw [needsF_at (by omega) (by omega) hn (needE_7' hk hs) (by decide)]))
        · have hs := hsb
          try simp only [decide_eq_true_eq, decide_eq_false_iff_not, Bool.not_eq_true', Bool.not_eq_false', Int.not_lt, Int.not_le] at hs
          refine VC.seq ?_
          refine VC.region ?_
          first
            | refine VO.val rfl rfl (OpV.fieldAddr_atO 1 rfl Tryd.underlying60 rfl rfl Tryd.sizeOf3 rfl rfl) ?_
            | refine VO.val rfl rfl (OpV.fieldAddrO 1 rfl Tryd.underlying60 rfl rfl Tryd.sizeOf3 rfl) ?_
          first
            | refine VO.val rfl rfl (OpV.load_at rfl hB OutW.no Tryd.isAgg3 rfl rfl) ?_
            | refine VO.val rfl rfl (OpV.load_own (i := 0) rfl hB Tryd.isAgg3 rfl rfl rfl (fun h => h)) ?_
          refine VO.val rfl rfl (OpV.move (.inl rfl) rfl) ?_
          refine VO.val rfl rfl (OpV.move (.inl rfl) rfl) ?_
          refine VO.op rfl (OpE.call rfl hB rfl Tryd.call36 rfl (SpecN.spec (rf_in)) ?_)
          rintro _ rfl
          refine VO.val rfl rfl (OpV.not rfl rfl) ?_
          refine VO.val rfl rfl (OpV.move (.inr rfl) rfl) ?_
          refine VO.nil ?_
          show VC _ _ _ _ _
          refine VC.cond rfl (fun hob => ?_) (fun hob => ?_)
          · have ho := hob
            try simp only [decide_eq_true_eq, decide_eq_false_iff_not, Bool.not_eq_true', Bool.not_eq_false', Int.not_lt, Int.not_le] at ho
            refine VC.seq ?_
            refine VC.region ?_
            refine VO.val rfl rfl (OpV.move (.inr rfl) rfl) ?_
            refine VO.nil ?_
            show VC _ _ _ _ _
            refine VC.ret ?_
            exact Exists.intro _ (And.intro (RetN.one Tryd.results37 (ResN.v rfl)) (by rw [needsF_at (by omega) (by omega) hn (needE_1 hk (lastN_ne hk hsb) ((outR_in _ _ _).trans hob)) (by decide)]))
          · have ho := hob
            try simp only [decide_eq_true_eq, decide_eq_false_iff_not, Bool.not_eq_true', Bool.not_eq_false', Int.not_lt, Int.not_le] at ho
            refine VC.skip ?_
            show VC _ _ _ _ _
            refine VC.region ?_
            first
              | refine VO.val rfl rfl (OpV.fieldAddr_atO 0 rfl Tryd.underlying60 rfl rfl Tryd.sizeOf9 rfl rfl) ?_
              | refine VO.val rfl rfl (OpV.fieldAddrO 0 rfl Tryd.underlying60 rfl rfl Tryd.sizeOf9 rfl) ?_
            first
              | refine VO.val rfl rfl (OpV.load_at rfl hB OutW.no Tryd.isAgg9 rfl rfl) ?_
              | refine VO.val rfl rfl (OpV.load_own (i := 0) rfl hB Tryd.isAgg9 rfl rfl rfl (fun h => h)) ?_
            refine VO.val rfl rfl (OpV.move (.inr rfl) rfl) ?_
            refine VO.nil ?_
            show VC _ _ _ _ _
            refine VC.region ?_
            refine VO.val rfl rfl (OpV.add rfl rfl rfl (by unfold fits; omega)) ?_
            refine VO.val rfl rfl (OpV.move (.inl rfl) rfl) ?_
            refine VO.nil ?_
            exact Exists.intro (⟨q + 1, by omega, lt_succ_cases hn (needE_0 hk (lastN_ne hk hs) ((outR_in _ _ _).trans hob))⟩) (And.intro (Le.mk hB [] ⟨rfl, rfl, rfl, rfl, rfl, rfl, (by rw [lastN_succ]; rfl), trivial⟩ rfl rfl (Nat.le_refl _)) (by first | omega | (show _ < _; omega) | (simp only []; omega)))
    · have aH2 := aH2b
      try simp only [decide_eq_true_eq, decide_eq_false_iff_not, Bool.not_eq_true', Bool.not_eq_false', Int.not_lt, Int.not_le] at aH2
      refine VC.exit ?_
      show VC _ _ _ _ _
      refine VC.seq ?_
      refine VC.region ?_
      refine VO.val rfl rfl (OpV.move (.inr rfl) rfl) ?_
      refine VO.nil ?_
      show VC _ _ _ _ _
      refine VC.ret ?_
      exact Exists.intro _ (And.intro (RetN.one Tryd.results37 (ResN.v rfl)) (by rw [needsF_ok (by omega) (fun j hj => hn j (by omega))]))
set_option maxRecDepth 100000 in
theorem rf_NeedsFault {l : List NeedS} (hl : l.length ≤ 1000000000) (hb : ∀ i, (l.getD i default).key.size ≤ 1000000000) :
    SpecN Tryd.prog 12 [avL l] (fun y => y = avI (needsF l 1 1000)) := by
  refine SpecN.of_VCN Tryd.func12 rfl Tryd.ntmps12 (Nat.le_of_ble_eq_true rfl) fun w A hB => ?_
  have hnew : ∀ b, (B0 w A 5).S b → (B0 w A 5).str b := fun _ h => h.elim
  refine VC.seq ?_
  refine VC.region ?_
  refine VO.val rfl rfl (OpV.move (.inr rfl) rfl) ?_
  refine VO.nil ?_
  show VC _ _ _ _ _
  refine VC.seq ?_
  refine VC.region ?_
  refine VO.val rfl rfl (OpV.move (.inl rfl) rfl) ?_
  refine VO.op rfl (OpE.call rfl hB rfl Tryd.call37 rfl (SpecN.spec (rf_needsFault hl hb)) ?_)
  rintro _ rfl
  refine VO.val rfl rfl (OpV.move (.inr rfl) rfl) ?_
  refine VO.nil ?_
  show VC _ _ _ _ _
  refine VC.ret ?_
  exact Exists.intro _ (And.intro (RetN.one Tryd.results12 (ResN.v rfl)) (rfl))
set_option maxRecDepth 100000 in
theorem line_fault {ms : List Mach} {ns : List NeedS} (hl : ms.length ≤ 1000000000) (hb : ∀ i, (ms.getD i default).key.size ≤ 1000000000) (hc : ∀ i, (ms.getD i default).can.length ≤ 1000000000) (hcb : ∀ i j, ((ms.getD i default).can.getD j ByteArray.empty).size ≤ 1000000000) (hl' : ns.length ≤ 1000000000) (hb' : ∀ i, (ns.getD i default).key.size ≤ 1000000000) :
    SpecN Tryd.prog 46 [avL ms, avL ns] (fun y => y = avI (faultF ms ns)) := by
  refine SpecN.of_VCN Tryd.func46 rfl Tryd.ntmps46 (Nat.le_of_ble_eq_true rfl) fun w A hB => ?_
  have hnew : ∀ b, (B0 w A 13).S b → (B0 w A 13).str b := fun _ h => h.elim
  refine VC.seq ?_
  refine VC.region ?_
  refine VO.val rfl rfl (OpV.move (.inr rfl) rfl) ?_
  refine VO.nil ?_
  show VC _ _ _ _ _
  refine VC.seq ?_
  refine VC.seq ?_
  refine VC.region ?_
  refine VO.val rfl rfl (OpV.move (.inl rfl) rfl) ?_
  refine VO.op rfl (OpE.call rfl hB rfl Tryd.call17 rfl (SpecN.spec (line_CheckMachines hl hb hc hcb)) ?_)
  rintro _ rfl
  refine VO.val rfl rfl (OpV.move (.inr rfl) rfl) ?_
  refine VO.nil ?_
  show VC _ _ _ _ _
  refine VC.seq ?_
  refine VC.region ?_
  refine VO.val rfl rfl (OpV.move (.inl rfl) rfl) ?_
  refine VO.val rfl rfl (OpV.neq rfl rfl rfl) ?_
  refine VO.nil ?_
  show VC _ _ _ _ _
  refine VC.cond rfl (fun h0b => ?_) (fun h0b => ?_)
  · have h0 := h0b
    try simp only [decide_eq_true_eq, decide_eq_false_iff_not, Bool.not_eq_true', Bool.not_eq_false', Int.not_lt, Int.not_le] at h0
    refine VC.seq ?_
    refine VC.region ?_
    refine VO.val rfl rfl (OpV.move (.inl rfl) rfl) ?_
    refine VO.val rfl rfl (OpV.move (.inr rfl) rfl) ?_
    refine VO.nil ?_
    show VC _ _ _ _ _
    refine VC.ret ?_
    exact Exists.intro _ (And.intro (RetN.one Tryd.results46 (ResN.v rfl)) (by first | rw [faultF, if_pos h0] | rw [faultF, if_neg h0]))
  · have h0 := h0b
    try simp only [decide_eq_true_eq, decide_eq_false_iff_not, Bool.not_eq_true', Bool.not_eq_false', Int.not_lt, Int.not_le] at h0
    refine VC.skip ?_
    show VC _ _ _ _ _
    refine VC.seq ?_
    refine VC.region ?_
    refine VO.val rfl rfl (OpV.move (.inl rfl) rfl) ?_
    refine VO.op rfl (OpE.call rfl hB rfl Tryd.call18 rfl (SpecN.spec (line_CheckNeeds hl' hb')) ?_)
    rintro _ rfl
    refine VO.val rfl rfl (OpV.move (.inr rfl) rfl) ?_
    refine VO.nil ?_
    show VC _ _ _ _ _
    refine VC.ret ?_
    exact Exists.intro _ (And.intro (RetN.one Tryd.results46 (ResN.v rfl)) (by first | rw [faultF, if_pos h0] | rw [faultF, if_neg h0]))
end Go.Proofs.YtdemlenodablfaaDoor
