/- Walks: panels are checked; boards outside, boards that overlap. -/
import Derived.Test.YtgikefjbdhnffaaDoorPanel
import Derived.Test.YtgikefjbdhnffaaDoorBodyS3
namespace Go.Proofs.YtgikefjbdhnffaaDoor
open Go.RowKit
set_option linter.unusedVariables false
set_option linter.unusedSimpArgs false
theorem flat_ip (xs : List IPair) : FlatA (rowL xs) := flat_rowL (fun x j hj => by
  match j, hj with
  | 0, _ => exact ⟨_, rfl⟩
  | 1, _ => exact ⟨_, rfl⟩) xs
set_option maxRecDepth 100000 in
theorem panel_panelFault {n : PanS} (hl : n.slots.length ≤ 1000000) :
    SpecN Tryd.prog 56 [avPan n] (fun y => y = avI (panF n)) := by
  refine SpecN.of_VCN Tryd.func56 rfl Tryd.ntmps56 (Nat.le_of_ble_eq_true rfl) fun w A hB => ?_
  have hnew : True := trivial
  refine VC.seq ?_
  refine VC.region ?_
  refine VO.op rfl (OpE.box rfl hB rfl rfl rfl ?_)
  intro g1
  refine VO.val rfl rfl (OpV.move (.inr rfl) rfl) ?_
  refine VO.nil ?_
  show VC _ _ _ _ _
  refine VC.seq ?_
  refine VC.seq ?_
  refine VC.region ?_
  first
    | refine VO.val rfl rfl (OpV.fieldAddr_atO 0 rfl Tryd.underlying48 rfl rfl Tryd.sizeOf3 rfl rfl) ?_
    | refine VO.val rfl rfl (OpV.fieldAddrO 0 rfl Tryd.underlying48 rfl rfl Tryd.sizeOf3 rfl) ?_
  refine VO.val rfl rfl (OpV.load_own (i := 0) rfl hB Tryd.isAgg3 rfl rfl rfl (fun h => h)) ?_
  refine VO.op rfl (OpE.call rfl hB rfl Tryd.call72 rfl (SpecN.spec (panel_isSize)) ?_)
  rintro _ rfl
  refine VO.val rfl rfl (OpV.not rfl rfl) ?_
  refine VO.val rfl rfl (OpV.move (.inl rfl) rfl) ?_
  refine VO.opG rfl rfl rfl rfl (fun aK1b => ?_) (fun aK1b => ?_)
  · replace aK1b : _ = false := aK1b
    have aK1 := aK1b
    try simp only [decide_eq_true_eq, decide_eq_false_iff_not, Bool.not_eq_true', Bool.not_eq_false', Int.not_lt, Int.not_le] at aK1
    first
      | refine OpE.val (W := NoB) (OpV.fieldAddr_atO 1 rfl Tryd.underlying48 rfl rfl Tryd.sizeOf3 rfl rfl) rfl ?_
      | refine OpE.val (W := NoB) (OpV.fieldAddrO 1 rfl Tryd.underlying48 rfl rfl Tryd.sizeOf3 rfl) rfl ?_
    refine VO.opY rfl rfl rfl rfl aK1b ?_
    refine OpE.val (W := NoB) (OpV.load_own (i := 0) rfl hB Tryd.isAgg3 rfl rfl rfl (fun h => h)) rfl ?_
    refine VO.opY rfl rfl rfl rfl aK1b ?_
    refine OpE.call rfl hB rfl Tryd.call72 rfl (SpecN.spec (panel_isSize)) ?_
    rintro _ rfl
    refine VO.opY rfl rfl rfl rfl aK1b ?_
    refine OpE.val (W := NoB) (OpV.not rfl rfl) rfl ?_
    refine VO.val rfl rfl (OpV.pickF rfl rfl rfl rfl aK1b) ?_
    refine VO.nil ?_
    show VC _ _ _ _ _
    refine VC.cond rfl (fun aH2b => ?_) (fun aH2b => ?_)
    · have aH2 := aH2b
      try simp only [decide_eq_true_eq, decide_eq_false_iff_not, Bool.not_eq_true', Bool.not_eq_false', Int.not_lt, Int.not_le] at aH2
      refine VC.seq ?_
      refine VC.region ?_
      refine VO.val rfl rfl (OpV.move (.inr rfl) rfl) ?_
      refine VO.nil ?_
      show VC _ _ _ _ _
      refine VC.ret ?_
      exact Exists.intro _ (And.intro (RetN.one Tryd.results56 (ResN.v rfl)) (by first | rw [panF_1 (or2a (by assumption))] | rw [panF_1 (or2b (by assumption))]))
    · have aH2 := aH2b
      try simp only [decide_eq_true_eq, decide_eq_false_iff_not, Bool.not_eq_true', Bool.not_eq_false', Int.not_lt, Int.not_le] at aH2
      refine VC.skip ?_
      show VC _ _ _ _ _
      refine VC.seq ?_
      refine VC.seq ?_
      refine VC.region ?_
      first
        | refine VO.val rfl rfl (OpV.fieldAddr_atO 2 rfl Tryd.underlying48 rfl rfl Tryd.sizeOf46 rfl rfl) ?_
        | refine VO.val rfl rfl (OpV.fieldAddrO 2 rfl Tryd.underlying48 rfl rfl Tryd.sizeOf46 rfl) ?_
      refine VO.val rfl rfl (OpV.load_own (i := 0) rfl hB Tryd.isAgg46 rfl rfl rfl (fun h => h)) ?_
      first
        | refine VO.val rfl rfl (OpV.len_im rfl Tryd.underlying46 rfl) ?_
        | refine VO.val rfl rfl (OpV.len_v rfl Tryd.underlying46 rfl) ?_
        | refine VO.val rfl rfl (OpV.len_row (i := 0) rfl Tryd.underlying46 rfl rfl) ?_
      refine VO.val rfl rfl (OpV.gtr rfl rfl rfl) ?_
      refine VO.nil ?_
      show VC _ _ _ _ _
      refine VC.cond rfl (fun aH3b => ?_) (fun aH3b => ?_)
      · have aH3 := aH3b
        try simp only [decide_eq_true_eq, decide_eq_false_iff_not, Bool.not_eq_true', Bool.not_eq_false', Int.not_lt, Int.not_le] at aH3
        refine VC.seq ?_
        refine VC.region ?_
        refine VO.val rfl rfl (OpV.move (.inr rfl) rfl) ?_
        refine VO.nil ?_
        show VC _ _ _ _ _
        refine VC.ret ?_
        exact Exists.intro _ (And.intro (RetN.one Tryd.results56 (ResN.v rfl)) (by rw [panF_2 (or2f (by assumption) (by assumption)) (by omega)]))
      · have aH3 := aH3b
        try simp only [decide_eq_true_eq, decide_eq_false_iff_not, Bool.not_eq_true', Bool.not_eq_false', Int.not_lt, Int.not_le] at aH3
        refine VC.skip ?_
        show VC _ _ _ _ _
        refine VC.seq ?_
        refine VC.seq ?_
        refine VC.region ?_
        first
          | refine VO.val rfl rfl (OpV.fieldAddr_atO 2 rfl Tryd.underlying48 rfl rfl Tryd.sizeOf46 rfl rfl) ?_
          | refine VO.val rfl rfl (OpV.fieldAddrO 2 rfl Tryd.underlying48 rfl rfl Tryd.sizeOf46 rfl) ?_
        refine VO.val rfl rfl (OpV.load_own (i := 0) rfl hB Tryd.isAgg46 rfl rfl rfl (fun h => h)) ?_
        first
          | refine VO.val rfl rfl (OpV.len_im rfl Tryd.underlying46 rfl) ?_
          | refine VO.val rfl rfl (OpV.len_v rfl Tryd.underlying46 rfl) ?_
          | refine VO.val rfl rfl (OpV.len_row (i := 0) rfl Tryd.underlying46 rfl rfl) ?_
        refine VO.val rfl rfl (OpV.move (.inl rfl) rfl) ?_
        refine VO.nil ?_
        show VC _ _ _ _ _
        refine VC.block ?_
        refine VC.loopK [(20, _), (21, _)] ⟨rfl, rfl, trivial⟩ ({q : Nat // q ≤ n.slots.length ∧ ∀ j, j < q → slotB (n.slots.getD j default) = false}) (fun (i : {q : Nat // q ≤ n.slots.length ∧ ∀ j, j < q → slotB (n.slots.getD j default) = false}) => match i with | ⟨q, hq, hn⟩ => [(22, avI (q : Int))]) (fun (i : {q : Nat // q ≤ n.slots.length ∧ ∀ j, j < q → slotB (n.slots.getD j default) = false}) => match i with | ⟨q, hq, hn⟩ => []) (fun (i : {q : Nat // q ≤ n.slots.length ∧ ∀ j, j < q → slotB (n.slots.getD j default) = false}) => match i with | ⟨q, hq, hn⟩ => 0) (fun (i : {q : Nat // q ≤ n.slots.length ∧ ∀ j, j < q → slotB (n.slots.getD j default) = false}) => match i with | ⟨q, hq, hn⟩ => n.slots.length - q) ⟨0, Nat.zero_le _, fun j hj => absurd hj (Nat.not_lt_zero j)⟩ (Le.mk hB [] ⟨rfl, rfl, rfl, trivial⟩ rfl rfl (Nat.le_refl _)) ?_
        rintro ⟨q, hq, hn⟩
        show VC _ _ _ _ ⟨[(22, avI (q : Int))] ++ [(20, _), (21, _)], [], 0⟩
        refine VC.seq ?_
        refine VC.region ?_
        refine VO.val rfl rfl (OpV.lss rfl rfl rfl) ?_
        refine VO.nil ?_
        show VC _ _ _ _ _
        refine VC.seq ?_
        refine VC.cond rfl (fun aH4b => ?_) (fun aH4b => ?_)
        · have aH4 := aH4b
          try simp only [decide_eq_true_eq, decide_eq_false_iff_not, Bool.not_eq_true', Bool.not_eq_false', Int.not_lt, Int.not_le] at aH4
          refine VC.skip ?_
          show VC _ _ _ _ _
          refine VC.seq ?_
          refine VC.block ?_
          refine VC.seq ?_
          refine VC.region ?_
          first
            | refine VO.val rfl rfl (OpV.indexAddr_E rfl Tryd.underlying46 Tryd.sizeOf106 rfl rfl rfl (by omega)) ?_
            | refine VO.val rfl rfl (OpV.indexAddr_E rfl Tryd.underlying46 Tryd.sizeOf106 rfl rfl (Int.toNat_of_nonneg (by omega)).symm (by omega)) ?_
            | refine VO.val rfl rfl (OpV.indexAddr_q rfl Tryd.underlying46 Tryd.sizeOf106 rfl rfl rfl (by omega)) ?_
            | refine VO.val rfl rfl (OpV.indexAddr_q rfl Tryd.underlying46 Tryd.sizeOf106 rfl rfl (Int.toNat_of_nonneg (by omega)).symm (by omega)) ?_
            | refine VO.val rfl rfl (OpV.indexAddr_im rfl Tryd.underlying46 Tryd.sizeOf106 rfl rfl (by omega) (by omega)) ?_
          refine VO.val rfl rfl (OpV.loadK_at rfl hB OutW.no Tryd.isAgg106 Tryd.sizeOf106 rfl rfl) ?_
          refine VO.op rfl (OpE.alloc rfl hB rfl Tryd.zeroValue106 rfl ?_)
          intro g4
          refine VO.op rfl (OpE.store (i := 0) rfl hB rfl Tryd.sizeOf106 rfl rfl rfl rfl rfl rfl (Nat.le_of_ble_eq_true rfl) trivial ?_)
          refine VO.nil ?_
          show VC _ _ _ _ _
          refine VC.seq ?_
          refine VC.region ?_
          first
            | refine VO.val rfl rfl (OpV.fieldAddr_atO 0 rfl Tryd.underlying106 rfl rfl Tryd.sizeOf3 rfl rfl) ?_
            | refine VO.val rfl rfl (OpV.fieldAddrO 0 rfl Tryd.underlying106 rfl rfl Tryd.sizeOf3 rfl) ?_
          refine VO.val rfl rfl (OpV.load_own (i := 0) rfl hB Tryd.isAgg3 rfl rfl rfl (fun h => h)) ?_
          refine VO.op rfl (OpE.call rfl hB rfl Tryd.call73 rfl (SpecN.spec (kit_Outside)) ?_)
          rintro _ rfl
          refine VO.val rfl rfl (OpV.move (.inl rfl) rfl) ?_
          refine VO.opG rfl rfl rfl rfl (fun aK5b => ?_) (fun aK5b => ?_)
          · replace aK5b : _ = false := aK5b
            have aK5 := aK5b
            try simp only [decide_eq_true_eq, decide_eq_false_iff_not, Bool.not_eq_true', Bool.not_eq_false', Int.not_lt, Int.not_le] at aK5
            first
              | refine OpE.val (W := NoB) (OpV.fieldAddr_atO 1 rfl Tryd.underlying106 rfl rfl Tryd.sizeOf3 rfl rfl) rfl ?_
              | refine OpE.val (W := NoB) (OpV.fieldAddrO 1 rfl Tryd.underlying106 rfl rfl Tryd.sizeOf3 rfl) rfl ?_
            refine VO.opY rfl rfl rfl rfl aK5b ?_
            refine OpE.val (W := NoB) (OpV.load_own (i := 0) rfl hB Tryd.isAgg3 rfl rfl rfl (fun h => h)) rfl ?_
            refine VO.opY rfl rfl rfl rfl aK5b ?_
            refine OpE.call rfl hB rfl Tryd.call73 rfl (SpecN.spec (kit_Outside)) ?_
            rintro _ rfl
            refine VO.val rfl rfl (OpV.pickF rfl rfl rfl rfl aK5b) ?_
            refine VO.val rfl rfl (OpV.move (.inl rfl) rfl) ?_
            refine VO.opG rfl rfl rfl rfl (fun aK6b => ?_) (fun aK6b => ?_)
            · replace aK6b : _ = false := aK6b
              have aK6 := aK6b
              try simp only [decide_eq_true_eq, decide_eq_false_iff_not, Bool.not_eq_true', Bool.not_eq_false', Int.not_lt, Int.not_le] at aK6
              first
                | refine OpE.val (W := NoB) (OpV.fieldAddr_atO 2 rfl Tryd.underlying106 rfl rfl Tryd.sizeOf3 rfl rfl) rfl ?_
                | refine OpE.val (W := NoB) (OpV.fieldAddrO 2 rfl Tryd.underlying106 rfl rfl Tryd.sizeOf3 rfl) rfl ?_
              refine VO.opY rfl rfl rfl rfl aK6b ?_
              refine OpE.val (W := NoB) (OpV.load_own (i := 0) rfl hB Tryd.isAgg3 rfl rfl rfl (fun h => h)) rfl ?_
              refine VO.opY rfl rfl rfl rfl aK6b ?_
              refine OpE.call rfl hB rfl Tryd.call73 rfl (SpecN.spec (kit_Outside)) ?_
              rintro _ rfl
              refine VO.val rfl rfl (OpV.pickF rfl rfl rfl rfl aK6b) ?_
              refine VO.nil ?_
              show VC _ _ _ _ _
              refine VC.cond rfl (fun aH7b => ?_) (fun aH7b => ?_)
              · have aH7 := aH7b
                try simp only [decide_eq_true_eq, decide_eq_false_iff_not, Bool.not_eq_true', Bool.not_eq_false', Int.not_lt, Int.not_le] at aH7
                refine VC.seq ?_
                refine VC.region ?_
                refine VO.val rfl rfl (OpV.move (.inr rfl) rfl) ?_
                refine VO.nil ?_
                show VC _ _ _ _ _
                refine VC.ret ?_
                exact Exists.intro _ (And.intro (RetN.one Tryd.results56 (ResN.v rfl)) (by first | rw [panF_3 (q := q) (or2f (by assumption) (by assumption)) (by omega) (by omega) (or3a (by assumption))] | rw [panF_3 (q := q) (or2f (by assumption) (by assumption)) (by omega) (by omega) (or3b (by assumption))] | rw [panF_3 (q := q) (or2f (by assumption) (by assumption)) (by omega) (by omega) (or3c (by assumption))]))
              · have aH7 := aH7b
                try simp only [decide_eq_true_eq, decide_eq_false_iff_not, Bool.not_eq_true', Bool.not_eq_false', Int.not_lt, Int.not_le] at aH7
                refine VC.skip ?_
                show VC _ _ _ _ _
                refine VC.region ?_
                refine VO.val rfl rfl (OpV.add rfl rfl rfl (by unfold fits; omega)) ?_
                refine VO.val rfl rfl (OpV.move (.inl rfl) rfl) ?_
                refine VO.nil ?_
                exact Exists.intro (⟨q + 1, by omega, lt_succ_cases hn (or3f (by assumption) (by assumption) (by assumption))⟩) (And.intro (Le.mk hB [] ⟨rfl, rfl, rfl, trivial⟩ rfl rfl (Nat.le_refl _)) (by first | omega | (show _ < _; omega) | (simp only []; omega)))
            · replace aK6b : _ = true := aK6b
              have aK6 := aK6b
              try simp only [decide_eq_true_eq, decide_eq_false_iff_not, Bool.not_eq_true', Bool.not_eq_false', Int.not_lt, Int.not_le] at aK6
              refine VO.opX rfl rfl rfl rfl aK6b ?_
              refine VO.opX rfl rfl rfl rfl aK6b ?_
              refine VO.val rfl rfl (OpV.pickT rfl rfl rfl rfl aK6b) ?_
              refine VO.nil ?_
              show VC _ _ _ _ _
              refine VC.condT rfl rfl ?_
              refine VC.seq ?_
              refine VC.region ?_
              refine VO.val rfl rfl (OpV.move (.inr rfl) rfl) ?_
              refine VO.nil ?_
              show VC _ _ _ _ _
              refine VC.ret ?_
              exact Exists.intro _ (And.intro (RetN.one Tryd.results56 (ResN.v rfl)) (by first | rw [panF_3 (q := q) (or2f (by assumption) (by assumption)) (by omega) (by omega) (or3a (by assumption))] | rw [panF_3 (q := q) (or2f (by assumption) (by assumption)) (by omega) (by omega) (or3b (by assumption))] | rw [panF_3 (q := q) (or2f (by assumption) (by assumption)) (by omega) (by omega) (or3c (by assumption))]))
          · replace aK5b : _ = true := aK5b
            have aK5 := aK5b
            try simp only [decide_eq_true_eq, decide_eq_false_iff_not, Bool.not_eq_true', Bool.not_eq_false', Int.not_lt, Int.not_le] at aK5
            refine VO.opX rfl rfl rfl rfl aK5b ?_
            refine VO.opX rfl rfl rfl rfl aK5b ?_
            refine VO.val rfl rfl (OpV.pickT rfl rfl rfl rfl aK5b) ?_
            refine VO.val rfl rfl (OpV.move (.inl rfl) rfl) ?_
            refine VO.opX rfl rfl rfl rfl rfl ?_
            refine VO.opX rfl rfl rfl rfl rfl ?_
            refine VO.opX rfl rfl rfl rfl rfl ?_
            refine VO.val rfl rfl (OpV.pickT rfl rfl rfl rfl rfl) ?_
            refine VO.nil ?_
            show VC _ _ _ _ _
            refine VC.condT rfl rfl ?_
            refine VC.seq ?_
            refine VC.region ?_
            refine VO.val rfl rfl (OpV.move (.inr rfl) rfl) ?_
            refine VO.nil ?_
            show VC _ _ _ _ _
            refine VC.ret ?_
            exact Exists.intro _ (And.intro (RetN.one Tryd.results56 (ResN.v rfl)) (by first | rw [panF_3 (q := q) (or2f (by assumption) (by assumption)) (by omega) (by omega) (or3a (by assumption))] | rw [panF_3 (q := q) (or2f (by assumption) (by assumption)) (by omega) (by omega) (or3b (by assumption))] | rw [panF_3 (q := q) (or2f (by assumption) (by assumption)) (by omega) (by omega) (or3c (by assumption))]))
        · have aH4 := aH4b
          try simp only [decide_eq_true_eq, decide_eq_false_iff_not, Bool.not_eq_true', Bool.not_eq_false', Int.not_lt, Int.not_le] at aH4
          refine VC.exit ?_
          show VC _ _ _ _ _
          refine VC.seq ?_
          refine VC.region ?_
          refine VO.val rfl rfl (OpV.move (.inr rfl) rfl) ?_
          refine VO.nil ?_
          show VC _ _ _ _ _
          refine VC.ret ?_
          exact Exists.intro _ (And.intro (RetN.one Tryd.results56 (ResN.v rfl)) (by rw [panF_0 (or2f (by assumption) (by assumption)) (by omega) (fun j hj => hn j (by omega))]))
  · replace aK1b : _ = true := aK1b
    have aK1 := aK1b
    try simp only [decide_eq_true_eq, decide_eq_false_iff_not, Bool.not_eq_true', Bool.not_eq_false', Int.not_lt, Int.not_le] at aK1
    refine VO.opX rfl rfl rfl rfl aK1b ?_
    refine VO.opX rfl rfl rfl rfl aK1b ?_
    refine VO.opX rfl rfl rfl rfl aK1b ?_
    refine VO.val rfl rfl (OpV.pickT rfl rfl rfl rfl aK1b) ?_
    refine VO.nil ?_
    show VC _ _ _ _ _
    refine VC.condT rfl rfl ?_
    refine VC.seq ?_
    refine VC.region ?_
    refine VO.val rfl rfl (OpV.move (.inr rfl) rfl) ?_
    refine VO.nil ?_
    show VC _ _ _ _ _
    refine VC.ret ?_
    exact Exists.intro _ (And.intro (RetN.one Tryd.results56 (ResN.v rfl)) (by first | rw [panF_1 (or2a (by assumption))] | rw [panF_1 (or2b (by assumption))]))
set_option maxRecDepth 100000 in
theorem rf_panelFault {n : PanS} (hl : n.slots.length ≤ 1000000) :
    SpecN Tryd.prog 57 [avPan n] (fun y => y = avI (panF n)) := by
  refine SpecN.of_VCN Tryd.func57 rfl Tryd.ntmps57 (Nat.le_of_ble_eq_true rfl) fun w A hB => ?_
  have hnew : True := trivial
  refine VC.seq ?_
  refine VC.region ?_
  refine VO.op rfl (OpE.box rfl hB rfl rfl rfl ?_)
  intro g1
  refine VO.val rfl rfl (OpV.move (.inr rfl) rfl) ?_
  refine VO.nil ?_
  show VC _ _ _ _ _
  refine VC.seq ?_
  refine VC.block ?_
  refine VC.seq ?_
  refine VC.region ?_
  first
    | refine VO.val rfl rfl (OpV.fieldAddr_atO 0 rfl Tryd.underlying48 rfl rfl Tryd.sizeOf3 rfl rfl) ?_
    | refine VO.val rfl rfl (OpV.fieldAddrO 0 rfl Tryd.underlying48 rfl rfl Tryd.sizeOf3 rfl) ?_
  refine VO.val rfl rfl (OpV.load_own (i := 0) rfl hB Tryd.isAgg3 rfl rfl rfl (fun h => h)) ?_
  refine VO.op rfl (OpE.call rfl hB rfl Tryd.call45 rfl (SpecN.spec (rf_in)) ?_)
  rintro _ rfl
  refine VO.val rfl rfl (OpV.not rfl rfl) ?_
  refine VO.val rfl rfl (OpV.move (.inl rfl) rfl) ?_
  refine VO.opG rfl rfl rfl rfl (fun aK1b => ?_) (fun aK1b => ?_)
  · replace aK1b : _ = false := aK1b
    have aK1 := aK1b
    try simp only [decide_eq_true_eq, decide_eq_false_iff_not, Bool.not_eq_true', Bool.not_eq_false', Int.not_lt, Int.not_le] at aK1
    first
      | refine OpE.val (W := NoB) (OpV.fieldAddr_atO 1 rfl Tryd.underlying48 rfl rfl Tryd.sizeOf3 rfl rfl) rfl ?_
      | refine OpE.val (W := NoB) (OpV.fieldAddrO 1 rfl Tryd.underlying48 rfl rfl Tryd.sizeOf3 rfl) rfl ?_
    refine VO.opY rfl rfl rfl rfl aK1b ?_
    refine OpE.val (W := NoB) (OpV.load_own (i := 0) rfl hB Tryd.isAgg3 rfl rfl rfl (fun h => h)) rfl ?_
    refine VO.opY rfl rfl rfl rfl aK1b ?_
    refine OpE.call rfl hB rfl Tryd.call45 rfl (SpecN.spec (rf_in)) ?_
    rintro _ rfl
    refine VO.opY rfl rfl rfl rfl aK1b ?_
    refine OpE.val (W := NoB) (OpV.not rfl rfl) rfl ?_
    refine VO.val rfl rfl (OpV.pickF rfl rfl rfl rfl aK1b) ?_
    refine VO.val rfl rfl (OpV.move (.inr rfl) rfl) ?_
    refine VO.nil ?_
    show VC _ _ _ _ _
    refine VC.cond rfl (fun aH2b => ?_) (fun aH2b => ?_)
    · have aH2 := aH2b
      try simp only [decide_eq_true_eq, decide_eq_false_iff_not, Bool.not_eq_true', Bool.not_eq_false', Int.not_lt, Int.not_le] at aH2
      refine VC.seq ?_
      refine VC.region ?_
      refine VO.val rfl rfl (OpV.move (.inr rfl) rfl) ?_
      refine VO.nil ?_
      show VC _ _ _ _ _
      refine VC.ret ?_
      exact Exists.intro _ (And.intro (RetN.one Tryd.results57 (ResN.v rfl)) (by first | rw [panF_1 (or2a (oin (by assumption)))] | rw [panF_1 (or2b (oin (by assumption)))]))
    · have aH2 := aH2b
      try simp only [decide_eq_true_eq, decide_eq_false_iff_not, Bool.not_eq_true', Bool.not_eq_false', Int.not_lt, Int.not_le] at aH2
      refine VC.seq ?_
      refine VC.region ?_
      first
        | refine VO.val rfl rfl (OpV.fieldAddr_atO 2 rfl Tryd.underlying48 rfl rfl Tryd.sizeOf46 rfl rfl) ?_
        | refine VO.val rfl rfl (OpV.fieldAddrO 2 rfl Tryd.underlying48 rfl rfl Tryd.sizeOf46 rfl) ?_
      refine VO.val rfl rfl (OpV.load_own (i := 0) rfl hB Tryd.isAgg46 rfl rfl rfl (fun h => h)) ?_
      first
        | refine VO.val rfl rfl (OpV.len_im rfl Tryd.underlying46 rfl) ?_
        | refine VO.val rfl rfl (OpV.len_v rfl Tryd.underlying46 rfl) ?_
        | refine VO.val rfl rfl (OpV.len_row (i := 0) rfl Tryd.underlying46 rfl rfl) ?_
      refine VO.val rfl rfl (OpV.gtr rfl rfl rfl) ?_
      refine VO.val rfl rfl (OpV.move (.inr rfl) rfl) ?_
      refine VO.nil ?_
      show VC _ _ _ _ _
      refine VC.cond rfl (fun aH3b => ?_) (fun aH3b => ?_)
      · have aH3 := aH3b
        try simp only [decide_eq_true_eq, decide_eq_false_iff_not, Bool.not_eq_true', Bool.not_eq_false', Int.not_lt, Int.not_le] at aH3
        refine VC.seq ?_
        refine VC.region ?_
        refine VO.val rfl rfl (OpV.move (.inr rfl) rfl) ?_
        refine VO.nil ?_
        show VC _ _ _ _ _
        refine VC.ret ?_
        exact Exists.intro _ (And.intro (RetN.one Tryd.results57 (ResN.v rfl)) (by rw [panF_2 (or2f (oin (by assumption)) (oin (by assumption))) (by omega)]))
      · have aH3 := aH3b
        try simp only [decide_eq_true_eq, decide_eq_false_iff_not, Bool.not_eq_true', Bool.not_eq_false', Int.not_lt, Int.not_le] at aH3
        refine VC.skip ?_
        show VC _ _ _ _ _
        refine VC.seq ?_
        refine VC.seq ?_
        refine VC.region ?_
        first
          | refine VO.val rfl rfl (OpV.fieldAddr_atO 2 rfl Tryd.underlying48 rfl rfl Tryd.sizeOf46 rfl rfl) ?_
          | refine VO.val rfl rfl (OpV.fieldAddrO 2 rfl Tryd.underlying48 rfl rfl Tryd.sizeOf46 rfl) ?_
        refine VO.val rfl rfl (OpV.load_own (i := 0) rfl hB Tryd.isAgg46 rfl rfl rfl (fun h => h)) ?_
        first
          | refine VO.val rfl rfl (OpV.len_im rfl Tryd.underlying46 rfl) ?_
          | refine VO.val rfl rfl (OpV.len_v rfl Tryd.underlying46 rfl) ?_
          | refine VO.val rfl rfl (OpV.len_row (i := 0) rfl Tryd.underlying46 rfl rfl) ?_
        refine VO.val rfl rfl (OpV.move (.inl rfl) rfl) ?_
        refine VO.nil ?_
        show VC _ _ _ _ _
        refine VC.block ?_
        refine VC.loopK [(22, _), (23, _)] ⟨rfl, rfl, trivial⟩ ({q : Nat // q ≤ n.slots.length ∧ ∀ j, j < q → slotB (n.slots.getD j default) = false}) (fun (i : {q : Nat // q ≤ n.slots.length ∧ ∀ j, j < q → slotB (n.slots.getD j default) = false}) => match i with | ⟨q, hq, hn⟩ => [(24, avI (q : Int))]) (fun (i : {q : Nat // q ≤ n.slots.length ∧ ∀ j, j < q → slotB (n.slots.getD j default) = false}) => match i with | ⟨q, hq, hn⟩ => []) (fun (i : {q : Nat // q ≤ n.slots.length ∧ ∀ j, j < q → slotB (n.slots.getD j default) = false}) => match i with | ⟨q, hq, hn⟩ => 0) (fun (i : {q : Nat // q ≤ n.slots.length ∧ ∀ j, j < q → slotB (n.slots.getD j default) = false}) => match i with | ⟨q, hq, hn⟩ => n.slots.length - q) ⟨0, Nat.zero_le _, fun j hj => absurd hj (Nat.not_lt_zero j)⟩ (Le.mk hB [] ⟨rfl, rfl, rfl, trivial⟩ rfl rfl (Nat.le_refl _)) ?_
        rintro ⟨q, hq, hn⟩
        show VC _ _ _ _ ⟨[(24, avI (q : Int))] ++ [(22, _), (23, _)], [], 0⟩
        refine VC.seq ?_
        refine VC.region ?_
        refine VO.val rfl rfl (OpV.lss rfl rfl rfl) ?_
        refine VO.nil ?_
        show VC _ _ _ _ _
        refine VC.seq ?_
        refine VC.cond rfl (fun aH4b => ?_) (fun aH4b => ?_)
        · have aH4 := aH4b
          try simp only [decide_eq_true_eq, decide_eq_false_iff_not, Bool.not_eq_true', Bool.not_eq_false', Int.not_lt, Int.not_le] at aH4
          refine VC.skip ?_
          show VC _ _ _ _ _
          refine VC.seq ?_
          refine VC.block ?_
          refine VC.seq ?_
          refine VC.region ?_
          first
            | refine VO.val rfl rfl (OpV.indexAddr_E rfl Tryd.underlying46 Tryd.sizeOf106 rfl rfl rfl (by omega)) ?_
            | refine VO.val rfl rfl (OpV.indexAddr_E rfl Tryd.underlying46 Tryd.sizeOf106 rfl rfl (Int.toNat_of_nonneg (by omega)).symm (by omega)) ?_
            | refine VO.val rfl rfl (OpV.indexAddr_q rfl Tryd.underlying46 Tryd.sizeOf106 rfl rfl rfl (by omega)) ?_
            | refine VO.val rfl rfl (OpV.indexAddr_q rfl Tryd.underlying46 Tryd.sizeOf106 rfl rfl (Int.toNat_of_nonneg (by omega)).symm (by omega)) ?_
            | refine VO.val rfl rfl (OpV.indexAddr_im rfl Tryd.underlying46 Tryd.sizeOf106 rfl rfl (by omega) (by omega)) ?_
          refine VO.val rfl rfl (OpV.loadK_at rfl hB OutW.no Tryd.isAgg106 Tryd.sizeOf106 rfl rfl) ?_
          refine VO.op rfl (OpE.alloc rfl hB rfl Tryd.zeroValue106 rfl ?_)
          intro g4
          refine VO.op rfl (OpE.store (i := 0) rfl hB rfl Tryd.sizeOf106 rfl rfl rfl rfl rfl rfl (Nat.le_of_ble_eq_true rfl) trivial ?_)
          refine VO.nil ?_
          show VC _ _ _ _ _
          refine VC.seq ?_
          refine VC.region ?_
          first
            | refine VO.val rfl rfl (OpV.fieldAddr_atO 0 rfl Tryd.underlying106 rfl rfl Tryd.sizeOf3 rfl rfl) ?_
            | refine VO.val rfl rfl (OpV.fieldAddrO 0 rfl Tryd.underlying106 rfl rfl Tryd.sizeOf3 rfl) ?_
          refine VO.val rfl rfl (OpV.load_own (i := 0) rfl hB Tryd.isAgg3 rfl rfl rfl (fun h => h)) ?_
          refine VO.op rfl (OpE.call rfl hB rfl Tryd.call45 rfl (SpecN.spec (rf_in)) ?_)
          rintro _ rfl
          refine VO.val rfl rfl (OpV.not rfl rfl) ?_
          refine VO.val rfl rfl (OpV.move (.inl rfl) rfl) ?_
          refine VO.opG rfl rfl rfl rfl (fun aK5b => ?_) (fun aK5b => ?_)
          · replace aK5b : _ = false := aK5b
            have aK5 := aK5b
            try simp only [decide_eq_true_eq, decide_eq_false_iff_not, Bool.not_eq_true', Bool.not_eq_false', Int.not_lt, Int.not_le] at aK5
            first
              | refine OpE.val (W := NoB) (OpV.fieldAddr_atO 1 rfl Tryd.underlying106 rfl rfl Tryd.sizeOf3 rfl rfl) rfl ?_
              | refine OpE.val (W := NoB) (OpV.fieldAddrO 1 rfl Tryd.underlying106 rfl rfl Tryd.sizeOf3 rfl) rfl ?_
            refine VO.opY rfl rfl rfl rfl aK5b ?_
            refine OpE.val (W := NoB) (OpV.load_own (i := 0) rfl hB Tryd.isAgg3 rfl rfl rfl (fun h => h)) rfl ?_
            refine VO.opY rfl rfl rfl rfl aK5b ?_
            refine OpE.call rfl hB rfl Tryd.call45 rfl (SpecN.spec (rf_in)) ?_
            rintro _ rfl
            refine VO.opY rfl rfl rfl rfl aK5b ?_
            refine OpE.val (W := NoB) (OpV.not rfl rfl) rfl ?_
            refine VO.val rfl rfl (OpV.pickF rfl rfl rfl rfl aK5b) ?_
            refine VO.val rfl rfl (OpV.move (.inl rfl) rfl) ?_
            refine VO.opG rfl rfl rfl rfl (fun aK6b => ?_) (fun aK6b => ?_)
            · replace aK6b : _ = false := aK6b
              have aK6 := aK6b
              try simp only [decide_eq_true_eq, decide_eq_false_iff_not, Bool.not_eq_true', Bool.not_eq_false', Int.not_lt, Int.not_le] at aK6
              first
                | refine OpE.val (W := NoB) (OpV.fieldAddr_atO 2 rfl Tryd.underlying106 rfl rfl Tryd.sizeOf3 rfl rfl) rfl ?_
                | refine OpE.val (W := NoB) (OpV.fieldAddrO 2 rfl Tryd.underlying106 rfl rfl Tryd.sizeOf3 rfl) rfl ?_
              refine VO.opY rfl rfl rfl rfl aK6b ?_
              refine OpE.val (W := NoB) (OpV.load_own (i := 0) rfl hB Tryd.isAgg3 rfl rfl rfl (fun h => h)) rfl ?_
              refine VO.opY rfl rfl rfl rfl aK6b ?_
              refine OpE.call rfl hB rfl Tryd.call45 rfl (SpecN.spec (rf_in)) ?_
              rintro _ rfl
              refine VO.opY rfl rfl rfl rfl aK6b ?_
              refine OpE.val (W := NoB) (OpV.not rfl rfl) rfl ?_
              refine VO.val rfl rfl (OpV.pickF rfl rfl rfl rfl aK6b) ?_
              refine VO.nil ?_
              show VC _ _ _ _ _
              refine VC.cond rfl (fun aH7b => ?_) (fun aH7b => ?_)
              · have aH7 := aH7b
                try simp only [decide_eq_true_eq, decide_eq_false_iff_not, Bool.not_eq_true', Bool.not_eq_false', Int.not_lt, Int.not_le] at aH7
                refine VC.seq ?_
                refine VC.region ?_
                refine VO.val rfl rfl (OpV.move (.inr rfl) rfl) ?_
                refine VO.nil ?_
                show VC _ _ _ _ _
                refine VC.ret ?_
                exact Exists.intro _ (And.intro (RetN.one Tryd.results57 (ResN.v rfl)) (by first | rw [panF_3 (q := q) (or2f (oin (by assumption)) (oin (by assumption))) (by omega) (by omega) (or3a (oin (by assumption)))] | rw [panF_3 (q := q) (or2f (oin (by assumption)) (oin (by assumption))) (by omega) (by omega) (or3b (oin (by assumption)))] | rw [panF_3 (q := q) (or2f (oin (by assumption)) (oin (by assumption))) (by omega) (by omega) (or3c (oin (by assumption)))]))
              · have aH7 := aH7b
                try simp only [decide_eq_true_eq, decide_eq_false_iff_not, Bool.not_eq_true', Bool.not_eq_false', Int.not_lt, Int.not_le] at aH7
                refine VC.skip ?_
                show VC _ _ _ _ _
                refine VC.region ?_
                refine VO.val rfl rfl (OpV.add rfl rfl rfl (by unfold fits; omega)) ?_
                refine VO.val rfl rfl (OpV.move (.inl rfl) rfl) ?_
                refine VO.nil ?_
                exact Exists.intro (⟨q + 1, by omega, lt_succ_cases hn (or3f (oin (by assumption)) (oin (by assumption)) (oin (by assumption)))⟩) (And.intro (Le.mk hB [] ⟨rfl, rfl, rfl, trivial⟩ rfl rfl (Nat.le_refl _)) (by first | omega | (show _ < _; omega) | (simp only []; omega)))
            · replace aK6b : _ = true := aK6b
              have aK6 := aK6b
              try simp only [decide_eq_true_eq, decide_eq_false_iff_not, Bool.not_eq_true', Bool.not_eq_false', Int.not_lt, Int.not_le] at aK6
              refine VO.opX rfl rfl rfl rfl aK6b ?_
              refine VO.opX rfl rfl rfl rfl aK6b ?_
              refine VO.opX rfl rfl rfl rfl aK6b ?_
              refine VO.val rfl rfl (OpV.pickT rfl rfl rfl rfl aK6b) ?_
              refine VO.nil ?_
              show VC _ _ _ _ _
              refine VC.condT rfl rfl ?_
              refine VC.seq ?_
              refine VC.region ?_
              refine VO.val rfl rfl (OpV.move (.inr rfl) rfl) ?_
              refine VO.nil ?_
              show VC _ _ _ _ _
              refine VC.ret ?_
              exact Exists.intro _ (And.intro (RetN.one Tryd.results57 (ResN.v rfl)) (by first | rw [panF_3 (q := q) (or2f (oin (by assumption)) (oin (by assumption))) (by omega) (by omega) (or3a (oin (by assumption)))] | rw [panF_3 (q := q) (or2f (oin (by assumption)) (oin (by assumption))) (by omega) (by omega) (or3b (oin (by assumption)))] | rw [panF_3 (q := q) (or2f (oin (by assumption)) (oin (by assumption))) (by omega) (by omega) (or3c (oin (by assumption)))]))
          · replace aK5b : _ = true := aK5b
            have aK5 := aK5b
            try simp only [decide_eq_true_eq, decide_eq_false_iff_not, Bool.not_eq_true', Bool.not_eq_false', Int.not_lt, Int.not_le] at aK5
            refine VO.opX rfl rfl rfl rfl aK5b ?_
            refine VO.opX rfl rfl rfl rfl aK5b ?_
            refine VO.opX rfl rfl rfl rfl aK5b ?_
            refine VO.val rfl rfl (OpV.pickT rfl rfl rfl rfl aK5b) ?_
            refine VO.val rfl rfl (OpV.move (.inl rfl) rfl) ?_
            refine VO.opX rfl rfl rfl rfl rfl ?_
            refine VO.opX rfl rfl rfl rfl rfl ?_
            refine VO.opX rfl rfl rfl rfl rfl ?_
            refine VO.opX rfl rfl rfl rfl rfl ?_
            refine VO.val rfl rfl (OpV.pickT rfl rfl rfl rfl rfl) ?_
            refine VO.nil ?_
            show VC _ _ _ _ _
            refine VC.condT rfl rfl ?_
            refine VC.seq ?_
            refine VC.region ?_
            refine VO.val rfl rfl (OpV.move (.inr rfl) rfl) ?_
            refine VO.nil ?_
            show VC _ _ _ _ _
            refine VC.ret ?_
            exact Exists.intro _ (And.intro (RetN.one Tryd.results57 (ResN.v rfl)) (by first | rw [panF_3 (q := q) (or2f (oin (by assumption)) (oin (by assumption))) (by omega) (by omega) (or3a (oin (by assumption)))] | rw [panF_3 (q := q) (or2f (oin (by assumption)) (oin (by assumption))) (by omega) (by omega) (or3b (oin (by assumption)))] | rw [panF_3 (q := q) (or2f (oin (by assumption)) (oin (by assumption))) (by omega) (by omega) (or3c (oin (by assumption)))]))
        · have aH4 := aH4b
          try simp only [decide_eq_true_eq, decide_eq_false_iff_not, Bool.not_eq_true', Bool.not_eq_false', Int.not_lt, Int.not_le] at aH4
          refine VC.exit ?_
          show VC _ _ _ _ _
          refine VC.seq ?_
          refine VC.region ?_
          refine VO.val rfl rfl (OpV.move (.inr rfl) rfl) ?_
          refine VO.nil ?_
          show VC _ _ _ _ _
          refine VC.ret ?_
          exact Exists.intro _ (And.intro (RetN.one Tryd.results57 (ResN.v rfl)) (by rw [panF_0 (or2f (oin (by assumption)) (oin (by assumption))) (by omega) (fun j hj => hn j (by omega))]))
  · replace aK1b : _ = true := aK1b
    have aK1 := aK1b
    try simp only [decide_eq_true_eq, decide_eq_false_iff_not, Bool.not_eq_true', Bool.not_eq_false', Int.not_lt, Int.not_le] at aK1
    refine VO.opX rfl rfl rfl rfl aK1b ?_
    refine VO.opX rfl rfl rfl rfl aK1b ?_
    refine VO.opX rfl rfl rfl rfl aK1b ?_
    refine VO.val rfl rfl (OpV.pickT rfl rfl rfl rfl aK1b) ?_
    refine VO.val rfl rfl (OpV.move (.inr rfl) rfl) ?_
    refine VO.nil ?_
    show VC _ _ _ _ _
    refine VC.condT rfl rfl ?_
    refine VC.seq ?_
    refine VC.region ?_
    refine VO.val rfl rfl (OpV.move (.inr rfl) rfl) ?_
    refine VO.nil ?_
    show VC _ _ _ _ _
    refine VC.ret ?_
    exact Exists.intro _ (And.intro (RetN.one Tryd.results57 (ResN.v rfl)) (by first | rw [panF_1 (or2a (oin (by assumption)))] | rw [panF_1 (or2b (oin (by assumption)))]))
set_option maxRecDepth 100000 in
theorem panel_CheckPanel {p : ProdS} {n : PanS} (hs : SmP p) (hl : n.slots.length ≤ 1000000) :
    SpecN Tryd.prog 54 [avProd p, avPan n] (fun y => y = avI (panelF p n)) := by
  refine SpecN.of_VCN Tryd.func54 rfl Tryd.ntmps54 (Nat.le_of_ble_eq_true rfl) fun w A hB => ?_
  have hnew : True := trivial
  refine VC.seq ?_
  refine VC.region ?_
  refine VO.op rfl (OpE.box rfl hB rfl rfl rfl ?_)
  intro g2
  refine VO.op rfl (OpE.box rfl hB rfl rfl rfl ?_)
  intro g3
  refine VO.val rfl rfl (OpV.move (.inr rfl) rfl) ?_
  refine VO.nil ?_
  show VC _ _ _ _ _
  refine VC.seq ?_
  refine VC.seq ?_
  refine VC.region ?_
  refine VO.val rfl rfl (OpV.loadK_own (i := 0) rfl hB Tryd.isAgg44 Tryd.sizeOf44 rfl rfl rfl (fun h => h)) ?_
  refine VO.op rfl (OpE.call rfl hB rfl Tryd.call68 rfl (SpecN.spec (panel_CheckProduct hs)) ?_)
  rintro _ rfl
  refine VO.val rfl rfl (OpV.move (.inr rfl) rfl) ?_
  refine VO.nil ?_
  show VC _ _ _ _ _
  refine VC.seq ?_
  refine VC.region ?_
  refine VO.val rfl rfl (OpV.move (.inl rfl) rfl) ?_
  refine VO.val rfl rfl (OpV.neq rfl rfl rfl) ?_
  refine VO.nil ?_
  show VC _ _ _ _ _
  refine VC.cond rfl (fun h0b => ?_) (fun h0b => ?_)
  · have h0 := h0b
    try simp only [decide_eq_true_eq, decide_eq_false_iff_not, Bool.not_eq_true', Bool.not_eq_false', Int.not_lt, Int.not_le] at h0
    refine VC.seq ?_
    refine VC.region ?_
    refine VO.val rfl rfl (OpV.move (.inl rfl) rfl) ?_
    refine VO.val rfl rfl (OpV.move (.inr rfl) rfl) ?_
    refine VO.nil ?_
    show VC _ _ _ _ _
    refine VC.ret ?_
    exact Exists.intro _ (And.intro (RetN.one Tryd.results54 (ResN.v rfl)) (by first | rw [panelF, if_pos h0] | rw [panelF, if_neg h0]))
  · have h0 := h0b
    try simp only [decide_eq_true_eq, decide_eq_false_iff_not, Bool.not_eq_true', Bool.not_eq_false', Int.not_lt, Int.not_le] at h0
    refine VC.skip ?_
    show VC _ _ _ _ _
    refine VC.seq ?_
    refine VC.region ?_
    refine VO.val rfl rfl (OpV.loadK_own (i := 1) rfl hB Tryd.isAgg48 Tryd.sizeOf48 rfl rfl rfl (fun h => h)) ?_
    refine VO.op rfl (OpE.call rfl hB rfl Tryd.call56 rfl (SpecN.spec (panel_panelFault hl)) ?_)
    rintro _ rfl
    refine VO.val rfl rfl (OpV.move (.inr rfl) rfl) ?_
    refine VO.nil ?_
    show VC _ _ _ _ _
    refine VC.ret ?_
    exact Exists.intro _ (And.intro (RetN.one Tryd.results54 (ResN.v rfl)) (by first | rw [panelF, if_pos h0] | rw [panelF, if_neg h0]))
set_option maxRecDepth 100000 in
theorem rf_PanelFault {p : ProdS} {n : PanS} (hs : SmP p) (hl : n.slots.length ≤ 1000000) :
    SpecN Tryd.prog 18 [avProd p, avPan n] (fun y => y = avI (panelF p n)) := by
  refine SpecN.of_VCN Tryd.func18 rfl Tryd.ntmps18 (Nat.le_of_ble_eq_true rfl) fun w A hB => ?_
  have hnew : True := trivial
  refine VC.seq ?_
  refine VC.region ?_
  refine VO.op rfl (OpE.box rfl hB rfl rfl rfl ?_)
  intro g2
  refine VO.op rfl (OpE.box rfl hB rfl rfl rfl ?_)
  intro g3
  refine VO.val rfl rfl (OpV.move (.inr rfl) rfl) ?_
  refine VO.nil ?_
  show VC _ _ _ _ _
  refine VC.seq ?_
  refine VC.seq ?_
  refine VC.region ?_
  refine VO.val rfl rfl (OpV.loadK_own (i := 0) rfl hB Tryd.isAgg44 Tryd.sizeOf44 rfl rfl rfl (fun h => h)) ?_
  refine VO.op rfl (OpE.call rfl hB rfl Tryd.call30 rfl (SpecN.spec (rf_ProductFault hs)) ?_)
  rintro _ rfl
  refine VO.val rfl rfl (OpV.move (.inr rfl) rfl) ?_
  refine VO.nil ?_
  show VC _ _ _ _ _
  refine VC.seq ?_
  refine VC.region ?_
  refine VO.val rfl rfl (OpV.move (.inl rfl) rfl) ?_
  refine VO.val rfl rfl (OpV.neq rfl rfl rfl) ?_
  refine VO.nil ?_
  show VC _ _ _ _ _
  refine VC.cond rfl (fun h0b => ?_) (fun h0b => ?_)
  · have h0 := h0b
    try simp only [decide_eq_true_eq, decide_eq_false_iff_not, Bool.not_eq_true', Bool.not_eq_false', Int.not_lt, Int.not_le] at h0
    refine VC.seq ?_
    refine VC.region ?_
    refine VO.val rfl rfl (OpV.move (.inl rfl) rfl) ?_
    refine VO.val rfl rfl (OpV.move (.inr rfl) rfl) ?_
    refine VO.nil ?_
    show VC _ _ _ _ _
    refine VC.ret ?_
    exact Exists.intro _ (And.intro (RetN.one Tryd.results18 (ResN.v rfl)) (by first | rw [panelF, if_pos h0] | rw [panelF, if_neg h0]))
  · have h0 := h0b
    try simp only [decide_eq_true_eq, decide_eq_false_iff_not, Bool.not_eq_true', Bool.not_eq_false', Int.not_lt, Int.not_le] at h0
    refine VC.skip ?_
    show VC _ _ _ _ _
    refine VC.seq ?_
    refine VC.region ?_
    refine VO.val rfl rfl (OpV.loadK_own (i := 1) rfl hB Tryd.isAgg48 Tryd.sizeOf48 rfl rfl rfl (fun h => h)) ?_
    refine VO.op rfl (OpE.call rfl hB rfl Tryd.call57 rfl (SpecN.spec (rf_panelFault hl)) ?_)
    rintro _ rfl
    refine VO.val rfl rfl (OpV.move (.inr rfl) rfl) ?_
    refine VO.nil ?_
    show VC _ _ _ _ _
    refine VC.ret ?_
    exact Exists.intro _ (And.intro (RetN.one Tryd.results18 (ResN.v rfl)) (by first | rw [panelF, if_pos h0] | rw [panelF, if_neg h0]))
set_option maxRecDepth 100000 in
theorem panel_size {p : ProdS} {q : Int} (hq : 0 ≤ q ∧ q ≤ 3) :
    SpecN Tryd.prog 55 [avProd p, avI q] (fun y => y = .tup [avI (szW p q), avI (szH p q)]) := by
  refine SpecN.of_VCN Tryd.func55 rfl Tryd.ntmps55 (Nat.le_of_ble_eq_true rfl) fun w A hB => ?_
  have hnew : True := trivial
  refine VC.seq ?_
  refine VC.region ?_
  refine VO.op rfl (OpE.box rfl hB rfl rfl rfl ?_)
  intro g2
  refine VO.val rfl rfl (OpV.move (.inr rfl) rfl) ?_
  refine VO.val rfl rfl (OpV.move (.inr rfl) rfl) ?_
  refine VO.nil ?_
  show VC _ _ _ _ _
  refine VC.seq ?_
  refine VC.seq ?_
  refine VC.region ?_
  refine VO.val rfl rfl (OpV.move (.inl rfl) rfl) ?_
  refine VO.val rfl rfl (OpV.rem rfl rfl rfl (by omega) (by have := tmod2 hq; unfold fits; omega)) ?_
  refine VO.val rfl rfl (OpV.eql rfl rfl rfl) ?_
  refine VO.nil ?_
  show VC _ _ _ _ _
  refine VC.cond rfl (fun h0b => ?_) (fun h0b => ?_)
  · have h0 := h0b
    try simp only [decide_eq_true_eq, decide_eq_false_iff_not, Bool.not_eq_true', Bool.not_eq_false', Int.not_lt, Int.not_le] at h0
    refine VC.seq ?_
    refine VC.draw (fun _ => NoB) hB (by kernel_rfl) ?_
    first
      | refine VA.take (i := 0) rfl (by kernel_rfl) (by kernel_rfl) (by kernel_rfl) rfl rfl (OpV.fieldAddr_atO 2 rfl Tryd.underlying44 rfl rfl Tryd.sizeOf3 rfl rfl) ?_
      | refine VA.take (i := 0) rfl (by kernel_rfl) (by kernel_rfl) (by kernel_rfl) rfl rfl (OpV.fieldAddrO 2 rfl Tryd.underlying44 rfl rfl Tryd.sizeOf3 rfl) ?_
    refine VA.take (i := 1) rfl (by kernel_rfl) (by kernel_rfl) (by kernel_rfl) rfl rfl (OpV.load_own (i := 0) rfl hB Tryd.isAgg3 rfl rfl rfl Wi.not0) ?_
    first
      | refine VA.take (i := 2) rfl (by kernel_rfl) (by kernel_rfl) (by kernel_rfl) rfl rfl (OpV.fieldAddr_atO 1 rfl Tryd.underlying44 rfl rfl Tryd.sizeOf3 rfl rfl) ?_
      | refine VA.take (i := 2) rfl (by kernel_rfl) (by kernel_rfl) (by kernel_rfl) rfl rfl (OpV.fieldAddrO 1 rfl Tryd.underlying44 rfl rfl Tryd.sizeOf3 rfl) ?_
    refine VA.take (i := 3) rfl (by kernel_rfl) (by kernel_rfl) (by kernel_rfl) rfl rfl (OpV.load_own (i := 0) rfl hB Tryd.isAgg3 rfl rfl rfl Wi.not0) ?_
    refine VA.take (i := 4) rfl (by kernel_rfl) (by kernel_rfl) (by kernel_rfl) rfl rfl (OpV.move (.inr rfl) rfl) ?_
    refine VA.take (i := 5) rfl (by kernel_rfl) (by kernel_rfl) (by kernel_rfl) rfl rfl (OpV.move (.inr rfl) rfl) ?_
    refine VA.done (by kernel_rfl) ?_
    show VC _ _ _ _ _
    refine VC.ret ?_
    exact Exists.intro _ (And.intro (RetN.two Tryd.results55 (ResN.v rfl) (ResN.v rfl)) (by first | (rw [szW, szH, if_pos h0, if_pos h0]) | (rw [szW, szH, if_neg h0, if_neg h0])))
  · have h0 := h0b
    try simp only [decide_eq_true_eq, decide_eq_false_iff_not, Bool.not_eq_true', Bool.not_eq_false', Int.not_lt, Int.not_le] at h0
    refine VC.skip ?_
    show VC _ _ _ _ _
    refine VC.seq ?_
    refine VC.draw (fun _ => NoB) hB (by kernel_rfl) ?_
    first
      | refine VA.take (i := 0) rfl (by kernel_rfl) (by kernel_rfl) (by kernel_rfl) rfl rfl (OpV.fieldAddr_atO 1 rfl Tryd.underlying44 rfl rfl Tryd.sizeOf3 rfl rfl) ?_
      | refine VA.take (i := 0) rfl (by kernel_rfl) (by kernel_rfl) (by kernel_rfl) rfl rfl (OpV.fieldAddrO 1 rfl Tryd.underlying44 rfl rfl Tryd.sizeOf3 rfl) ?_
    refine VA.take (i := 1) rfl (by kernel_rfl) (by kernel_rfl) (by kernel_rfl) rfl rfl (OpV.load_own (i := 0) rfl hB Tryd.isAgg3 rfl rfl rfl Wi.not0) ?_
    first
      | refine VA.take (i := 2) rfl (by kernel_rfl) (by kernel_rfl) (by kernel_rfl) rfl rfl (OpV.fieldAddr_atO 2 rfl Tryd.underlying44 rfl rfl Tryd.sizeOf3 rfl rfl) ?_
      | refine VA.take (i := 2) rfl (by kernel_rfl) (by kernel_rfl) (by kernel_rfl) rfl rfl (OpV.fieldAddrO 2 rfl Tryd.underlying44 rfl rfl Tryd.sizeOf3 rfl) ?_
    refine VA.take (i := 3) rfl (by kernel_rfl) (by kernel_rfl) (by kernel_rfl) rfl rfl (OpV.load_own (i := 0) rfl hB Tryd.isAgg3 rfl rfl rfl Wi.not0) ?_
    refine VA.take (i := 4) rfl (by kernel_rfl) (by kernel_rfl) (by kernel_rfl) rfl rfl (OpV.move (.inr rfl) rfl) ?_
    refine VA.take (i := 5) rfl (by kernel_rfl) (by kernel_rfl) (by kernel_rfl) rfl rfl (OpV.move (.inr rfl) rfl) ?_
    refine VA.done (by kernel_rfl) ?_
    show VC _ _ _ _ _
    refine VC.ret ?_
    exact Exists.intro _ (And.intro (RetN.two Tryd.results55 (ResN.v rfl) (ResN.v rfl)) (by first | (rw [szW, szH, if_pos h0, if_pos h0]) | (rw [szW, szH, if_neg h0, if_neg h0])))
theorem szW_bd {p : ProdS} {q : Int} (hw : 1 ≤ p.wide ∧ p.wide ≤ 500000) (hh : 1 ≤ p.high ∧ p.high ≤ 500000) : (1 ≤ szW p q ∧ szW p q ≤ 500000) ∧ 1 ≤ szH p q ∧ szH p q ≤ 500000 := by
  unfold szW szH; split <;> omega
theorem outsR_no {p : ProdS} {n : PanS} (h : panelF p n ≠ 0) : outsR p n = [] := if_neg h
theorem ovsR_no {p : ProdS} {n : PanS} (h : panelF p n ≠ 0) : ovsR p n = [] := if_neg h
theorem nums_t {α : Type} [Inhabited α] {f : α → Bool} {l : List α} {q : Nat} (h : f (l.getD q default) = true) : numsL f l (q + 1) = numsL f l q ++ [(q : Int)] := by rw [numsL_succ, if_pos h]
theorem nums_f {α : Type} [Inhabited α] {f : α → Bool} {l : List α} {q : Nat} (h : f (l.getD q default) = false) : numsL f l (q + 1) = numsL f l q := by rw [numsL_succ, if_neg (by rw [h]; simp), List.append_nil]
theorem out_1 {p : ProdS} {n : PanS} {s : SlotS} (h : decide (s.x + szW p s.quarter > n.wide) = true) : outO p n s = true := or2a h
theorem out_2 {p : ProdS} {n : PanS} {s : SlotS} (h : decide (s.y + szH p s.quarter > n.high) = true) : outO p n s = true := or2b h
theorem out_3 {p : ProdS} {n : PanS} {s : SlotS} (h : decide (s.x + szW p s.quarter > n.wide) = false) (h' : decide (s.y + szH p s.quarter > n.high) = false) : outO p n s = false := or2f h h'
set_option maxRecDepth 100000 in
set_option maxHeartbeats 4000000 in
theorem panel_Outside {p : ProdS} {n : PanS} (hs : SmP p) (hl : n.slots.length ≤ 1000000) :
    SpecN Tryd.prog 15 [avProd p, avPan n] (fun y => y = .tup [avInts (outsR p n), avI (panelF p n)]) := by
  refine SpecN.of_VCN Tryd.func15 rfl Tryd.ntmps15 (Nat.le_of_ble_eq_true rfl) fun w A hB => ?_
  have hnew : True := trivial
  refine VC.seq ?_
  refine VC.region ?_
  refine VO.op rfl (OpE.box rfl hB rfl rfl rfl ?_)
  intro g2
  refine VO.op rfl (OpE.box rfl hB rfl rfl rfl ?_)
  intro g3
  refine VO.val rfl rfl (OpV.move (.inr rfl) rfl) ?_
  refine VO.val rfl rfl (OpV.move (.inr rfl) rfl) ?_
  refine VO.nil ?_
  show VC _ _ _ _ _
  refine VC.seq ?_
  refine VC.seq ?_
  refine VC.region ?_
  refine VO.val rfl rfl (OpV.loadK_own (i := 0) rfl hB Tryd.isAgg44 Tryd.sizeOf44 rfl rfl rfl (fun h => h)) ?_
  refine VO.val rfl rfl (OpV.loadK_own (i := 1) rfl hB Tryd.isAgg48 Tryd.sizeOf48 rfl rfl rfl (fun h => h)) ?_
  refine VO.op rfl (OpE.call rfl hB rfl Tryd.call54 rfl (SpecN.spec (panel_CheckPanel hs hl)) ?_)
  rintro _ rfl
  refine VO.val rfl rfl (OpV.move (.inr rfl) rfl) ?_
  refine VO.nil ?_
  show VC _ _ _ _ _
  refine VC.seq ?_
  refine VC.region ?_
  refine VO.val rfl rfl (OpV.move (.inl rfl) rfl) ?_
  refine VO.val rfl rfl (OpV.neq rfl rfl rfl) ?_
  refine VO.nil ?_
  show VC _ _ _ _ _
  refine VC.cond rfl (fun h0b => ?_) (fun h0b => ?_)
  · have h0 := h0b
    try simp only [decide_eq_true_eq, decide_eq_false_iff_not, Bool.not_eq_true', Bool.not_eq_false', Int.not_lt, Int.not_le] at h0
    refine VC.seq ?_
    refine VC.region ?_
    refine VO.val rfl rfl (OpV.move (.inl rfl) rfl) ?_
    refine VO.val rfl rfl (OpV.move (.inr rfl) rfl) ?_
    refine VO.val rfl rfl (OpV.move (.inr rfl) rfl) ?_
    refine VO.nil ?_
    show VC _ _ _ _ _
    refine VC.ret ?_
    exact Exists.intro _ (And.intro (RetN.two Tryd.results15 (ResN.nilI rfl) (ResN.v rfl)) (by rw [outsR_no h0]))
  · have h0 := h0b
    try simp only [decide_eq_true_eq, decide_eq_false_iff_not, Bool.not_eq_true', Bool.not_eq_false', Int.not_lt, Int.not_le] at h0
    have h00 : panelF p n = 0 := by omega
    have hz := panelF_0 h00
    have hok := prodOk hz.1
    have hpn := panOk hz.2
    have hw := hok.wide
    have hh := hok.high
    have hlen := hpn.len
    refine VC.skip ?_
    show VC _ _ _ _ _
    refine VC.seq ?_
    refine VC.region ?_
    refine VO.val rfl rfl (OpV.move (.inr rfl) rfl) ?_
    refine VO.nil ?_
    show VC _ _ _ _ _
    refine VC.seq ?_
    refine VC.seq ?_
    refine VC.region ?_
    first
      | refine VO.val rfl rfl (OpV.fieldAddr_atO 2 rfl Tryd.underlying48 rfl rfl Tryd.sizeOf46 rfl rfl) ?_
      | refine VO.val rfl rfl (OpV.fieldAddrO 2 rfl Tryd.underlying48 rfl rfl Tryd.sizeOf46 rfl) ?_
    refine VO.val rfl rfl (OpV.load_own (i := 1) rfl hB Tryd.isAgg46 rfl rfl rfl (fun h => h)) ?_
    first
      | refine VO.val rfl rfl (OpV.len_im rfl Tryd.underlying46 rfl) ?_
      | refine VO.val rfl rfl (OpV.len_v rfl Tryd.underlying46 rfl) ?_
      | refine VO.val rfl rfl (OpV.len_row (i := 0) rfl Tryd.underlying46 rfl rfl) ?_
      | refine VO.val rfl rfl (OpV.len_row (i := 1) rfl Tryd.underlying46 rfl rfl) ?_
    refine VO.val rfl rfl (OpV.move (.inl rfl) rfl) ?_
    refine VO.nil ?_
    show VC _ _ _ _ _
    refine VC.block ?_
    refine VC.le _ (Le.nilRow 1 3) ?_
    refine VC.loopK [(2, _), (3, _), (19, _), (20, _)] ⟨rfl, rfl, rfl, rfl, trivial⟩ ({z : Value × Nat // z.2 ≤ n.slots.length}) (fun (i : {z : Value × Nat // z.2 ≤ n.slots.length}) => match i with | ⟨⟨u, q⟩, hq⟩ => [(7, .v u), (21, avI (q : Int))]) (fun (i : {z : Value × Nat // z.2 ≤ n.slots.length}) => match i with | ⟨⟨u, q⟩, hq⟩ => [boxProd g2 p 44, boxPan g3 n 48, .row u (numsL (outO p n) n.slots q).length 1 (intsL (numsL (outO p n) n.slots q)) 3]) (fun (i : {z : Value × Nat // z.2 ≤ n.slots.length}) => match i with | ⟨⟨u, q⟩, hq⟩ => 0) (fun (i : {z : Value × Nat // z.2 ≤ n.slots.length}) => match i with | ⟨⟨u, q⟩, hq⟩ => n.slots.length - q) ⟨(.slice none 0 0, 0), Nat.zero_le _⟩ (Le.mk hB [0, 1, 2] ⟨rfl, rfl, rfl, rfl, rfl, rfl, trivial⟩ rfl rfl (Nat.le_refl _)) ?_
    rintro ⟨⟨u, q⟩, hq⟩
    show VC _ _ _ _ ⟨[(7, .v u), (21, avI (q : Int))] ++ [(2, _), (3, _), (19, _), (20, _)], [boxProd g2 p 44, boxPan g3 n 48, .row u (numsL (outO p n) n.slots q).length 1 (intsL (numsL (outO p n) n.slots q)) 3], 0⟩
    simp only at hq
    have hnl := numsL_len (outO p n) n.slots q
    refine VC.seq ?_
    refine VC.region ?_
    refine VO.val rfl rfl (OpV.lss rfl rfl rfl) ?_
    refine VO.nil ?_
    show VC _ _ _ _ _
    refine VC.seq ?_
    refine VC.cond rfl (fun aH1b => ?_) (fun aH1b => ?_)
    · have aH1 := aH1b
      try simp only [decide_eq_true_eq, decide_eq_false_iff_not, Bool.not_eq_true', Bool.not_eq_false', Int.not_lt, Int.not_le] at aH1
      refine VC.skip ?_
      show VC _ _ _ _ _
      refine VC.seq ?_
      refine VC.block ?_
      refine VC.seq ?_
      have hsl := hpn.all q (by omega)
      have hsz := szW_bd (q := (n.slots.getD q default).quarter) hw hh
      refine VC.region ?_
      refine VO.val rfl rfl (OpV.move (.inl rfl) rfl) ?_
      first
        | refine VO.val rfl rfl (OpV.indexAddr_E rfl Tryd.underlying46 Tryd.sizeOf106 rfl rfl rfl (by omega)) ?_
        | refine VO.val rfl rfl (OpV.indexAddr_E rfl Tryd.underlying46 Tryd.sizeOf106 rfl rfl (Int.toNat_of_nonneg (by omega)).symm (by omega)) ?_
        | refine VO.val rfl rfl (OpV.indexAddr_q rfl Tryd.underlying46 Tryd.sizeOf106 rfl rfl rfl (by omega)) ?_
        | refine VO.val rfl rfl (OpV.indexAddr_q rfl Tryd.underlying46 Tryd.sizeOf106 rfl rfl (Int.toNat_of_nonneg (by omega)).symm (by omega)) ?_
        | refine VO.val rfl rfl (OpV.indexAddr_im rfl Tryd.underlying46 Tryd.sizeOf106 rfl rfl (by omega) (by omega)) ?_
      first
        | refine VO.val rfl rfl (OpV.loadK_at rfl hB OutW.no Tryd.isAgg106 Tryd.sizeOf106 rfl rfl) ?_
        | refine VO.val rfl rfl (OpV.loadK_own (i := 0) rfl hB Tryd.isAgg106 Tryd.sizeOf106 rfl rfl rfl (fun h => h)) ?_
        | refine VO.val rfl rfl (OpV.loadK_own (i := 1) rfl hB Tryd.isAgg106 Tryd.sizeOf106 rfl rfl rfl (fun h => h)) ?_
        | refine VO.val rfl rfl (OpV.loadK_own (i := 2) rfl hB Tryd.isAgg106 Tryd.sizeOf106 rfl rfl rfl (fun h => h)) ?_
      refine VO.op rfl (OpE.alloc rfl hB rfl Tryd.zeroValue106 rfl ?_)
      intro g9
      refine VO.val rfl rfl (OpV.move (.inr rfl) rfl) ?_
      refine VO.op rfl (OpE.store (i := 3) rfl hB rfl Tryd.sizeOf106 rfl rfl rfl rfl rfl rfl (Nat.le_of_ble_eq_true rfl) trivial ?_)
      refine VO.nil ?_
      show VC _ _ _ _ _
      refine VC.seq ?_
      refine VC.region ?_
      first
        | refine VO.val rfl rfl (OpV.loadK_at rfl hB OutW.no Tryd.isAgg44 Tryd.sizeOf44 rfl rfl) ?_
        | refine VO.val rfl rfl (OpV.loadK_own (i := 0) rfl hB Tryd.isAgg44 Tryd.sizeOf44 rfl rfl rfl (fun h => h)) ?_
        | refine VO.val rfl rfl (OpV.loadK_own (i := 1) rfl hB Tryd.isAgg44 Tryd.sizeOf44 rfl rfl rfl (fun h => h)) ?_
        | refine VO.val rfl rfl (OpV.loadK_own (i := 2) rfl hB Tryd.isAgg44 Tryd.sizeOf44 rfl rfl rfl (fun h => h)) ?_
        | refine VO.val rfl rfl (OpV.loadK_own (i := 3) rfl hB Tryd.isAgg44 Tryd.sizeOf44 rfl rfl rfl (fun h => h)) ?_
      first
        | refine VO.val rfl rfl (OpV.fieldAddr_atO 2 rfl Tryd.underlying106 rfl rfl Tryd.sizeOf3 rfl rfl) ?_
        | refine VO.val rfl rfl (OpV.fieldAddrO 2 rfl Tryd.underlying106 rfl rfl Tryd.sizeOf3 rfl) ?_
      refine VO.val rfl rfl (OpV.load_own (i := 3) rfl hB Tryd.isAgg3 rfl rfl rfl (fun h => h)) ?_
      refine VO.op rfl (OpE.call rfl hB rfl Tryd.call55 rfl (SpecN.spec (panel_size hsl.2.2)) ?_)
      rintro _ rfl
      refine VO.val rfl rfl (OpV.move (.inl rfl) rfl) ?_
      first
        | refine VO.val rfl rfl (OpV.extract rfl rfl rfl) ?_
        | refine VO.val rfl rfl (OpV.extract_v rfl rfl rfl) ?_
      first
        | refine VO.val rfl rfl (OpV.extract rfl rfl rfl) ?_
        | refine VO.val rfl rfl (OpV.extract_v rfl rfl rfl) ?_
      refine VO.val rfl rfl (OpV.move (.inr rfl) rfl) ?_
      refine VO.val rfl rfl (OpV.move (.inr rfl) rfl) ?_
      refine VO.nil ?_
      show VC _ _ _ _ _
      refine VC.seq ?_
      refine VC.region ?_
      first
        | refine VO.val rfl rfl (OpV.fieldAddr_atO 0 rfl Tryd.underlying106 rfl rfl Tryd.sizeOf3 rfl rfl) ?_
        | refine VO.val rfl rfl (OpV.fieldAddrO 0 rfl Tryd.underlying106 rfl rfl Tryd.sizeOf3 rfl) ?_
      refine VO.val rfl rfl (OpV.load_own (i := 3) rfl hB Tryd.isAgg3 rfl rfl rfl (fun h => h)) ?_
      refine VO.val rfl rfl (OpV.move (.inl rfl) rfl) ?_
      refine VO.val rfl rfl (OpV.add rfl rfl rfl (by unfold fits; omega)) ?_
      first
        | refine VO.val rfl rfl (OpV.fieldAddr_atO 0 rfl Tryd.underlying48 rfl rfl Tryd.sizeOf3 rfl rfl) ?_
        | refine VO.val rfl rfl (OpV.fieldAddrO 0 rfl Tryd.underlying48 rfl rfl Tryd.sizeOf3 rfl) ?_
      first
        | refine VO.val rfl rfl (OpV.load_at rfl hB OutW.no Tryd.isAgg3 rfl rfl) ?_
        | refine VO.val rfl rfl (OpV.load_own (i := 0) rfl hB Tryd.isAgg3 rfl rfl rfl (fun h => h)) ?_
        | refine VO.val rfl rfl (OpV.load_own (i := 1) rfl hB Tryd.isAgg3 rfl rfl rfl (fun h => h)) ?_
        | refine VO.val rfl rfl (OpV.load_own (i := 2) rfl hB Tryd.isAgg3 rfl rfl rfl (fun h => h)) ?_
        | refine VO.val rfl rfl (OpV.load_own (i := 3) rfl hB Tryd.isAgg3 rfl rfl rfl (fun h => h)) ?_
      refine VO.val rfl rfl (OpV.gtr rfl rfl rfl) ?_
      refine VO.val rfl rfl (OpV.move (.inl rfl) rfl) ?_
      refine VO.opG rfl rfl rfl rfl (fun aK2b => ?_) (fun aK2b => ?_)
      · replace aK2b : _ = false := aK2b
        have aK2 := aK2b
        try simp only [decide_eq_true_eq, decide_eq_false_iff_not, Bool.not_eq_true', Bool.not_eq_false', Int.not_lt, Int.not_le] at aK2
        first
          | refine OpE.val (W := NoB) (OpV.fieldAddr_atO 1 rfl Tryd.underlying106 rfl rfl Tryd.sizeOf3 rfl rfl) rfl ?_
          | refine OpE.val (W := NoB) (OpV.fieldAddrO 1 rfl Tryd.underlying106 rfl rfl Tryd.sizeOf3 rfl) rfl ?_
        refine VO.opY rfl rfl rfl rfl aK2b ?_
        refine OpE.val (W := NoB) (OpV.load_own (i := 3) rfl hB Tryd.isAgg3 rfl rfl rfl (fun h => h)) rfl ?_
        refine VO.opY rfl rfl rfl rfl aK2b ?_
        refine OpE.val (W := NoB) (OpV.move (.inl rfl) rfl) rfl ?_
        refine VO.opY rfl rfl rfl rfl aK2b ?_
        refine OpE.val (W := NoB) (OpV.add rfl rfl rfl (by unfold fits; omega)) rfl ?_
        refine VO.opY rfl rfl rfl rfl aK2b ?_
        first
          | refine OpE.val (W := NoB) (OpV.fieldAddr_atO 1 rfl Tryd.underlying48 rfl rfl Tryd.sizeOf3 rfl rfl) rfl ?_
          | refine OpE.val (W := NoB) (OpV.fieldAddrO 1 rfl Tryd.underlying48 rfl rfl Tryd.sizeOf3 rfl) rfl ?_
        refine VO.opY rfl rfl rfl rfl aK2b ?_
        first
          | refine OpE.val (W := NoB) (OpV.load_at rfl hB OutW.no Tryd.isAgg3 rfl rfl) rfl ?_
          | refine OpE.val (W := NoB) (OpV.load_own (i := 0) rfl hB Tryd.isAgg3 rfl rfl rfl (fun h => h)) rfl ?_
          | refine OpE.val (W := NoB) (OpV.load_own (i := 1) rfl hB Tryd.isAgg3 rfl rfl rfl (fun h => h)) rfl ?_
          | refine OpE.val (W := NoB) (OpV.load_own (i := 2) rfl hB Tryd.isAgg3 rfl rfl rfl (fun h => h)) rfl ?_
          | refine OpE.val (W := NoB) (OpV.load_own (i := 3) rfl hB Tryd.isAgg3 rfl rfl rfl (fun h => h)) rfl ?_
        refine VO.opY rfl rfl rfl rfl aK2b ?_
        refine OpE.val (W := NoB) (OpV.gtr rfl rfl rfl) rfl ?_
        refine VO.val rfl rfl (OpV.pickF rfl rfl rfl rfl aK2b) ?_
        refine VO.nil ?_
        show VC _ _ _ _ _
        refine VC.cond rfl (fun aH3b => ?_) (fun aH3b => ?_)
        · have aH3 := aH3b
          try simp only [decide_eq_true_eq, decide_eq_false_iff_not, Bool.not_eq_true', Bool.not_eq_false', Int.not_lt, Int.not_le] at aH3
          refine VC.region ?_
          refine VO.val rfl rfl (OpV.move (.inl rfl) rfl) ?_
          refine VO.val rfl rfl (OpV.move (.inl rfl) rfl) ?_
          refine VO.op rfl (OpE.buildSlice (zc := #[.int .i64 0]) rfl hB rfl Tryd.underlying22 Tryd.sizeOf3 Tryd.zeroValue3 (by decide) (by decide) (by kernel_rfl) rfl rfl ?_)
          first
            | refine VO.op rfl (OpE.append1 (i := 0) rfl hB rfl Tryd.underlying22 (infoOf Tryd.t3 1 (by kernel_rfl) rfl rfl) rfl (by decide) (by decide) rfl rfl rfl rfl (intsL_snoc _ _) (by omega) (fun _ _ => trivial) ?_)
            | refine VO.op rfl (OpE.append1 (i := 1) rfl hB rfl Tryd.underlying22 (infoOf Tryd.t3 1 (by kernel_rfl) rfl rfl) rfl (by decide) (by decide) rfl rfl rfl rfl (intsL_snoc _ _) (by omega) (fun _ _ => trivial) ?_)
            | refine VO.op rfl (OpE.append1 (i := 2) rfl hB rfl Tryd.underlying22 (infoOf Tryd.t3 1 (by kernel_rfl) rfl rfl) rfl (by decide) (by decide) rfl rfl rfl rfl (intsL_snoc _ _) (by omega) (fun _ _ => trivial) ?_)
            | refine VO.op rfl (OpE.append1 (i := 3) rfl hB rfl Tryd.underlying22 (infoOf Tryd.t3 1 (by kernel_rfl) rfl rfl) rfl (by decide) (by decide) rfl rfl rfl rfl (intsL_snoc _ _) (by omega) (fun _ _ => trivial) ?_)
          intro u2
          refine VO.val rfl rfl (OpV.move (.inr rfl) rfl) ?_
          refine VO.nil ?_
          show VC _ _ _ _ _
          refine VC.region ?_
          refine VO.val rfl rfl (OpV.add rfl rfl rfl (by unfold fits; omega)) ?_
          refine VO.val rfl rfl (OpV.move (.inl rfl) rfl) ?_
          refine VO.nil ?_
          first
            | exact Exists.intro (⟨(u2, q + 1), by show q + 1 ≤ _; omega⟩) (And.intro (Le.mk hB [0, 1, 2] ⟨rfl, rfl, rfl, rfl, rfl, rfl, trivial⟩ rfl (by dsimp only; first | (rw [nums_t (by first | exact out_1 (by assumption) | exact out_2 (by assumption)), List.length_append]; rfl) | (rw [nums_f (out_3 (by assumption) (by assumption))]; rfl)) (Nat.le_refl _)) (by first | omega | (show _ < _; omega) | (simp only []; omega)))
            | exact Exists.intro (⟨(u, q + 1), by show q + 1 ≤ _; omega⟩) (And.intro (Le.mk hB [0, 1, 2] ⟨rfl, rfl, rfl, rfl, rfl, rfl, trivial⟩ rfl (by dsimp only; first | (rw [nums_t (by first | exact out_1 (by assumption) | exact out_2 (by assumption)), List.length_append]; rfl) | (rw [nums_f (out_3 (by assumption) (by assumption))]; rfl)) (Nat.le_refl _)) (by first | omega | (show _ < _; omega) | (simp only []; omega)))
        · have aH3 := aH3b
          try simp only [decide_eq_true_eq, decide_eq_false_iff_not, Bool.not_eq_true', Bool.not_eq_false', Int.not_lt, Int.not_le] at aH3
          refine VC.skip ?_
          show VC _ _ _ _ _
          refine VC.region ?_
          refine VO.val rfl rfl (OpV.add rfl rfl rfl (by unfold fits; omega)) ?_
          refine VO.val rfl rfl (OpV.move (.inl rfl) rfl) ?_
          refine VO.nil ?_
          first
            | exact Exists.intro (⟨(u2, q + 1), by show q + 1 ≤ _; omega⟩) (And.intro (Le.mk hB [0, 1, 2] ⟨rfl, rfl, rfl, rfl, rfl, rfl, trivial⟩ rfl (by dsimp only; first | (rw [nums_t (by first | exact out_1 (by assumption) | exact out_2 (by assumption)), List.length_append]; rfl) | (rw [nums_f (out_3 (by assumption) (by assumption))]; rfl)) (Nat.le_refl _)) (by first | omega | (show _ < _; omega) | (simp only []; omega)))
            | exact Exists.intro (⟨(u, q + 1), by show q + 1 ≤ _; omega⟩) (And.intro (Le.mk hB [0, 1, 2] ⟨rfl, rfl, rfl, rfl, rfl, rfl, trivial⟩ rfl (by dsimp only; first | (rw [nums_t (by first | exact out_1 (by assumption) | exact out_2 (by assumption)), List.length_append]; rfl) | (rw [nums_f (out_3 (by assumption) (by assumption))]; rfl)) (Nat.le_refl _)) (by first | omega | (show _ < _; omega) | (simp only []; omega)))
      · replace aK2b : _ = true := aK2b
        have aK2 := aK2b
        try simp only [decide_eq_true_eq, decide_eq_false_iff_not, Bool.not_eq_true', Bool.not_eq_false', Int.not_lt, Int.not_le] at aK2
        refine VO.opX rfl rfl rfl rfl aK2b ?_
        refine VO.opX rfl rfl rfl rfl aK2b ?_
        refine VO.opX rfl rfl rfl rfl aK2b ?_
        refine VO.opX rfl rfl rfl rfl aK2b ?_
        refine VO.opX rfl rfl rfl rfl aK2b ?_
        refine VO.opX rfl rfl rfl rfl aK2b ?_
        refine VO.val rfl rfl (OpV.pickT rfl rfl rfl rfl aK2b) ?_
        refine VO.nil ?_
        show VC _ _ _ _ _
        refine VC.condT rfl rfl ?_
        refine VC.region ?_
        refine VO.val rfl rfl (OpV.move (.inl rfl) rfl) ?_
        refine VO.val rfl rfl (OpV.move (.inl rfl) rfl) ?_
        refine VO.op rfl (OpE.buildSlice (zc := #[.int .i64 0]) rfl hB rfl Tryd.underlying22 Tryd.sizeOf3 Tryd.zeroValue3 (by decide) (by decide) (by kernel_rfl) rfl rfl ?_)
        first
          | refine VO.op rfl (OpE.append1 (i := 0) rfl hB rfl Tryd.underlying22 (infoOf Tryd.t3 1 (by kernel_rfl) rfl rfl) rfl (by decide) (by decide) rfl rfl rfl rfl (intsL_snoc _ _) (by omega) (fun _ _ => trivial) ?_)
          | refine VO.op rfl (OpE.append1 (i := 1) rfl hB rfl Tryd.underlying22 (infoOf Tryd.t3 1 (by kernel_rfl) rfl rfl) rfl (by decide) (by decide) rfl rfl rfl rfl (intsL_snoc _ _) (by omega) (fun _ _ => trivial) ?_)
          | refine VO.op rfl (OpE.append1 (i := 2) rfl hB rfl Tryd.underlying22 (infoOf Tryd.t3 1 (by kernel_rfl) rfl rfl) rfl (by decide) (by decide) rfl rfl rfl rfl (intsL_snoc _ _) (by omega) (fun _ _ => trivial) ?_)
          | refine VO.op rfl (OpE.append1 (i := 3) rfl hB rfl Tryd.underlying22 (infoOf Tryd.t3 1 (by kernel_rfl) rfl rfl) rfl (by decide) (by decide) rfl rfl rfl rfl (intsL_snoc _ _) (by omega) (fun _ _ => trivial) ?_)
        intro u2
        refine VO.val rfl rfl (OpV.move (.inr rfl) rfl) ?_
        refine VO.nil ?_
        show VC _ _ _ _ _
        refine VC.region ?_
        refine VO.val rfl rfl (OpV.add rfl rfl rfl (by unfold fits; omega)) ?_
        refine VO.val rfl rfl (OpV.move (.inl rfl) rfl) ?_
        refine VO.nil ?_
        first
          | exact Exists.intro (⟨(u2, q + 1), by show q + 1 ≤ _; omega⟩) (And.intro (Le.mk hB [0, 1, 2] ⟨rfl, rfl, rfl, rfl, rfl, rfl, trivial⟩ rfl (by dsimp only; first | (rw [nums_t (by first | exact out_1 (by assumption) | exact out_2 (by assumption)), List.length_append]; rfl) | (rw [nums_f (out_3 (by assumption) (by assumption))]; rfl)) (Nat.le_refl _)) (by first | omega | (show _ < _; omega) | (simp only []; omega)))
          | exact Exists.intro (⟨(u, q + 1), by show q + 1 ≤ _; omega⟩) (And.intro (Le.mk hB [0, 1, 2] ⟨rfl, rfl, rfl, rfl, rfl, rfl, trivial⟩ rfl (by dsimp only; first | (rw [nums_t (by first | exact out_1 (by assumption) | exact out_2 (by assumption)), List.length_append]; rfl) | (rw [nums_f (out_3 (by assumption) (by assumption))]; rfl)) (Nat.le_refl _)) (by first | omega | (show _ < _; omega) | (simp only []; omega)))
    · have aH1 := aH1b
      try simp only [decide_eq_true_eq, decide_eq_false_iff_not, Bool.not_eq_true', Bool.not_eq_false', Int.not_lt, Int.not_le] at aH1
      refine VC.exit ?_
      show VC _ _ _ _ _
      refine VC.seq ?_
      have hqe : q = n.slots.length := by omega
      rw [hqe]
      refine VC.region ?_
      refine VO.val rfl rfl (OpV.move (.inl rfl) rfl) ?_
      refine VO.val rfl rfl (OpV.move (.inr rfl) rfl) ?_
      refine VO.val rfl rfl (OpV.move (.inr rfl) rfl) ?_
      refine VO.nil ?_
      show VC _ _ _ _ _
      refine VC.ret ?_
      exact Exists.intro _ (And.intro (RetN.two Tryd.results15 (ResN.rowI (i := 2) rfl rfl rfl) (ResN.v rfl)) (by rw [outsR, if_pos h00, h00, outL]))
end Go.Proofs.YtgikefjbdhnffaaDoor
