/- Walks: bodies and products are checked; the bodies of a product. -/
import Derived.Test.YtgikefjbdhnffaaDoorBody
import Derived.Test.YtgikefjbdhnffaaDoorProdS
import Derived.Test.YtgikefjbdhnffaaDoorNeedS
namespace Go.Proofs.YtgikefjbdhnffaaDoor
open Go.RowKit
set_option linter.unusedVariables false
set_option linter.unusedSimpArgs false
def lastP (p : ProdS) (q : Nat) : ByteArray := if q = 0 then ⟨#[]⟩ else (p.places.getD (q - 1) default).name
theorem lastP_succ (p : ProdS) (q : Nat) : lastP p (q + 1) = (p.places.getD q default).name := by simp [lastP]
theorem placeE_7' {p : ProdS} {i : Nat} (h1 : keyF (p.places.getD i default).name = true) (h2 : keyF (p.places.getD i default).part = true) (hs : sLe (p.places.getD i default).name (lastP p i) = true) : placeE p i = 7 := by
  by_cases hq : i = 0
  · rw [lastP, if_pos hq, sLe_empty h1] at hs; cases hs
  · rw [lastP, if_neg hq] at hs; exact placeE_7 h1 h2 (by omega) hs
theorem lastP_ne {p : ProdS} {i : Nat} (hs : sLe (p.places.getD i default).name (lastP p i) = false) : i = 0 ∨ sLe (p.places.getD i default).name (p.places.getD (i - 1) default).name = false := by
  by_cases hq : i = 0
  · exact .inl hq
  · rw [lastP, if_neg hq] at hs; exact .inr hs
theorem oin {n a b : Int} {v : Bool} (h : (!(decide (a ≤ n) && decide (n ≤ b))) = v) : outR n a b = v := (outR_in n a b).trans h
set_option maxRecDepth 100000 in
theorem rf_ProductFault {p : ProdS} (hs : SmP p) :
    SpecN Tryd.prog 30 [avProd p] (fun y => y = avI (prodF p)) := by
  refine SpecN.of_VCN Tryd.func30 rfl Tryd.ntmps30 (Nat.le_of_ble_eq_true rfl) fun w A hB => ?_
  have hnew : True := trivial
  refine VC.seq ?_
  have hl := hs.len
  refine VC.region ?_
  refine VO.op rfl (OpE.box rfl hB rfl rfl rfl ?_)
  intro g1
  refine VO.val rfl rfl (OpV.move (.inr rfl) rfl) ?_
  refine VO.nil ?_
  show VC _ _ _ _ _
  refine VC.seq ?_
  refine VC.block ?_
  refine VC.seq ?_
  refine VC.region ?_
  first
    | refine VO.val rfl rfl (OpV.fieldAddr_atO 0 rfl Tryd.underlying44 rfl rfl Tryd.sizeOf9 rfl rfl) ?_
    | refine VO.val rfl rfl (OpV.fieldAddrO 0 rfl Tryd.underlying44 rfl rfl Tryd.sizeOf9 rfl) ?_
  refine VO.val rfl rfl (OpV.load_own (i := 0) rfl hB Tryd.isAgg9 rfl rfl rfl (fun h => h)) ?_
  refine VO.op rfl (OpE.call rfl hB rfl Tryd.call62 rfl (SpecN.spec (rf_Key (by have := hs.key; omega))) ?_)
  rintro _ rfl
  refine VO.val rfl rfl (OpV.not rfl rfl) ?_
  refine VO.val rfl rfl (OpV.move (.inr rfl) rfl) ?_
  refine VO.nil ?_
  show VC _ _ _ _ _
  refine VC.cond rfl (fun k0b => ?_) (fun k0b => ?_)
  · have k0 := k0b
    try simp only [decide_eq_true_eq, decide_eq_false_iff_not, Bool.not_eq_true', Bool.not_eq_false', Int.not_lt, Int.not_le] at k0
    refine VC.seq ?_
    refine VC.region ?_
    refine VO.val rfl rfl (OpV.move (.inr rfl) rfl) ?_
    refine VO.nil ?_
    show VC _ _ _ _ _
    refine VC.ret ?_
    exact Exists.intro _ (And.intro (RetN.one Tryd.results30 (ResN.v rfl)) (by rw [prodF_5 (by assumption)]))
  · have k0 := k0b
    try simp only [decide_eq_true_eq, decide_eq_false_iff_not, Bool.not_eq_true', Bool.not_eq_false', Int.not_lt, Int.not_le] at k0
    refine VC.seq ?_
    refine VC.region ?_
    first
      | refine VO.val rfl rfl (OpV.fieldAddr_atO 1 rfl Tryd.underlying44 rfl rfl Tryd.sizeOf3 rfl rfl) ?_
      | refine VO.val rfl rfl (OpV.fieldAddrO 1 rfl Tryd.underlying44 rfl rfl Tryd.sizeOf3 rfl) ?_
    refine VO.val rfl rfl (OpV.load_own (i := 0) rfl hB Tryd.isAgg3 rfl rfl rfl (fun h => h)) ?_
    refine VO.op rfl (OpE.call rfl hB rfl Tryd.call45 rfl (SpecN.spec (rf_in)) ?_)
    rintro _ rfl
    refine VO.val rfl rfl (OpV.not rfl rfl) ?_
    refine VO.val rfl rfl (OpV.move (.inl rfl) rfl) ?_
    refine VO.opG rfl rfl rfl rfl (fun aK1b => ?_) (fun aK1b => ?_)
    · replace aK1b : _ = false := aK1b
      have aK1 := aK1b
      try simp only [decide_eq_true_eq, decide_eq_false_iff_not, Bool.not_eq_true', Bool.not_eq_false', Int.not_lt, Int.not_le] at aK1
      first
        | refine OpE.val (W := NoB) (OpV.fieldAddr_atO 2 rfl Tryd.underlying44 rfl rfl Tryd.sizeOf3 rfl rfl) rfl ?_
        | refine OpE.val (W := NoB) (OpV.fieldAddrO 2 rfl Tryd.underlying44 rfl rfl Tryd.sizeOf3 rfl) rfl ?_
      refine VO.opY rfl rfl rfl rfl aK1b ?_
      refine OpE.val (W := NoB) (OpV.load_own (i := 0) rfl hB Tryd.isAgg3 rfl rfl rfl (fun h => h)) rfl ?_
      refine VO.opY rfl rfl rfl rfl aK1b ?_
      refine OpE.call rfl hB rfl Tryd.call45 rfl (SpecN.spec (rf_in)) ?_
      rintro _ rfl
      refine VO.opY rfl rfl rfl rfl aK1b ?_
      refine OpE.val (W := NoB) (OpV.not rfl rfl) rfl ?_
      refine VO.val rfl rfl (OpV.pickF rfl rfl rfl rfl aK1b) ?_
      refine VO.val rfl rfl (OpV.move (.inr rfl) rfl) ?_
      refine VO.nil ?_
      show VC _ _ _ _ _
      refine VC.cond rfl (fun aH2b => ?_) (fun aH2b => ?_)
      · have aH2 := aH2b
        try simp only [decide_eq_true_eq, decide_eq_false_iff_not, Bool.not_eq_true', Bool.not_eq_false', Int.not_lt, Int.not_le] at aH2
        refine VC.seq ?_
        refine VC.region ?_
        refine VO.val rfl rfl (OpV.move (.inr rfl) rfl) ?_
        refine VO.nil ?_
        show VC _ _ _ _ _
        refine VC.ret ?_
        exact Exists.intro _ (And.intro (RetN.one Tryd.results30 (ResN.v rfl)) (by first | rw [prodF_1 k0 (or2a (oin (by assumption)))] | rw [prodF_1 k0 (or2b (oin (by assumption)))]))
      · have aH2 := aH2b
        try simp only [decide_eq_true_eq, decide_eq_false_iff_not, Bool.not_eq_true', Bool.not_eq_false', Int.not_lt, Int.not_le] at aH2
        refine VC.seq ?_
        refine VC.region ?_
        first
          | refine VO.val rfl rfl (OpV.fieldAddr_atO 3 rfl Tryd.underlying44 rfl rfl Tryd.sizeOf42 rfl rfl) ?_
          | refine VO.val rfl rfl (OpV.fieldAddrO 3 rfl Tryd.underlying44 rfl rfl Tryd.sizeOf42 rfl) ?_
        refine VO.val rfl rfl (OpV.load_own (i := 0) rfl hB Tryd.isAgg42 rfl rfl rfl (fun h => h)) ?_
        first
          | refine VO.val rfl rfl (OpV.len_im rfl Tryd.underlying42 rfl) ?_
          | refine VO.val rfl rfl (OpV.len_v rfl Tryd.underlying42 rfl) ?_
          | refine VO.val rfl rfl (OpV.len_row (i := 0) rfl Tryd.underlying42 rfl rfl) ?_
        refine VO.val rfl rfl (OpV.gtr rfl rfl rfl) ?_
        refine VO.val rfl rfl (OpV.move (.inr rfl) rfl) ?_
        refine VO.nil ?_
        show VC _ _ _ _ _
        refine VC.cond rfl (fun aH3b => ?_) (fun aH3b => ?_)
        · have aH3 := aH3b
          try simp only [decide_eq_true_eq, decide_eq_false_iff_not, Bool.not_eq_true', Bool.not_eq_false', Int.not_lt, Int.not_le] at aH3
          refine VC.seq ?_
          refine VC.region ?_
          refine VO.val rfl rfl (OpV.move (.inr rfl) rfl) ?_
          refine VO.nil ?_
          show VC _ _ _ _ _
          refine VC.ret ?_
          exact Exists.intro _ (And.intro (RetN.one Tryd.results30 (ResN.v rfl)) (by rw [prodF_2 k0 (or2f (oin (by assumption)) (oin (by assumption))) (by omega)]))
        · have aH3 := aH3b
          try simp only [decide_eq_true_eq, decide_eq_false_iff_not, Bool.not_eq_true', Bool.not_eq_false', Int.not_lt, Int.not_le] at aH3
          refine VC.skip ?_
          show VC _ _ _ _ _
          refine VC.seq ?_
          refine VC.region ?_
          refine VO.val rfl rfl (OpV.move (.inr rfl) rfl) ?_
          refine VO.nil ?_
          show VC _ _ _ _ _
          refine VC.seq ?_
          refine VC.seq ?_
          refine VC.region ?_
          first
            | refine VO.val rfl rfl (OpV.fieldAddr_atO 3 rfl Tryd.underlying44 rfl rfl Tryd.sizeOf42 rfl rfl) ?_
            | refine VO.val rfl rfl (OpV.fieldAddrO 3 rfl Tryd.underlying44 rfl rfl Tryd.sizeOf42 rfl) ?_
          refine VO.val rfl rfl (OpV.load_own (i := 0) rfl hB Tryd.isAgg42 rfl rfl rfl (fun h => h)) ?_
          first
            | refine VO.val rfl rfl (OpV.len_im rfl Tryd.underlying42 rfl) ?_
            | refine VO.val rfl rfl (OpV.len_v rfl Tryd.underlying42 rfl) ?_
            | refine VO.val rfl rfl (OpV.len_row (i := 0) rfl Tryd.underlying42 rfl rfl) ?_
          refine VO.val rfl rfl (OpV.move (.inl rfl) rfl) ?_
          refine VO.nil ?_
          show VC _ _ _ _ _
          refine VC.block ?_
          refine VC.loopK [(1, _), (28, _), (29, _)] ⟨rfl, rfl, rfl, trivial⟩ ({q : Nat // q ≤ p.places.length ∧ ∀ j, j < q → placeE p j = 0}) (fun (i : {q : Nat // q ≤ p.places.length ∧ ∀ j, j < q → placeE p j = 0}) => match i with | ⟨q, hq, hn⟩ => [(3, avS (lastP p q)), (30, avI (q : Int))]) (fun (i : {q : Nat // q ≤ p.places.length ∧ ∀ j, j < q → placeE p j = 0}) => match i with | ⟨q, hq, hn⟩ => [boxProd g1 p 44]) (fun (i : {q : Nat // q ≤ p.places.length ∧ ∀ j, j < q → placeE p j = 0}) => match i with | ⟨q, hq, hn⟩ => 0) (fun (i : {q : Nat // q ≤ p.places.length ∧ ∀ j, j < q → placeE p j = 0}) => match i with | ⟨q, hq, hn⟩ => p.places.length - q) ⟨0, Nat.zero_le _, fun j hj => absurd hj (Nat.not_lt_zero j)⟩ (Le.mk hB [0] ⟨rfl, rfl, rfl, rfl, rfl, trivial⟩ rfl rfl (Nat.le_refl _)) ?_
          rintro ⟨q, hq, hn⟩
          show VC _ _ _ _ ⟨[(3, avS (lastP p q)), (30, avI (q : Int))] ++ [(1, _), (28, _), (29, _)], [boxProd g1 p 44], 0⟩
          refine VC.seq ?_
          refine VC.region ?_
          refine VO.val rfl rfl (OpV.lss rfl rfl rfl) ?_
          refine VO.nil ?_
          show VC _ _ _ _ _
          refine VC.seq ?_
          refine VC.cond rfl (fun aH4b => ?_) (fun aH4b => ?_)
          · have aH4 := aH4b
            try simp only [decide_eq_true_eq, decide_eq_false_iff_not, Bool.not_eq_true', Bool.not_eq_false', Int.not_lt, Int.not_le] at aH4
            refine VC.skip ?_
            show VC _ _ _ _ _
            refine VC.seq ?_
            refine VC.block ?_
            refine VC.seq ?_
            refine VC.region ?_
            first
              | refine VO.val rfl rfl (OpV.indexAddr_E rfl Tryd.underlying42 Tryd.sizeOf100 rfl rfl rfl (by omega)) ?_
              | refine VO.val rfl rfl (OpV.indexAddr_E rfl Tryd.underlying42 Tryd.sizeOf100 rfl rfl (Int.toNat_of_nonneg (by omega)).symm (by omega)) ?_
              | refine VO.val rfl rfl (OpV.indexAddr_q rfl Tryd.underlying42 Tryd.sizeOf100 rfl rfl rfl (by omega)) ?_
              | refine VO.val rfl rfl (OpV.indexAddr_q rfl Tryd.underlying42 Tryd.sizeOf100 rfl rfl (Int.toNat_of_nonneg (by omega)).symm (by omega)) ?_
              | refine VO.val rfl rfl (OpV.indexAddr_im rfl Tryd.underlying42 Tryd.sizeOf100 rfl rfl (by omega) (by omega)) ?_
            first
              | refine VO.val rfl rfl (OpV.loadK_at rfl hB OutW.no Tryd.isAgg100 Tryd.sizeOf100 rfl rfl) ?_
              | refine VO.val rfl rfl (OpV.loadK_own (i := 0) rfl hB Tryd.isAgg100 Tryd.sizeOf100 rfl rfl rfl (fun h => h)) ?_
            refine VO.op rfl (OpE.alloc rfl hB rfl Tryd.zeroValue100 rfl ?_)
            intro g5
            refine VO.op rfl (OpE.store (i := 1) rfl hB rfl Tryd.sizeOf100 rfl rfl rfl rfl rfl rfl (Nat.le_of_ble_eq_true rfl) trivial ?_)
            refine VO.nil ?_
            show VC _ _ _ _ _
            refine VC.seq ?_
            refine VC.block ?_
            refine VC.seq ?_
            refine VC.region ?_
            first
              | refine VO.val rfl rfl (OpV.fieldAddr_atO 0 rfl Tryd.underlying100 rfl rfl Tryd.sizeOf9 rfl rfl) ?_
              | refine VO.val rfl rfl (OpV.fieldAddrO 0 rfl Tryd.underlying100 rfl rfl Tryd.sizeOf9 rfl) ?_
            refine VO.val rfl rfl (OpV.load_own (i := 1) rfl hB Tryd.isAgg9 rfl rfl rfl (fun h => h)) ?_
            refine VO.op rfl (OpE.call rfl hB rfl Tryd.call62 rfl (SpecN.spec (rf_Key (by have := hs.name q; omega))) ?_)
            rintro _ rfl
            refine VO.val rfl rfl (OpV.not rfl rfl) ?_
            refine VO.val rfl rfl (OpV.move (.inl rfl) rfl) ?_
            refine VO.opG rfl rfl rfl rfl (fun aK5b => ?_) (fun aK5b => ?_)
            · replace aK5b : _ = false := aK5b
              have aK5 := aK5b
              try simp only [decide_eq_true_eq, decide_eq_false_iff_not, Bool.not_eq_true', Bool.not_eq_false', Int.not_lt, Int.not_le] at aK5
              first
                | refine OpE.val (W := NoB) (OpV.fieldAddr_atO 1 rfl Tryd.underlying100 rfl rfl Tryd.sizeOf9 rfl rfl) rfl ?_
                | refine OpE.val (W := NoB) (OpV.fieldAddrO 1 rfl Tryd.underlying100 rfl rfl Tryd.sizeOf9 rfl) rfl ?_
              refine VO.opY rfl rfl rfl rfl aK5b ?_
              refine OpE.val (W := NoB) (OpV.load_own (i := 1) rfl hB Tryd.isAgg9 rfl rfl rfl (fun h => h)) rfl ?_
              refine VO.opY rfl rfl rfl rfl aK5b ?_
              refine OpE.call rfl hB rfl Tryd.call62 rfl (SpecN.spec (rf_Key (by have := hs.part q; omega))) ?_
              rintro _ rfl
              refine VO.opY rfl rfl rfl rfl aK5b ?_
              refine OpE.val (W := NoB) (OpV.not rfl rfl) rfl ?_
              refine VO.val rfl rfl (OpV.pickF rfl rfl rfl rfl aK5b) ?_
              refine VO.val rfl rfl (OpV.move (.inr rfl) rfl) ?_
              refine VO.nil ?_
              show VC _ _ _ _ _
              refine VC.cond rfl (fun aH6b => ?_) (fun aH6b => ?_)
              · have aH6 := aH6b
                try simp only [decide_eq_true_eq, decide_eq_false_iff_not, Bool.not_eq_true', Bool.not_eq_false', Int.not_lt, Int.not_le] at aH6
                refine VC.seq ?_
                refine VC.region ?_
                refine VO.val rfl rfl (OpV.move (.inr rfl) rfl) ?_
                refine VO.nil ?_
                show VC _ _ _ _ _
                refine VC.ret ?_
                exact Exists.intro _ (And.intro (RetN.one Tryd.results30 (ResN.v rfl)) (by first | rw [prodF_at k0 (or2f (oin (by assumption)) (oin (by assumption))) (by omega) (by omega) hn (placeE_5a (by assumption)) (by decide)] | rw [prodF_at k0 (or2f (oin (by assumption)) (oin (by assumption))) (by omega) (by omega) hn (placeE_5b (by assumption)) (by decide)]))
              · have aH6 := aH6b
                try simp only [decide_eq_true_eq, decide_eq_false_iff_not, Bool.not_eq_true', Bool.not_eq_false', Int.not_lt, Int.not_le] at aH6
                refine VC.seq ?_
                refine VC.region ?_
                first
                  | refine VO.val rfl rfl (OpV.fieldAddr_atO 0 rfl Tryd.underlying100 rfl rfl Tryd.sizeOf9 rfl rfl) ?_
                  | refine VO.val rfl rfl (OpV.fieldAddrO 0 rfl Tryd.underlying100 rfl rfl Tryd.sizeOf9 rfl) ?_
                refine VO.val rfl rfl (OpV.load_own (i := 1) rfl hB Tryd.isAgg9 rfl rfl rfl (fun h => h)) ?_
                refine VO.val rfl rfl (OpV.move (.inl rfl) rfl) ?_
                refine VO.val rfl rfl (OpV.sleq rfl rfl rfl) ?_
                refine VO.val rfl rfl (OpV.move (.inr rfl) rfl) ?_
                refine VO.nil ?_
                show VC _ _ _ _ _
                refine VC.cond rfl (fun aH7b => ?_) (fun aH7b => ?_)
                · have aH7 := aH7b
                  try simp only [decide_eq_true_eq, decide_eq_false_iff_not, Bool.not_eq_true', Bool.not_eq_false', Int.not_lt, Int.not_le] at aH7
                  refine VC.seq ?_
                  refine VC.region ?_
                  refine VO.val rfl rfl (OpV.move (.inr rfl) rfl) ?_
                  refine VO.nil ?_
                  show VC _ _ _ _ _
                  refine VC.ret ?_
                  exact Exists.intro _ (And.intro (RetN.one Tryd.results30 (ResN.v rfl)) (by rw [prodF_at k0 (or2f (oin (by assumption)) (oin (by assumption))) (by omega) (by omega) hn (placeE_7' (by assumption) (by assumption) (by assumption)) (by decide)]))
                · have aH7 := aH7b
                  try simp only [decide_eq_true_eq, decide_eq_false_iff_not, Bool.not_eq_true', Bool.not_eq_false', Int.not_lt, Int.not_le] at aH7
                  refine VC.seq ?_
                  refine VC.region ?_
                  first
                    | refine VO.val rfl rfl (OpV.fieldAddr_atO 2 rfl Tryd.underlying100 rfl rfl Tryd.sizeOf3 rfl rfl) ?_
                    | refine VO.val rfl rfl (OpV.fieldAddrO 2 rfl Tryd.underlying100 rfl rfl Tryd.sizeOf3 rfl) ?_
                  refine VO.val rfl rfl (OpV.load_own (i := 1) rfl hB Tryd.isAgg3 rfl rfl rfl (fun h => h)) ?_
                  first
                    | refine VO.val rfl rfl (OpV.fieldAddr_atO 1 rfl Tryd.underlying44 rfl rfl Tryd.sizeOf3 rfl rfl) ?_
                    | refine VO.val rfl rfl (OpV.fieldAddrO 1 rfl Tryd.underlying44 rfl rfl Tryd.sizeOf3 rfl) ?_
                  first
                    | refine VO.val rfl rfl (OpV.load_at rfl hB OutW.no Tryd.isAgg3 rfl rfl) ?_
                    | refine VO.val rfl rfl (OpV.load_own (i := 0) rfl hB Tryd.isAgg3 rfl rfl rfl (fun h => h)) ?_
                    | refine VO.val rfl rfl (OpV.load_own (i := 1) rfl hB Tryd.isAgg3 rfl rfl rfl (fun h => h)) ?_
                  refine VO.op rfl (OpE.call rfl hB rfl Tryd.call45 rfl (SpecN.spec (rf_in)) ?_)
                  rintro _ rfl
                  refine VO.val rfl rfl (OpV.not rfl rfl) ?_
                  refine VO.val rfl rfl (OpV.move (.inl rfl) rfl) ?_
                  refine VO.opG rfl rfl rfl rfl (fun aK8b => ?_) (fun aK8b => ?_)
                  · replace aK8b : _ = false := aK8b
                    have aK8 := aK8b
                    try simp only [decide_eq_true_eq, decide_eq_false_iff_not, Bool.not_eq_true', Bool.not_eq_false', Int.not_lt, Int.not_le] at aK8
                    first
                      | refine OpE.val (W := NoB) (OpV.fieldAddr_atO 3 rfl Tryd.underlying100 rfl rfl Tryd.sizeOf3 rfl rfl) rfl ?_
                      | refine OpE.val (W := NoB) (OpV.fieldAddrO 3 rfl Tryd.underlying100 rfl rfl Tryd.sizeOf3 rfl) rfl ?_
                    refine VO.opY rfl rfl rfl rfl aK8b ?_
                    refine OpE.val (W := NoB) (OpV.load_own (i := 1) rfl hB Tryd.isAgg3 rfl rfl rfl (fun h => h)) rfl ?_
                    refine VO.opY rfl rfl rfl rfl aK8b ?_
                    first
                      | refine OpE.val (W := NoB) (OpV.fieldAddr_atO 2 rfl Tryd.underlying44 rfl rfl Tryd.sizeOf3 rfl rfl) rfl ?_
                      | refine OpE.val (W := NoB) (OpV.fieldAddrO 2 rfl Tryd.underlying44 rfl rfl Tryd.sizeOf3 rfl) rfl ?_
                    refine VO.opY rfl rfl rfl rfl aK8b ?_
                    first
                      | refine OpE.val (W := NoB) (OpV.load_at rfl hB OutW.no Tryd.isAgg3 rfl rfl) rfl ?_
                      | refine OpE.val (W := NoB) (OpV.load_own (i := 0) rfl hB Tryd.isAgg3 rfl rfl rfl (fun h => h)) rfl ?_
                      | refine OpE.val (W := NoB) (OpV.load_own (i := 1) rfl hB Tryd.isAgg3 rfl rfl rfl (fun h => h)) rfl ?_
                    refine VO.opY rfl rfl rfl rfl aK8b ?_
                    refine OpE.call rfl hB rfl Tryd.call45 rfl (SpecN.spec (rf_in)) ?_
                    rintro _ rfl
                    refine VO.opY rfl rfl rfl rfl aK8b ?_
                    refine OpE.val (W := NoB) (OpV.not rfl rfl) rfl ?_
                    refine VO.val rfl rfl (OpV.pickF rfl rfl rfl rfl aK8b) ?_
                    refine VO.val rfl rfl (OpV.move (.inl rfl) rfl) ?_
                    refine VO.opG rfl rfl rfl rfl (fun aK9b => ?_) (fun aK9b => ?_)
                    · replace aK9b : _ = false := aK9b
                      have aK9 := aK9b
                      try simp only [decide_eq_true_eq, decide_eq_false_iff_not, Bool.not_eq_true', Bool.not_eq_false', Int.not_lt, Int.not_le] at aK9
                      first
                        | refine OpE.val (W := NoB) (OpV.fieldAddr_atO 4 rfl Tryd.underlying100 rfl rfl Tryd.sizeOf3 rfl rfl) rfl ?_
                        | refine OpE.val (W := NoB) (OpV.fieldAddrO 4 rfl Tryd.underlying100 rfl rfl Tryd.sizeOf3 rfl) rfl ?_
                      refine VO.opY rfl rfl rfl rfl aK9b ?_
                      refine OpE.val (W := NoB) (OpV.load_own (i := 1) rfl hB Tryd.isAgg3 rfl rfl rfl (fun h => h)) rfl ?_
                      refine VO.opY rfl rfl rfl rfl aK9b ?_
                      refine OpE.call rfl hB rfl Tryd.call45 rfl (SpecN.spec (rf_in)) ?_
                      rintro _ rfl
                      refine VO.opY rfl rfl rfl rfl aK9b ?_
                      refine OpE.val (W := NoB) (OpV.not rfl rfl) rfl ?_
                      refine VO.val rfl rfl (OpV.pickF rfl rfl rfl rfl aK9b) ?_
                      refine VO.val rfl rfl (OpV.move (.inr rfl) rfl) ?_
                      refine VO.nil ?_
                      show VC _ _ _ _ _
                      refine VC.cond rfl (fun aH10b => ?_) (fun aH10b => ?_)
                      · have aH10 := aH10b
                        try simp only [decide_eq_true_eq, decide_eq_false_iff_not, Bool.not_eq_true', Bool.not_eq_false', Int.not_lt, Int.not_le] at aH10
                        refine VC.seq ?_
                        refine VC.region ?_
                        refine VO.val rfl rfl (OpV.move (.inr rfl) rfl) ?_
                        refine VO.nil ?_
                        show VC _ _ _ _ _
                        refine VC.ret ?_
                        exact Exists.intro _ (And.intro (RetN.one Tryd.results30 (ResN.v rfl)) (by first | rw [prodF_at k0 (or2f (oin (by assumption)) (oin (by assumption))) (by omega) (by omega) hn (placeE_1 (by assumption) (by assumption) (lastP_ne (by assumption)) (or3a (oin (by assumption)))) (by decide)] | rw [prodF_at k0 (or2f (oin (by assumption)) (oin (by assumption))) (by omega) (by omega) hn (placeE_1 (by assumption) (by assumption) (lastP_ne (by assumption)) (or3b (oin (by assumption)))) (by decide)] | rw [prodF_at k0 (or2f (oin (by assumption)) (oin (by assumption))) (by omega) (by omega) hn (placeE_1 (by assumption) (by assumption) (lastP_ne (by assumption)) (or3c (oin (by assumption)))) (by decide)]))
                      · have aH10 := aH10b
                        try simp only [decide_eq_true_eq, decide_eq_false_iff_not, Bool.not_eq_true', Bool.not_eq_false', Int.not_lt, Int.not_le] at aH10
                        refine VC.skip ?_
                        show VC _ _ _ _ _
                        refine VC.region ?_
                        first
                          | refine VO.val rfl rfl (OpV.fieldAddr_atO 0 rfl Tryd.underlying100 rfl rfl Tryd.sizeOf9 rfl rfl) ?_
                          | refine VO.val rfl rfl (OpV.fieldAddrO 0 rfl Tryd.underlying100 rfl rfl Tryd.sizeOf9 rfl) ?_
                        refine VO.val rfl rfl (OpV.load_own (i := 1) rfl hB Tryd.isAgg9 rfl rfl rfl (fun h => h)) ?_
                        refine VO.val rfl rfl (OpV.move (.inr rfl) rfl) ?_
                        refine VO.nil ?_
                        show VC _ _ _ _ _
                        refine VC.region ?_
                        refine VO.val rfl rfl (OpV.add rfl rfl rfl (by unfold fits; omega)) ?_
                        refine VO.val rfl rfl (OpV.move (.inl rfl) rfl) ?_
                        refine VO.nil ?_
                        exact Exists.intro (⟨q + 1, by omega, lt_succ_cases hn (placeE_0 (by assumption) (by assumption) (lastP_ne (by assumption)) (or3f (oin (by assumption)) (oin (by assumption)) (oin (by assumption))))⟩) (And.intro (Le.mk hB [0] ⟨(by rw [lastP_succ]; rfl), rfl, rfl, rfl, rfl, trivial⟩ rfl rfl (Nat.le_refl _)) (by first | omega | (show _ < _; omega) | (simp only []; omega)))
                    · replace aK9b : _ = true := aK9b
                      have aK9 := aK9b
                      try simp only [decide_eq_true_eq, decide_eq_false_iff_not, Bool.not_eq_true', Bool.not_eq_false', Int.not_lt, Int.not_le] at aK9
                      refine VO.opX rfl rfl rfl rfl aK9b ?_
                      refine VO.opX rfl rfl rfl rfl aK9b ?_
                      refine VO.opX rfl rfl rfl rfl aK9b ?_
                      refine VO.val rfl rfl (OpV.pickT rfl rfl rfl rfl aK9b) ?_
                      refine VO.val rfl rfl (OpV.move (.inr rfl) rfl) ?_
                      refine VO.nil ?_
                      show VC _ _ _ _ _
                      refine VC.condT rfl rfl ?_
                      refine VC.seq ?_
                      refine VC.region ?_
                      refine VO.val rfl rfl (OpV.move (.inr rfl) rfl) ?_
                      refine VO.nil ?_
                      show VC _ _ _ _ _
                      refine VC.ret ?_
                      exact Exists.intro _ (And.intro (RetN.one Tryd.results30 (ResN.v rfl)) (by first | rw [prodF_at k0 (or2f (oin (by assumption)) (oin (by assumption))) (by omega) (by omega) hn (placeE_1 (by assumption) (by assumption) (lastP_ne (by assumption)) (or3a (oin (by assumption)))) (by decide)] | rw [prodF_at k0 (or2f (oin (by assumption)) (oin (by assumption))) (by omega) (by omega) hn (placeE_1 (by assumption) (by assumption) (lastP_ne (by assumption)) (or3b (oin (by assumption)))) (by decide)] | rw [prodF_at k0 (or2f (oin (by assumption)) (oin (by assumption))) (by omega) (by omega) hn (placeE_1 (by assumption) (by assumption) (lastP_ne (by assumption)) (or3c (oin (by assumption)))) (by decide)]))
                  · replace aK8b : _ = true := aK8b
                    have aK8 := aK8b
                    try simp only [decide_eq_true_eq, decide_eq_false_iff_not, Bool.not_eq_true', Bool.not_eq_false', Int.not_lt, Int.not_le] at aK8
                    refine VO.opX rfl rfl rfl rfl aK8b ?_
                    refine VO.opX rfl rfl rfl rfl aK8b ?_
                    refine VO.opX rfl rfl rfl rfl aK8b ?_
                    refine VO.opX rfl rfl rfl rfl aK8b ?_
                    refine VO.opX rfl rfl rfl rfl aK8b ?_
                    refine VO.val rfl rfl (OpV.pickT rfl rfl rfl rfl aK8b) ?_
                    refine VO.val rfl rfl (OpV.move (.inl rfl) rfl) ?_
                    refine VO.opX rfl rfl rfl rfl rfl ?_
                    refine VO.opX rfl rfl rfl rfl rfl ?_
                    refine VO.opX rfl rfl rfl rfl rfl ?_
                    refine VO.opX rfl rfl rfl rfl rfl ?_
                    refine VO.val rfl rfl (OpV.pickT rfl rfl rfl rfl rfl) ?_
                    refine VO.val rfl rfl (OpV.move (.inr rfl) rfl) ?_
                    refine VO.nil ?_
                    show VC _ _ _ _ _
                    refine VC.condT rfl rfl ?_
                    refine VC.seq ?_
                    refine VC.region ?_
                    refine VO.val rfl rfl (OpV.move (.inr rfl) rfl) ?_
                    refine VO.nil ?_
                    show VC _ _ _ _ _
                    refine VC.ret ?_
                    exact Exists.intro _ (And.intro (RetN.one Tryd.results30 (ResN.v rfl)) (by first | rw [prodF_at k0 (or2f (oin (by assumption)) (oin (by assumption))) (by omega) (by omega) hn (placeE_1 (by assumption) (by assumption) (lastP_ne (by assumption)) (or3a (oin (by assumption)))) (by decide)] | rw [prodF_at k0 (or2f (oin (by assumption)) (oin (by assumption))) (by omega) (by omega) hn (placeE_1 (by assumption) (by assumption) (lastP_ne (by assumption)) (or3b (oin (by assumption)))) (by decide)] | rw [prodF_at k0 (or2f (oin (by assumption)) (oin (by assumption))) (by omega) (by omega) hn (placeE_1 (by assumption) (by assumption) (lastP_ne (by assumption)) (or3c (oin (by assumption)))) (by decide)]))
            · replace aK5b : _ = true := aK5b
              have aK5 := aK5b
              try simp only [decide_eq_true_eq, decide_eq_false_iff_not, Bool.not_eq_true', Bool.not_eq_false', Int.not_lt, Int.not_le] at aK5
              refine VO.opX rfl rfl rfl rfl aK5b ?_
              refine VO.opX rfl rfl rfl rfl aK5b ?_
              refine VO.opX rfl rfl rfl rfl aK5b ?_
              refine VO.val rfl rfl (OpV.pickT rfl rfl rfl rfl aK5b) ?_
              refine VO.val rfl rfl (OpV.move (.inr rfl) rfl) ?_
              refine VO.nil ?_
              show VC _ _ _ _ _
              refine VC.condT rfl rfl ?_
              refine VC.seq ?_
              refine VC.region ?_
              refine VO.val rfl rfl (OpV.move (.inr rfl) rfl) ?_
              refine VO.nil ?_
              show VC _ _ _ _ _
              refine VC.ret ?_
              exact Exists.intro _ (And.intro (RetN.one Tryd.results30 (ResN.v rfl)) (by first | rw [prodF_at k0 (or2f (oin (by assumption)) (oin (by assumption))) (by omega) (by omega) hn (placeE_5a (by assumption)) (by decide)] | rw [prodF_at k0 (or2f (oin (by assumption)) (oin (by assumption))) (by omega) (by omega) hn (placeE_5b (by assumption)) (by decide)]))
          · have aH4 := aH4b
            try simp only [decide_eq_true_eq, decide_eq_false_iff_not, Bool.not_eq_true', Bool.not_eq_false', Int.not_lt, Int.not_le] at aH4
            refine VC.exit ?_
            show VC _ _ _ _ _
            refine VC.seq ?_
            refine VC.region ?_
            refine VO.val rfl rfl (OpV.move (.inr rfl) rfl) ?_
            refine VO.nil ?_
            show VC _ _ _ _ _
            refine VC.ret ?_
            exact Exists.intro _ (And.intro (RetN.one Tryd.results30 (ResN.v rfl)) (by rw [prodF_ok k0 (or2f (oin (by assumption)) (oin (by assumption))) (by omega) (fun j hj => hn j (by omega))]))
    · replace aK1b : _ = true := aK1b
      have aK1 := aK1b
      try simp only [decide_eq_true_eq, decide_eq_false_iff_not, Bool.not_eq_true', Bool.not_eq_false', Int.not_lt, Int.not_le] at aK1
      refine VO.opX rfl rfl rfl rfl aK1b ?_
      refine VO.opX rfl rfl rfl rfl aK1b ?_
      refine VO.opX rfl rfl rfl rfl aK1b ?_
      refine VO.val rfl rfl (OpV.pickT rfl rfl rfl rfl aK1b) ?_
      refine VO.val rfl rfl (OpV.move (.inr rfl) rfl) ?_
      refine VO.nil ?_
      show VC _ _ _ _ _
      refine VC.condT rfl rfl ?_
      refine VC.seq ?_
      refine VC.region ?_
      refine VO.val rfl rfl (OpV.move (.inr rfl) rfl) ?_
      refine VO.nil ?_
      show VC _ _ _ _ _
      refine VC.ret ?_
      exact Exists.intro _ (And.intro (RetN.one Tryd.results30 (ResN.v rfl)) (by first | rw [prodF_1 k0 (or2a (oin (by assumption)))] | rw [prodF_1 k0 (or2b (oin (by assumption)))]))
set_option maxRecDepth 100000 in
theorem panel_bodiesFault {l : List BodyS} (hs : SmB l) :
    SpecN Tryd.prog 75 [avL l] (fun y => y = avI (bodiesF l)) := by
  refine SpecN.of_VCN Tryd.func75 rfl Tryd.ntmps75 (Nat.le_of_ble_eq_true rfl) fun w A hB => ?_
  have hnew : True := trivial
  refine VC.seq ?_
  have hl := hs.len
  refine VC.region ?_
  refine VO.val rfl rfl (OpV.move (.inr rfl) rfl) ?_
  refine VO.nil ?_
  show VC _ _ _ _ _
  refine VC.seq ?_
  refine VC.seq ?_
  refine VC.region ?_
  refine VO.val rfl rfl (OpV.move (.inl rfl) rfl) ?_
  first
    | refine VO.val rfl rfl (OpV.len_im rfl Tryd.underlying64 rfl) ?_
    | refine VO.val rfl rfl (OpV.len_v rfl Tryd.underlying64 rfl) ?_
  refine VO.val rfl rfl (OpV.gtr rfl rfl rfl) ?_
  refine VO.nil ?_
  show VC _ _ _ _ _
  refine VC.cond rfl (fun aH1b => ?_) (fun aH1b => ?_)
  · have aH1 := aH1b
    try simp only [decide_eq_true_eq, decide_eq_false_iff_not, Bool.not_eq_true', Bool.not_eq_false', Int.not_lt, Int.not_le] at aH1
    refine VC.seq ?_
    refine VC.region ?_
    refine VO.val rfl rfl (OpV.move (.inr rfl) rfl) ?_
    refine VO.nil ?_
    show VC _ _ _ _ _
    refine VC.ret ?_
    exact Exists.intro _ (And.intro (RetN.one Tryd.results75 (ResN.v rfl)) (by rw [bodiesF_2 (by omega)]))
  · have aH1 := aH1b
    try simp only [decide_eq_true_eq, decide_eq_false_iff_not, Bool.not_eq_true', Bool.not_eq_false', Int.not_lt, Int.not_le] at aH1
    refine VC.skip ?_
    show VC _ _ _ _ _
    refine VC.seq ?_
    refine VC.seq ?_
    refine VC.region ?_
    refine VO.val rfl rfl (OpV.move (.inl rfl) rfl) ?_
    first
      | refine VO.val rfl rfl (OpV.len_im rfl Tryd.underlying64 rfl) ?_
      | refine VO.val rfl rfl (OpV.len_v rfl Tryd.underlying64 rfl) ?_
    refine VO.val rfl rfl (OpV.move (.inl rfl) rfl) ?_
    refine VO.nil ?_
    show VC _ _ _ _ _
    refine VC.block ?_
    refine VC.loopK [(0, _), (8, _), (9, _)] ⟨rfl, rfl, rfl, trivial⟩ ({q : Nat // q ≤ l.length ∧ ∀ j, j < q → bodyE l j = 0}) (fun (i : {q : Nat // q ≤ l.length ∧ ∀ j, j < q → bodyE l j = 0}) => match i with | ⟨q, hq, hn⟩ => [(10, avI (q : Int))]) (fun (i : {q : Nat // q ≤ l.length ∧ ∀ j, j < q → bodyE l j = 0}) => match i with | ⟨q, hq, hn⟩ => []) (fun (i : {q : Nat // q ≤ l.length ∧ ∀ j, j < q → bodyE l j = 0}) => match i with | ⟨q, hq, hn⟩ => 0) (fun (i : {q : Nat // q ≤ l.length ∧ ∀ j, j < q → bodyE l j = 0}) => match i with | ⟨q, hq, hn⟩ => l.length - q) ⟨0, Nat.zero_le _, fun j hj => absurd hj (Nat.not_lt_zero j)⟩ (Le.mk hB [] ⟨rfl, rfl, rfl, rfl, trivial⟩ rfl rfl (Nat.le_refl _)) ?_
    rintro ⟨q, hq, hn⟩
    show VC _ _ _ _ ⟨[(10, avI (q : Int))] ++ [(0, _), (8, _), (9, _)], [], 0⟩
    refine VC.seq ?_
    refine VC.region ?_
    refine VO.val rfl rfl (OpV.lss rfl rfl rfl) ?_
    refine VO.nil ?_
    show VC _ _ _ _ _
    refine VC.seq ?_
    refine VC.cond rfl (fun aH2b => ?_) (fun aH2b => ?_)
    · have aH2 := aH2b
      try simp only [decide_eq_true_eq, decide_eq_false_iff_not, Bool.not_eq_true', Bool.not_eq_false', Int.not_lt, Int.not_le] at aH2
      refine VC.skip ?_
      show VC _ _ _ _ _
      refine VC.seq ?_
      refine VC.block ?_
      refine VC.seq ?_
      refine VC.region ?_
      refine VO.val rfl rfl (OpV.move (.inl rfl) rfl) ?_
      first
        | refine VO.val rfl rfl (OpV.indexAddr_E rfl Tryd.underlying64 Tryd.sizeOf117 rfl rfl rfl (by omega)) ?_
        | refine VO.val rfl rfl (OpV.indexAddr_E rfl Tryd.underlying64 Tryd.sizeOf117 rfl rfl (Int.toNat_of_nonneg (by omega)).symm (by omega)) ?_
        | refine VO.val rfl rfl (OpV.indexAddr_q rfl Tryd.underlying64 Tryd.sizeOf117 rfl rfl rfl (by omega)) ?_
        | refine VO.val rfl rfl (OpV.indexAddr_q rfl Tryd.underlying64 Tryd.sizeOf117 rfl rfl (Int.toNat_of_nonneg (by omega)).symm (by omega)) ?_
        | refine VO.val rfl rfl (OpV.indexAddr_im rfl Tryd.underlying64 Tryd.sizeOf117 rfl rfl (by omega) (by omega)) ?_
      refine VO.val rfl rfl (OpV.loadK_at rfl hB OutW.no Tryd.isAgg117 Tryd.sizeOf117 rfl rfl) ?_
      refine VO.op rfl (OpE.alloc rfl hB rfl Tryd.zeroValue117 rfl ?_)
      intro g4
      refine VO.val rfl rfl (OpV.move (.inr rfl) rfl) ?_
      refine VO.op rfl (OpE.store (i := 0) rfl hB rfl Tryd.sizeOf117 rfl rfl rfl rfl rfl rfl (Nat.le_of_ble_eq_true rfl) trivial ?_)
      refine VO.nil ?_
      show VC _ _ _ _ _
      refine VC.block ?_
      refine VC.seq ?_
      refine VC.region ?_
      first
        | refine VO.val rfl rfl (OpV.fieldAddr_atO 0 rfl Tryd.underlying117 rfl rfl Tryd.sizeOf9 rfl rfl) ?_
        | refine VO.val rfl rfl (OpV.fieldAddrO 0 rfl Tryd.underlying117 rfl rfl Tryd.sizeOf9 rfl) ?_
      refine VO.val rfl rfl (OpV.load_own (i := 0) rfl hB Tryd.isAgg9 rfl rfl rfl (fun h => h)) ?_
      refine VO.op rfl (OpE.call rfl hB rfl Tryd.call79 rfl (SpecN.spec (kit_IsKey (by have := hs.part q; omega))) ?_)
      rintro _ rfl
      refine VO.val rfl rfl (OpV.not rfl rfl) ?_
      refine VO.val rfl rfl (OpV.move (.inr rfl) rfl) ?_
      refine VO.nil ?_
      show VC _ _ _ _ _
      refine VC.cond rfl (fun aH3b => ?_) (fun aH3b => ?_)
      · have aH3 := aH3b
        try simp only [decide_eq_true_eq, decide_eq_false_iff_not, Bool.not_eq_true', Bool.not_eq_false', Int.not_lt, Int.not_le] at aH3
        refine VC.seq ?_
        refine VC.region ?_
        refine VO.val rfl rfl (OpV.move (.inr rfl) rfl) ?_
        refine VO.nil ?_
        show VC _ _ _ _ _
        refine VC.ret ?_
        exact Exists.intro _ (And.intro (RetN.one Tryd.results75 (ResN.v rfl)) (by rw [bodiesF_at (by omega) (by omega) hn (bodyE_5 (by assumption)) (by decide)]))
      · have aH3 := aH3b
        try simp only [decide_eq_true_eq, decide_eq_false_iff_not, Bool.not_eq_true', Bool.not_eq_false', Int.not_lt, Int.not_le] at aH3
        refine VC.seq ?_
        refine VC.region ?_
        first
          | refine VO.val rfl rfl (OpV.fieldAddr_atO 1 rfl Tryd.underlying117 rfl rfl Tryd.sizeOf3 rfl rfl) ?_
          | refine VO.val rfl rfl (OpV.fieldAddrO 1 rfl Tryd.underlying117 rfl rfl Tryd.sizeOf3 rfl) ?_
        refine VO.val rfl rfl (OpV.load_own (i := 0) rfl hB Tryd.isAgg3 rfl rfl rfl (fun h => h)) ?_
        refine VO.op rfl (OpE.call rfl hB rfl Tryd.call72 rfl (SpecN.spec (panel_isSize)) ?_)
        rintro _ rfl
        refine VO.val rfl rfl (OpV.not rfl rfl) ?_
        refine VO.val rfl rfl (OpV.move (.inl rfl) rfl) ?_
        refine VO.opG rfl rfl rfl rfl (fun aK4b => ?_) (fun aK4b => ?_)
        · replace aK4b : _ = false := aK4b
          have aK4 := aK4b
          try simp only [decide_eq_true_eq, decide_eq_false_iff_not, Bool.not_eq_true', Bool.not_eq_false', Int.not_lt, Int.not_le] at aK4
          first
            | refine OpE.val (W := NoB) (OpV.fieldAddr_atO 2 rfl Tryd.underlying117 rfl rfl Tryd.sizeOf3 rfl rfl) rfl ?_
            | refine OpE.val (W := NoB) (OpV.fieldAddrO 2 rfl Tryd.underlying117 rfl rfl Tryd.sizeOf3 rfl) rfl ?_
          refine VO.opY rfl rfl rfl rfl aK4b ?_
          refine OpE.val (W := NoB) (OpV.load_own (i := 0) rfl hB Tryd.isAgg3 rfl rfl rfl (fun h => h)) rfl ?_
          refine VO.opY rfl rfl rfl rfl aK4b ?_
          refine OpE.call rfl hB rfl Tryd.call72 rfl (SpecN.spec (panel_isSize)) ?_
          rintro _ rfl
          refine VO.opY rfl rfl rfl rfl aK4b ?_
          refine OpE.val (W := NoB) (OpV.not rfl rfl) rfl ?_
          refine VO.val rfl rfl (OpV.pickF rfl rfl rfl rfl aK4b) ?_
          refine VO.val rfl rfl (OpV.move (.inr rfl) rfl) ?_
          refine VO.nil ?_
          show VC _ _ _ _ _
          refine VC.cond rfl (fun aH5b => ?_) (fun aH5b => ?_)
          · have aH5 := aH5b
            try simp only [decide_eq_true_eq, decide_eq_false_iff_not, Bool.not_eq_true', Bool.not_eq_false', Int.not_lt, Int.not_le] at aH5
            refine VC.seq ?_
            refine VC.region ?_
            refine VO.val rfl rfl (OpV.move (.inr rfl) rfl) ?_
            refine VO.nil ?_
            show VC _ _ _ _ _
            refine VC.ret ?_
            exact Exists.intro _ (And.intro (RetN.one Tryd.results75 (ResN.v rfl)) (by first | rw [bodiesF_at (by omega) (by omega) hn (bodyE_1 (by assumption) (or2a (by assumption))) (by decide)] | rw [bodiesF_at (by omega) (by omega) hn (bodyE_1 (by assumption) (or2b (by assumption))) (by decide)]))
          · have aH5 := aH5b
            try simp only [decide_eq_true_eq, decide_eq_false_iff_not, Bool.not_eq_true', Bool.not_eq_false', Int.not_lt, Int.not_le] at aH5
            refine VC.seq ?_
            refine VC.draw (fun _ => NoB) hB (by kernel_rfl) ?_
            refine VA.take (i := 0) rfl (by kernel_rfl) (by kernel_rfl) (by kernel_rfl) rfl rfl (OpV.move (.inl rfl) rfl) ?_
            refine VA.take (i := 1) rfl (by kernel_rfl) (by kernel_rfl) (by kernel_rfl) rfl rfl (OpV.gtr rfl rfl rfl) ?_
            refine VA.take (i := 2) rfl (by kernel_rfl) (by kernel_rfl) (by kernel_rfl) rfl rfl (OpV.move (.inl rfl) rfl) ?_
            refine VA.split (t := 34) rfl (fun aK6b => ?_) (fun aK6b => ?_)
            · have aK6 := aK6b
              try simp only [decide_eq_true_eq, decide_eq_false_iff_not, Bool.not_eq_true', Bool.not_eq_false', Int.not_lt, Int.not_le] at aK6
              first
                | refine VA.takeY (i := 3) rfl (by kernel_rfl) (by kernel_rfl) (by kernel_rfl) rfl rfl rfl rfl aK6b (OpV.fieldAddr_atO 0 rfl Tryd.underlying117 rfl rfl Tryd.sizeOf9 rfl rfl) ?_
                | refine VA.takeY (i := 3) rfl (by kernel_rfl) (by kernel_rfl) (by kernel_rfl) rfl rfl rfl rfl aK6b (OpV.fieldAddrO 0 rfl Tryd.underlying117 rfl rfl Tryd.sizeOf9 rfl) ?_
              refine VA.takeY (i := 4) rfl (by kernel_rfl) (by kernel_rfl) (by kernel_rfl) rfl rfl rfl rfl aK6b (OpV.load_own (i := 0) rfl hB Tryd.isAgg9 rfl rfl rfl Wi.not0) ?_
              refine VA.takeY (i := 5) rfl (by kernel_rfl) (by kernel_rfl) (by kernel_rfl) rfl rfl rfl rfl aK6b (OpV.move (.inl rfl) rfl) ?_
              refine VA.takeY (i := 6) rfl (by kernel_rfl) (by kernel_rfl) (by kernel_rfl) rfl rfl rfl rfl aK6b (OpV.move (.inl rfl) rfl) ?_
              refine VA.takeY (i := 7) rfl (by kernel_rfl) (by kernel_rfl) (by kernel_rfl) rfl rfl rfl rfl aK6b (OpV.sub rfl rfl rfl (by unfold fits; omega)) ?_
              first
                | refine VA.takeY (i := 8) rfl (by kernel_rfl) (by kernel_rfl) (by kernel_rfl) rfl rfl rfl rfl aK6b (OpV.indexAddr_E rfl Tryd.underlying64 Tryd.sizeOf117 rfl rfl (show ((q : Int) - 1) = ((q - 1 : Nat) : Int) by omega) (by omega)) ?_
                | refine VA.takeY (i := 8) rfl (by kernel_rfl) (by kernel_rfl) (by kernel_rfl) rfl rfl rfl rfl aK6b (OpV.indexAddr_q rfl Tryd.underlying64 Tryd.sizeOf117 rfl rfl (show ((q : Int) - 1) = ((q - 1 : Nat) : Int) by omega) (by omega)) ?_
                | refine VA.takeY (i := 8) rfl (by kernel_rfl) (by kernel_rfl) (by kernel_rfl) rfl rfl rfl rfl aK6b (OpV.indexAddr_im rfl Tryd.underlying64 Tryd.sizeOf117 rfl rfl (by omega) (by omega)) ?_
              first
                | refine VA.takeY (i := 9) rfl (by kernel_rfl) (by kernel_rfl) (by kernel_rfl) rfl rfl rfl rfl aK6b (OpV.fieldAddr_atO 0 rfl Tryd.underlying117 rfl rfl Tryd.sizeOf9 rfl rfl) ?_
                | refine VA.takeY (i := 9) rfl (by kernel_rfl) (by kernel_rfl) (by kernel_rfl) rfl rfl rfl rfl aK6b (OpV.fieldAddrO 0 rfl Tryd.underlying117 rfl rfl Tryd.sizeOf9 rfl) ?_
              first
                | refine VA.takeY (i := 10) rfl (by kernel_rfl) (by kernel_rfl) (by kernel_rfl) rfl rfl rfl rfl aK6b (OpV.load_at rfl hB OutW.wi0 Tryd.isAgg9 rfl rfl) ?_
                | refine VA.takeY (i := 10) rfl (by kernel_rfl) (by kernel_rfl) (by kernel_rfl) rfl rfl rfl rfl aK6b (OpV.load_own (i := 0) rfl hB Tryd.isAgg9 rfl rfl rfl Wi.not0) ?_
              refine VA.takeY (i := 11) rfl (by kernel_rfl) (by kernel_rfl) (by kernel_rfl) rfl rfl rfl rfl aK6b (OpV.sleq rfl rfl rfl) ?_
              refine VA.take (i := 12) rfl (by kernel_rfl) (by kernel_rfl) (by kernel_rfl) rfl rfl (OpV.pickT rfl rfl rfl rfl aK6b) ?_
              refine VA.take (i := 13) rfl (by kernel_rfl) (by kernel_rfl) (by kernel_rfl) rfl rfl (OpV.move (.inr rfl) rfl) ?_
              refine VA.done (by kernel_rfl) ?_
              show VC _ _ _ _ _
              refine VC.cond rfl (fun aH7b => ?_) (fun aH7b => ?_)
              · have aH7 := aH7b
                try simp only [decide_eq_true_eq, decide_eq_false_iff_not, Bool.not_eq_true', Bool.not_eq_false', Int.not_lt, Int.not_le] at aH7
                refine VC.seq ?_
                refine VC.region ?_
                refine VO.val rfl rfl (OpV.move (.inr rfl) rfl) ?_
                refine VO.nil ?_
                show VC _ _ _ _ _
                refine VC.ret ?_
                exact Exists.intro _ (And.intro (RetN.one Tryd.results75 (ResN.v rfl)) (by rw [bodiesF_at (by omega) (by omega) hn (bodyE_7 (by assumption) (or2f (by assumption) (by assumption)) (by omega) (by assumption)) (by decide)]))
              · have aH7 := aH7b
                try simp only [decide_eq_true_eq, decide_eq_false_iff_not, Bool.not_eq_true', Bool.not_eq_false', Int.not_lt, Int.not_le] at aH7
                refine VC.skip ?_
                show VC _ _ _ _ _
                refine VC.region ?_
                refine VO.val rfl rfl (OpV.add rfl rfl rfl (by unfold fits; omega)) ?_
                refine VO.val rfl rfl (OpV.move (.inl rfl) rfl) ?_
                refine VO.nil ?_
                exact Exists.intro (⟨q + 1, by omega, lt_succ_cases hn (bodyE_0 (by assumption) (or2f (by assumption) (by assumption)) (by first | (left; omega) | (right; assumption)))⟩) (And.intro (Le.mk hB [] ⟨rfl, rfl, rfl, rfl, trivial⟩ rfl rfl (Nat.le_refl _)) (by first | omega | (show _ < _; omega) | (simp only []; omega)))
            · have aK6 := aK6b
              try simp only [decide_eq_true_eq, decide_eq_false_iff_not, Bool.not_eq_true', Bool.not_eq_false', Int.not_lt, Int.not_le] at aK6
              refine VA.takeX (i := 3) rfl (by kernel_rfl) (by kernel_rfl) (by kernel_rfl) rfl rfl rfl rfl aK6b ?_
              refine VA.takeX (i := 4) rfl (by kernel_rfl) (by kernel_rfl) (by kernel_rfl) rfl rfl rfl rfl aK6b ?_
              refine VA.takeX (i := 5) rfl (by kernel_rfl) (by kernel_rfl) (by kernel_rfl) rfl rfl rfl rfl aK6b ?_
              refine VA.takeX (i := 6) rfl (by kernel_rfl) (by kernel_rfl) (by kernel_rfl) rfl rfl rfl rfl aK6b ?_
              refine VA.takeX (i := 7) rfl (by kernel_rfl) (by kernel_rfl) (by kernel_rfl) rfl rfl rfl rfl aK6b ?_
              refine VA.takeX (i := 8) rfl (by kernel_rfl) (by kernel_rfl) (by kernel_rfl) rfl rfl rfl rfl aK6b ?_
              refine VA.takeX (i := 9) rfl (by kernel_rfl) (by kernel_rfl) (by kernel_rfl) rfl rfl rfl rfl aK6b ?_
              refine VA.takeX (i := 10) rfl (by kernel_rfl) (by kernel_rfl) (by kernel_rfl) rfl rfl rfl rfl aK6b ?_
              refine VA.takeX (i := 11) rfl (by kernel_rfl) (by kernel_rfl) (by kernel_rfl) rfl rfl rfl rfl aK6b ?_
              refine VA.take (i := 12) rfl (by kernel_rfl) (by kernel_rfl) (by kernel_rfl) rfl rfl (OpV.pickF rfl rfl rfl rfl aK6b) ?_
              refine VA.take (i := 13) rfl (by kernel_rfl) (by kernel_rfl) (by kernel_rfl) rfl rfl (OpV.move (.inr rfl) rfl) ?_
              refine VA.done (by kernel_rfl) ?_
              show VC _ _ _ _ _
              refine VC.condF rfl rfl ?_
              refine VC.skip ?_
              show VC _ _ _ _ _
              refine VC.region ?_
              refine VO.val rfl rfl (OpV.add rfl rfl rfl (by unfold fits; omega)) ?_
              refine VO.val rfl rfl (OpV.move (.inl rfl) rfl) ?_
              refine VO.nil ?_
              exact Exists.intro (⟨q + 1, by omega, lt_succ_cases hn (bodyE_0 (by assumption) (or2f (by assumption) (by assumption)) (by first | (left; omega) | (right; assumption)))⟩) (And.intro (Le.mk hB [] ⟨rfl, rfl, rfl, rfl, trivial⟩ rfl rfl (Nat.le_refl _)) (by first | omega | (show _ < _; omega) | (simp only []; omega)))
        · replace aK4b : _ = true := aK4b
          have aK4 := aK4b
          try simp only [decide_eq_true_eq, decide_eq_false_iff_not, Bool.not_eq_true', Bool.not_eq_false', Int.not_lt, Int.not_le] at aK4
          refine VO.opX rfl rfl rfl rfl aK4b ?_
          refine VO.opX rfl rfl rfl rfl aK4b ?_
          refine VO.opX rfl rfl rfl rfl aK4b ?_
          refine VO.val rfl rfl (OpV.pickT rfl rfl rfl rfl aK4b) ?_
          refine VO.val rfl rfl (OpV.move (.inr rfl) rfl) ?_
          refine VO.nil ?_
          show VC _ _ _ _ _
          refine VC.condT rfl rfl ?_
          refine VC.seq ?_
          refine VC.region ?_
          refine VO.val rfl rfl (OpV.move (.inr rfl) rfl) ?_
          refine VO.nil ?_
          show VC _ _ _ _ _
          refine VC.ret ?_
          exact Exists.intro _ (And.intro (RetN.one Tryd.results75 (ResN.v rfl)) (by first | rw [bodiesF_at (by omega) (by omega) hn (bodyE_1 (by assumption) (or2a (by assumption))) (by decide)] | rw [bodiesF_at (by omega) (by omega) hn (bodyE_1 (by assumption) (or2b (by assumption))) (by decide)]))
    · have aH2 := aH2b
      try simp only [decide_eq_true_eq, decide_eq_false_iff_not, Bool.not_eq_true', Bool.not_eq_false', Int.not_lt, Int.not_le] at aH2
      refine VC.exit ?_
      show VC _ _ _ _ _
      refine VC.seq ?_
      refine VC.region ?_
      refine VO.val rfl rfl (OpV.move (.inr rfl) rfl) ?_
      refine VO.nil ?_
      show VC _ _ _ _ _
      refine VC.ret ?_
      exact Exists.intro _ (And.intro (RetN.one Tryd.results75 (ResN.v rfl)) (by rw [bodiesF_ok (by omega) (fun j hj => hn j (by omega))]))
set_option maxRecDepth 100000 in
theorem rf_BodiesFault {l : List BodyS} (hs : SmB l) :
    SpecN Tryd.prog 31 [avL l] (fun y => y = avI (bodiesF l)) := by
  refine SpecN.of_VCN Tryd.func31 rfl Tryd.ntmps31 (Nat.le_of_ble_eq_true rfl) fun w A hB => ?_
  have hnew : True := trivial
  refine VC.seq ?_
  have hl := hs.len
  refine VC.region ?_
  refine VO.val rfl rfl (OpV.move (.inr rfl) rfl) ?_
  refine VO.nil ?_
  show VC _ _ _ _ _
  refine VC.seq ?_
  refine VC.seq ?_
  refine VC.region ?_
  refine VO.val rfl rfl (OpV.move (.inl rfl) rfl) ?_
  first
    | refine VO.val rfl rfl (OpV.len_im rfl Tryd.underlying64 rfl) ?_
    | refine VO.val rfl rfl (OpV.len_v rfl Tryd.underlying64 rfl) ?_
  refine VO.val rfl rfl (OpV.gtr rfl rfl rfl) ?_
  refine VO.nil ?_
  show VC _ _ _ _ _
  refine VC.cond rfl (fun aH1b => ?_) (fun aH1b => ?_)
  · have aH1 := aH1b
    try simp only [decide_eq_true_eq, decide_eq_false_iff_not, Bool.not_eq_true', Bool.not_eq_false', Int.not_lt, Int.not_le] at aH1
    refine VC.seq ?_
    refine VC.region ?_
    refine VO.val rfl rfl (OpV.move (.inr rfl) rfl) ?_
    refine VO.nil ?_
    show VC _ _ _ _ _
    refine VC.ret ?_
    exact Exists.intro _ (And.intro (RetN.one Tryd.results31 (ResN.v rfl)) (by rw [bodiesF_2 (by omega)]))
  · have aH1 := aH1b
    try simp only [decide_eq_true_eq, decide_eq_false_iff_not, Bool.not_eq_true', Bool.not_eq_false', Int.not_lt, Int.not_le] at aH1
    refine VC.skip ?_
    show VC _ _ _ _ _
    refine VC.seq ?_
    refine VC.region ?_
    refine VO.val rfl rfl (OpV.move (.inr rfl) rfl) ?_
    refine VO.nil ?_
    show VC _ _ _ _ _
    refine VC.seq ?_
    refine VC.seq ?_
    refine VC.region ?_
    refine VO.val rfl rfl (OpV.move (.inl rfl) rfl) ?_
    first
      | refine VO.val rfl rfl (OpV.len_im rfl Tryd.underlying64 rfl) ?_
      | refine VO.val rfl rfl (OpV.len_v rfl Tryd.underlying64 rfl) ?_
    refine VO.val rfl rfl (OpV.move (.inl rfl) rfl) ?_
    refine VO.nil ?_
    show VC _ _ _ _ _
    refine VC.block ?_
    refine VC.loopK [(9, _), (10, _)] ⟨rfl, rfl, trivial⟩ ({q : Nat // q ≤ l.length ∧ ∀ j, j < q → bodyE l j = 0}) (fun (i : {q : Nat // q ≤ l.length ∧ ∀ j, j < q → bodyE l j = 0}) => match i with | ⟨q, hq, hn⟩ => [(3, avS (lastB l q)), (11, avI (q : Int))]) (fun (i : {q : Nat // q ≤ l.length ∧ ∀ j, j < q → bodyE l j = 0}) => match i with | ⟨q, hq, hn⟩ => []) (fun (i : {q : Nat // q ≤ l.length ∧ ∀ j, j < q → bodyE l j = 0}) => match i with | ⟨q, hq, hn⟩ => 0) (fun (i : {q : Nat // q ≤ l.length ∧ ∀ j, j < q → bodyE l j = 0}) => match i with | ⟨q, hq, hn⟩ => l.length - q) ⟨0, Nat.zero_le _, fun j hj => absurd hj (Nat.not_lt_zero j)⟩ (Le.mk hB [] ⟨rfl, rfl, rfl, rfl, trivial⟩ rfl rfl (Nat.le_refl _)) ?_
    rintro ⟨q, hq, hn⟩
    show VC _ _ _ _ ⟨[(3, avS (lastB l q)), (11, avI (q : Int))] ++ [(9, _), (10, _)], [], 0⟩
    refine VC.seq ?_
    refine VC.region ?_
    refine VO.val rfl rfl (OpV.lss rfl rfl rfl) ?_
    refine VO.nil ?_
    show VC _ _ _ _ _
    refine VC.seq ?_
    refine VC.cond rfl (fun aH2b => ?_) (fun aH2b => ?_)
    · have aH2 := aH2b
      try simp only [decide_eq_true_eq, decide_eq_false_iff_not, Bool.not_eq_true', Bool.not_eq_false', Int.not_lt, Int.not_le] at aH2
      refine VC.skip ?_
      show VC _ _ _ _ _
      refine VC.seq ?_
      refine VC.block ?_
      refine VC.seq ?_
      refine VC.region ?_
      first
        | refine VO.val rfl rfl (OpV.indexAddr_E rfl Tryd.underlying64 Tryd.sizeOf117 rfl rfl rfl (by omega)) ?_
        | refine VO.val rfl rfl (OpV.indexAddr_E rfl Tryd.underlying64 Tryd.sizeOf117 rfl rfl (Int.toNat_of_nonneg (by omega)).symm (by omega)) ?_
        | refine VO.val rfl rfl (OpV.indexAddr_q rfl Tryd.underlying64 Tryd.sizeOf117 rfl rfl rfl (by omega)) ?_
        | refine VO.val rfl rfl (OpV.indexAddr_q rfl Tryd.underlying64 Tryd.sizeOf117 rfl rfl (Int.toNat_of_nonneg (by omega)).symm (by omega)) ?_
        | refine VO.val rfl rfl (OpV.indexAddr_im rfl Tryd.underlying64 Tryd.sizeOf117 rfl rfl (by omega) (by omega)) ?_
      refine VO.val rfl rfl (OpV.loadK_at rfl hB OutW.no Tryd.isAgg117 Tryd.sizeOf117 rfl rfl) ?_
      refine VO.op rfl (OpE.alloc rfl hB rfl Tryd.zeroValue117 rfl ?_)
      intro g5
      refine VO.op rfl (OpE.store (i := 0) rfl hB rfl Tryd.sizeOf117 rfl rfl rfl rfl rfl rfl (Nat.le_of_ble_eq_true rfl) trivial ?_)
      refine VO.nil ?_
      show VC _ _ _ _ _
      refine VC.seq ?_
      refine VC.block ?_
      refine VC.seq ?_
      refine VC.region ?_
      first
        | refine VO.val rfl rfl (OpV.fieldAddr_atO 0 rfl Tryd.underlying117 rfl rfl Tryd.sizeOf9 rfl rfl) ?_
        | refine VO.val rfl rfl (OpV.fieldAddrO 0 rfl Tryd.underlying117 rfl rfl Tryd.sizeOf9 rfl) ?_
      refine VO.val rfl rfl (OpV.load_own (i := 0) rfl hB Tryd.isAgg9 rfl rfl rfl (fun h => h)) ?_
      refine VO.op rfl (OpE.call rfl hB rfl Tryd.call62 rfl (SpecN.spec (rf_Key (by have := hs.part q; omega))) ?_)
      rintro _ rfl
      refine VO.val rfl rfl (OpV.not rfl rfl) ?_
      refine VO.val rfl rfl (OpV.move (.inr rfl) rfl) ?_
      refine VO.nil ?_
      show VC _ _ _ _ _
      refine VC.cond rfl (fun aH3b => ?_) (fun aH3b => ?_)
      · have aH3 := aH3b
        try simp only [decide_eq_true_eq, decide_eq_false_iff_not, Bool.not_eq_true', Bool.not_eq_false', Int.not_lt, Int.not_le] at aH3
        refine VC.seq ?_
        refine VC.region ?_
        refine VO.val rfl rfl (OpV.move (.inr rfl) rfl) ?_
        refine VO.nil ?_
        show VC _ _ _ _ _
        refine VC.ret ?_
        exact Exists.intro _ (And.intro (RetN.one Tryd.results31 (ResN.v rfl)) (by rw [bodiesF_at (by omega) (by omega) hn (bodyE_5 (by assumption)) (by decide)]))
      · have aH3 := aH3b
        try simp only [decide_eq_true_eq, decide_eq_false_iff_not, Bool.not_eq_true', Bool.not_eq_false', Int.not_lt, Int.not_le] at aH3
        refine VC.seq ?_
        refine VC.region ?_
        first
          | refine VO.val rfl rfl (OpV.fieldAddr_atO 1 rfl Tryd.underlying117 rfl rfl Tryd.sizeOf3 rfl rfl) ?_
          | refine VO.val rfl rfl (OpV.fieldAddrO 1 rfl Tryd.underlying117 rfl rfl Tryd.sizeOf3 rfl) ?_
        refine VO.val rfl rfl (OpV.load_own (i := 0) rfl hB Tryd.isAgg3 rfl rfl rfl (fun h => h)) ?_
        refine VO.op rfl (OpE.call rfl hB rfl Tryd.call45 rfl (SpecN.spec (rf_in)) ?_)
        rintro _ rfl
        refine VO.val rfl rfl (OpV.not rfl rfl) ?_
        refine VO.val rfl rfl (OpV.move (.inl rfl) rfl) ?_
        refine VO.opG rfl rfl rfl rfl (fun aK4b => ?_) (fun aK4b => ?_)
        · replace aK4b : _ = false := aK4b
          have aK4 := aK4b
          try simp only [decide_eq_true_eq, decide_eq_false_iff_not, Bool.not_eq_true', Bool.not_eq_false', Int.not_lt, Int.not_le] at aK4
          first
            | refine OpE.val (W := NoB) (OpV.fieldAddr_atO 2 rfl Tryd.underlying117 rfl rfl Tryd.sizeOf3 rfl rfl) rfl ?_
            | refine OpE.val (W := NoB) (OpV.fieldAddrO 2 rfl Tryd.underlying117 rfl rfl Tryd.sizeOf3 rfl) rfl ?_
          refine VO.opY rfl rfl rfl rfl aK4b ?_
          refine OpE.val (W := NoB) (OpV.load_own (i := 0) rfl hB Tryd.isAgg3 rfl rfl rfl (fun h => h)) rfl ?_
          refine VO.opY rfl rfl rfl rfl aK4b ?_
          refine OpE.call rfl hB rfl Tryd.call45 rfl (SpecN.spec (rf_in)) ?_
          rintro _ rfl
          refine VO.opY rfl rfl rfl rfl aK4b ?_
          refine OpE.val (W := NoB) (OpV.not rfl rfl) rfl ?_
          refine VO.val rfl rfl (OpV.pickF rfl rfl rfl rfl aK4b) ?_
          refine VO.val rfl rfl (OpV.move (.inr rfl) rfl) ?_
          refine VO.nil ?_
          show VC _ _ _ _ _
          refine VC.cond rfl (fun aH5b => ?_) (fun aH5b => ?_)
          · have aH5 := aH5b
            try simp only [decide_eq_true_eq, decide_eq_false_iff_not, Bool.not_eq_true', Bool.not_eq_false', Int.not_lt, Int.not_le] at aH5
            refine VC.seq ?_
            refine VC.region ?_
            refine VO.val rfl rfl (OpV.move (.inr rfl) rfl) ?_
            refine VO.nil ?_
            show VC _ _ _ _ _
            refine VC.ret ?_
            exact Exists.intro _ (And.intro (RetN.one Tryd.results31 (ResN.v rfl)) (by first | rw [bodiesF_at (by omega) (by omega) hn (bodyE_1 (by assumption) (or2a (oin (by assumption)))) (by decide)] | rw [bodiesF_at (by omega) (by omega) hn (bodyE_1 (by assumption) (or2b (oin (by assumption)))) (by decide)]))
          · have aH5 := aH5b
            try simp only [decide_eq_true_eq, decide_eq_false_iff_not, Bool.not_eq_true', Bool.not_eq_false', Int.not_lt, Int.not_le] at aH5
            refine VC.seq ?_
            refine VC.region ?_
            first
              | refine VO.val rfl rfl (OpV.fieldAddr_atO 0 rfl Tryd.underlying117 rfl rfl Tryd.sizeOf9 rfl rfl) ?_
              | refine VO.val rfl rfl (OpV.fieldAddrO 0 rfl Tryd.underlying117 rfl rfl Tryd.sizeOf9 rfl) ?_
            refine VO.val rfl rfl (OpV.load_own (i := 0) rfl hB Tryd.isAgg9 rfl rfl rfl (fun h => h)) ?_
            refine VO.val rfl rfl (OpV.move (.inl rfl) rfl) ?_
            refine VO.val rfl rfl (OpV.sleq rfl rfl rfl) ?_
            refine VO.val rfl rfl (OpV.move (.inr rfl) rfl) ?_
            refine VO.nil ?_
            show VC _ _ _ _ _
            refine VC.cond rfl (fun aH6b => ?_) (fun aH6b => ?_)
            · have aH6 := aH6b
              try simp only [decide_eq_true_eq, decide_eq_false_iff_not, Bool.not_eq_true', Bool.not_eq_false', Int.not_lt, Int.not_le] at aH6
              refine VC.seq ?_
              refine VC.region ?_
              refine VO.val rfl rfl (OpV.move (.inr rfl) rfl) ?_
              refine VO.nil ?_
              show VC _ _ _ _ _
              refine VC.ret ?_
              exact Exists.intro _ (And.intro (RetN.one Tryd.results31 (ResN.v rfl)) (by rw [bodiesF_at (by omega) (by omega) hn (bodyE_7' (by assumption) (or2f (oin (by assumption)) (oin (by assumption))) (by assumption)) (by decide)]))
            · have aH6 := aH6b
              try simp only [decide_eq_true_eq, decide_eq_false_iff_not, Bool.not_eq_true', Bool.not_eq_false', Int.not_lt, Int.not_le] at aH6
              refine VC.skip ?_
              show VC _ _ _ _ _
              refine VC.region ?_
              first
                | refine VO.val rfl rfl (OpV.fieldAddr_atO 0 rfl Tryd.underlying117 rfl rfl Tryd.sizeOf9 rfl rfl) ?_
                | refine VO.val rfl rfl (OpV.fieldAddrO 0 rfl Tryd.underlying117 rfl rfl Tryd.sizeOf9 rfl) ?_
              refine VO.val rfl rfl (OpV.load_own (i := 0) rfl hB Tryd.isAgg9 rfl rfl rfl (fun h => h)) ?_
              refine VO.val rfl rfl (OpV.move (.inr rfl) rfl) ?_
              refine VO.nil ?_
              show VC _ _ _ _ _
              refine VC.region ?_
              refine VO.val rfl rfl (OpV.add rfl rfl rfl (by unfold fits; omega)) ?_
              refine VO.val rfl rfl (OpV.move (.inl rfl) rfl) ?_
              refine VO.nil ?_
              exact Exists.intro (⟨q + 1, by omega, lt_succ_cases hn (bodyE_0' (by assumption) (or2f (oin (by assumption)) (oin (by assumption))) (by assumption))⟩) (And.intro (Le.mk hB [] ⟨(by rw [lastB_succ]; rfl), rfl, rfl, rfl, trivial⟩ rfl rfl (Nat.le_refl _)) (by first | omega | (show _ < _; omega) | (simp only []; omega)))
        · replace aK4b : _ = true := aK4b
          have aK4 := aK4b
          try simp only [decide_eq_true_eq, decide_eq_false_iff_not, Bool.not_eq_true', Bool.not_eq_false', Int.not_lt, Int.not_le] at aK4
          refine VO.opX rfl rfl rfl rfl aK4b ?_
          refine VO.opX rfl rfl rfl rfl aK4b ?_
          refine VO.opX rfl rfl rfl rfl aK4b ?_
          refine VO.val rfl rfl (OpV.pickT rfl rfl rfl rfl aK4b) ?_
          refine VO.val rfl rfl (OpV.move (.inr rfl) rfl) ?_
          refine VO.nil ?_
          show VC _ _ _ _ _
          refine VC.condT rfl rfl ?_
          refine VC.seq ?_
          refine VC.region ?_
          refine VO.val rfl rfl (OpV.move (.inr rfl) rfl) ?_
          refine VO.nil ?_
          show VC _ _ _ _ _
          refine VC.ret ?_
          exact Exists.intro _ (And.intro (RetN.one Tryd.results31 (ResN.v rfl)) (by first | rw [bodiesF_at (by omega) (by omega) hn (bodyE_1 (by assumption) (or2a (oin (by assumption)))) (by decide)] | rw [bodiesF_at (by omega) (by omega) hn (bodyE_1 (by assumption) (or2b (oin (by assumption)))) (by decide)]))
    · have aH2 := aH2b
      try simp only [decide_eq_true_eq, decide_eq_false_iff_not, Bool.not_eq_true', Bool.not_eq_false', Int.not_lt, Int.not_le] at aH2
      refine VC.exit ?_
      show VC _ _ _ _ _
      refine VC.seq ?_
      refine VC.region ?_
      refine VO.val rfl rfl (OpV.move (.inr rfl) rfl) ?_
      refine VO.nil ?_
      show VC _ _ _ _ _
      refine VC.ret ?_
      exact Exists.intro _ (And.intro (RetN.one Tryd.results31 (ResN.v rfl)) (by rw [bodiesF_ok (by omega) (fun j hj => hn j (by omega))]))
set_option maxRecDepth 100000 in
theorem rf_GapFault {n : Int}  :
    SpecN Tryd.prog 32 [avI n] (fun y => y = avI (gapF n)) := by
  refine SpecN.of_VCN Tryd.func32 rfl Tryd.ntmps32 (Nat.le_of_ble_eq_true rfl) fun w A hB => ?_
  have hnew : True := trivial
  refine VC.seq ?_
  refine VC.region ?_
  refine VO.val rfl rfl (OpV.move (.inr rfl) rfl) ?_
  refine VO.nil ?_
  show VC _ _ _ _ _
  refine VC.seq ?_
  refine VC.seq ?_
  refine VC.region ?_
  refine VO.val rfl rfl (OpV.move (.inl rfl) rfl) ?_
  refine VO.op rfl (OpE.call rfl hB rfl Tryd.call45 rfl (SpecN.spec (rf_in)) ?_)
  rintro _ rfl
  refine VO.val rfl rfl (OpV.not rfl rfl) ?_
  refine VO.nil ?_
  show VC _ _ _ _ _
  refine VC.cond rfl (fun aH1b => ?_) (fun aH1b => ?_)
  · have aH1 := aH1b
    try simp only [decide_eq_true_eq, decide_eq_false_iff_not, Bool.not_eq_true', Bool.not_eq_false', Int.not_lt, Int.not_le] at aH1
    refine VC.seq ?_
    refine VC.region ?_
    refine VO.val rfl rfl (OpV.move (.inr rfl) rfl) ?_
    refine VO.nil ?_
    show VC _ _ _ _ _
    refine VC.ret ?_
    exact Exists.intro _ (And.intro (RetN.one Tryd.results32 (ResN.v rfl)) (by first | rw [gapF, if_pos (oin (by assumption))] | rw [gapF, if_neg (by rw [oin (by assumption)]; simp)]))
  · have aH1 := aH1b
    try simp only [decide_eq_true_eq, decide_eq_false_iff_not, Bool.not_eq_true', Bool.not_eq_false', Int.not_lt, Int.not_le] at aH1
    refine VC.skip ?_
    show VC _ _ _ _ _
    refine VC.seq ?_
    refine VC.region ?_
    refine VO.val rfl rfl (OpV.move (.inr rfl) rfl) ?_
    refine VO.nil ?_
    show VC _ _ _ _ _
    refine VC.ret ?_
    exact Exists.intro _ (And.intro (RetN.one Tryd.results32 (ResN.v rfl)) (by first | rw [gapF, if_pos (oin (by assumption))] | rw [gapF, if_neg (by rw [oin (by assumption)]; simp)]))
end Go.Proofs.YtgikefjbdhnffaaDoor
