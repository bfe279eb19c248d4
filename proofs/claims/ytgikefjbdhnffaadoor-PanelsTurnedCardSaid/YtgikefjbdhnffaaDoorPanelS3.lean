/- Walks: the reference's rectangle of a board, boards outside; the panel turned. -/
import Derived.Test.YtgikefjbdhnffaaDoorPanelS2
import Derived.Test.YtgikefjbdhnffaaDoorSxCell2
import Derived.Test.YtgikefjbdhnffaaDoorEqLs
namespace Go.Proofs.YtgikefjbdhnffaaDoor
open Go.RowKit
set_option linter.unusedVariables false
set_option linter.unusedSimpArgs false
abbrev avBxF (p : ProdS) (s : SlotS) : AV := .agg [avI s.x, avI s.y, avI (s.x + szW p s.quarter), avI (s.y + szH p s.quarter)]
set_option maxRecDepth 100000 in
set_option maxHeartbeats 4000000 in
theorem rf_boardBox {p : ProdS} {s : SlotS} (hp : (1 ≤ p.wide ∧ p.wide ≤ 500000) ∧ 1 ≤ p.high ∧ p.high ≤ 500000) (hs : (0 ≤ s.x ∧ s.x ≤ 500000) ∧ (0 ≤ s.y ∧ s.y ≤ 500000) ∧ 0 ≤ s.quarter ∧ s.quarter ≤ 3) :
    SpecN Tryd.prog 58 [avProd p, avSl s] (fun y => y = avBxF p s) := by
  refine SpecN.of_VCN Tryd.func58 rfl Tryd.ntmps58 (Nat.le_of_ble_eq_true rfl) fun w A hB => ?_
  have hnew : True := trivial
  refine VC.seq ?_
  refine VC.region ?_
  refine VO.op rfl (OpE.box rfl hB rfl rfl rfl ?_)
  intro g2
  refine VO.op rfl (OpE.box rfl hB rfl rfl rfl ?_)
  intro g3
  refine VO.op rfl (OpE.alloc rfl hB rfl Tryd.zeroValue112 rfl ?_)
  intro g4
  refine VO.nil ?_
  show VC _ _ _ _ _
  refine VC.seq ?_
  have hb := boxF_eq (p := p) (s := s) hp.1.1 hp.2.1 hs.2.2
  have b1 : min (plX p s.quarter 0 0 + s.x) (plX p s.quarter p.wide p.high + s.x) = s.x := congrArg BoxS.left hb
  have b2 : min (plY p s.quarter 0 0 + s.y) (plY p s.quarter p.wide p.high + s.y) = s.y := congrArg BoxS.low hb
  have b3 : max (plX p s.quarter 0 0 + s.x) (plX p s.quarter p.wide p.high + s.x) = s.x + szW p s.quarter := congrArg BoxS.right hb
  have b4 : max (plY p s.quarter 0 0 + s.y) (plY p s.quarter p.wide p.high + s.y) = s.y + szH p s.quarter := congrArg BoxS.high hb
  refine VC.region ?_
  refine VO.val rfl rfl (OpV.loadK_own (i := 0) rfl hB Tryd.isAgg44 Tryd.sizeOf44 rfl rfl rfl (fun h => h)) ?_
  refine VO.val rfl rfl (OpV.loadK_own (i := 1) rfl hB Tryd.isAgg106 Tryd.sizeOf106 rfl rfl rfl (fun h => h)) ?_
  refine VO.op rfl (OpE.call rfl hB rfl Tryd.call74 rfl (SpecN.spec (rf_placed (cx := 0) (cy := 0) hp hs (by omega) (by omega))) ?_)
  rintro _ rfl
  refine VO.val rfl rfl (OpV.move (.inl rfl) rfl) ?_
  first
    | refine VO.val rfl rfl (OpV.extract rfl rfl rfl) ?_
    | refine VO.val rfl rfl (OpV.extract_v rfl rfl rfl) ?_
  first
    | refine VO.val rfl rfl (OpV.extract rfl rfl rfl) ?_
    | refine VO.val rfl rfl (OpV.extract_v rfl rfl rfl) ?_
  refine VO.val rfl rfl (OpV.move (.inr rfl) rfl) ?_
  refine VO.val rfl rfl (OpV.move (.inr rfl) rfl) ?_
  refine VO.nil ?_
  show VC _ _ _ _ _
  refine VC.seq ?_
  refine VC.region ?_
  refine VO.val rfl rfl (OpV.loadK_own (i := 0) rfl hB Tryd.isAgg44 Tryd.sizeOf44 rfl rfl rfl (fun h => h)) ?_
  refine VO.val rfl rfl (OpV.loadK_own (i := 1) rfl hB Tryd.isAgg106 Tryd.sizeOf106 rfl rfl rfl (fun h => h)) ?_
  first
    | refine VO.val rfl rfl (OpV.fieldAddr_atO 1 rfl Tryd.underlying44 rfl rfl Tryd.sizeOf3 rfl rfl) ?_
    | refine VO.val rfl rfl (OpV.fieldAddrO 1 rfl Tryd.underlying44 rfl rfl Tryd.sizeOf3 rfl) ?_
  refine VO.val rfl rfl (OpV.load_own (i := 0) rfl hB Tryd.isAgg3 rfl rfl rfl (fun h => h)) ?_
  first
    | refine VO.val rfl rfl (OpV.fieldAddr_atO 2 rfl Tryd.underlying44 rfl rfl Tryd.sizeOf3 rfl rfl) ?_
    | refine VO.val rfl rfl (OpV.fieldAddrO 2 rfl Tryd.underlying44 rfl rfl Tryd.sizeOf3 rfl) ?_
  refine VO.val rfl rfl (OpV.load_own (i := 0) rfl hB Tryd.isAgg3 rfl rfl rfl (fun h => h)) ?_
  refine VO.op rfl (OpE.call rfl hB rfl Tryd.call74 rfl (SpecN.spec (rf_placed (cx := p.wide) (cy := p.high) hp hs (by omega) (by omega))) ?_)
  rintro _ rfl
  refine VO.val rfl rfl (OpV.move (.inl rfl) rfl) ?_
  first
    | refine VO.val rfl rfl (OpV.extract rfl rfl rfl) ?_
    | refine VO.val rfl rfl (OpV.extract_v rfl rfl rfl) ?_
  first
    | refine VO.val rfl rfl (OpV.extract rfl rfl rfl) ?_
    | refine VO.val rfl rfl (OpV.extract_v rfl rfl rfl) ?_
  refine VO.val rfl rfl (OpV.move (.inr rfl) rfl) ?_
  refine VO.val rfl rfl (OpV.move (.inr rfl) rfl) ?_
  refine VO.nil ?_
  show VC _ _ _ _ _
  refine VC.seq ?_
  refine VC.region ?_
  refine VO.val rfl rfl (OpV.move (.inl rfl) rfl) ?_
  refine VO.val rfl rfl (OpV.move (.inl rfl) rfl) ?_
  refine VO.val rfl rfl (OpV.min2 rfl rfl rfl) ?_
  rw [b1]
  refine VO.val rfl rfl (OpV.move (.inl rfl) rfl) ?_
  refine VO.val rfl rfl (OpV.move (.inl rfl) rfl) ?_
  refine VO.val rfl rfl (OpV.min2 rfl rfl rfl) ?_
  rw [b2]
  refine VO.val rfl rfl (OpV.move (.inl rfl) rfl) ?_
  refine VO.val rfl rfl (OpV.move (.inl rfl) rfl) ?_
  refine VO.val rfl rfl (OpV.max2 rfl rfl rfl) ?_
  rw [b3]
  refine VO.val rfl rfl (OpV.move (.inl rfl) rfl) ?_
  refine VO.val rfl rfl (OpV.move (.inl rfl) rfl) ?_
  refine VO.val rfl rfl (OpV.max2 rfl rfl rfl) ?_
  rw [b4]
  refine VO.val rfl rfl (OpV.build (pls := #[(0, 1), (1, 1), (2, 1), (3, 1)]) rfl Tryd.zeroValue112 Tryd.underlying112 (fun w => by kernel_rfl) rfl rfl) ?_
  refine VO.op rfl (OpE.store (i := 2) rfl hB rfl Tryd.sizeOf112 rfl rfl rfl rfl rfl rfl (Nat.le_of_ble_eq_true rfl) trivial ?_)
  refine VO.nil ?_
  show VC _ _ _ _ _
  refine VC.ret ?_
  exact Exists.intro _ (And.intro (RetN.one Tryd.results58 ((by first | exact ResN.cellF (i := 0) Tryd.isAgg112 Tryd.sizeOf112 rfl rfl rfl (flat_ofB rfl) | exact ResN.cellF (i := 1) Tryd.isAgg112 Tryd.sizeOf112 rfl rfl rfl (flat_ofB rfl) | exact ResN.cellF (i := 2) Tryd.isAgg112 Tryd.sizeOf112 rfl rfl rfl (flat_ofB rfl)))) (rfl))
set_option maxRecDepth 100000 in
set_option maxHeartbeats 4000000 in
theorem rf_OutsideOf {p : ProdS} {n : PanS} (h00 : panelF p n = 0) :
    SpecN Tryd.prog 19 [avProd p, avPan n] (fun y => y = avInts (outsR p n)) := by
  refine SpecN.of_VCN Tryd.func19 rfl Tryd.ntmps19 (Nat.le_of_ble_eq_true rfl) fun w A hB => ?_
  have hnew : True := trivial
  refine VC.seq ?_
  refine VC.region ?_
  refine VO.op rfl (OpE.box rfl hB rfl rfl rfl ?_)
  intro g2
  refine VO.op rfl (OpE.box rfl hB rfl rfl rfl ?_)
  intro g3
  refine VO.val rfl rfl (OpV.move (.inr rfl) rfl) ?_
  refine VO.nil ?_
  show VC _ _ _ _ _
  refine VC.seq ?_
  have hz := panelF_0 h00
  have hok := prodOk hz.1
  have hpn := panOk hz.2
  have hw := hok.wide
  have hh := hok.high
  have hlen := hpn.len
  refine VC.region ?_
  refine VO.val rfl rfl (OpV.move (.inr rfl) rfl) ?_
  refine VO.nil ?_
  show VC _ _ _ _ _
  refine VC.seq ?_
  refine VC.seq ?_
  refine VC.region ?_
  first
    | refine VO.val rfl rfl (OpV.fieldAddr_atO 2 rfl Tryd.underlying48 rfl rfl Tryd.sizeOf46 rfl rfl) ?_
    | refine VO.val rfl rfl (OpV.fieldAddrO 2 rfl Tryd.underlying48 rfl rfl Tryd.sizeOf46 rfl) ?_
  refine VO.val rfl rfl (OpV.load_own (i := 1) rfl hB Tryd.isAgg46 rfl rfl rfl (fun h => h)) ?_
  first
    | refine VO.val rfl rfl (OpV.len_im rfl Tryd.underlying46 rfl) ?_
    | refine VO.val rfl rfl (OpV.len_v rfl Tryd.underlying46 rfl) ?_
    | refine VO.val rfl rfl (OpV.len_row (i := 0) rfl Tryd.underlying46 rfl rfl) ?_
    | refine VO.val rfl rfl (OpV.len_row (i := 1) rfl Tryd.underlying46 rfl rfl) ?_
  refine VO.val rfl rfl (OpV.move (.inl rfl) rfl) ?_
  refine VO.nil ?_
  show VC _ _ _ _ _
  refine VC.block ?_
  refine VC.le _ (Le.nilRow 1 3) ?_
  refine VC.loopK [(2, _), (3, _), (10, _), (11, _)] ⟨rfl, rfl, rfl, rfl, trivial⟩ ({z : Value × Nat // z.2 ≤ n.slots.length}) (fun (i : {z : Value × Nat // z.2 ≤ n.slots.length}) => match i with | ⟨⟨u, q⟩, hq⟩ => [(5, .v u), (12, avI (q : Int))]) (fun (i : {z : Value × Nat // z.2 ≤ n.slots.length}) => match i with | ⟨⟨u, q⟩, hq⟩ => [boxProd g2 p 44, boxPan g3 n 48, .row u (numsL (outO p n) n.slots q).length 1 (intsL (numsL (outO p n) n.slots q)) 3]) (fun (i : {z : Value × Nat // z.2 ≤ n.slots.length}) => match i with | ⟨⟨u, q⟩, hq⟩ => 0) (fun (i : {z : Value × Nat // z.2 ≤ n.slots.length}) => match i with | ⟨⟨u, q⟩, hq⟩ => n.slots.length - q) ⟨(.slice none 0 0, 0), Nat.zero_le _⟩ (Le.mk hB [0, 1, 2] ⟨rfl, rfl, rfl, rfl, rfl, rfl, trivial⟩ rfl rfl (Nat.le_refl _)) ?_
  rintro ⟨⟨u, q⟩, hq⟩
  show VC _ _ _ _ ⟨[(5, .v u), (12, avI (q : Int))] ++ [(2, _), (3, _), (10, _), (11, _)], [boxProd g2 p 44, boxPan g3 n 48, .row u (numsL (outO p n) n.slots q).length 1 (intsL (numsL (outO p n) n.slots q)) 3], 0⟩
  simp only at hq
  have hnl := numsL_len (outO p n) n.slots q
  refine VC.seq ?_
  refine VC.region ?_
  refine VO.val rfl rfl (OpV.lss rfl rfl rfl) ?_
  refine VO.nil ?_
  show VC _ _ _ _ _
  refine VC.seq ?_
  refine VC.cond rfl (fun aH1b => ?_) (fun aH1b => ?_)
  · have aH1 := aH1b
    try simp only [decide_eq_true_eq, decide_eq_false_iff_not, Bool.not_eq_true', Bool.not_eq_false', Int.not_lt, Int.not_le] at aH1
    refine VC.skip ?_
    show VC _ _ _ _ _
    refine VC.seq ?_
    refine VC.block ?_
    refine VC.seq ?_
    have hsl := hpn.all q (by omega)
    have hsz := szW_bd (q := (n.slots.getD q default).quarter) hw hh
    refine VC.region ?_
    refine VO.val rfl rfl (OpV.move (.inl rfl) rfl) ?_
    first
      | refine VO.val rfl rfl (OpV.indexAddr_E rfl Tryd.underlying46 Tryd.sizeOf106 rfl rfl rfl (by omega)) ?_
      | refine VO.val rfl rfl (OpV.indexAddr_E rfl Tryd.underlying46 Tryd.sizeOf106 rfl rfl (Int.toNat_of_nonneg (by omega)).symm (by omega)) ?_
      | refine VO.val rfl rfl (OpV.indexAddr_q rfl Tryd.underlying46 Tryd.sizeOf106 rfl rfl rfl (by omega)) ?_
      | refine VO.val rfl rfl (OpV.indexAddr_q rfl Tryd.underlying46 Tryd.sizeOf106 rfl rfl (Int.toNat_of_nonneg (by omega)).symm (by omega)) ?_
      | refine VO.val rfl rfl (OpV.indexAddr_im rfl Tryd.underlying46 Tryd.sizeOf106 rfl rfl (by omega) (by omega)) ?_
    first
      | refine VO.val rfl rfl (OpV.loadK_at rfl hB OutW.no Tryd.isAgg106 Tryd.sizeOf106 rfl rfl) ?_
      | refine VO.val rfl rfl (OpV.loadK_own (i := 0) rfl hB Tryd.isAgg106 Tryd.sizeOf106 rfl rfl rfl (fun h => h)) ?_
      | refine VO.val rfl rfl (OpV.loadK_own (i := 1) rfl hB Tryd.isAgg106 Tryd.sizeOf106 rfl rfl rfl (fun h => h)) ?_
      | refine VO.val rfl rfl (OpV.loadK_own (i := 2) rfl hB Tryd.isAgg106 Tryd.sizeOf106 rfl rfl rfl (fun h => h)) ?_
    refine VO.op rfl (OpE.alloc rfl hB rfl Tryd.zeroValue106 rfl ?_)
    intro g7
    refine VO.val rfl rfl (OpV.move (.inr rfl) rfl) ?_
    refine VO.op rfl (OpE.store (i := 3) rfl hB rfl Tryd.sizeOf106 rfl rfl rfl rfl rfl rfl (Nat.le_of_ble_eq_true rfl) trivial ?_)
    refine VO.nil ?_
    show VC _ _ _ _ _
    refine VC.seq ?_
    refine VC.region ?_
    first
      | refine VO.val rfl rfl (OpV.loadK_at rfl hB OutW.no Tryd.isAgg44 Tryd.sizeOf44 rfl rfl) ?_
      | refine VO.val rfl rfl (OpV.loadK_own (i := 0) rfl hB Tryd.isAgg44 Tryd.sizeOf44 rfl rfl rfl (fun h => h)) ?_
      | refine VO.val rfl rfl (OpV.loadK_own (i := 1) rfl hB Tryd.isAgg44 Tryd.sizeOf44 rfl rfl rfl (fun h => h)) ?_
      | refine VO.val rfl rfl (OpV.loadK_own (i := 2) rfl hB Tryd.isAgg44 Tryd.sizeOf44 rfl rfl rfl (fun h => h)) ?_
      | refine VO.val rfl rfl (OpV.loadK_own (i := 3) rfl hB Tryd.isAgg44 Tryd.sizeOf44 rfl rfl rfl (fun h => h)) ?_
    refine VO.val rfl rfl (OpV.loadK_own (i := 3) rfl hB Tryd.isAgg106 Tryd.sizeOf106 rfl rfl rfl (fun h => h)) ?_
    refine VO.op rfl (OpE.call rfl hB rfl Tryd.call58 rfl (SpecN.spec (rf_boardBox (s := n.slots.getD q default) ⟨hw, hh⟩ hsl)) ?_)
    rintro _ rfl
    refine VO.op rfl (OpE.alloc rfl hB rfl Tryd.zeroValue112 rfl ?_)
    intro g8
    refine VO.op rfl (OpE.store (i := 4) rfl hB rfl Tryd.sizeOf112 rfl rfl rfl rfl rfl rfl (Nat.le_of_ble_eq_true rfl) trivial ?_)
    refine VO.nil ?_
    show VC _ _ _ _ _
    refine VC.seq ?_
    refine VC.region ?_
    first
      | refine VO.val rfl rfl (OpV.fieldAddr_atO 0 rfl Tryd.underlying112 rfl rfl Tryd.sizeOf3 rfl rfl) ?_
      | refine VO.val rfl rfl (OpV.fieldAddrO 0 rfl Tryd.underlying112 rfl rfl Tryd.sizeOf3 rfl) ?_
    refine VO.val rfl rfl (OpV.load_own (i := 4) rfl hB Tryd.isAgg3 rfl rfl rfl (fun h => h)) ?_
    refine VO.val rfl rfl (OpV.lss rfl rfl rfl) ?_
    refine VO.val rfl rfl (OpV.move (.inl rfl) rfl) ?_
    refine VO.opG rfl rfl rfl rfl (fun aK2b => ?_) (fun aK2b => ?_)
    · replace aK2b : _ = false := aK2b
      have aK2 := aK2b
      try simp only [decide_eq_true_eq, decide_eq_false_iff_not, Bool.not_eq_true', Bool.not_eq_false', Int.not_lt, Int.not_le] at aK2
      first
        | refine OpE.val (W := NoB) (OpV.fieldAddr_atO 1 rfl Tryd.underlying112 rfl rfl Tryd.sizeOf3 rfl rfl) rfl ?_
        | refine OpE.val (W := NoB) (OpV.fieldAddrO 1 rfl Tryd.underlying112 rfl rfl Tryd.sizeOf3 rfl) rfl ?_
      refine VO.opY rfl rfl rfl rfl aK2b ?_
      refine OpE.val (W := NoB) (OpV.load_own (i := 4) rfl hB Tryd.isAgg3 rfl rfl rfl (fun h => h)) rfl ?_
      refine VO.opY rfl rfl rfl rfl aK2b ?_
      refine OpE.val (W := NoB) (OpV.lss rfl rfl rfl) rfl ?_
      refine VO.val rfl rfl (OpV.pickF rfl rfl rfl rfl aK2b) ?_
      refine VO.val rfl rfl (OpV.move (.inl rfl) rfl) ?_
      refine VO.opG rfl rfl rfl rfl (fun aK3b => ?_) (fun aK3b => ?_)
      · replace aK3b : _ = false := aK3b
        have aK3 := aK3b
        try simp only [decide_eq_true_eq, decide_eq_false_iff_not, Bool.not_eq_true', Bool.not_eq_false', Int.not_lt, Int.not_le] at aK3
        first
          | refine OpE.val (W := NoB) (OpV.fieldAddr_atO 2 rfl Tryd.underlying112 rfl rfl Tryd.sizeOf3 rfl rfl) rfl ?_
          | refine OpE.val (W := NoB) (OpV.fieldAddrO 2 rfl Tryd.underlying112 rfl rfl Tryd.sizeOf3 rfl) rfl ?_
        refine VO.opY rfl rfl rfl rfl aK3b ?_
        refine OpE.val (W := NoB) (OpV.load_own (i := 4) rfl hB Tryd.isAgg3 rfl rfl rfl (fun h => h)) rfl ?_
        refine VO.opY rfl rfl rfl rfl aK3b ?_
        first
          | refine OpE.val (W := NoB) (OpV.fieldAddr_atO 0 rfl Tryd.underlying48 rfl rfl Tryd.sizeOf3 rfl rfl) rfl ?_
          | refine OpE.val (W := NoB) (OpV.fieldAddrO 0 rfl Tryd.underlying48 rfl rfl Tryd.sizeOf3 rfl) rfl ?_
        refine VO.opY rfl rfl rfl rfl aK3b ?_
        first
          | refine OpE.val (W := NoB) (OpV.load_at rfl hB OutW.no Tryd.isAgg3 rfl rfl) rfl ?_
          | refine OpE.val (W := NoB) (OpV.load_own (i := 0) rfl hB Tryd.isAgg3 rfl rfl rfl (fun h => h)) rfl ?_
          | refine OpE.val (W := NoB) (OpV.load_own (i := 1) rfl hB Tryd.isAgg3 rfl rfl rfl (fun h => h)) rfl ?_
          | refine OpE.val (W := NoB) (OpV.load_own (i := 2) rfl hB Tryd.isAgg3 rfl rfl rfl (fun h => h)) rfl ?_
          | refine OpE.val (W := NoB) (OpV.load_own (i := 3) rfl hB Tryd.isAgg3 rfl rfl rfl (fun h => h)) rfl ?_
          | refine OpE.val (W := NoB) (OpV.load_own (i := 4) rfl hB Tryd.isAgg3 rfl rfl rfl (fun h => h)) rfl ?_
        refine VO.opY rfl rfl rfl rfl aK3b ?_
        refine OpE.val (W := NoB) (OpV.gtr rfl rfl rfl) rfl ?_
        refine VO.val rfl rfl (OpV.pickF rfl rfl rfl rfl aK3b) ?_
        refine VO.val rfl rfl (OpV.move (.inl rfl) rfl) ?_
        refine VO.opG rfl rfl rfl rfl (fun aK4b => ?_) (fun aK4b => ?_)
        · replace aK4b : _ = false := aK4b
          have aK4 := aK4b
          try simp only [decide_eq_true_eq, decide_eq_false_iff_not, Bool.not_eq_true', Bool.not_eq_false', Int.not_lt, Int.not_le] at aK4
          first
            | refine OpE.val (W := NoB) (OpV.fieldAddr_atO 3 rfl Tryd.underlying112 rfl rfl Tryd.sizeOf3 rfl rfl) rfl ?_
            | refine OpE.val (W := NoB) (OpV.fieldAddrO 3 rfl Tryd.underlying112 rfl rfl Tryd.sizeOf3 rfl) rfl ?_
          refine VO.opY rfl rfl rfl rfl aK4b ?_
          refine OpE.val (W := NoB) (OpV.load_own (i := 4) rfl hB Tryd.isAgg3 rfl rfl rfl (fun h => h)) rfl ?_
          refine VO.opY rfl rfl rfl rfl aK4b ?_
          first
            | refine OpE.val (W := NoB) (OpV.fieldAddr_atO 1 rfl Tryd.underlying48 rfl rfl Tryd.sizeOf3 rfl rfl) rfl ?_
            | refine OpE.val (W := NoB) (OpV.fieldAddrO 1 rfl Tryd.underlying48 rfl rfl Tryd.sizeOf3 rfl) rfl ?_
          refine VO.opY rfl rfl rfl rfl aK4b ?_
          first
            | refine OpE.val (W := NoB) (OpV.load_at rfl hB OutW.no Tryd.isAgg3 rfl rfl) rfl ?_
            | refine OpE.val (W := NoB) (OpV.load_own (i := 0) rfl hB Tryd.isAgg3 rfl rfl rfl (fun h => h)) rfl ?_
            | refine OpE.val (W := NoB) (OpV.load_own (i := 1) rfl hB Tryd.isAgg3 rfl rfl rfl (fun h => h)) rfl ?_
            | refine OpE.val (W := NoB) (OpV.load_own (i := 2) rfl hB Tryd.isAgg3 rfl rfl rfl (fun h => h)) rfl ?_
            | refine OpE.val (W := NoB) (OpV.load_own (i := 3) rfl hB Tryd.isAgg3 rfl rfl rfl (fun h => h)) rfl ?_
            | refine OpE.val (W := NoB) (OpV.load_own (i := 4) rfl hB Tryd.isAgg3 rfl rfl rfl (fun h => h)) rfl ?_
          refine VO.opY rfl rfl rfl rfl aK4b ?_
          refine OpE.val (W := NoB) (OpV.gtr rfl rfl rfl) rfl ?_
          refine VO.val rfl rfl (OpV.pickF rfl rfl rfl rfl aK4b) ?_
          refine VO.nil ?_
          show VC _ _ _ _ _
          refine VC.cond rfl (fun aH5b => ?_) (fun aH5b => ?_)
          · have aH5 := aH5b
            try simp only [decide_eq_true_eq, decide_eq_false_iff_not, Bool.not_eq_true', Bool.not_eq_false', Int.not_lt, Int.not_le] at aH5
            refine VC.region ?_
            refine VO.val rfl rfl (OpV.move (.inl rfl) rfl) ?_
            refine VO.val rfl rfl (OpV.move (.inl rfl) rfl) ?_
            refine VO.op rfl (OpE.buildSlice (zc := #[.int .i64 0]) rfl hB rfl Tryd.underlying22 Tryd.sizeOf3 Tryd.zeroValue3 (by decide) (by decide) (by kernel_rfl) rfl rfl ?_)
            first
              | refine VO.op rfl (OpE.append1 (i := 0) rfl hB rfl Tryd.underlying22 (infoOf Tryd.t3 1 (by kernel_rfl) rfl rfl) rfl (by decide) (by decide) rfl rfl rfl rfl (intsL_snoc _ _) (by omega) (fun _ _ => trivial) ?_)
              | refine VO.op rfl (OpE.append1 (i := 1) rfl hB rfl Tryd.underlying22 (infoOf Tryd.t3 1 (by kernel_rfl) rfl rfl) rfl (by decide) (by decide) rfl rfl rfl rfl (intsL_snoc _ _) (by omega) (fun _ _ => trivial) ?_)
              | refine VO.op rfl (OpE.append1 (i := 2) rfl hB rfl Tryd.underlying22 (infoOf Tryd.t3 1 (by kernel_rfl) rfl rfl) rfl (by decide) (by decide) rfl rfl rfl rfl (intsL_snoc _ _) (by omega) (fun _ _ => trivial) ?_)
              | refine VO.op rfl (OpE.append1 (i := 3) rfl hB rfl Tryd.underlying22 (infoOf Tryd.t3 1 (by kernel_rfl) rfl rfl) rfl (by decide) (by decide) rfl rfl rfl rfl (intsL_snoc _ _) (by omega) (fun _ _ => trivial) ?_)
              | refine VO.op rfl (OpE.append1 (i := 4) rfl hB rfl Tryd.underlying22 (infoOf Tryd.t3 1 (by kernel_rfl) rfl rfl) rfl (by decide) (by decide) rfl rfl rfl rfl (intsL_snoc _ _) (by omega) (fun _ _ => trivial) ?_)
            intro u2
            refine VO.val rfl rfl (OpV.move (.inr rfl) rfl) ?_
            refine VO.nil ?_
            show VC _ _ _ _ _
            refine VC.region ?_
            refine VO.val rfl rfl (OpV.add rfl rfl rfl (by unfold fits; omega)) ?_
            refine VO.val rfl rfl (OpV.move (.inl rfl) rfl) ?_
            refine VO.nil ?_
            first
              | exact Exists.intro (⟨(u2, q + 1), by show q + 1 ≤ _; omega⟩) (And.intro (Le.mk hB [0, 1, 2] ⟨rfl, rfl, rfl, rfl, rfl, rfl, trivial⟩ rfl (by dsimp only; first | (rw [nums_t (by first | exact out_1 (by assumption) | exact out_2 (by assumption) | (exfalso; omega)), List.length_append]; rfl) | (rw [nums_f (out_3 (by assumption) (by assumption))]; rfl)) (Nat.le_refl _)) (by first | omega | (show _ < _; omega) | (simp only []; omega)))
              | exact Exists.intro (⟨(u, q + 1), by show q + 1 ≤ _; omega⟩) (And.intro (Le.mk hB [0, 1, 2] ⟨rfl, rfl, rfl, rfl, rfl, rfl, trivial⟩ rfl (by dsimp only; first | (rw [nums_t (by first | exact out_1 (by assumption) | exact out_2 (by assumption) | (exfalso; omega)), List.length_append]; rfl) | (rw [nums_f (out_3 (by assumption) (by assumption))]; rfl)) (Nat.le_refl _)) (by first | omega | (show _ < _; omega) | (simp only []; omega)))
          · have aH5 := aH5b
            try simp only [decide_eq_true_eq, decide_eq_false_iff_not, Bool.not_eq_true', Bool.not_eq_false', Int.not_lt, Int.not_le] at aH5
            refine VC.skip ?_
            show VC _ _ _ _ _
            refine VC.region ?_
            refine VO.val rfl rfl (OpV.add rfl rfl rfl (by unfold fits; omega)) ?_
            refine VO.val rfl rfl (OpV.move (.inl rfl) rfl) ?_
            refine VO.nil ?_
            first
              | exact Exists.intro (⟨(u2, q + 1), by show q + 1 ≤ _; omega⟩) (And.intro (Le.mk hB [0, 1, 2] ⟨rfl, rfl, rfl, rfl, rfl, rfl, trivial⟩ rfl (by dsimp only; first | (rw [nums_t (by first | exact out_1 (by assumption) | exact out_2 (by assumption) | (exfalso; omega)), List.length_append]; rfl) | (rw [nums_f (out_3 (by assumption) (by assumption))]; rfl)) (Nat.le_refl _)) (by first | omega | (show _ < _; omega) | (simp only []; omega)))
              | exact Exists.intro (⟨(u, q + 1), by show q + 1 ≤ _; omega⟩) (And.intro (Le.mk hB [0, 1, 2] ⟨rfl, rfl, rfl, rfl, rfl, rfl, trivial⟩ rfl (by dsimp only; first | (rw [nums_t (by first | exact out_1 (by assumption) | exact out_2 (by assumption) | (exfalso; omega)), List.length_append]; rfl) | (rw [nums_f (out_3 (by assumption) (by assumption))]; rfl)) (Nat.le_refl _)) (by first | omega | (show _ < _; omega) | (simp only []; omega)))
        · replace aK4b : _ = true := aK4b
          have aK4 := aK4b
          try simp only [decide_eq_true_eq, decide_eq_false_iff_not, Bool.not_eq_true', Bool.not_eq_false', Int.not_lt, Int.not_le] at aK4
          refine VO.opX rfl rfl rfl rfl aK4b ?_
          refine VO.opX rfl rfl rfl rfl aK4b ?_
          refine VO.opX rfl rfl rfl rfl aK4b ?_
          refine VO.opX rfl rfl rfl rfl aK4b ?_
          refine VO.val rfl rfl (OpV.pickT rfl rfl rfl rfl aK4b) ?_
          refine VO.nil ?_
          show VC _ _ _ _ _
          refine VC.condT rfl rfl ?_
          refine VC.region ?_
          refine VO.val rfl rfl (OpV.move (.inl rfl) rfl) ?_
          refine VO.val rfl rfl (OpV.move (.inl rfl) rfl) ?_
          refine VO.op rfl (OpE.buildSlice (zc := #[.int .i64 0]) rfl hB rfl Tryd.underlying22 Tryd.sizeOf3 Tryd.zeroValue3 (by decide) (by decide) (by kernel_rfl) rfl rfl ?_)
          first
            | refine VO.op rfl (OpE.append1 (i := 0) rfl hB rfl Tryd.underlying22 (infoOf Tryd.t3 1 (by kernel_rfl) rfl rfl) rfl (by decide) (by decide) rfl rfl rfl rfl (intsL_snoc _ _) (by omega) (fun _ _ => trivial) ?_)
            | refine VO.op rfl (OpE.append1 (i := 1) rfl hB rfl Tryd.underlying22 (infoOf Tryd.t3 1 (by kernel_rfl) rfl rfl) rfl (by decide) (by decide) rfl rfl rfl rfl (intsL_snoc _ _) (by omega) (fun _ _ => trivial) ?_)
            | refine VO.op rfl (OpE.append1 (i := 2) rfl hB rfl Tryd.underlying22 (infoOf Tryd.t3 1 (by kernel_rfl) rfl rfl) rfl (by decide) (by decide) rfl rfl rfl rfl (intsL_snoc _ _) (by omega) (fun _ _ => trivial) ?_)
            | refine VO.op rfl (OpE.append1 (i := 3) rfl hB rfl Tryd.underlying22 (infoOf Tryd.t3 1 (by kernel_rfl) rfl rfl) rfl (by decide) (by decide) rfl rfl rfl rfl (intsL_snoc _ _) (by omega) (fun _ _ => trivial) ?_)
            | refine VO.op rfl (OpE.append1 (i := 4) rfl hB rfl Tryd.underlying22 (infoOf Tryd.t3 1 (by kernel_rfl) rfl rfl) rfl (by decide) (by decide) rfl rfl rfl rfl (intsL_snoc _ _) (by omega) (fun _ _ => trivial) ?_)
          intro u2
          refine VO.val rfl rfl (OpV.move (.inr rfl) rfl) ?_
          refine VO.nil ?_
          show VC _ _ _ _ _
          refine VC.region ?_
          refine VO.val rfl rfl (OpV.add rfl rfl rfl (by unfold fits; omega)) ?_
          refine VO.val rfl rfl (OpV.move (.inl rfl) rfl) ?_
          refine VO.nil ?_
          first
            | exact Exists.intro (⟨(u2, q + 1), by show q + 1 ≤ _; omega⟩) (And.intro (Le.mk hB [0, 1, 2] ⟨rfl, rfl, rfl, rfl, rfl, rfl, trivial⟩ rfl (by dsimp only; first | (rw [nums_t (by first | exact out_1 (by assumption) | exact out_2 (by assumption) | (exfalso; omega)), List.length_append]; rfl) | (rw [nums_f (out_3 (by assumption) (by assumption))]; rfl)) (Nat.le_refl _)) (by first | omega | (show _ < _; omega) | (simp only []; omega)))
            | exact Exists.intro (⟨(u, q + 1), by show q + 1 ≤ _; omega⟩) (And.intro (Le.mk hB [0, 1, 2] ⟨rfl, rfl, rfl, rfl, rfl, rfl, trivial⟩ rfl (by dsimp only; first | (rw [nums_t (by first | exact out_1 (by assumption) | exact out_2 (by assumption) | (exfalso; omega)), List.length_append]; rfl) | (rw [nums_f (out_3 (by assumption) (by assumption))]; rfl)) (Nat.le_refl _)) (by first | omega | (show _ < _; omega) | (simp only []; omega)))
      · replace aK3b : _ = true := aK3b
        have aK3 := aK3b
        try simp only [decide_eq_true_eq, decide_eq_false_iff_not, Bool.not_eq_true', Bool.not_eq_false', Int.not_lt, Int.not_le] at aK3
        refine VO.opX rfl rfl rfl rfl aK3b ?_
        refine VO.opX rfl rfl rfl rfl aK3b ?_
        refine VO.opX rfl rfl rfl rfl aK3b ?_
        refine VO.opX rfl rfl rfl rfl aK3b ?_
        refine VO.val rfl rfl (OpV.pickT rfl rfl rfl rfl aK3b) ?_
        refine VO.val rfl rfl (OpV.move (.inl rfl) rfl) ?_
        refine VO.opX rfl rfl rfl rfl rfl ?_
        refine VO.opX rfl rfl rfl rfl rfl ?_
        refine VO.opX rfl rfl rfl rfl rfl ?_
        refine VO.opX rfl rfl rfl rfl rfl ?_
        refine VO.opX rfl rfl rfl rfl rfl ?_
        refine VO.val rfl rfl (OpV.pickT rfl rfl rfl rfl rfl) ?_
        refine VO.nil ?_
        show VC _ _ _ _ _
        refine VC.condT rfl rfl ?_
        refine VC.region ?_
        refine VO.val rfl rfl (OpV.move (.inl rfl) rfl) ?_
        refine VO.val rfl rfl (OpV.move (.inl rfl) rfl) ?_
        refine VO.op rfl (OpE.buildSlice (zc := #[.int .i64 0]) rfl hB rfl Tryd.underlying22 Tryd.sizeOf3 Tryd.zeroValue3 (by decide) (by decide) (by kernel_rfl) rfl rfl ?_)
        first
          | refine VO.op rfl (OpE.append1 (i := 0) rfl hB rfl Tryd.underlying22 (infoOf Tryd.t3 1 (by kernel_rfl) rfl rfl) rfl (by decide) (by decide) rfl rfl rfl rfl (intsL_snoc _ _) (by omega) (fun _ _ => trivial) ?_)
          | refine VO.op rfl (OpE.append1 (i := 1) rfl hB rfl Tryd.underlying22 (infoOf Tryd.t3 1 (by kernel_rfl) rfl rfl) rfl (by decide) (by decide) rfl rfl rfl rfl (intsL_snoc _ _) (by omega) (fun _ _ => trivial) ?_)
          | refine VO.op rfl (OpE.append1 (i := 2) rfl hB rfl Tryd.underlying22 (infoOf Tryd.t3 1 (by kernel_rfl) rfl rfl) rfl (by decide) (by decide) rfl rfl rfl rfl (intsL_snoc _ _) (by omega) (fun _ _ => trivial) ?_)
          | refine VO.op rfl (OpE.append1 (i := 3) rfl hB rfl Tryd.underlying22 (infoOf Tryd.t3 1 (by kernel_rfl) rfl rfl) rfl (by decide) (by decide) rfl rfl rfl rfl (intsL_snoc _ _) (by omega) (fun _ _ => trivial) ?_)
          | refine VO.op rfl (OpE.append1 (i := 4) rfl hB rfl Tryd.underlying22 (infoOf Tryd.t3 1 (by kernel_rfl) rfl rfl) rfl (by decide) (by decide) rfl rfl rfl rfl (intsL_snoc _ _) (by omega) (fun _ _ => trivial) ?_)
        intro u2
        refine VO.val rfl rfl (OpV.move (.inr rfl) rfl) ?_
        refine VO.nil ?_
        show VC _ _ _ _ _
        refine VC.region ?_
        refine VO.val rfl rfl (OpV.add rfl rfl rfl (by unfold fits; omega)) ?_
        refine VO.val rfl rfl (OpV.move (.inl rfl) rfl) ?_
        refine VO.nil ?_
        first
          | exact Exists.intro (⟨(u2, q + 1), by show q + 1 ≤ _; omega⟩) (And.intro (Le.mk hB [0, 1, 2] ⟨rfl, rfl, rfl, rfl, rfl, rfl, trivial⟩ rfl (by dsimp only; first | (rw [nums_t (by first | exact out_1 (by assumption) | exact out_2 (by assumption) | (exfalso; omega)), List.length_append]; rfl) | (rw [nums_f (out_3 (by assumption) (by assumption))]; rfl)) (Nat.le_refl _)) (by first | omega | (show _ < _; omega) | (simp only []; omega)))
          | exact Exists.intro (⟨(u, q + 1), by show q + 1 ≤ _; omega⟩) (And.intro (Le.mk hB [0, 1, 2] ⟨rfl, rfl, rfl, rfl, rfl, rfl, trivial⟩ rfl (by dsimp only; first | (rw [nums_t (by first | exact out_1 (by assumption) | exact out_2 (by assumption) | (exfalso; omega)), List.length_append]; rfl) | (rw [nums_f (out_3 (by assumption) (by assumption))]; rfl)) (Nat.le_refl _)) (by first | omega | (show _ < _; omega) | (simp only []; omega)))
    · replace aK2b : _ = true := aK2b
      have aK2 := aK2b
      try simp only [decide_eq_true_eq, decide_eq_false_iff_not, Bool.not_eq_true', Bool.not_eq_false', Int.not_lt, Int.not_le] at aK2
      refine VO.opX rfl rfl rfl rfl aK2b ?_
      refine VO.opX rfl rfl rfl rfl aK2b ?_
      refine VO.val rfl rfl (OpV.pickT rfl rfl rfl rfl aK2b) ?_
      refine VO.val rfl rfl (OpV.move (.inl rfl) rfl) ?_
      refine VO.opX rfl rfl rfl rfl rfl ?_
      refine VO.opX rfl rfl rfl rfl rfl ?_
      refine VO.opX rfl rfl rfl rfl rfl ?_
      refine VO.opX rfl rfl rfl rfl rfl ?_
      refine VO.opX rfl rfl rfl rfl rfl ?_
      refine VO.val rfl rfl (OpV.pickT rfl rfl rfl rfl rfl) ?_
      refine VO.val rfl rfl (OpV.move (.inl rfl) rfl) ?_
      refine VO.opX rfl rfl rfl rfl rfl ?_
      refine VO.opX rfl rfl rfl rfl rfl ?_
      refine VO.opX rfl rfl rfl rfl rfl ?_
      refine VO.opX rfl rfl rfl rfl rfl ?_
      refine VO.opX rfl rfl rfl rfl rfl ?_
      refine VO.val rfl rfl (OpV.pickT rfl rfl rfl rfl rfl) ?_
      refine VO.nil ?_
      show VC _ _ _ _ _
      refine VC.condT rfl rfl ?_
      refine VC.region ?_
      refine VO.val rfl rfl (OpV.move (.inl rfl) rfl) ?_
      refine VO.val rfl rfl (OpV.move (.inl rfl) rfl) ?_
      refine VO.op rfl (OpE.buildSlice (zc := #[.int .i64 0]) rfl hB rfl Tryd.underlying22 Tryd.sizeOf3 Tryd.zeroValue3 (by decide) (by decide) (by kernel_rfl) rfl rfl ?_)
      first
        | refine VO.op rfl (OpE.append1 (i := 0) rfl hB rfl Tryd.underlying22 (infoOf Tryd.t3 1 (by kernel_rfl) rfl rfl) rfl (by decide) (by decide) rfl rfl rfl rfl (intsL_snoc _ _) (by omega) (fun _ _ => trivial) ?_)
        | refine VO.op rfl (OpE.append1 (i := 1) rfl hB rfl Tryd.underlying22 (infoOf Tryd.t3 1 (by kernel_rfl) rfl rfl) rfl (by decide) (by decide) rfl rfl rfl rfl (intsL_snoc _ _) (by omega) (fun _ _ => trivial) ?_)
        | refine VO.op rfl (OpE.append1 (i := 2) rfl hB rfl Tryd.underlying22 (infoOf Tryd.t3 1 (by kernel_rfl) rfl rfl) rfl (by decide) (by decide) rfl rfl rfl rfl (intsL_snoc _ _) (by omega) (fun _ _ => trivial) ?_)
        | refine VO.op rfl (OpE.append1 (i := 3) rfl hB rfl Tryd.underlying22 (infoOf Tryd.t3 1 (by kernel_rfl) rfl rfl) rfl (by decide) (by decide) rfl rfl rfl rfl (intsL_snoc _ _) (by omega) (fun _ _ => trivial) ?_)
        | refine VO.op rfl (OpE.append1 (i := 4) rfl hB rfl Tryd.underlying22 (infoOf Tryd.t3 1 (by kernel_rfl) rfl rfl) rfl (by decide) (by decide) rfl rfl rfl rfl (intsL_snoc _ _) (by omega) (fun _ _ => trivial) ?_)
      intro u2
      refine VO.val rfl rfl (OpV.move (.inr rfl) rfl) ?_
      refine VO.nil ?_
      show VC _ _ _ _ _
      refine VC.region ?_
      refine VO.val rfl rfl (OpV.add rfl rfl rfl (by unfold fits; omega)) ?_
      refine VO.val rfl rfl (OpV.move (.inl rfl) rfl) ?_
      refine VO.nil ?_
      first
        | exact Exists.intro (⟨(u2, q + 1), by show q + 1 ≤ _; omega⟩) (And.intro (Le.mk hB [0, 1, 2] ⟨rfl, rfl, rfl, rfl, rfl, rfl, trivial⟩ rfl (by dsimp only; first | (rw [nums_t (by first | exact out_1 (by assumption) | exact out_2 (by assumption) | (exfalso; omega)), List.length_append]; rfl) | (rw [nums_f (out_3 (by assumption) (by assumption))]; rfl)) (Nat.le_refl _)) (by first | omega | (show _ < _; omega) | (simp only []; omega)))
        | exact Exists.intro (⟨(u, q + 1), by show q + 1 ≤ _; omega⟩) (And.intro (Le.mk hB [0, 1, 2] ⟨rfl, rfl, rfl, rfl, rfl, rfl, trivial⟩ rfl (by dsimp only; first | (rw [nums_t (by first | exact out_1 (by assumption) | exact out_2 (by assumption) | (exfalso; omega)), List.length_append]; rfl) | (rw [nums_f (out_3 (by assumption) (by assumption))]; rfl)) (Nat.le_refl _)) (by first | omega | (show _ < _; omega) | (simp only []; omega)))
  · have aH1 := aH1b
    try simp only [decide_eq_true_eq, decide_eq_false_iff_not, Bool.not_eq_true', Bool.not_eq_false', Int.not_lt, Int.not_le] at aH1
    refine VC.exit ?_
    show VC _ _ _ _ _
    refine VC.seq ?_
    have hqe : q = n.slots.length := by omega
    rw [hqe]
    refine VC.region ?_
    refine VO.val rfl rfl (OpV.move (.inl rfl) rfl) ?_
    refine VO.val rfl rfl (OpV.move (.inr rfl) rfl) ?_
    refine VO.nil ?_
    show VC _ _ _ _ _
    refine VC.ret ?_
    exact Exists.intro _ (And.intro (RetN.one Tryd.results19 (ResN.rowI (i := 2) rfl rfl rfl)) (by rw [outsR, if_pos h00, outL]))
theorem nil_pan {w : World} {Z : Nat → Prop} {u : Value} (h : Rep w Z (.agg [avI 0, avI 0, .v (.slice none 0 0)]) u) : Rep w Z (avPan ⟨0, 0, []⟩) u := by
  cases h with
  | agg cs us hl hr =>
    refine .agg _ us hl fun j hj => ?_
    match j, hj with
    | 0, _ => exact hr 0 (by simp)
    | 1, _ => exact hr 1 (by simp)
    | 2, _ =>
      have := hr 2 (by simp)
      show Rep w Z (.im 0 4 _) _
      rw [this.eq_v]; exact .nil _ _
theorem turnE_1 {p : ProdS} {n : PanS} (h : panelF p n ≠ 0) : turnE p n = panelF p n := if_pos h
theorem turnE_2 {p : ProdS} {n : PanS} (h : panelF p n = 0) : turnE p n = panF (turnP p n) := if_neg (by omega)
theorem turn_len (p : ProdS) (n : PanS) (q : Nat) : ((n.slots.take q).map (turnS p n)).length ≤ n.slots.length := by rw [List.length_map, List.length_take]; omega
theorem turn_take {p : ProdS} {n : PanS} {q : Nat} (h : q < n.slots.length) : (n.slots.take (q + 1)).map (turnS p n) = (n.slots.take q).map (turnS p n) ++ [turnS p n (n.slots.getD q default)] := by
  rw [take_snocD h default, List.map_append]; rfl
set_option maxRecDepth 100000 in
set_option maxHeartbeats 8000000 in
theorem panel_Turned {p : ProdS} {n : PanS} (hs : SmP p) (hl : n.slots.length ≤ 1000000) :
    Spec Tryd.prog 17 [avProd p, avPan n] (fun y => y = .tup [avPan (turnR p n), avI (turnE p n)]) := by
  refine Spec.of_VC Tryd.func17 rfl Tryd.ntmps17 (Nat.le_of_ble_eq_true rfl) fun w A hB => ?_
  have hnew : True := trivial
  refine VC.seq ?_
  refine VC.region ?_
  refine VO.op rfl (OpE.box rfl hB rfl rfl rfl ?_)
  intro g2
  refine VO.op rfl (OpE.box rfl hB rfl rfl rfl ?_)
  intro g3
  refine VO.op rfl (OpE.alloc rfl hB rfl Tryd.zeroValue48 rfl ?_)
  intro g4
  refine VO.val rfl rfl (OpV.move (.inr rfl) rfl) ?_
  refine VO.nil ?_
  show VC _ _ _ _ _
  refine VC.seq ?_
  refine VC.seq ?_
  refine VC.region ?_
  refine VO.val rfl rfl (OpV.loadK_own (i := 0) rfl hB Tryd.isAgg44 Tryd.sizeOf44 rfl rfl rfl (fun h => h)) ?_
  refine VO.val rfl rfl (OpV.loadK_own (i := 1) rfl hB Tryd.isAgg48 Tryd.sizeOf48 rfl rfl rfl (fun h => h)) ?_
  refine VO.op rfl (OpE.call rfl hB rfl Tryd.call54 rfl (SpecN.spec (panel_CheckPanel hs hl)) ?_)
  rintro _ rfl
  refine VO.val rfl rfl (OpV.move (.inr rfl) rfl) ?_
  refine VO.nil ?_
  show VC _ _ _ _ _
  refine VC.seq ?_
  refine VC.region ?_
  refine VO.val rfl rfl (OpV.move (.inl rfl) rfl) ?_
  refine VO.val rfl rfl (OpV.neq rfl rfl rfl) ?_
  refine VO.nil ?_
  show VC _ _ _ _ _
  refine VC.cond rfl (fun h0b => ?_) (fun h0b => ?_)
  · have h0 := h0b
    try simp only [decide_eq_true_eq, decide_eq_false_iff_not, Bool.not_eq_true', Bool.not_eq_false', Int.not_lt, Int.not_le] at h0
    refine VC.seq ?_
    refine VC.region ?_
    refine VO.val rfl rfl (OpV.build (pls := #[(0, 1), (1, 1), (2, 1)]) rfl Tryd.zeroValue48 Tryd.underlying48 (fun w => by kernel_rfl) rfl rfl) ?_
    refine VO.le _ (Le.recast (t := 18) (y := avPan ⟨0, 0, []⟩) rfl (fun w Z u h => nil_pan h)) ?_
    refine VO.val rfl rfl (OpV.move (.inl rfl) rfl) ?_
    refine VO.op rfl (OpE.store (i := 2) rfl hB rfl Tryd.sizeOf48 rfl rfl rfl rfl rfl rfl (Nat.le_of_ble_eq_true rfl) trivial ?_)
    refine VO.val rfl rfl (OpV.move (.inr rfl) rfl) ?_
    refine VO.nil ?_
    show VC _ _ _ _ _
    refine VC.ret ?_
    exact Exists.intro _ (And.intro (RetV.two Tryd.results17 ((by first | exact ResV.cellK (i := 0) Tryd.isAgg48 Tryd.sizeOf48 rfl rfl rfl | exact ResV.cellK (i := 1) Tryd.isAgg48 Tryd.sizeOf48 rfl rfl rfl | exact ResV.cellK (i := 2) Tryd.isAgg48 Tryd.sizeOf48 rfl rfl rfl)) (ResV.tmp rfl)) (by first | (rw [turnR, turnE_1 h0, if_neg h0]; rfl) | (rw [turnR, turnE_2 h00, if_neg h2]; rfl) | (rw [turnR, turnE_2 h00, if_pos (by omega), show panF (turnP p n) = 0 by omega]; rfl)))
  · have h0 := h0b
    try simp only [decide_eq_true_eq, decide_eq_false_iff_not, Bool.not_eq_true', Bool.not_eq_false', Int.not_lt, Int.not_le] at h0
    have h00 : panelF p n = 0 := by omega
    have hz := panelF_0 h00
    have hok := prodOk hz.1
    have hpn := panOk hz.2
    have hw := hok.wide
    have hh := hok.high
    have hnh := hpn.high
    have hlen := hpn.len
    refine VC.skip ?_
    show VC _ _ _ _ _
    refine VC.seq ?_
    refine VC.region ?_
    first
      | refine VO.val rfl rfl (OpV.fieldAddr_atO 1 rfl Tryd.underlying48 rfl rfl Tryd.sizeOf3 rfl rfl) ?_
      | refine VO.val rfl rfl (OpV.fieldAddrO 1 rfl Tryd.underlying48 rfl rfl Tryd.sizeOf3 rfl) ?_
    refine VO.val rfl rfl (OpV.load_own (i := 1) rfl hB Tryd.isAgg3 rfl rfl rfl (fun h => h)) ?_
    first
      | refine VO.val rfl rfl (OpV.fieldAddr_atO 0 rfl Tryd.underlying48 rfl rfl Tryd.sizeOf3 rfl rfl) ?_
      | refine VO.val rfl rfl (OpV.fieldAddrO 0 rfl Tryd.underlying48 rfl rfl Tryd.sizeOf3 rfl) ?_
    refine VO.val rfl rfl (OpV.load_own (i := 1) rfl hB Tryd.isAgg3 rfl rfl rfl (fun h => h)) ?_
    refine VO.val rfl rfl (OpV.build (pls := #[(0, 1), (1, 1), (2, 1)]) rfl Tryd.zeroValue48 Tryd.underlying48 (fun w => by kernel_rfl) rfl rfl) ?_
    refine VO.op rfl (OpE.alloc rfl hB rfl Tryd.zeroValue48 rfl ?_)
    intro g7
    refine VO.op rfl (OpE.store (i := 3) rfl hB rfl Tryd.sizeOf48 rfl rfl rfl rfl rfl rfl (Nat.le_of_ble_eq_true rfl) trivial ?_)
    refine VO.nil ?_
    show VC _ _ _ _ _
    refine VC.seq ?_
    refine VC.seq ?_
    refine VC.region ?_
    first
      | refine VO.val rfl rfl (OpV.fieldAddr_atO 2 rfl Tryd.underlying48 rfl rfl Tryd.sizeOf46 rfl rfl) ?_
      | refine VO.val rfl rfl (OpV.fieldAddrO 2 rfl Tryd.underlying48 rfl rfl Tryd.sizeOf46 rfl) ?_
    refine VO.val rfl rfl (OpV.load_own (i := 1) rfl hB Tryd.isAgg46 rfl rfl rfl (fun h => h)) ?_
    first
      | refine VO.val rfl rfl (OpV.len_im rfl Tryd.underlying46 rfl) ?_
      | refine VO.val rfl rfl (OpV.len_v rfl Tryd.underlying46 rfl) ?_
      | refine VO.val rfl rfl (OpV.len_row (i := 0) rfl Tryd.underlying46 rfl rfl) ?_
      | refine VO.val rfl rfl (OpV.len_row (i := 1) rfl Tryd.underlying46 rfl rfl) ?_
      | refine VO.val rfl rfl (OpV.len_row (i := 2) rfl Tryd.underlying46 rfl rfl) ?_
      | refine VO.val rfl rfl (OpV.len_row (i := 3) rfl Tryd.underlying46 rfl rfl) ?_
    refine VO.val rfl rfl (OpV.move (.inl rfl) rfl) ?_
    refine VO.nil ?_
    show VC _ _ _ _ _
    refine VC.block ?_
    refine VC.le _ (Le.nilRow 4 106) ?_
    refine VC.loopK [(2, _), (3, _), (4, _), (7, _), (26, _), (27, _)] ⟨rfl, rfl, rfl, rfl, rfl, rfl, trivial⟩ ({z : Option Addr × Nat × Nat // z.2.2 ≤ n.slots.length}) (fun (i : {z : Option Addr × Nat × Nat // z.2.2 ≤ n.slots.length}) => match i with | ⟨⟨b, c, q⟩, hq⟩ => [(28, avI (q : Int))]) (fun (i : {z : Option Addr × Nat × Nat // z.2.2 ≤ n.slots.length}) => match i with | ⟨⟨b, c, q⟩, hq⟩ => [boxProd g2 p 44, boxPan g3 n 48, .box g4 ⟨[avI 0, avI 0, .v (.slice none 0 0)], 48, 3⟩, .box g7 ⟨[avI n.high, avI n.wide, .v (.slice b ((n.slots.take q).map (turnS p n)).length c)], 48, 3⟩, .row (.slice b ((n.slots.take q).map (turnS p n)).length c) ((n.slots.take q).map (turnS p n)).length 4 (rowL ((n.slots.take q).map (turnS p n))) 106]) (fun (i : {z : Option Addr × Nat × Nat // z.2.2 ≤ n.slots.length}) => match i with | ⟨⟨b, c, q⟩, hq⟩ => 0) (fun (i : {z : Option Addr × Nat × Nat // z.2.2 ≤ n.slots.length}) => match i with | ⟨⟨b, c, q⟩, hq⟩ => n.slots.length - q) ⟨(none, 0, 0), Nat.zero_le _⟩ (Le.mk hB [0, 1, 2, 3, 4] ⟨rfl, rfl, rfl, rfl, rfl, rfl, rfl, trivial⟩ rfl rfl (Nat.le_refl _)) ?_
    rintro ⟨⟨b, c, q⟩, hq⟩
    show VC _ _ _ _ ⟨[(28, avI (q : Int))] ++ [(2, _), (3, _), (4, _), (7, _), (26, _), (27, _)], [boxProd g2 p 44, boxPan g3 n 48, .box g4 ⟨[avI 0, avI 0, .v (.slice none 0 0)], 48, 3⟩, .box g7 ⟨[avI n.high, avI n.wide, .v (.slice b ((n.slots.take q).map (turnS p n)).length c)], 48, 3⟩, .row (.slice b ((n.slots.take q).map (turnS p n)).length c) ((n.slots.take q).map (turnS p n)).length 4 (rowL ((n.slots.take q).map (turnS p n))) 106], 0⟩
    simp only at hq
    have htl : ((n.slots.take q).map (turnS p n)).length ≤ 100 := Nat.le_trans (turn_len p n q) hlen
    refine VC.seq ?_
    refine VC.region ?_
    refine VO.val rfl rfl (OpV.lss rfl rfl rfl) ?_
    refine VO.nil ?_
    show VC _ _ _ _ _
    refine VC.seq ?_
    refine VC.cond rfl (fun aH1b => ?_) (fun aH1b => ?_)
    · have aH1 := aH1b
      try simp only [decide_eq_true_eq, decide_eq_false_iff_not, Bool.not_eq_true', Bool.not_eq_false', Int.not_lt, Int.not_le] at aH1
      refine VC.skip ?_
      show VC _ _ _ _ _
      refine VC.seq ?_
      refine VC.block ?_
      refine VC.seq ?_
      have hsl := hpn.all q (by omega)
      have hsz := szW_bd (q := (n.slots.getD q default).quarter) hw hh
      have h4 := Int.tmod_eq_emod_of_nonneg (a := (n.slots.getD q default).quarter + 1) (b := 4) (by omega)
      refine VC.region ?_
      first
        | refine VO.val rfl rfl (OpV.indexAddr_E rfl Tryd.underlying46 Tryd.sizeOf106 rfl rfl rfl (by omega)) ?_
        | refine VO.val rfl rfl (OpV.indexAddr_E rfl Tryd.underlying46 Tryd.sizeOf106 rfl rfl (Int.toNat_of_nonneg (by omega)).symm (by omega)) ?_
        | refine VO.val rfl rfl (OpV.indexAddr_q rfl Tryd.underlying46 Tryd.sizeOf106 rfl rfl rfl (by omega)) ?_
        | refine VO.val rfl rfl (OpV.indexAddr_q rfl Tryd.underlying46 Tryd.sizeOf106 rfl rfl (Int.toNat_of_nonneg (by omega)).symm (by omega)) ?_
        | refine VO.val rfl rfl (OpV.indexAddr_im rfl Tryd.underlying46 Tryd.sizeOf106 rfl rfl (by omega) (by omega)) ?_
      first
        | refine VO.val rfl rfl (OpV.loadK_at rfl hB OutW.no Tryd.isAgg106 Tryd.sizeOf106 rfl rfl) ?_
        | refine VO.val rfl rfl (OpV.loadK_own (i := 0) rfl hB Tryd.isAgg106 Tryd.sizeOf106 rfl rfl rfl (fun h => h)) ?_
        | refine VO.val rfl rfl (OpV.loadK_own (i := 1) rfl hB Tryd.isAgg106 Tryd.sizeOf106 rfl rfl rfl (fun h => h)) ?_
        | refine VO.val rfl rfl (OpV.loadK_own (i := 2) rfl hB Tryd.isAgg106 Tryd.sizeOf106 rfl rfl rfl (fun h => h)) ?_
        | refine VO.val rfl rfl (OpV.loadK_own (i := 3) rfl hB Tryd.isAgg106 Tryd.sizeOf106 rfl rfl rfl (fun h => h)) ?_
        | refine VO.val rfl rfl (OpV.loadK_own (i := 4) rfl hB Tryd.isAgg106 Tryd.sizeOf106 rfl rfl rfl (fun h => h)) ?_
      refine VO.op rfl (OpE.alloc rfl hB rfl Tryd.zeroValue106 rfl ?_)
      intro g9
      refine VO.op rfl (OpE.store (i := 5) rfl hB rfl Tryd.sizeOf106 rfl rfl rfl rfl rfl rfl (Nat.le_of_ble_eq_true rfl) trivial ?_)
      refine VO.nil ?_
      show VC _ _ _ _ _
      refine VC.seq ?_
      refine VC.region ?_
      first
        | refine VO.val rfl rfl (OpV.loadK_at rfl hB OutW.no Tryd.isAgg44 Tryd.sizeOf44 rfl rfl) ?_
        | refine VO.val rfl rfl (OpV.loadK_own (i := 0) rfl hB Tryd.isAgg44 Tryd.sizeOf44 rfl rfl rfl (fun h => h)) ?_
        | refine VO.val rfl rfl (OpV.loadK_own (i := 1) rfl hB Tryd.isAgg44 Tryd.sizeOf44 rfl rfl rfl (fun h => h)) ?_
        | refine VO.val rfl rfl (OpV.loadK_own (i := 2) rfl hB Tryd.isAgg44 Tryd.sizeOf44 rfl rfl rfl (fun h => h)) ?_
        | refine VO.val rfl rfl (OpV.loadK_own (i := 3) rfl hB Tryd.isAgg44 Tryd.sizeOf44 rfl rfl rfl (fun h => h)) ?_
        | refine VO.val rfl rfl (OpV.loadK_own (i := 4) rfl hB Tryd.isAgg44 Tryd.sizeOf44 rfl rfl rfl (fun h => h)) ?_
        | refine VO.val rfl rfl (OpV.loadK_own (i := 5) rfl hB Tryd.isAgg44 Tryd.sizeOf44 rfl rfl rfl (fun h => h)) ?_
      first
        | refine VO.val rfl rfl (OpV.fieldAddr_atO 2 rfl Tryd.underlying106 rfl rfl Tryd.sizeOf3 rfl rfl) ?_
        | refine VO.val rfl rfl (OpV.fieldAddrO 2 rfl Tryd.underlying106 rfl rfl Tryd.sizeOf3 rfl) ?_
      refine VO.val rfl rfl (OpV.load_own (i := 5) rfl hB Tryd.isAgg3 rfl rfl rfl (fun h => h)) ?_
      refine VO.op rfl (OpE.call rfl hB rfl Tryd.call55 rfl (SpecN.spec (panel_size hsl.2.2)) ?_)
      rintro _ rfl
      refine VO.val rfl rfl (OpV.move (.inl rfl) rfl) ?_
      first
        | refine VO.val rfl rfl (OpV.extract rfl rfl rfl) ?_
        | refine VO.val rfl rfl (OpV.extract_v rfl rfl rfl) ?_
      first
        | refine VO.val rfl rfl (OpV.extract rfl rfl rfl) ?_
        | refine VO.val rfl rfl (OpV.extract_v rfl rfl rfl) ?_
      refine VO.val rfl rfl (OpV.move (.inr rfl) rfl) ?_
      refine VO.val rfl rfl (OpV.move (.inr rfl) rfl) ?_
      refine VO.nil ?_
      show VC _ _ _ _ _
      refine VC.region ?_
      first
        | refine VO.val rfl rfl (OpV.fieldAddr_atO 2 rfl Tryd.underlying48 rfl rfl Tryd.sizeOf46 rfl rfl) ?_
        | refine VO.val rfl rfl (OpV.fieldAddrO 2 rfl Tryd.underlying48 rfl rfl Tryd.sizeOf46 rfl) ?_
      first
        | refine VO.val rfl rfl (OpV.load_at rfl hB OutW.no Tryd.isAgg46 rfl rfl) ?_
        | refine VO.val rfl rfl (OpV.load_own (i := 0) rfl hB Tryd.isAgg46 rfl rfl rfl (fun h => h)) ?_
        | refine VO.val rfl rfl (OpV.load_own (i := 1) rfl hB Tryd.isAgg46 rfl rfl rfl (fun h => h)) ?_
        | refine VO.val rfl rfl (OpV.load_own (i := 2) rfl hB Tryd.isAgg46 rfl rfl rfl (fun h => h)) ?_
        | refine VO.val rfl rfl (OpV.load_own (i := 3) rfl hB Tryd.isAgg46 rfl rfl rfl (fun h => h)) ?_
        | refine VO.val rfl rfl (OpV.load_own (i := 4) rfl hB Tryd.isAgg46 rfl rfl rfl (fun h => h)) ?_
        | refine VO.val rfl rfl (OpV.load_own (i := 5) rfl hB Tryd.isAgg46 rfl rfl rfl (fun h => h)) ?_
      first
        | refine VO.val rfl rfl (OpV.fieldAddr_atO 1 rfl Tryd.underlying48 rfl rfl Tryd.sizeOf3 rfl rfl) ?_
        | refine VO.val rfl rfl (OpV.fieldAddrO 1 rfl Tryd.underlying48 rfl rfl Tryd.sizeOf3 rfl) ?_
      first
        | refine VO.val rfl rfl (OpV.load_at rfl hB OutW.no Tryd.isAgg3 rfl rfl) ?_
        | refine VO.val rfl rfl (OpV.load_own (i := 0) rfl hB Tryd.isAgg3 rfl rfl rfl (fun h => h)) ?_
        | refine VO.val rfl rfl (OpV.load_own (i := 1) rfl hB Tryd.isAgg3 rfl rfl rfl (fun h => h)) ?_
        | refine VO.val rfl rfl (OpV.load_own (i := 2) rfl hB Tryd.isAgg3 rfl rfl rfl (fun h => h)) ?_
        | refine VO.val rfl rfl (OpV.load_own (i := 3) rfl hB Tryd.isAgg3 rfl rfl rfl (fun h => h)) ?_
        | refine VO.val rfl rfl (OpV.load_own (i := 4) rfl hB Tryd.isAgg3 rfl rfl rfl (fun h => h)) ?_
        | refine VO.val rfl rfl (OpV.load_own (i := 5) rfl hB Tryd.isAgg3 rfl rfl rfl (fun h => h)) ?_
      first
        | refine VO.val rfl rfl (OpV.fieldAddr_atO 1 rfl Tryd.underlying106 rfl rfl Tryd.sizeOf3 rfl rfl) ?_
        | refine VO.val rfl rfl (OpV.fieldAddrO 1 rfl Tryd.underlying106 rfl rfl Tryd.sizeOf3 rfl) ?_
      refine VO.val rfl rfl (OpV.load_own (i := 5) rfl hB Tryd.isAgg3 rfl rfl rfl (fun h => h)) ?_
      refine VO.val rfl rfl (OpV.sub rfl rfl rfl (by unfold fits; omega)) ?_
      refine VO.val rfl rfl (OpV.move (.inl rfl) rfl) ?_
      refine VO.val rfl rfl (OpV.sub rfl rfl rfl (by unfold fits; omega)) ?_
      first
        | refine VO.val rfl rfl (OpV.fieldAddr_atO 0 rfl Tryd.underlying106 rfl rfl Tryd.sizeOf3 rfl rfl) ?_
        | refine VO.val rfl rfl (OpV.fieldAddrO 0 rfl Tryd.underlying106 rfl rfl Tryd.sizeOf3 rfl) ?_
      refine VO.val rfl rfl (OpV.load_own (i := 5) rfl hB Tryd.isAgg3 rfl rfl rfl (fun h => h)) ?_
      first
        | refine VO.val rfl rfl (OpV.fieldAddr_atO 2 rfl Tryd.underlying106 rfl rfl Tryd.sizeOf3 rfl rfl) ?_
        | refine VO.val rfl rfl (OpV.fieldAddrO 2 rfl Tryd.underlying106 rfl rfl Tryd.sizeOf3 rfl) ?_
      refine VO.val rfl rfl (OpV.load_own (i := 5) rfl hB Tryd.isAgg3 rfl rfl rfl (fun h => h)) ?_
      refine VO.val rfl rfl (OpV.add rfl rfl rfl (by unfold fits; omega)) ?_
      refine VO.val rfl rfl (OpV.rem rfl rfl rfl (by omega) (by unfold fits; omega)) ?_
      first
        | refine VO.val rfl rfl (OpV.fieldAddr_atO 3 rfl Tryd.underlying106 rfl rfl Tryd.sizeOf4 rfl rfl) ?_
        | refine VO.val rfl rfl (OpV.fieldAddrO 3 rfl Tryd.underlying106 rfl rfl Tryd.sizeOf4 rfl) ?_
      refine VO.val rfl rfl (OpV.load_own (i := 5) rfl hB Tryd.isAgg4 rfl rfl rfl (fun h => h)) ?_
      refine VO.val rfl rfl (OpV.build (pls := #[(0, 1), (1, 1), (2, 1), (3, 1)]) rfl Tryd.zeroValue106 Tryd.underlying106 (fun w => by kernel_rfl) rfl rfl) ?_
      refine VO.op rfl (OpE.buildSlice (zc := #[.int .i64 0, .int .i64 0, .int .i64 0, .bool false]) rfl hB rfl Tryd.underlying46 Tryd.sizeOf106 Tryd.zeroValue106 (by decide) (by decide) (by kernel_rfl) rfl rfl ?_)
      first
        | refine VO.op rfl (OpE.append1S (i := 0) rfl hB rfl Tryd.underlying46 (infoOf Tryd.t106 4 (by kernel_rfl) rfl rfl) rfl (by decide) (by decide) rfl rfl rfl rfl (rowL_snoc _ (turnS p n (n.slots.getD q default))) (by omega) (fun _ _ => trivial) ?_)
        | refine VO.op rfl (OpE.append1S (i := 1) rfl hB rfl Tryd.underlying46 (infoOf Tryd.t106 4 (by kernel_rfl) rfl rfl) rfl (by decide) (by decide) rfl rfl rfl rfl (rowL_snoc _ (turnS p n (n.slots.getD q default))) (by omega) (fun _ _ => trivial) ?_)
        | refine VO.op rfl (OpE.append1S (i := 2) rfl hB rfl Tryd.underlying46 (infoOf Tryd.t106 4 (by kernel_rfl) rfl rfl) rfl (by decide) (by decide) rfl rfl rfl rfl (rowL_snoc _ (turnS p n (n.slots.getD q default))) (by omega) (fun _ _ => trivial) ?_)
        | refine VO.op rfl (OpE.append1S (i := 3) rfl hB rfl Tryd.underlying46 (infoOf Tryd.t106 4 (by kernel_rfl) rfl rfl) rfl (by decide) (by decide) rfl rfl rfl rfl (rowL_snoc _ (turnS p n (n.slots.getD q default))) (by omega) (fun _ _ => trivial) ?_)
        | refine VO.op rfl (OpE.append1S (i := 4) rfl hB rfl Tryd.underlying46 (infoOf Tryd.t106 4 (by kernel_rfl) rfl rfl) rfl (by decide) (by decide) rfl rfl rfl rfl (rowL_snoc _ (turnS p n (n.slots.getD q default))) (by omega) (fun _ _ => trivial) ?_)
        | refine VO.op rfl (OpE.append1S (i := 5) rfl hB rfl Tryd.underlying46 (infoOf Tryd.t106 4 (by kernel_rfl) rfl rfl) rfl (by decide) (by decide) rfl rfl rfl rfl (rowL_snoc _ (turnS p n (n.slots.getD q default))) (by omega) (fun _ _ => trivial) ?_)
      intro b2 c2
      first
        | refine VO.val rfl rfl (OpV.fieldAddr_atO 2 rfl Tryd.underlying48 rfl rfl Tryd.sizeOf46 rfl rfl) ?_
        | refine VO.val rfl rfl (OpV.fieldAddrO 2 rfl Tryd.underlying48 rfl rfl Tryd.sizeOf46 rfl) ?_
      first
        | refine VO.op rfl (OpE.store (i := 0) rfl hB rfl Tryd.sizeOf46 rfl rfl rfl rfl rfl rfl (Nat.le_of_ble_eq_true rfl) trivial ?_)
        | refine VO.op rfl (OpE.store (i := 1) rfl hB rfl Tryd.sizeOf46 rfl rfl rfl rfl rfl rfl (Nat.le_of_ble_eq_true rfl) trivial ?_)
        | refine VO.op rfl (OpE.store (i := 2) rfl hB rfl Tryd.sizeOf46 rfl rfl rfl rfl rfl rfl (Nat.le_of_ble_eq_true rfl) trivial ?_)
        | refine VO.op rfl (OpE.store (i := 3) rfl hB rfl Tryd.sizeOf46 rfl rfl rfl rfl rfl rfl (Nat.le_of_ble_eq_true rfl) trivial ?_)
        | refine VO.op rfl (OpE.store (i := 4) rfl hB rfl Tryd.sizeOf46 rfl rfl rfl rfl rfl rfl (Nat.le_of_ble_eq_true rfl) trivial ?_)
        | refine VO.op rfl (OpE.store (i := 5) rfl hB rfl Tryd.sizeOf46 rfl rfl rfl rfl rfl rfl (Nat.le_of_ble_eq_true rfl) trivial ?_)
      refine VO.nil ?_
      show VC _ _ _ _ _
      refine VC.region ?_
      refine VO.val rfl rfl (OpV.add rfl rfl rfl (by unfold fits; omega)) ?_
      refine VO.val rfl rfl (OpV.move (.inl rfl) rfl) ?_
      refine VO.nil ?_
      exact Exists.intro (⟨(b2, c2, q + 1), by show q + 1 ≤ _; omega⟩) (And.intro (Le.mk hB [0, 1, 2, 3, 4] ⟨rfl, rfl, rfl, rfl, rfl, rfl, rfl, trivial⟩ rfl (by dsimp only; rw [turn_take (by omega), List.length_append]; rfl) (Nat.le_refl _)) (by first | omega | (show _ < _; omega) | (simp only []; omega)))
    · have aH1 := aH1b
      try simp only [decide_eq_true_eq, decide_eq_false_iff_not, Bool.not_eq_true', Bool.not_eq_false', Int.not_lt, Int.not_le] at aH1
      refine VC.exit ?_
      show VC _ _ _ _ _
      refine VC.seq ?_
      refine VC.seq ?_
      have hqe : n.slots.take q = n.slots := List.take_of_length_le (by omega)
      rw [hqe]
      refine VC.le _ (Le.cellRow (i := 3) (k := 4) (j := 2) (y := avL (turnP p n).slots) hB rfl rfl rfl (by omega) (fun w Z u h => Rep.rowL rfl h)) ?_
      refine VC.region ?_
      first
        | refine VO.val rfl rfl (OpV.loadK_at rfl hB OutW.no Tryd.isAgg48 Tryd.sizeOf48 rfl rfl) ?_
        | refine VO.val rfl rfl (OpV.loadK_own (i := 0) rfl hB Tryd.isAgg48 Tryd.sizeOf48 rfl rfl rfl (fun h => h)) ?_
        | refine VO.val rfl rfl (OpV.loadK_own (i := 1) rfl hB Tryd.isAgg48 Tryd.sizeOf48 rfl rfl rfl (fun h => h)) ?_
        | refine VO.val rfl rfl (OpV.loadK_own (i := 2) rfl hB Tryd.isAgg48 Tryd.sizeOf48 rfl rfl rfl (fun h => h)) ?_
        | refine VO.val rfl rfl (OpV.loadK_own (i := 3) rfl hB Tryd.isAgg48 Tryd.sizeOf48 rfl rfl rfl (fun h => h)) ?_
        | refine VO.val rfl rfl (OpV.loadK_own (i := 4) rfl hB Tryd.isAgg48 Tryd.sizeOf48 rfl rfl rfl (fun h => h)) ?_
      refine VO.op rfl (OpE.call rfl hB rfl Tryd.call56 rfl (SpecN.spec (panel_panelFault (n := turnP p n) (by show (n.slots.map (turnS p n)).length ≤ _; rw [List.length_map]; omega))) ?_)
      rintro _ rfl
      refine VO.val rfl rfl (OpV.move (.inr rfl) rfl) ?_
      refine VO.nil ?_
      show VC _ _ _ _ _
      refine VC.seq ?_
      refine VC.region ?_
      refine VO.val rfl rfl (OpV.move (.inl rfl) rfl) ?_
      refine VO.val rfl rfl (OpV.neq rfl rfl rfl) ?_
      refine VO.nil ?_
      show VC _ _ _ _ _
      refine VC.cond rfl (fun h2b => ?_) (fun h2b => ?_)
      · have h2 := h2b
        try simp only [decide_eq_true_eq, decide_eq_false_iff_not, Bool.not_eq_true', Bool.not_eq_false', Int.not_lt, Int.not_le] at h2
        refine VC.seq ?_
        refine VC.region ?_
        refine VO.val rfl rfl (OpV.build (pls := #[(0, 1), (1, 1), (2, 1)]) rfl Tryd.zeroValue48 Tryd.underlying48 (fun w => by kernel_rfl) rfl rfl) ?_
        refine VO.le _ (Le.recast (t := 65) (y := avPan ⟨0, 0, []⟩) rfl (fun w Z u h => nil_pan h)) ?_
        refine VO.val rfl rfl (OpV.move (.inl rfl) rfl) ?_
        first
          | refine VO.op rfl (OpE.store (i := 0) rfl hB rfl Tryd.sizeOf48 rfl rfl rfl rfl rfl rfl (Nat.le_of_ble_eq_true rfl) trivial ?_)
          | refine VO.op rfl (OpE.store (i := 1) rfl hB rfl Tryd.sizeOf48 rfl rfl rfl rfl rfl rfl (Nat.le_of_ble_eq_true rfl) trivial ?_)
          | refine VO.op rfl (OpE.store (i := 2) rfl hB rfl Tryd.sizeOf48 rfl rfl rfl rfl rfl rfl (Nat.le_of_ble_eq_true rfl) trivial ?_)
          | refine VO.op rfl (OpE.store (i := 3) rfl hB rfl Tryd.sizeOf48 rfl rfl rfl rfl rfl rfl (Nat.le_of_ble_eq_true rfl) trivial ?_)
          | refine VO.op rfl (OpE.store (i := 4) rfl hB rfl Tryd.sizeOf48 rfl rfl rfl rfl rfl rfl (Nat.le_of_ble_eq_true rfl) trivial ?_)
        refine VO.val rfl rfl (OpV.move (.inr rfl) rfl) ?_
        refine VO.nil ?_
        show VC _ _ _ _ _
        refine VC.ret ?_
        exact Exists.intro _ (And.intro (RetV.two Tryd.results17 ((by first | exact ResV.cellK (i := 0) Tryd.isAgg48 Tryd.sizeOf48 rfl rfl rfl | exact ResV.cellK (i := 1) Tryd.isAgg48 Tryd.sizeOf48 rfl rfl rfl | exact ResV.cellK (i := 2) Tryd.isAgg48 Tryd.sizeOf48 rfl rfl rfl | exact ResV.cellK (i := 3) Tryd.isAgg48 Tryd.sizeOf48 rfl rfl rfl | exact ResV.cellK (i := 4) Tryd.isAgg48 Tryd.sizeOf48 rfl rfl rfl)) (ResV.tmp rfl)) (by first | (rw [turnR, turnE_1 h0, if_neg h0]; rfl) | (rw [turnR, turnE_2 h00, if_neg h2]; rfl) | (rw [turnR, turnE_2 h00, if_pos (by omega), show panF (turnP p n) = 0 by omega]; rfl)))
      · have h2 := h2b
        try simp only [decide_eq_true_eq, decide_eq_false_iff_not, Bool.not_eq_true', Bool.not_eq_false', Int.not_lt, Int.not_le] at h2
        refine VC.skip ?_
        show VC _ _ _ _ _
        refine VC.seq ?_
        refine VC.region ?_
        first
          | refine VO.val rfl rfl (OpV.loadK_at rfl hB OutW.no Tryd.isAgg48 Tryd.sizeOf48 rfl rfl) ?_
          | refine VO.val rfl rfl (OpV.loadK_own (i := 0) rfl hB Tryd.isAgg48 Tryd.sizeOf48 rfl rfl rfl (fun h => h)) ?_
          | refine VO.val rfl rfl (OpV.loadK_own (i := 1) rfl hB Tryd.isAgg48 Tryd.sizeOf48 rfl rfl rfl (fun h => h)) ?_
          | refine VO.val rfl rfl (OpV.loadK_own (i := 2) rfl hB Tryd.isAgg48 Tryd.sizeOf48 rfl rfl rfl (fun h => h)) ?_
          | refine VO.val rfl rfl (OpV.loadK_own (i := 3) rfl hB Tryd.isAgg48 Tryd.sizeOf48 rfl rfl rfl (fun h => h)) ?_
          | refine VO.val rfl rfl (OpV.loadK_own (i := 4) rfl hB Tryd.isAgg48 Tryd.sizeOf48 rfl rfl rfl (fun h => h)) ?_
        first
          | refine VO.op rfl (OpE.store (i := 0) rfl hB rfl Tryd.sizeOf48 rfl rfl rfl rfl rfl rfl (Nat.le_of_ble_eq_true rfl) trivial ?_)
          | refine VO.op rfl (OpE.store (i := 1) rfl hB rfl Tryd.sizeOf48 rfl rfl rfl rfl rfl rfl (Nat.le_of_ble_eq_true rfl) trivial ?_)
          | refine VO.op rfl (OpE.store (i := 2) rfl hB rfl Tryd.sizeOf48 rfl rfl rfl rfl rfl rfl (Nat.le_of_ble_eq_true rfl) trivial ?_)
          | refine VO.op rfl (OpE.store (i := 3) rfl hB rfl Tryd.sizeOf48 rfl rfl rfl rfl rfl rfl (Nat.le_of_ble_eq_true rfl) trivial ?_)
          | refine VO.op rfl (OpE.store (i := 4) rfl hB rfl Tryd.sizeOf48 rfl rfl rfl rfl rfl rfl (Nat.le_of_ble_eq_true rfl) trivial ?_)
        refine VO.val rfl rfl (OpV.move (.inr rfl) rfl) ?_
        refine VO.nil ?_
        show VC _ _ _ _ _
        refine VC.ret ?_
        exact Exists.intro _ (And.intro (RetV.two Tryd.results17 ((by first | exact ResV.cellK (i := 0) Tryd.isAgg48 Tryd.sizeOf48 rfl rfl rfl | exact ResV.cellK (i := 1) Tryd.isAgg48 Tryd.sizeOf48 rfl rfl rfl | exact ResV.cellK (i := 2) Tryd.isAgg48 Tryd.sizeOf48 rfl rfl rfl | exact ResV.cellK (i := 3) Tryd.isAgg48 Tryd.sizeOf48 rfl rfl rfl | exact ResV.cellK (i := 4) Tryd.isAgg48 Tryd.sizeOf48 rfl rfl rfl)) (ResV.tmp rfl)) (by first | (rw [turnR, turnE_1 h0, if_neg h0]; rfl) | (rw [turnR, turnE_2 h00, if_neg h2]; rfl) | (rw [turnR, turnE_2 h00, if_pos (by omega), show panF (turnP p n) = 0 by omega]; rfl)))
end Go.Proofs.YtgikefjbdhnffaaDoor
