/- Walks: boards that overlap; the reference's corners. -/
import Derived.Test.YtgikefjbdhnffaaDoorPanelS
namespace Go.Proofs.YtgikefjbdhnffaaDoor
open Go.RowKit
set_option linter.unusedVariables false
set_option linter.unusedSimpArgs false
theorem rowN_t {α : Type} [Inhabited α] {f : α → α → Bool} {l : List α} {i k : Nat} (h : i < k) (e : f (l.getD i default) (l.getD k default) = true) : rowN f l i (k + 1) = rowN f l i k ++ [⟨(i : Int), (k : Int)⟩] := by rw [rowN_succ f l h, if_pos e]
theorem rowN_f {α : Type} [Inhabited α] {f : α → α → Bool} {l : List α} {i k : Nat} (h : i < k) (e : f (l.getD i default) (l.getD k default) = false) : rowN f l i (k + 1) = rowN f l i k := by rw [rowN_succ f l h, if_neg (by rw [e]; simp), List.append_nil]
theorem ov_t {p : ProdS} {a b : SlotS} (h1 : decide (a.x < b.x + szW p b.quarter) = true) (h2 : decide (b.x < a.x + szW p a.quarter) = true) (h3 : decide (a.y < b.y + szH p b.quarter) = true) (h4 : decide (b.y < a.y + szH p a.quarter) = true) : ovO p a b = true := by
  unfold ovO; rw [h1, h2, h3, h4]; rfl
theorem ov_1 {p : ProdS} {a b : SlotS} (h1 : decide (a.x < b.x + szW p b.quarter) = false) : ovO p a b = false := by unfold ovO; rw [h1]; rfl
theorem ov_2 {p : ProdS} {a b : SlotS} (h2 : decide (b.x < a.x + szW p a.quarter) = false) : ovO p a b = false := by unfold ovO; rw [h2]; simp
theorem ov_3 {p : ProdS} {a b : SlotS} (h3 : decide (a.y < b.y + szH p b.quarter) = false) : ovO p a b = false := by unfold ovO; rw [h3]; simp
theorem ov_4 {p : ProdS} {a b : SlotS} (h4 : decide (b.y < a.y + szH p a.quarter) = false) : ovO p a b = false := by unfold ovO; rw [h4]; simp
def accN {α : Type} [Inhabited α] (f : α → α → Bool) (l : List α) (q k : Nat) : List IPair := pairN f l q ++ rowN f l q k
theorem accN_0 {α : Type} [Inhabited α] (f : α → α → Bool) (l : List α) (q : Nat) : accN f l q (q + 1) = pairN f l q := by rw [accN, rowN_0, List.append_nil]
theorem accN_t {α : Type} [Inhabited α] {f : α → α → Bool} {l : List α} {q k : Nat} (h : q < k) (e : f (l.getD q default) (l.getD k default) = true) : accN f l q (k + 1) = accN f l q k ++ [⟨(q : Int), (k : Int)⟩] := by rw [accN, rowN_t h e, accN, List.append_assoc]
theorem accN_f {α : Type} [Inhabited α] {f : α → α → Bool} {l : List α} {q k : Nat} (h : q < k) (e : f (l.getD q default) (l.getD k default) = false) : accN f l q (k + 1) = accN f l q k := by rw [accN, rowN_f h e, accN]
theorem accN_all {α : Type} [Inhabited α] {f : α → α → Bool} {l : List α} {q k : Nat} (h : q < k) (h1 : k ≤ max (q + 1) l.length) (h2 : l.length ≤ k) : accN f l q k = pairN f l (q + 1) := by
  rw [pairN_succ, accN, show max (q + 1) l.length = k by omega]
theorem accN_len {α : Type} [Inhabited α] {f : α → α → Bool} {l : List α} {q k : Nat} (hq : q < l.length) (hk : k ≤ max (q + 1) l.length) (hl : l.length ≤ 1000) : (accN f l q k).length ≤ 2000000 := by
  rw [accN, List.length_append]
  have h1 := pairN_len f l q (by omega)
  have h2 := rowN_len f l q k
  have h3 : q * l.length ≤ 1000 * 1000 := Nat.mul_le_mul (by omega) hl
  omega
set_option maxRecDepth 100000 in
set_option maxHeartbeats 8000000 in
theorem panel_Overlaps {p : ProdS} {n : PanS} (hs : SmP p) (hl : n.slots.length ≤ 1000000) :
    SpecN Tryd.prog 16 [avProd p, avPan n] (fun y => y = .tup [avL (ovsR p n), avI (panelF p n)]) := by
  refine SpecN.of_VCN Tryd.func16 rfl Tryd.ntmps16 (Nat.le_of_ble_eq_true rfl) fun w A hB => ?_
  have hnew : True := trivial
  refine VC.seq ?_
  refine VC.region ?_
  refine VO.op rfl (OpE.box rfl hB rfl rfl rfl ?_)
  intro g2
  refine VO.op rfl (OpE.box rfl hB rfl rfl rfl ?_)
  intro g3
  refine VO.val rfl rfl (OpV.move (.inr rfl) rfl) ?_
  refine VO.val rfl rfl (OpV.move (.inr rfl) rfl) ?_
  refine VO.nil ?_
  show VC _ _ _ _ _
  refine VC.seq ?_
  refine VC.seq ?_
  refine VC.region ?_
  refine VO.val rfl rfl (OpV.loadK_own (i := 0) rfl hB Tryd.isAgg44 Tryd.sizeOf44 rfl rfl rfl (fun h => h)) ?_
  refine VO.val rfl rfl (OpV.loadK_own (i := 1) rfl hB Tryd.isAgg48 Tryd.sizeOf48 rfl rfl rfl (fun h => h)) ?_
  refine VO.op rfl (OpE.call rfl hB rfl Tryd.call54 rfl (SpecN.spec (panel_CheckPanel hs hl)) ?_)
  rintro _ rfl
  refine VO.val rfl rfl (OpV.move (.inr rfl) rfl) ?_
  refine VO.nil ?_
  show VC _ _ _ _ _
  refine VC.seq ?_
  refine VC.region ?_
  refine VO.val rfl rfl (OpV.move (.inl rfl) rfl) ?_
  refine VO.val rfl rfl (OpV.neq rfl rfl rfl) ?_
  refine VO.nil ?_
  show VC _ _ _ _ _
  refine VC.cond rfl (fun h0b => ?_) (fun h0b => ?_)
  · have h0 := h0b
    try simp only [decide_eq_true_eq, decide_eq_false_iff_not, Bool.not_eq_true', Bool.not_eq_false', Int.not_lt, Int.not_le] at h0
    refine VC.seq ?_
    refine VC.region ?_
    refine VO.val rfl rfl (OpV.move (.inl rfl) rfl) ?_
    refine VO.val rfl rfl (OpV.move (.inr rfl) rfl) ?_
    refine VO.val rfl rfl (OpV.move (.inr rfl) rfl) ?_
    refine VO.nil ?_
    show VC _ _ _ _ _
    refine VC.ret ?_
    exact Exists.intro _ (And.intro (RetN.two Tryd.results16 (ResN.nilE rfl) (ResN.v rfl)) (by rw [ovsR_no h0]; rfl))
  · have h0 := h0b
    try simp only [decide_eq_true_eq, decide_eq_false_iff_not, Bool.not_eq_true', Bool.not_eq_false', Int.not_lt, Int.not_le] at h0
    have h00 : panelF p n = 0 := by omega
    have hz := panelF_0 h00
    have hok := prodOk hz.1
    have hpn := panOk hz.2
    have hw := hok.wide
    have hh := hok.high
    have hlen := hpn.len
    refine VC.skip ?_
    show VC _ _ _ _ _
    refine VC.seq ?_
    refine VC.region ?_
    refine VO.val rfl rfl (OpV.move (.inr rfl) rfl) ?_
    refine VO.nil ?_
    show VC _ _ _ _ _
    refine VC.seq ?_
    refine VC.seq ?_
    refine VC.region ?_
    first
      | refine VO.val rfl rfl (OpV.fieldAddr_atO 2 rfl Tryd.underlying48 rfl rfl Tryd.sizeOf46 rfl rfl) ?_
      | refine VO.val rfl rfl (OpV.fieldAddrO 2 rfl Tryd.underlying48 rfl rfl Tryd.sizeOf46 rfl) ?_
    refine VO.val rfl rfl (OpV.load_own (i := 1) rfl hB Tryd.isAgg46 rfl rfl rfl (fun h => h)) ?_
    first
      | refine VO.val rfl rfl (OpV.len_im rfl Tryd.underlying46 rfl) ?_
      | refine VO.val rfl rfl (OpV.len_v rfl Tryd.underlying46 rfl) ?_
      | refine VO.val rfl rfl (OpV.len_row (i := 0) rfl Tryd.underlying46 rfl rfl) ?_
      | refine VO.val rfl rfl (OpV.len_row (i := 1) rfl Tryd.underlying46 rfl rfl) ?_
    refine VO.val rfl rfl (OpV.move (.inl rfl) rfl) ?_
    refine VO.nil ?_
    show VC _ _ _ _ _
    refine VC.block ?_
    refine VC.le _ (Le.nilRow 2 62) ?_
    refine VC.loopK [(2, _), (3, _), (23, _), (24, _)] ⟨rfl, rfl, rfl, rfl, trivial⟩ ({z : Value × Nat // z.2 ≤ n.slots.length}) (fun (i : {z : Value × Nat // z.2 ≤ n.slots.length}) => match i with | ⟨⟨u, q⟩, hq⟩ => [(7, .v u), (25, avI (q : Int))]) (fun (i : {z : Value × Nat // z.2 ≤ n.slots.length}) => match i with | ⟨⟨u, q⟩, hq⟩ => [boxProd g2 p 44, boxPan g3 n 48, .row u (pairN (ovO p) n.slots q).length 2 (rowL (pairN (ovO p) n.slots q)) 62]) (fun (i : {z : Value × Nat // z.2 ≤ n.slots.length}) => match i with | ⟨⟨u, q⟩, hq⟩ => 0) (fun (i : {z : Value × Nat // z.2 ≤ n.slots.length}) => match i with | ⟨⟨u, q⟩, hq⟩ => n.slots.length - q) ⟨(.slice none 0 0, 0), Nat.zero_le _⟩ (Le.mk hB [0, 1, 2] ⟨rfl, rfl, rfl, rfl, rfl, rfl, trivial⟩ rfl rfl (Nat.le_refl _)) ?_
    rintro ⟨⟨u, q⟩, hq⟩
    show VC _ _ _ _ ⟨[(7, .v u), (25, avI (q : Int))] ++ [(2, _), (3, _), (23, _), (24, _)], [boxProd g2 p 44, boxPan g3 n 48, .row u (pairN (ovO p) n.slots q).length 2 (rowL (pairN (ovO p) n.slots q)) 62], 0⟩
    simp only at hq
    refine VC.seq ?_
    refine VC.region ?_
    refine VO.val rfl rfl (OpV.lss rfl rfl rfl) ?_
    refine VO.nil ?_
    show VC _ _ _ _ _
    refine VC.seq ?_
    refine VC.cond rfl (fun aH1b => ?_) (fun aH1b => ?_)
    · have aH1 := aH1b
      try simp only [decide_eq_true_eq, decide_eq_false_iff_not, Bool.not_eq_true', Bool.not_eq_false', Int.not_lt, Int.not_le] at aH1
      refine VC.skip ?_
      show VC _ _ _ _ _
      refine VC.seq ?_
      refine VC.block ?_
      refine VC.seq ?_
      refine VC.region ?_
      refine VO.val rfl rfl (OpV.move (.inl rfl) rfl) ?_
      first
        | refine VO.val rfl rfl (OpV.indexAddr_E rfl Tryd.underlying46 Tryd.sizeOf106 rfl rfl rfl (by omega)) ?_
        | refine VO.val rfl rfl (OpV.indexAddr_E rfl Tryd.underlying46 Tryd.sizeOf106 rfl rfl (Int.toNat_of_nonneg (by omega)).symm (by omega)) ?_
        | refine VO.val rfl rfl (OpV.indexAddr_q rfl Tryd.underlying46 Tryd.sizeOf106 rfl rfl rfl (by omega)) ?_
        | refine VO.val rfl rfl (OpV.indexAddr_q rfl Tryd.underlying46 Tryd.sizeOf106 rfl rfl (Int.toNat_of_nonneg (by omega)).symm (by omega)) ?_
        | refine VO.val rfl rfl (OpV.indexAddr_im rfl Tryd.underlying46 Tryd.sizeOf106 rfl rfl (by omega) (by omega)) ?_
      first
        | refine VO.val rfl rfl (OpV.loadK_at rfl hB OutW.no Tryd.isAgg106 Tryd.sizeOf106 rfl rfl) ?_
        | refine VO.val rfl rfl (OpV.loadK_own (i := 0) rfl hB Tryd.isAgg106 Tryd.sizeOf106 rfl rfl rfl (fun h => h)) ?_
        | refine VO.val rfl rfl (OpV.loadK_own (i := 1) rfl hB Tryd.isAgg106 Tryd.sizeOf106 rfl rfl rfl (fun h => h)) ?_
        | refine VO.val rfl rfl (OpV.loadK_own (i := 2) rfl hB Tryd.isAgg106 Tryd.sizeOf106 rfl rfl rfl (fun h => h)) ?_
      refine VO.op rfl (OpE.alloc rfl hB rfl Tryd.zeroValue106 rfl ?_)
      intro g9
      refine VO.val rfl rfl (OpV.move (.inr rfl) rfl) ?_
      refine VO.op rfl (OpE.store (i := 3) rfl hB rfl Tryd.sizeOf106 rfl rfl rfl rfl rfl rfl (Nat.le_of_ble_eq_true rfl) trivial ?_)
      refine VO.nil ?_
      show VC _ _ _ _ _
      refine VC.seq ?_
      have hsl := hpn.all q (by omega)
      have hsz := szW_bd (q := (n.slots.getD q default).quarter) hw hh
      refine VC.region ?_
      first
        | refine VO.val rfl rfl (OpV.loadK_at rfl hB OutW.no Tryd.isAgg44 Tryd.sizeOf44 rfl rfl) ?_
        | refine VO.val rfl rfl (OpV.loadK_own (i := 0) rfl hB Tryd.isAgg44 Tryd.sizeOf44 rfl rfl rfl (fun h => h)) ?_
        | refine VO.val rfl rfl (OpV.loadK_own (i := 1) rfl hB Tryd.isAgg44 Tryd.sizeOf44 rfl rfl rfl (fun h => h)) ?_
        | refine VO.val rfl rfl (OpV.loadK_own (i := 2) rfl hB Tryd.isAgg44 Tryd.sizeOf44 rfl rfl rfl (fun h => h)) ?_
        | refine VO.val rfl rfl (OpV.loadK_own (i := 3) rfl hB Tryd.isAgg44 Tryd.sizeOf44 rfl rfl rfl (fun h => h)) ?_
      first
        | refine VO.val rfl rfl (OpV.fieldAddr_atO 2 rfl Tryd.underlying106 rfl rfl Tryd.sizeOf3 rfl rfl) ?_
        | refine VO.val rfl rfl (OpV.fieldAddrO 2 rfl Tryd.underlying106 rfl rfl Tryd.sizeOf3 rfl) ?_
      refine VO.val rfl rfl (OpV.load_own (i := 3) rfl hB Tryd.isAgg3 rfl rfl rfl (fun h => h)) ?_
      refine VO.op rfl (OpE.call rfl hB rfl Tryd.call55 rfl (SpecN.spec (panel_size hsl.2.2)) ?_)
      rintro _ rfl
      refine VO.val rfl rfl (OpV.move (.inl rfl) rfl) ?_
      first
        | refine VO.val rfl rfl (OpV.extract rfl rfl rfl) ?_
        | refine VO.val rfl rfl (OpV.extract_v rfl rfl rfl) ?_
      first
        | refine VO.val rfl rfl (OpV.extract rfl rfl rfl) ?_
        | refine VO.val rfl rfl (OpV.extract_v rfl rfl rfl) ?_
      refine VO.val rfl rfl (OpV.move (.inr rfl) rfl) ?_
      refine VO.val rfl rfl (OpV.move (.inr rfl) rfl) ?_
      refine VO.nil ?_
      show VC _ _ _ _ _
      refine VC.seq ?_
      refine VC.region ?_
      refine VO.val rfl rfl (OpV.move (.inl rfl) rfl) ?_
      refine VO.val rfl rfl (OpV.add rfl rfl rfl (by unfold fits; omega)) ?_
      refine VO.val rfl rfl (OpV.move (.inr rfl) rfl) ?_
      refine VO.nil ?_
      show VC _ _ _ _ _
      refine VC.block ?_
      refine VC.loopK [(2, _), (3, _), (8, _), (9, _), (10, _), (11, _), (23, _), (24, _), (25, _)] ⟨rfl, rfl, rfl, rfl, rfl, rfl, rfl, rfl, rfl, trivial⟩ ({z : Value × Nat // q < z.2 ∧ z.2 ≤ max (q + 1) n.slots.length}) (fun (i : {z : Value × Nat // q < z.2 ∧ z.2 ≤ max (q + 1) n.slots.length}) => match i with | ⟨⟨u, k⟩, hk1, hk2⟩ => [(7, .v u), (12, avI (k : Int))]) (fun (i : {z : Value × Nat // q < z.2 ∧ z.2 ≤ max (q + 1) n.slots.length}) => match i with | ⟨⟨u, k⟩, hk1, hk2⟩ => [boxProd g2 p 44, boxPan g3 n 48, .row u (accN (ovO p) n.slots q k).length 2 (rowL (accN (ovO p) n.slots q k)) 62, .box g9 ⟨[avI (n.slots.getD q default).x, avI (n.slots.getD q default).y, avI (n.slots.getD q default).quarter, avB (n.slots.getD q default).skip], 106, 4⟩]) (fun (i : {z : Value × Nat // q < z.2 ∧ z.2 ≤ max (q + 1) n.slots.length}) => match i with | ⟨⟨u, k⟩, hk1, hk2⟩ => 0) (fun (i : {z : Value × Nat // q < z.2 ∧ z.2 ≤ max (q + 1) n.slots.length}) => match i with | ⟨⟨u, k⟩, hk1, hk2⟩ => max (q + 1) n.slots.length - k) ⟨(u, q + 1), by show q < q + 1; omega, by show q + 1 ≤ _; omega⟩ (Le.mk hB [0, 1, 2, 3] ⟨rfl, rfl, rfl, rfl, rfl, rfl, rfl, rfl, rfl, rfl, rfl, trivial⟩ rfl (by dsimp only; rw [accN_0]; rfl) (Nat.le_refl _)) ?_
      rintro ⟨⟨u, k⟩, hk1, hk2⟩
      show VC _ _ _ _ ⟨[(7, .v u), (12, avI (k : Int))] ++ [(2, _), (3, _), (8, _), (9, _), (10, _), (11, _), (23, _), (24, _), (25, _)], [boxProd g2 p 44, boxPan g3 n 48, .row u (accN (ovO p) n.slots q k).length 2 (rowL (accN (ovO p) n.slots q k)) 62, .box g9 ⟨[avI (n.slots.getD q default).x, avI (n.slots.getD q default).y, avI (n.slots.getD q default).quarter, avB (n.slots.getD q default).skip], 106, 4⟩], 0⟩
      simp only at hk1 hk2
      have hal := accN_len (f := ovO p) (l := n.slots) (q := q) (k := k) (by omega) hk2 (by omega)
      refine VC.seq ?_
      refine VC.seq ?_
      refine VC.region ?_
      refine VO.val rfl rfl (OpV.move (.inl rfl) rfl) ?_
      first
        | refine VO.val rfl rfl (OpV.fieldAddr_atO 2 rfl Tryd.underlying48 rfl rfl Tryd.sizeOf46 rfl rfl) ?_
        | refine VO.val rfl rfl (OpV.fieldAddrO 2 rfl Tryd.underlying48 rfl rfl Tryd.sizeOf46 rfl) ?_
      first
        | refine VO.val rfl rfl (OpV.load_at rfl hB OutW.no Tryd.isAgg46 rfl rfl) ?_
        | refine VO.val rfl rfl (OpV.load_own (i := 0) rfl hB Tryd.isAgg46 rfl rfl rfl (fun h => h)) ?_
        | refine VO.val rfl rfl (OpV.load_own (i := 1) rfl hB Tryd.isAgg46 rfl rfl rfl (fun h => h)) ?_
        | refine VO.val rfl rfl (OpV.load_own (i := 2) rfl hB Tryd.isAgg46 rfl rfl rfl (fun h => h)) ?_
        | refine VO.val rfl rfl (OpV.load_own (i := 3) rfl hB Tryd.isAgg46 rfl rfl rfl (fun h => h)) ?_
      first
        | refine VO.val rfl rfl (OpV.len_im rfl Tryd.underlying46 rfl) ?_
        | refine VO.val rfl rfl (OpV.len_v rfl Tryd.underlying46 rfl) ?_
        | refine VO.val rfl rfl (OpV.len_row (i := 0) rfl Tryd.underlying46 rfl rfl) ?_
        | refine VO.val rfl rfl (OpV.len_row (i := 1) rfl Tryd.underlying46 rfl rfl) ?_
        | refine VO.val rfl rfl (OpV.len_row (i := 2) rfl Tryd.underlying46 rfl rfl) ?_
        | refine VO.val rfl rfl (OpV.len_row (i := 3) rfl Tryd.underlying46 rfl rfl) ?_
      refine VO.val rfl rfl (OpV.lss rfl rfl rfl) ?_
      refine VO.nil ?_
      show VC _ _ _ _ _
      refine VC.cond rfl (fun aH2b => ?_) (fun aH2b => ?_)
      · have aH2 := aH2b
        try simp only [decide_eq_true_eq, decide_eq_false_iff_not, Bool.not_eq_true', Bool.not_eq_false', Int.not_lt, Int.not_le] at aH2
        refine VC.skip ?_
        show VC _ _ _ _ _
        refine VC.seq ?_
        refine VC.block ?_
        refine VC.seq ?_
        refine VC.region ?_
        first
          | refine VO.val rfl rfl (OpV.fieldAddr_atO 2 rfl Tryd.underlying48 rfl rfl Tryd.sizeOf46 rfl rfl) ?_
          | refine VO.val rfl rfl (OpV.fieldAddrO 2 rfl Tryd.underlying48 rfl rfl Tryd.sizeOf46 rfl) ?_
        first
          | refine VO.val rfl rfl (OpV.load_at rfl hB OutW.no Tryd.isAgg46 rfl rfl) ?_
          | refine VO.val rfl rfl (OpV.load_own (i := 0) rfl hB Tryd.isAgg46 rfl rfl rfl (fun h => h)) ?_
          | refine VO.val rfl rfl (OpV.load_own (i := 1) rfl hB Tryd.isAgg46 rfl rfl rfl (fun h => h)) ?_
          | refine VO.val rfl rfl (OpV.load_own (i := 2) rfl hB Tryd.isAgg46 rfl rfl rfl (fun h => h)) ?_
          | refine VO.val rfl rfl (OpV.load_own (i := 3) rfl hB Tryd.isAgg46 rfl rfl rfl (fun h => h)) ?_
        refine VO.val rfl rfl (OpV.move (.inl rfl) rfl) ?_
        first
          | refine VO.val rfl rfl (OpV.indexAddr_E rfl Tryd.underlying46 Tryd.sizeOf106 rfl rfl rfl (by omega)) ?_
          | refine VO.val rfl rfl (OpV.indexAddr_E rfl Tryd.underlying46 Tryd.sizeOf106 rfl rfl (Int.toNat_of_nonneg (by omega)).symm (by omega)) ?_
          | refine VO.val rfl rfl (OpV.indexAddr_q rfl Tryd.underlying46 Tryd.sizeOf106 rfl rfl rfl (by omega)) ?_
          | refine VO.val rfl rfl (OpV.indexAddr_q rfl Tryd.underlying46 Tryd.sizeOf106 rfl rfl (Int.toNat_of_nonneg (by omega)).symm (by omega)) ?_
          | refine VO.val rfl rfl (OpV.indexAddr_im rfl Tryd.underlying46 Tryd.sizeOf106 rfl rfl (by omega) (by omega)) ?_
        first
          | refine VO.val rfl rfl (OpV.loadK_at rfl hB OutW.no Tryd.isAgg106 Tryd.sizeOf106 rfl rfl) ?_
          | refine VO.val rfl rfl (OpV.loadK_own (i := 0) rfl hB Tryd.isAgg106 Tryd.sizeOf106 rfl rfl rfl (fun h => h)) ?_
          | refine VO.val rfl rfl (OpV.loadK_own (i := 1) rfl hB Tryd.isAgg106 Tryd.sizeOf106 rfl rfl rfl (fun h => h)) ?_
          | refine VO.val rfl rfl (OpV.loadK_own (i := 2) rfl hB Tryd.isAgg106 Tryd.sizeOf106 rfl rfl rfl (fun h => h)) ?_
          | refine VO.val rfl rfl (OpV.loadK_own (i := 3) rfl hB Tryd.isAgg106 Tryd.sizeOf106 rfl rfl rfl (fun h => h)) ?_
        refine VO.op rfl (OpE.alloc rfl hB rfl Tryd.zeroValue106 rfl ?_)
        intro g13
        refine VO.op rfl (OpE.store (i := 4) rfl hB rfl Tryd.sizeOf106 rfl rfl rfl rfl rfl rfl (Nat.le_of_ble_eq_true rfl) trivial ?_)
        refine VO.nil ?_
        show VC _ _ _ _ _
        refine VC.seq ?_
        have hsl2 := hpn.all k (by omega)
        have hsz2 := szW_bd (q := (n.slots.getD k default).quarter) hw hh
        refine VC.region ?_
        first
          | refine VO.val rfl rfl (OpV.loadK_at rfl hB OutW.no Tryd.isAgg44 Tryd.sizeOf44 rfl rfl) ?_
          | refine VO.val rfl rfl (OpV.loadK_own (i := 0) rfl hB Tryd.isAgg44 Tryd.sizeOf44 rfl rfl rfl (fun h => h)) ?_
          | refine VO.val rfl rfl (OpV.loadK_own (i := 1) rfl hB Tryd.isAgg44 Tryd.sizeOf44 rfl rfl rfl (fun h => h)) ?_
          | refine VO.val rfl rfl (OpV.loadK_own (i := 2) rfl hB Tryd.isAgg44 Tryd.sizeOf44 rfl rfl rfl (fun h => h)) ?_
          | refine VO.val rfl rfl (OpV.loadK_own (i := 3) rfl hB Tryd.isAgg44 Tryd.sizeOf44 rfl rfl rfl (fun h => h)) ?_
          | refine VO.val rfl rfl (OpV.loadK_own (i := 4) rfl hB Tryd.isAgg44 Tryd.sizeOf44 rfl rfl rfl (fun h => h)) ?_
        first
          | refine VO.val rfl rfl (OpV.fieldAddr_atO 2 rfl Tryd.underlying106 rfl rfl Tryd.sizeOf3 rfl rfl) ?_
          | refine VO.val rfl rfl (OpV.fieldAddrO 2 rfl Tryd.underlying106 rfl rfl Tryd.sizeOf3 rfl) ?_
        refine VO.val rfl rfl (OpV.load_own (i := 4) rfl hB Tryd.isAgg3 rfl rfl rfl (fun h => h)) ?_
        refine VO.op rfl (OpE.call rfl hB rfl Tryd.call55 rfl (SpecN.spec (panel_size hsl2.2.2)) ?_)
        rintro _ rfl
        refine VO.val rfl rfl (OpV.move (.inl rfl) rfl) ?_
        first
          | refine VO.val rfl rfl (OpV.extract rfl rfl rfl) ?_
          | refine VO.val rfl rfl (OpV.extract_v rfl rfl rfl) ?_
        first
          | refine VO.val rfl rfl (OpV.extract rfl rfl rfl) ?_
          | refine VO.val rfl rfl (OpV.extract_v rfl rfl rfl) ?_
        refine VO.val rfl rfl (OpV.move (.inr rfl) rfl) ?_
        refine VO.val rfl rfl (OpV.move (.inr rfl) rfl) ?_
        refine VO.nil ?_
        show VC _ _ _ _ _
        refine VC.seq ?_
        refine VC.region ?_
        first
          | refine VO.val rfl rfl (OpV.fieldAddr_atO 0 rfl Tryd.underlying106 rfl rfl Tryd.sizeOf3 rfl rfl) ?_
          | refine VO.val rfl rfl (OpV.fieldAddrO 0 rfl Tryd.underlying106 rfl rfl Tryd.sizeOf3 rfl) ?_
        first
          | refine VO.val rfl rfl (OpV.load_at rfl hB OutW.no Tryd.isAgg3 rfl rfl) ?_
          | refine VO.val rfl rfl (OpV.load_own (i := 0) rfl hB Tryd.isAgg3 rfl rfl rfl (fun h => h)) ?_
          | refine VO.val rfl rfl (OpV.load_own (i := 1) rfl hB Tryd.isAgg3 rfl rfl rfl (fun h => h)) ?_
          | refine VO.val rfl rfl (OpV.load_own (i := 2) rfl hB Tryd.isAgg3 rfl rfl rfl (fun h => h)) ?_
          | refine VO.val rfl rfl (OpV.load_own (i := 3) rfl hB Tryd.isAgg3 rfl rfl rfl (fun h => h)) ?_
          | refine VO.val rfl rfl (OpV.load_own (i := 4) rfl hB Tryd.isAgg3 rfl rfl rfl (fun h => h)) ?_
        first
          | refine VO.val rfl rfl (OpV.fieldAddr_atO 0 rfl Tryd.underlying106 rfl rfl Tryd.sizeOf3 rfl rfl) ?_
          | refine VO.val rfl rfl (OpV.fieldAddrO 0 rfl Tryd.underlying106 rfl rfl Tryd.sizeOf3 rfl) ?_
        refine VO.val rfl rfl (OpV.load_own (i := 4) rfl hB Tryd.isAgg3 rfl rfl rfl (fun h => h)) ?_
        refine VO.val rfl rfl (OpV.move (.inl rfl) rfl) ?_
        refine VO.val rfl rfl (OpV.add rfl rfl rfl (by unfold fits; omega)) ?_
        refine VO.val rfl rfl (OpV.lss rfl rfl rfl) ?_
        refine VO.val rfl rfl (OpV.move (.inl rfl) rfl) ?_
        refine VO.opG rfl rfl rfl rfl (fun aK3b => ?_) (fun aK3b => ?_)
        · replace aK3b : _ = true := aK3b
          have aK3 := aK3b
          try simp only [decide_eq_true_eq, decide_eq_false_iff_not, Bool.not_eq_true', Bool.not_eq_false', Int.not_lt, Int.not_le] at aK3
          first
            | refine OpE.val (W := NoB) (OpV.fieldAddr_atO 0 rfl Tryd.underlying106 rfl rfl Tryd.sizeOf3 rfl rfl) rfl ?_
            | refine OpE.val (W := NoB) (OpV.fieldAddrO 0 rfl Tryd.underlying106 rfl rfl Tryd.sizeOf3 rfl) rfl ?_
          refine VO.opY rfl rfl rfl rfl aK3b ?_
          refine OpE.val (W := NoB) (OpV.load_own (i := 4) rfl hB Tryd.isAgg3 rfl rfl rfl (fun h => h)) rfl ?_
          refine VO.opY rfl rfl rfl rfl aK3b ?_
          first
            | refine OpE.val (W := NoB) (OpV.fieldAddr_atO 0 rfl Tryd.underlying106 rfl rfl Tryd.sizeOf3 rfl rfl) rfl ?_
            | refine OpE.val (W := NoB) (OpV.fieldAddrO 0 rfl Tryd.underlying106 rfl rfl Tryd.sizeOf3 rfl) rfl ?_
          refine VO.opY rfl rfl rfl rfl aK3b ?_
          first
            | refine OpE.val (W := NoB) (OpV.load_at rfl hB OutW.no Tryd.isAgg3 rfl rfl) rfl ?_
            | refine OpE.val (W := NoB) (OpV.load_own (i := 0) rfl hB Tryd.isAgg3 rfl rfl rfl (fun h => h)) rfl ?_
            | refine OpE.val (W := NoB) (OpV.load_own (i := 1) rfl hB Tryd.isAgg3 rfl rfl rfl (fun h => h)) rfl ?_
            | refine OpE.val (W := NoB) (OpV.load_own (i := 2) rfl hB Tryd.isAgg3 rfl rfl rfl (fun h => h)) rfl ?_
            | refine OpE.val (W := NoB) (OpV.load_own (i := 3) rfl hB Tryd.isAgg3 rfl rfl rfl (fun h => h)) rfl ?_
            | refine OpE.val (W := NoB) (OpV.load_own (i := 4) rfl hB Tryd.isAgg3 rfl rfl rfl (fun h => h)) rfl ?_
          refine VO.opY rfl rfl rfl rfl aK3b ?_
          refine OpE.val (W := NoB) (OpV.move (.inl rfl) rfl) rfl ?_
          refine VO.opY rfl rfl rfl rfl aK3b ?_
          refine OpE.val (W := NoB) (OpV.add rfl rfl rfl (by unfold fits; omega)) rfl ?_
          refine VO.opY rfl rfl rfl rfl aK3b ?_
          refine OpE.val (W := NoB) (OpV.lss rfl rfl rfl) rfl ?_
          refine VO.val rfl rfl (OpV.pickT rfl rfl rfl rfl aK3b) ?_
          refine VO.val rfl rfl (OpV.move (.inl rfl) rfl) ?_
          refine VO.opG rfl rfl rfl rfl (fun aK4b => ?_) (fun aK4b => ?_)
          · replace aK4b : _ = true := aK4b
            have aK4 := aK4b
            try simp only [decide_eq_true_eq, decide_eq_false_iff_not, Bool.not_eq_true', Bool.not_eq_false', Int.not_lt, Int.not_le] at aK4
            first
              | refine OpE.val (W := NoB) (OpV.fieldAddr_atO 1 rfl Tryd.underlying106 rfl rfl Tryd.sizeOf3 rfl rfl) rfl ?_
              | refine OpE.val (W := NoB) (OpV.fieldAddrO 1 rfl Tryd.underlying106 rfl rfl Tryd.sizeOf3 rfl) rfl ?_
            refine VO.opY rfl rfl rfl rfl aK4b ?_
            first
              | refine OpE.val (W := NoB) (OpV.load_at rfl hB OutW.no Tryd.isAgg3 rfl rfl) rfl ?_
              | refine OpE.val (W := NoB) (OpV.load_own (i := 0) rfl hB Tryd.isAgg3 rfl rfl rfl (fun h => h)) rfl ?_
              | refine OpE.val (W := NoB) (OpV.load_own (i := 1) rfl hB Tryd.isAgg3 rfl rfl rfl (fun h => h)) rfl ?_
              | refine OpE.val (W := NoB) (OpV.load_own (i := 2) rfl hB Tryd.isAgg3 rfl rfl rfl (fun h => h)) rfl ?_
              | refine OpE.val (W := NoB) (OpV.load_own (i := 3) rfl hB Tryd.isAgg3 rfl rfl rfl (fun h => h)) rfl ?_
              | refine OpE.val (W := NoB) (OpV.load_own (i := 4) rfl hB Tryd.isAgg3 rfl rfl rfl (fun h => h)) rfl ?_
            refine VO.opY rfl rfl rfl rfl aK4b ?_
            first
              | refine OpE.val (W := NoB) (OpV.fieldAddr_atO 1 rfl Tryd.underlying106 rfl rfl Tryd.sizeOf3 rfl rfl) rfl ?_
              | refine OpE.val (W := NoB) (OpV.fieldAddrO 1 rfl Tryd.underlying106 rfl rfl Tryd.sizeOf3 rfl) rfl ?_
            refine VO.opY rfl rfl rfl rfl aK4b ?_
            refine OpE.val (W := NoB) (OpV.load_own (i := 4) rfl hB Tryd.isAgg3 rfl rfl rfl (fun h => h)) rfl ?_
            refine VO.opY rfl rfl rfl rfl aK4b ?_
            refine OpE.val (W := NoB) (OpV.move (.inl rfl) rfl) rfl ?_
            refine VO.opY rfl rfl rfl rfl aK4b ?_
            refine OpE.val (W := NoB) (OpV.add rfl rfl rfl (by unfold fits; omega)) rfl ?_
            refine VO.opY rfl rfl rfl rfl aK4b ?_
            refine OpE.val (W := NoB) (OpV.lss rfl rfl rfl) rfl ?_
            refine VO.val rfl rfl (OpV.pickT rfl rfl rfl rfl aK4b) ?_
            refine VO.val rfl rfl (OpV.move (.inl rfl) rfl) ?_
            refine VO.opG rfl rfl rfl rfl (fun aK5b => ?_) (fun aK5b => ?_)
            · replace aK5b : _ = true := aK5b
              have aK5 := aK5b
              try simp only [decide_eq_true_eq, decide_eq_false_iff_not, Bool.not_eq_true', Bool.not_eq_false', Int.not_lt, Int.not_le] at aK5
              first
                | refine OpE.val (W := NoB) (OpV.fieldAddr_atO 1 rfl Tryd.underlying106 rfl rfl Tryd.sizeOf3 rfl rfl) rfl ?_
                | refine OpE.val (W := NoB) (OpV.fieldAddrO 1 rfl Tryd.underlying106 rfl rfl Tryd.sizeOf3 rfl) rfl ?_
              refine VO.opY rfl rfl rfl rfl aK5b ?_
              refine OpE.val (W := NoB) (OpV.load_own (i := 4) rfl hB Tryd.isAgg3 rfl rfl rfl (fun h => h)) rfl ?_
              refine VO.opY rfl rfl rfl rfl aK5b ?_
              first
                | refine OpE.val (W := NoB) (OpV.fieldAddr_atO 1 rfl Tryd.underlying106 rfl rfl Tryd.sizeOf3 rfl rfl) rfl ?_
                | refine OpE.val (W := NoB) (OpV.fieldAddrO 1 rfl Tryd.underlying106 rfl rfl Tryd.sizeOf3 rfl) rfl ?_
              refine VO.opY rfl rfl rfl rfl aK5b ?_
              first
                | refine OpE.val (W := NoB) (OpV.load_at rfl hB OutW.no Tryd.isAgg3 rfl rfl) rfl ?_
                | refine OpE.val (W := NoB) (OpV.load_own (i := 0) rfl hB Tryd.isAgg3 rfl rfl rfl (fun h => h)) rfl ?_
                | refine OpE.val (W := NoB) (OpV.load_own (i := 1) rfl hB Tryd.isAgg3 rfl rfl rfl (fun h => h)) rfl ?_
                | refine OpE.val (W := NoB) (OpV.load_own (i := 2) rfl hB Tryd.isAgg3 rfl rfl rfl (fun h => h)) rfl ?_
                | refine OpE.val (W := NoB) (OpV.load_own (i := 3) rfl hB Tryd.isAgg3 rfl rfl rfl (fun h => h)) rfl ?_
                | refine OpE.val (W := NoB) (OpV.load_own (i := 4) rfl hB Tryd.isAgg3 rfl rfl rfl (fun h => h)) rfl ?_
              refine VO.opY rfl rfl rfl rfl aK5b ?_
              refine OpE.val (W := NoB) (OpV.move (.inl rfl) rfl) rfl ?_
              refine VO.opY rfl rfl rfl rfl aK5b ?_
              refine OpE.val (W := NoB) (OpV.add rfl rfl rfl (by unfold fits; omega)) rfl ?_
              refine VO.opY rfl rfl rfl rfl aK5b ?_
              refine OpE.val (W := NoB) (OpV.lss rfl rfl rfl) rfl ?_
              refine VO.val rfl rfl (OpV.pickT rfl rfl rfl rfl aK5b) ?_
              refine VO.nil ?_
              show VC _ _ _ _ _
              refine VC.cond rfl (fun aH6b => ?_) (fun aH6b => ?_)
              · have aH6 := aH6b
                try simp only [decide_eq_true_eq, decide_eq_false_iff_not, Bool.not_eq_true', Bool.not_eq_false', Int.not_lt, Int.not_le] at aH6
                refine VC.region ?_
                refine VO.val rfl rfl (OpV.move (.inl rfl) rfl) ?_
                refine VO.val rfl rfl (OpV.move (.inl rfl) rfl) ?_
                refine VO.val rfl rfl (OpV.move (.inl rfl) rfl) ?_
                refine VO.val rfl rfl (OpV.buildArr rfl Tryd.zeroValue62 Tryd.underlying62 Tryd.sizeOf3 rfl rfl) ?_
                refine VO.op rfl (OpE.buildSlice (zc := #[.int .i64 0, .int .i64 0]) rfl hB rfl Tryd.underlying52 Tryd.sizeOf62 Tryd.zeroValue62 (by decide) (by decide) (by kernel_rfl) rfl rfl ?_)
                first
                  | refine VO.op rfl (OpE.append1 (i := 0) rfl hB rfl Tryd.underlying52 (infoOf Tryd.t62 2 (by kernel_rfl) rfl rfl) rfl (by decide) (by decide) rfl rfl rfl rfl (rowL_snoc _ (⟨(q : Int), (k : Int)⟩ : IPair)) (by omega) (fun _ _ => trivial) ?_)
                  | refine VO.op rfl (OpE.append1 (i := 1) rfl hB rfl Tryd.underlying52 (infoOf Tryd.t62 2 (by kernel_rfl) rfl rfl) rfl (by decide) (by decide) rfl rfl rfl rfl (rowL_snoc _ (⟨(q : Int), (k : Int)⟩ : IPair)) (by omega) (fun _ _ => trivial) ?_)
                  | refine VO.op rfl (OpE.append1 (i := 2) rfl hB rfl Tryd.underlying52 (infoOf Tryd.t62 2 (by kernel_rfl) rfl rfl) rfl (by decide) (by decide) rfl rfl rfl rfl (rowL_snoc _ (⟨(q : Int), (k : Int)⟩ : IPair)) (by omega) (fun _ _ => trivial) ?_)
                  | refine VO.op rfl (OpE.append1 (i := 3) rfl hB rfl Tryd.underlying52 (infoOf Tryd.t62 2 (by kernel_rfl) rfl rfl) rfl (by decide) (by decide) rfl rfl rfl rfl (rowL_snoc _ (⟨(q : Int), (k : Int)⟩ : IPair)) (by omega) (fun _ _ => trivial) ?_)
                  | refine VO.op rfl (OpE.append1 (i := 4) rfl hB rfl Tryd.underlying52 (infoOf Tryd.t62 2 (by kernel_rfl) rfl rfl) rfl (by decide) (by decide) rfl rfl rfl rfl (rowL_snoc _ (⟨(q : Int), (k : Int)⟩ : IPair)) (by omega) (fun _ _ => trivial) ?_)
                intro u2
                refine VO.val rfl rfl (OpV.move (.inr rfl) rfl) ?_
                refine VO.nil ?_
                show VC _ _ _ _ _
                refine VC.region ?_
                refine VO.val rfl rfl (OpV.move (.inl rfl) rfl) ?_
                refine VO.val rfl rfl (OpV.add rfl rfl rfl (by unfold fits; omega)) ?_
                refine VO.val rfl rfl (OpV.move (.inr rfl) rfl) ?_
                refine VO.nil ?_
                first
                  | exact Exists.intro (⟨(u2, k + 1), by show q < k + 1; omega, by show k + 1 ≤ _; omega⟩) (And.intro (Le.mk hB [0, 1, 2, 3] ⟨rfl, rfl, rfl, rfl, rfl, rfl, rfl, rfl, rfl, rfl, rfl, trivial⟩ rfl (by dsimp only; first | (rw [accN_t (by omega) (ov_t (by assumption) (by assumption) (by assumption) (by assumption)), List.length_append]; rfl) | (rw [accN_f (by omega) (by first | exact ov_1 (by assumption) | exact ov_2 (by assumption) | exact ov_3 (by assumption) | exact ov_4 (by assumption))]; rfl)) (Nat.le_refl _)) (by first | omega | (show _ < _; omega) | (simp only []; omega)))
                  | exact Exists.intro (⟨(u, k + 1), by show q < k + 1; omega, by show k + 1 ≤ _; omega⟩) (And.intro (Le.mk hB [0, 1, 2, 3] ⟨rfl, rfl, rfl, rfl, rfl, rfl, rfl, rfl, rfl, rfl, rfl, trivial⟩ rfl (by dsimp only; first | (rw [accN_t (by omega) (ov_t (by assumption) (by assumption) (by assumption) (by assumption)), List.length_append]; rfl) | (rw [accN_f (by omega) (by first | exact ov_1 (by assumption) | exact ov_2 (by assumption) | exact ov_3 (by assumption) | exact ov_4 (by assumption))]; rfl)) (Nat.le_refl _)) (by first | omega | (show _ < _; omega) | (simp only []; omega)))
              · have aH6 := aH6b
                try simp only [decide_eq_true_eq, decide_eq_false_iff_not, Bool.not_eq_true', Bool.not_eq_false', Int.not_lt, Int.not_le] at aH6
                refine VC.skip ?_
                show VC _ _ _ _ _
                refine VC.region ?_
                refine VO.val rfl rfl (OpV.move (.inl rfl) rfl) ?_
                refine VO.val rfl rfl (OpV.add rfl rfl rfl (by unfold fits; omega)) ?_
                refine VO.val rfl rfl (OpV.move (.inr rfl) rfl) ?_
                refine VO.nil ?_
                first
                  | exact Exists.intro (⟨(u2, k + 1), by show q < k + 1; omega, by show k + 1 ≤ _; omega⟩) (And.intro (Le.mk hB [0, 1, 2, 3] ⟨rfl, rfl, rfl, rfl, rfl, rfl, rfl, rfl, rfl, rfl, rfl, trivial⟩ rfl (by dsimp only; first | (rw [accN_t (by omega) (ov_t (by assumption) (by assumption) (by assumption) (by assumption)), List.length_append]; rfl) | (rw [accN_f (by omega) (by first | exact ov_1 (by assumption) | exact ov_2 (by assumption) | exact ov_3 (by assumption) | exact ov_4 (by assumption))]; rfl)) (Nat.le_refl _)) (by first | omega | (show _ < _; omega) | (simp only []; omega)))
                  | exact Exists.intro (⟨(u, k + 1), by show q < k + 1; omega, by show k + 1 ≤ _; omega⟩) (And.intro (Le.mk hB [0, 1, 2, 3] ⟨rfl, rfl, rfl, rfl, rfl, rfl, rfl, rfl, rfl, rfl, rfl, trivial⟩ rfl (by dsimp only; first | (rw [accN_t (by omega) (ov_t (by assumption) (by assumption) (by assumption) (by assumption)), List.length_append]; rfl) | (rw [accN_f (by omega) (by first | exact ov_1 (by assumption) | exact ov_2 (by assumption) | exact ov_3 (by assumption) | exact ov_4 (by assumption))]; rfl)) (Nat.le_refl _)) (by first | omega | (show _ < _; omega) | (simp only []; omega)))
            · replace aK5b : _ = false := aK5b
              have aK5 := aK5b
              try simp only [decide_eq_true_eq, decide_eq_false_iff_not, Bool.not_eq_true', Bool.not_eq_false', Int.not_lt, Int.not_le] at aK5
              refine VO.opX rfl rfl rfl rfl aK5b ?_
              refine VO.opX rfl rfl rfl rfl aK5b ?_
              refine VO.opX rfl rfl rfl rfl aK5b ?_
              refine VO.opX rfl rfl rfl rfl aK5b ?_
              refine VO.opX rfl rfl rfl rfl aK5b ?_
              refine VO.opX rfl rfl rfl rfl aK5b ?_
              refine VO.val rfl rfl (OpV.pickF rfl rfl rfl rfl aK5b) ?_
              refine VO.nil ?_
              show VC _ _ _ _ _
              refine VC.condF rfl rfl ?_
              refine VC.skip ?_
              show VC _ _ _ _ _
              refine VC.region ?_
              refine VO.val rfl rfl (OpV.move (.inl rfl) rfl) ?_
              refine VO.val rfl rfl (OpV.add rfl rfl rfl (by unfold fits; omega)) ?_
              refine VO.val rfl rfl (OpV.move (.inr rfl) rfl) ?_
              refine VO.nil ?_
              first
                | exact Exists.intro (⟨(u2, k + 1), by show q < k + 1; omega, by show k + 1 ≤ _; omega⟩) (And.intro (Le.mk hB [0, 1, 2, 3] ⟨rfl, rfl, rfl, rfl, rfl, rfl, rfl, rfl, rfl, rfl, rfl, trivial⟩ rfl (by dsimp only; first | (rw [accN_t (by omega) (ov_t (by assumption) (by assumption) (by assumption) (by assumption)), List.length_append]; rfl) | (rw [accN_f (by omega) (by first | exact ov_1 (by assumption) | exact ov_2 (by assumption) | exact ov_3 (by assumption) | exact ov_4 (by assumption))]; rfl)) (Nat.le_refl _)) (by first | omega | (show _ < _; omega) | (simp only []; omega)))
                | exact Exists.intro (⟨(u, k + 1), by show q < k + 1; omega, by show k + 1 ≤ _; omega⟩) (And.intro (Le.mk hB [0, 1, 2, 3] ⟨rfl, rfl, rfl, rfl, rfl, rfl, rfl, rfl, rfl, rfl, rfl, trivial⟩ rfl (by dsimp only; first | (rw [accN_t (by omega) (ov_t (by assumption) (by assumption) (by assumption) (by assumption)), List.length_append]; rfl) | (rw [accN_f (by omega) (by first | exact ov_1 (by assumption) | exact ov_2 (by assumption) | exact ov_3 (by assumption) | exact ov_4 (by assumption))]; rfl)) (Nat.le_refl _)) (by first | omega | (show _ < _; omega) | (simp only []; omega)))
          · replace aK4b : _ = false := aK4b
            have aK4 := aK4b
            try simp only [decide_eq_true_eq, decide_eq_false_iff_not, Bool.not_eq_true', Bool.not_eq_false', Int.not_lt, Int.not_le] at aK4
            refine VO.opX rfl rfl rfl rfl aK4b ?_
            refine VO.opX rfl rfl rfl rfl aK4b ?_
            refine VO.opX rfl rfl rfl rfl aK4b ?_
            refine VO.opX rfl rfl rfl rfl aK4b ?_
            refine VO.opX rfl rfl rfl rfl aK4b ?_
            refine VO.opX rfl rfl rfl rfl aK4b ?_
            refine VO.val rfl rfl (OpV.pickF rfl rfl rfl rfl aK4b) ?_
            refine VO.val rfl rfl (OpV.move (.inl rfl) rfl) ?_
            refine VO.opX rfl rfl rfl rfl rfl ?_
            refine VO.opX rfl rfl rfl rfl rfl ?_
            refine VO.opX rfl rfl rfl rfl rfl ?_
            refine VO.opX rfl rfl rfl rfl rfl ?_
            refine VO.opX rfl rfl rfl rfl rfl ?_
            refine VO.opX rfl rfl rfl rfl rfl ?_
            refine VO.opX rfl rfl rfl rfl rfl ?_
            refine VO.val rfl rfl (OpV.pickF rfl rfl rfl rfl rfl) ?_
            refine VO.nil ?_
            show VC _ _ _ _ _
            refine VC.condF rfl rfl ?_
            refine VC.skip ?_
            show VC _ _ _ _ _
            refine VC.region ?_
            refine VO.val rfl rfl (OpV.move (.inl rfl) rfl) ?_
            refine VO.val rfl rfl (OpV.add rfl rfl rfl (by unfold fits; omega)) ?_
            refine VO.val rfl rfl (OpV.move (.inr rfl) rfl) ?_
            refine VO.nil ?_
            first
              | exact Exists.intro (⟨(u2, k + 1), by show q < k + 1; omega, by show k + 1 ≤ _; omega⟩) (And.intro (Le.mk hB [0, 1, 2, 3] ⟨rfl, rfl, rfl, rfl, rfl, rfl, rfl, rfl, rfl, rfl, rfl, trivial⟩ rfl (by dsimp only; first | (rw [accN_t (by omega) (ov_t (by assumption) (by assumption) (by assumption) (by assumption)), List.length_append]; rfl) | (rw [accN_f (by omega) (by first | exact ov_1 (by assumption) | exact ov_2 (by assumption) | exact ov_3 (by assumption) | exact ov_4 (by assumption))]; rfl)) (Nat.le_refl _)) (by first | omega | (show _ < _; omega) | (simp only []; omega)))
              | exact Exists.intro (⟨(u, k + 1), by show q < k + 1; omega, by show k + 1 ≤ _; omega⟩) (And.intro (Le.mk hB [0, 1, 2, 3] ⟨rfl, rfl, rfl, rfl, rfl, rfl, rfl, rfl, rfl, rfl, rfl, trivial⟩ rfl (by dsimp only; first | (rw [accN_t (by omega) (ov_t (by assumption) (by assumption) (by assumption) (by assumption)), List.length_append]; rfl) | (rw [accN_f (by omega) (by first | exact ov_1 (by assumption) | exact ov_2 (by assumption) | exact ov_3 (by assumption) | exact ov_4 (by assumption))]; rfl)) (Nat.le_refl _)) (by first | omega | (show _ < _; omega) | (simp only []; omega)))
        · replace aK3b : _ = false := aK3b
          have aK3 := aK3b
          try simp only [decide_eq_true_eq, decide_eq_false_iff_not, Bool.not_eq_true', Bool.not_eq_false', Int.not_lt, Int.not_le] at aK3
          refine VO.opX rfl rfl rfl rfl aK3b ?_
          refine VO.opX rfl rfl rfl rfl aK3b ?_
          refine VO.opX rfl rfl rfl rfl aK3b ?_
          refine VO.opX rfl rfl rfl rfl aK3b ?_
          refine VO.opX rfl rfl rfl rfl aK3b ?_
          refine VO.opX rfl rfl rfl rfl aK3b ?_
          refine VO.val rfl rfl (OpV.pickF rfl rfl rfl rfl aK3b) ?_
          refine VO.val rfl rfl (OpV.move (.inl rfl) rfl) ?_
          refine VO.opX rfl rfl rfl rfl rfl ?_
          refine VO.opX rfl rfl rfl rfl rfl ?_
          refine VO.opX rfl rfl rfl rfl rfl ?_
          refine VO.opX rfl rfl rfl rfl rfl ?_
          refine VO.opX rfl rfl rfl rfl rfl ?_
          refine VO.opX rfl rfl rfl rfl rfl ?_
          refine VO.opX rfl rfl rfl rfl rfl ?_
          refine VO.val rfl rfl (OpV.pickF rfl rfl rfl rfl rfl) ?_
          refine VO.val rfl rfl (OpV.move (.inl rfl) rfl) ?_
          refine VO.opX rfl rfl rfl rfl rfl ?_
          refine VO.opX rfl rfl rfl rfl rfl ?_
          refine VO.opX rfl rfl rfl rfl rfl ?_
          refine VO.opX rfl rfl rfl rfl rfl ?_
          refine VO.opX rfl rfl rfl rfl rfl ?_
          refine VO.opX rfl rfl rfl rfl rfl ?_
          refine VO.opX rfl rfl rfl rfl rfl ?_
          refine VO.val rfl rfl (OpV.pickF rfl rfl rfl rfl rfl) ?_
          refine VO.nil ?_
          show VC _ _ _ _ _
          refine VC.condF rfl rfl ?_
          refine VC.skip ?_
          show VC _ _ _ _ _
          refine VC.region ?_
          refine VO.val rfl rfl (OpV.move (.inl rfl) rfl) ?_
          refine VO.val rfl rfl (OpV.add rfl rfl rfl (by unfold fits; omega)) ?_
          refine VO.val rfl rfl (OpV.move (.inr rfl) rfl) ?_
          refine VO.nil ?_
          first
            | exact Exists.intro (⟨(u2, k + 1), by show q < k + 1; omega, by show k + 1 ≤ _; omega⟩) (And.intro (Le.mk hB [0, 1, 2, 3] ⟨rfl, rfl, rfl, rfl, rfl, rfl, rfl, rfl, rfl, rfl, rfl, trivial⟩ rfl (by dsimp only; first | (rw [accN_t (by omega) (ov_t (by assumption) (by assumption) (by assumption) (by assumption)), List.length_append]; rfl) | (rw [accN_f (by omega) (by first | exact ov_1 (by assumption) | exact ov_2 (by assumption) | exact ov_3 (by assumption) | exact ov_4 (by assumption))]; rfl)) (Nat.le_refl _)) (by first | omega | (show _ < _; omega) | (simp only []; omega)))
            | exact Exists.intro (⟨(u, k + 1), by show q < k + 1; omega, by show k + 1 ≤ _; omega⟩) (And.intro (Le.mk hB [0, 1, 2, 3] ⟨rfl, rfl, rfl, rfl, rfl, rfl, rfl, rfl, rfl, rfl, rfl, trivial⟩ rfl (by dsimp only; first | (rw [accN_t (by omega) (ov_t (by assumption) (by assumption) (by assumption) (by assumption)), List.length_append]; rfl) | (rw [accN_f (by omega) (by first | exact ov_1 (by assumption) | exact ov_2 (by assumption) | exact ov_3 (by assumption) | exact ov_4 (by assumption))]; rfl)) (Nat.le_refl _)) (by first | omega | (show _ < _; omega) | (simp only []; omega)))
      · have aH2 := aH2b
        try simp only [decide_eq_true_eq, decide_eq_false_iff_not, Bool.not_eq_true', Bool.not_eq_false', Int.not_lt, Int.not_le] at aH2
        refine VC.exit ?_
        show VC _ _ _ _ _
        rw [accN_all hk1 hk2 (by omega)]
        refine VC.region ?_
        refine VO.val rfl rfl (OpV.add rfl rfl rfl (by unfold fits; omega)) ?_
        refine VO.val rfl rfl (OpV.move (.inl rfl) rfl) ?_
        refine VO.nil ?_
        exact Exists.intro (⟨(u, q + 1), by show q + 1 ≤ _; omega⟩) (And.intro (Le.mk hB [0, 1, 2] ⟨rfl, rfl, rfl, rfl, rfl, rfl, trivial⟩ rfl rfl (Nat.le_refl _)) (by first | omega | (show _ < _; omega) | (simp only []; omega)))
    · have aH1 := aH1b
      try simp only [decide_eq_true_eq, decide_eq_false_iff_not, Bool.not_eq_true', Bool.not_eq_false', Int.not_lt, Int.not_le] at aH1
      refine VC.exit ?_
      show VC _ _ _ _ _
      refine VC.seq ?_
      have hqe : q = n.slots.length := by omega
      rw [hqe]
      refine VC.region ?_
      refine VO.val rfl rfl (OpV.move (.inl rfl) rfl) ?_
      refine VO.val rfl rfl (OpV.move (.inr rfl) rfl) ?_
      refine VO.val rfl rfl (OpV.move (.inr rfl) rfl) ?_
      refine VO.nil ?_
      show VC _ _ _ _ _
      refine VC.ret ?_
      exact Exists.intro _ (And.intro (RetN.two Tryd.results16 (ResN.rowT (i := 2) rfl rfl rfl (flat_ip _)) (ResN.v rfl)) (by rw [ovsR, if_pos h00, h00, ovL]))
set_option maxRecDepth 100000 in
theorem rf_quarter {cx cy h : Int} (h1 : -9000000 ≤ h ∧ h ≤ 9000000) (h2 : -9000000 ≤ cy ∧ cy ≤ 9000000) :
    SpecN Tryd.prog 59 [avI cx, avI cy, avI h] (fun y => y = .tup [avI (h - cy), avI cx]) := by
  refine SpecN.of_VCN Tryd.func59 rfl Tryd.ntmps59 (Nat.le_of_ble_eq_true rfl) fun w A hB => ?_
  have hnew : True := trivial
  refine VC.seq ?_
  refine VC.region ?_
  refine VO.val rfl rfl (OpV.move (.inr rfl) rfl) ?_
  refine VO.val rfl rfl (OpV.move (.inr rfl) rfl) ?_
  refine VO.nil ?_
  show VC _ _ _ _ _
  refine VC.seq ?_
  refine VC.region ?_
  refine VO.val rfl rfl (OpV.move (.inl rfl) rfl) ?_
  refine VO.val rfl rfl (OpV.move (.inl rfl) rfl) ?_
  refine VO.val rfl rfl (OpV.sub rfl rfl rfl (by unfold fits; omega)) ?_
  refine VO.val rfl rfl (OpV.move (.inl rfl) rfl) ?_
  refine VO.val rfl rfl (OpV.move (.inr rfl) rfl) ?_
  refine VO.val rfl rfl (OpV.move (.inr rfl) rfl) ?_
  refine VO.nil ?_
  show VC _ _ _ _ _
  refine VC.ret ?_
  exact Exists.intro _ (And.intro (RetN.two Tryd.results59 (ResN.v rfl) (ResN.v rfl)) (rfl))
theorem pl_step {p : ProdS} {x y : Int} {q : Nat} (hq : q < 3) : plX p ((q : Int) + 1) x y = (if q % 2 = 0 then p.high else p.wide) - plY p q x y ∧ plY p ((q : Int) + 1) x y = plX p q x y := by
  match q, hq with
  | 0, _ => exact ⟨rfl, rfl⟩
  | 1, _ => exact ⟨rfl, rfl⟩
  | 2, _ => refine ⟨?_, rfl⟩; show y = p.high - (p.high - y); omega
abbrev avSl (s : SlotS) : AV := .agg [avI s.x, avI s.y, avI s.quarter, avB s.skip]
theorem alt_succ {a b : Int} {q : Nat} : (if (q + 1) % 2 = 0 then a else b) = if q % 2 = 0 then b else a := by
  by_cases h : q % 2 = 0
  · rw [if_pos h, if_neg (by omega)]
  · rw [if_neg h, if_pos (by omega)]
set_option maxRecDepth 100000 in
set_option maxHeartbeats 4000000 in
theorem rf_placed {p : ProdS} {s : SlotS} {cx cy : Int} (hp : (1 ≤ p.wide ∧ p.wide ≤ 500000) ∧ 1 ≤ p.high ∧ p.high ≤ 500000) (hs : (0 ≤ s.x ∧ s.x ≤ 500000) ∧ (0 ≤ s.y ∧ s.y ≤ 500000) ∧ 0 ≤ s.quarter ∧ s.quarter ≤ 3) (hx : 0 ≤ cx ∧ cx ≤ 500000) (hy : 0 ≤ cy ∧ cy ≤ 500000) :
    SpecN Tryd.prog 74 [avProd p, avSl s, avI cx, avI cy] (fun y => y = .tup [avI (plX p s.quarter cx cy + s.x), avI (plY p s.quarter cx cy + s.y)]) := by
  refine SpecN.of_VCN Tryd.func74 rfl Tryd.ntmps74 (Nat.le_of_ble_eq_true rfl) fun w A hB => ?_
  have hnew : True := trivial
  refine VC.seq ?_
  refine VC.region ?_
  refine VO.op rfl (OpE.box rfl hB rfl rfl rfl ?_)
  intro g4
  refine VO.op rfl (OpE.box rfl hB rfl rfl rfl ?_)
  intro g5
  refine VO.val rfl rfl (OpV.move (.inr rfl) rfl) ?_
  refine VO.val rfl rfl (OpV.move (.inr rfl) rfl) ?_
  refine VO.nil ?_
  show VC _ _ _ _ _
  refine VC.seq ?_
  refine VC.draw (fun _ => NoB) hB (by kernel_rfl) ?_
  first
    | refine VA.take (i := 0) rfl (by kernel_rfl) (by kernel_rfl) (by kernel_rfl) rfl rfl (OpV.fieldAddr_atO 1 rfl Tryd.underlying44 rfl rfl Tryd.sizeOf3 rfl rfl) ?_
    | refine VA.take (i := 0) rfl (by kernel_rfl) (by kernel_rfl) (by kernel_rfl) rfl rfl (OpV.fieldAddrO 1 rfl Tryd.underlying44 rfl rfl Tryd.sizeOf3 rfl) ?_
  refine VA.take (i := 1) rfl (by kernel_rfl) (by kernel_rfl) (by kernel_rfl) rfl rfl (OpV.load_own (i := 0) rfl hB Tryd.isAgg3 rfl rfl rfl Wi.not0) ?_
  first
    | refine VA.take (i := 2) rfl (by kernel_rfl) (by kernel_rfl) (by kernel_rfl) rfl rfl (OpV.fieldAddr_atO 2 rfl Tryd.underlying44 rfl rfl Tryd.sizeOf3 rfl rfl) ?_
    | refine VA.take (i := 2) rfl (by kernel_rfl) (by kernel_rfl) (by kernel_rfl) rfl rfl (OpV.fieldAddrO 2 rfl Tryd.underlying44 rfl rfl Tryd.sizeOf3 rfl) ?_
  refine VA.take (i := 3) rfl (by kernel_rfl) (by kernel_rfl) (by kernel_rfl) rfl rfl (OpV.load_own (i := 0) rfl hB Tryd.isAgg3 rfl rfl rfl Wi.not0) ?_
  refine VA.take (i := 4) rfl (by kernel_rfl) (by kernel_rfl) (by kernel_rfl) rfl rfl (OpV.move (.inr rfl) rfl) ?_
  refine VA.take (i := 5) rfl (by kernel_rfl) (by kernel_rfl) (by kernel_rfl) rfl rfl (OpV.move (.inr rfl) rfl) ?_
  refine VA.done (by kernel_rfl) ?_
  show VC _ _ _ _ _
  refine VC.seq ?_
  refine VC.seq ?_
  obtain ⟨m, hm⟩ : ∃ m : Nat, s.quarter = m := ⟨_, (Int.toNat_of_nonneg hs.2.2.1).symm⟩
  have hm3 : m ≤ 3 := by have := hs.2.2.2; omega
  refine VC.region ?_
  first
    | refine VO.val rfl rfl (OpV.fieldAddr_atO 2 rfl Tryd.underlying106 rfl rfl Tryd.sizeOf3 rfl rfl) ?_
    | refine VO.val rfl rfl (OpV.fieldAddrO 2 rfl Tryd.underlying106 rfl rfl Tryd.sizeOf3 rfl) ?_
  refine VO.val rfl rfl (OpV.load_own (i := 1) rfl hB Tryd.isAgg3 rfl rfl rfl (fun h => h)) ?_
  refine VO.le _ (Le.recast (t := 17) (y := avI (m : Int)) rfl (fun w Z u h => by rw [← hm]; exact h)) ?_
  refine VO.val rfl rfl (OpV.move (.inl rfl) rfl) ?_
  refine VO.nil ?_
  show VC _ _ _ _ _
  refine VC.block ?_
  refine VC.loopK [(5, _), (17, _)] ⟨rfl, rfl, trivial⟩ ({q : Nat // q ≤ m}) (fun (i : {q : Nat // q ≤ m}) => match i with | ⟨q, hq⟩ => [(2, avI (plX p q cx cy)), (3, avI (plY p q cx cy)), (10, avI (if q % 2 = 0 then p.wide else p.high)), (11, avI (if q % 2 = 0 then p.high else p.wide)), (18, avI (q : Int))]) (fun (i : {q : Nat // q ≤ m}) => match i with | ⟨q, hq⟩ => [.box g5 ⟨[avI s.x, avI s.y, avI s.quarter, avB s.skip], 106, 4⟩]) (fun (i : {q : Nat // q ≤ m}) => match i with | ⟨q, hq⟩ => 0) (fun (i : {q : Nat // q ≤ m}) => match i with | ⟨q, hq⟩ => m - q) ⟨0, Nat.zero_le _⟩ (Le.mk hB [1] ⟨rfl, rfl, rfl, rfl, rfl, rfl, rfl, trivial⟩ rfl rfl (Nat.le_refl _)) ?_
  rintro ⟨q, hq⟩
  show VC _ _ _ _ ⟨[(2, avI (plX p q cx cy)), (3, avI (plY p q cx cy)), (10, avI (if q % 2 = 0 then p.wide else p.high)), (11, avI (if q % 2 = 0 then p.high else p.wide)), (18, avI (q : Int))] ++ [(5, _), (17, _)], [.box g5 ⟨[avI s.x, avI s.y, avI s.quarter, avB s.skip], 106, 4⟩], 0⟩
  have hbx : -2000000 ≤ plX p q cx cy ∧ plX p q cx cy ≤ 2000000 := by unfold plX; (repeat' split) <;> omega
  have hby : -2000000 ≤ plY p q cx cy ∧ plY p q cx cy ≤ 2000000 := by unfold plY; (repeat' split) <;> omega
  refine VC.seq ?_
  refine VC.region ?_
  refine VO.val rfl rfl (OpV.lss rfl rfl rfl) ?_
  refine VO.nil ?_
  show VC _ _ _ _ _
  refine VC.seq ?_
  refine VC.cond rfl (fun aH1b => ?_) (fun aH1b => ?_)
  · have aH1 := aH1b
    try simp only [decide_eq_true_eq, decide_eq_false_iff_not, Bool.not_eq_true', Bool.not_eq_false', Int.not_lt, Int.not_le] at aH1
    refine VC.skip ?_
    show VC _ _ _ _ _
    refine VC.seq ?_
    refine VC.block ?_
    refine VC.seq ?_
    refine VC.region ?_
    refine VO.val rfl rfl (OpV.move (.inl rfl) rfl) ?_
    refine VO.val rfl rfl (OpV.move (.inl rfl) rfl) ?_
    refine VO.val rfl rfl (OpV.move (.inl rfl) rfl) ?_
    refine VO.op rfl (OpE.call rfl hB rfl Tryd.call59 rfl (SpecN.spec (rf_quarter (cx := plX p q cx cy) (cy := plY p q cx cy) (h := if q % 2 = 0 then p.high else p.wide) (by split <;> omega) (by omega))) ?_)
    rintro _ rfl
    refine VO.val rfl rfl (OpV.move (.inl rfl) rfl) ?_
    first
      | refine VO.val rfl rfl (OpV.extract rfl rfl rfl) ?_
      | refine VO.val rfl rfl (OpV.extract_v rfl rfl rfl) ?_
    first
      | refine VO.val rfl rfl (OpV.extract rfl rfl rfl) ?_
      | refine VO.val rfl rfl (OpV.extract_v rfl rfl rfl) ?_
    refine VO.val rfl rfl (OpV.move (.inr rfl) rfl) ?_
    refine VO.val rfl rfl (OpV.move (.inr rfl) rfl) ?_
    refine VO.nil ?_
    show VC _ _ _ _ _
    refine VC.region ?_
    refine VO.val rfl rfl (OpV.move (.inl rfl) rfl) ?_
    refine VO.val rfl rfl (OpV.move (.inl rfl) rfl) ?_
    refine VO.val rfl rfl (OpV.move (.inr rfl) rfl) ?_
    refine VO.val rfl rfl (OpV.move (.inr rfl) rfl) ?_
    refine VO.nil ?_
    show VC _ _ _ _ _
    refine VC.region ?_
    refine VO.val rfl rfl (OpV.add rfl rfl rfl (by unfold fits; omega)) ?_
    refine VO.val rfl rfl (OpV.move (.inl rfl) rfl) ?_
    refine VO.nil ?_
    exact Exists.intro (⟨q + 1, by omega⟩) (And.intro (Le.mk hB [0] ⟨(by rw [show ((q + 1 : Nat) : Int) = (q : Int) + 1 by omega, (pl_step (x := cx) (y := cy) (by omega)).1]; rfl), (by rw [show ((q + 1 : Nat) : Int) = (q : Int) + 1 by omega, (pl_step (x := cx) (y := cy) (by omega)).2]; rfl), (by rw [alt_succ]; rfl), (by rw [alt_succ]; rfl), rfl, rfl, rfl, trivial⟩ rfl rfl (Nat.le_refl _)) (by first | omega | (show _ < _; omega) | (simp only []; omega)))
  · have aH1 := aH1b
    try simp only [decide_eq_true_eq, decide_eq_false_iff_not, Bool.not_eq_true', Bool.not_eq_false', Int.not_lt, Int.not_le] at aH1
    refine VC.exit ?_
    show VC _ _ _ _ _
    refine VC.seq ?_
    have hqe : q = m := by omega
    rw [hqe] at hbx hby
    rw [hqe]
    refine VC.draw (fun _ => NoB) hB (by kernel_rfl) ?_
    refine VA.take (i := 0) rfl (by kernel_rfl) (by kernel_rfl) (by kernel_rfl) rfl rfl (OpV.move (.inl rfl) rfl) ?_
    first
      | refine VA.take (i := 1) rfl (by kernel_rfl) (by kernel_rfl) (by kernel_rfl) rfl rfl (OpV.fieldAddr_atO 0 rfl Tryd.underlying106 rfl rfl Tryd.sizeOf3 rfl rfl) ?_
      | refine VA.take (i := 1) rfl (by kernel_rfl) (by kernel_rfl) (by kernel_rfl) rfl rfl (OpV.fieldAddrO 0 rfl Tryd.underlying106 rfl rfl Tryd.sizeOf3 rfl) ?_
    first
      | refine VA.take (i := 2) rfl (by kernel_rfl) (by kernel_rfl) (by kernel_rfl) rfl rfl (OpV.load_at rfl hB OutW.wi0 Tryd.isAgg3 rfl rfl) ?_
      | refine VA.take (i := 2) rfl (by kernel_rfl) (by kernel_rfl) (by kernel_rfl) rfl rfl (OpV.load_own (i := 0) rfl hB Tryd.isAgg3 rfl rfl rfl Wi.not0) ?_
    refine VA.take (i := 3) rfl (by kernel_rfl) (by kernel_rfl) (by kernel_rfl) rfl rfl (OpV.add rfl rfl rfl (by unfold fits; omega)) ?_
    refine VA.take (i := 4) rfl (by kernel_rfl) (by kernel_rfl) (by kernel_rfl) rfl rfl (OpV.move (.inl rfl) rfl) ?_
    first
      | refine VA.take (i := 5) rfl (by kernel_rfl) (by kernel_rfl) (by kernel_rfl) rfl rfl (OpV.fieldAddr_atO 1 rfl Tryd.underlying106 rfl rfl Tryd.sizeOf3 rfl rfl) ?_
      | refine VA.take (i := 5) rfl (by kernel_rfl) (by kernel_rfl) (by kernel_rfl) rfl rfl (OpV.fieldAddrO 1 rfl Tryd.underlying106 rfl rfl Tryd.sizeOf3 rfl) ?_
    first
      | refine VA.take (i := 6) rfl (by kernel_rfl) (by kernel_rfl) (by kernel_rfl) rfl rfl (OpV.load_at rfl hB OutW.wi0 Tryd.isAgg3 rfl rfl) ?_
      | refine VA.take (i := 6) rfl (by kernel_rfl) (by kernel_rfl) (by kernel_rfl) rfl rfl (OpV.load_own (i := 0) rfl hB Tryd.isAgg3 rfl rfl rfl Wi.not0) ?_
    refine VA.take (i := 7) rfl (by kernel_rfl) (by kernel_rfl) (by kernel_rfl) rfl rfl (OpV.add rfl rfl rfl (by unfold fits; omega)) ?_
    refine VA.take (i := 8) rfl (by kernel_rfl) (by kernel_rfl) (by kernel_rfl) rfl rfl (OpV.move (.inr rfl) rfl) ?_
    refine VA.take (i := 9) rfl (by kernel_rfl) (by kernel_rfl) (by kernel_rfl) rfl rfl (OpV.move (.inr rfl) rfl) ?_
    refine VA.done (by kernel_rfl) ?_
    show VC _ _ _ _ _
    refine VC.ret ?_
    exact Exists.intro _ (And.intro (RetN.two Tryd.results74 (ResN.v rfl) (ResN.v rfl)) (by rw [hm]))
end Go.Proofs.YtgikefjbdhnffaaDoor
