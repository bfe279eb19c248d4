/- Walks: the reference's boards that overlap, and the reference's panel turned. -/
import Derived.Test.YtgikefjbdhnffaaDoorPanelS3
import Derived.Test.YtgikefjbdhnffaaDoorSxFresh
namespace Go.Proofs.YtgikefjbdhnffaaDoor
open Go.RowKit
set_option linter.unusedVariables false
set_option linter.unusedSimpArgs false
abbrev mw (p : ProdS) (a b : SlotS) : Bool := decide (min (a.x + szW p a.quarter) (b.x + szW p b.quarter) > max a.x b.x)
abbrev mh (p : ProdS) (a b : SlotS) : Bool := decide (min (a.y + szH p a.quarter) (b.y + szH p b.quarter) > max a.y b.y)
section
variable {p : ProdS} {a b : SlotS} (ha : (1 ≤ szW p a.quarter ∧ szW p a.quarter ≤ 500000) ∧ 1 ≤ szH p a.quarter ∧ szH p a.quarter ≤ 500000) (hb : (1 ≤ szW p b.quarter ∧ szW p b.quarter ≤ 500000) ∧ 1 ≤ szH p b.quarter ∧ szH p b.quarter ≤ 500000)
include ha hb
theorem ovr_t (h1 : mw p a b = true) (h2 : mh p a b = true) : ovO p a b = true := by
  unfold mw at h1
  unfold mh at h2
  rw [decide_eq_true_eq] at h1 h2
  exact ov_t (decide_eq_true (by omega)) (decide_eq_true (by omega)) (decide_eq_true (by omega)) (decide_eq_true (by omega))
theorem ovr_1 (h1 : mw p a b = false) : ovO p a b = false := by
  unfold mw at h1
  rw [decide_eq_false_iff_not] at h1
  by_cases h : a.x < b.x + szW p b.quarter
  · exact ov_2 (decide_eq_false (by omega))
  · exact ov_1 (decide_eq_false h)
theorem ovr_2 (h2 : mh p a b = false) : ovO p a b = false := by
  unfold mh at h2
  rw [decide_eq_false_iff_not] at h2
  by_cases h : a.y < b.y + szH p b.quarter
  · exact ov_4 (decide_eq_false (by omega))
  · exact ov_3 (decide_eq_false h)
end
set_option maxRecDepth 100000 in
set_option maxHeartbeats 8000000 in
theorem rf_OverlapsOf {p : ProdS} {n : PanS} (h00 : panelF p n = 0) :
    SpecN Tryd.prog 20 [avProd p, avPan n] (fun y => y = avL (ovsR p n)) := by
  refine SpecN.of_VCN Tryd.func20 rfl Tryd.ntmps20 (Nat.le_of_ble_eq_true rfl) fun w A hB => ?_
  have hnew : True := trivial
  refine VC.seq ?_
  refine VC.region ?_
  refine VO.op rfl (OpE.box rfl hB rfl rfl rfl ?_)
  intro g2
  refine VO.op rfl (OpE.box rfl hB rfl rfl rfl ?_)
  intro g3
  refine VO.val rfl rfl (OpV.move (.inr rfl) rfl) ?_
  refine VO.nil ?_
  show VC _ _ _ _ _
  refine VC.seq ?_
  have hz := panelF_0 h00
  have hok := prodOk hz.1
  have hpn := panOk hz.2
  have hw := hok.wide
  have hh := hok.high
  have hlen := hpn.len
  refine VC.region ?_
  refine VO.val rfl rfl (OpV.move (.inr rfl) rfl) ?_
  refine VO.nil ?_
  show VC _ _ _ _ _
  refine VC.seq ?_
  refine VC.seq ?_
  refine VC.region ?_
  first
    | refine VO.val rfl rfl (OpV.fieldAddr_atO 2 rfl Tryd.underlying48 rfl rfl Tryd.sizeOf46 rfl rfl) ?_
    | refine VO.val rfl rfl (OpV.fieldAddrO 2 rfl Tryd.underlying48 rfl rfl Tryd.sizeOf46 rfl) ?_
  refine VO.val rfl rfl (OpV.load_own (i := 1) rfl hB Tryd.isAgg46 rfl rfl rfl (fun h => h)) ?_
  first
    | refine VO.val rfl rfl (OpV.len_im rfl Tryd.underlying46 rfl) ?_
    | refine VO.val rfl rfl (OpV.len_v rfl Tryd.underlying46 rfl) ?_
    | refine VO.val rfl rfl (OpV.len_row (i := 0) rfl Tryd.underlying46 rfl rfl) ?_
    | refine VO.val rfl rfl (OpV.len_row (i := 1) rfl Tryd.underlying46 rfl rfl) ?_
  refine VO.val rfl rfl (OpV.move (.inl rfl) rfl) ?_
  refine VO.nil ?_
  show VC _ _ _ _ _
  refine VC.block ?_
  refine VC.le _ (Le.nilRow 2 62) ?_
  refine VC.loopK [(2, _), (3, _), (12, _)] ⟨rfl, rfl, rfl, trivial⟩ ({z : Value × Nat // z.2 ≤ n.slots.length}) (fun (i : {z : Value × Nat // z.2 ≤ n.slots.length}) => match i with | ⟨⟨u, q⟩, hq⟩ => [(5, .v u), (13, avI (q : Int))]) (fun (i : {z : Value × Nat // z.2 ≤ n.slots.length}) => match i with | ⟨⟨u, q⟩, hq⟩ => [boxProd g2 p 44, boxPan g3 n 48, .row u (pairN (ovO p) n.slots q).length 2 (rowL (pairN (ovO p) n.slots q)) 62]) (fun (i : {z : Value × Nat // z.2 ≤ n.slots.length}) => match i with | ⟨⟨u, q⟩, hq⟩ => 0) (fun (i : {z : Value × Nat // z.2 ≤ n.slots.length}) => match i with | ⟨⟨u, q⟩, hq⟩ => n.slots.length - q) ⟨(.slice none 0 0, 0), Nat.zero_le _⟩ (Le.mk hB [0, 1, 2] ⟨rfl, rfl, rfl, rfl, rfl, trivial⟩ rfl rfl (Nat.le_refl _)) ?_
  rintro ⟨⟨u, q⟩, hq⟩
  show VC _ _ _ _ ⟨[(5, .v u), (13, avI (q : Int))] ++ [(2, _), (3, _), (12, _)], [boxProd g2 p 44, boxPan g3 n 48, .row u (pairN (ovO p) n.slots q).length 2 (rowL (pairN (ovO p) n.slots q)) 62], 0⟩
  simp only at hq
  refine VC.seq ?_
  refine VC.region ?_
  refine VO.val rfl rfl (OpV.lss rfl rfl rfl) ?_
  refine VO.nil ?_
  show VC _ _ _ _ _
  refine VC.seq ?_
  refine VC.cond rfl (fun aH1b => ?_) (fun aH1b => ?_)
  · have aH1 := aH1b
    try simp only [decide_eq_true_eq, decide_eq_false_iff_not, Bool.not_eq_true', Bool.not_eq_false', Int.not_lt, Int.not_le] at aH1
    refine VC.skip ?_
    show VC _ _ _ _ _
    refine VC.seq ?_
    refine VC.block ?_
    refine VC.seq ?_
    have hsl := hpn.all q (by omega)
    have hsz := szW_bd (q := (n.slots.getD q default).quarter) hw hh
    refine VC.region ?_
    refine VO.val rfl rfl (OpV.move (.inl rfl) rfl) ?_
    refine VO.val rfl rfl (OpV.move (.inr rfl) rfl) ?_
    refine VO.nil ?_
    show VC _ _ _ _ _
    refine VC.seq ?_
    refine VC.region ?_
    refine VO.val rfl rfl (OpV.move (.inl rfl) rfl) ?_
    refine VO.val rfl rfl (OpV.add rfl rfl rfl (by unfold fits; omega)) ?_
    refine VO.val rfl rfl (OpV.move (.inr rfl) rfl) ?_
    refine VO.nil ?_
    show VC _ _ _ _ _
    refine VC.block ?_
    refine VC.loopK [(2, _), (3, _), (6, _), (12, _), (13, _)] ⟨rfl, rfl, rfl, rfl, rfl, trivial⟩ ({z : Value × Nat // q < z.2 ∧ z.2 ≤ max (q + 1) n.slots.length}) (fun (i : {z : Value × Nat // q < z.2 ∧ z.2 ≤ max (q + 1) n.slots.length}) => match i with | ⟨⟨u, k⟩, hk1, hk2⟩ => [(5, .v u), (7, avI (k : Int))]) (fun (i : {z : Value × Nat // q < z.2 ∧ z.2 ≤ max (q + 1) n.slots.length}) => match i with | ⟨⟨u, k⟩, hk1, hk2⟩ => [boxProd g2 p 44, boxPan g3 n 48, .row u (accN (ovO p) n.slots q k).length 2 (rowL (accN (ovO p) n.slots q k)) 62]) (fun (i : {z : Value × Nat // q < z.2 ∧ z.2 ≤ max (q + 1) n.slots.length}) => match i with | ⟨⟨u, k⟩, hk1, hk2⟩ => 0) (fun (i : {z : Value × Nat // q < z.2 ∧ z.2 ≤ max (q + 1) n.slots.length}) => match i with | ⟨⟨u, k⟩, hk1, hk2⟩ => max (q + 1) n.slots.length - k) ⟨(u, q + 1), by show q < q + 1; omega, by show q + 1 ≤ _; omega⟩ (Le.mk hB [0, 1, 2] ⟨rfl, rfl, rfl, rfl, rfl, rfl, rfl, trivial⟩ rfl (by dsimp only; rw [accN_0]; rfl) (Nat.le_refl _)) ?_
    rintro ⟨⟨u, k⟩, hk1, hk2⟩
    show VC _ _ _ _ ⟨[(5, .v u), (7, avI (k : Int))] ++ [(2, _), (3, _), (6, _), (12, _), (13, _)], [boxProd g2 p 44, boxPan g3 n 48, .row u (accN (ovO p) n.slots q k).length 2 (rowL (accN (ovO p) n.slots q k)) 62], 0⟩
    simp only at hk1 hk2
    have hal := accN_len (f := ovO p) (l := n.slots) (q := q) (k := k) (by omega) hk2 (by omega)
    refine VC.seq ?_
    refine VC.seq ?_
    refine VC.region ?_
    refine VO.val rfl rfl (OpV.move (.inl rfl) rfl) ?_
    first
      | refine VO.val rfl rfl (OpV.fieldAddr_atO 2 rfl Tryd.underlying48 rfl rfl Tryd.sizeOf46 rfl rfl) ?_
      | refine VO.val rfl rfl (OpV.fieldAddrO 2 rfl Tryd.underlying48 rfl rfl Tryd.sizeOf46 rfl) ?_
    first
      | refine VO.val rfl rfl (OpV.load_at rfl hB OutW.no Tryd.isAgg46 rfl rfl) ?_
      | refine VO.val rfl rfl (OpV.load_own (i := 0) rfl hB Tryd.isAgg46 rfl rfl rfl (fun h => h)) ?_
      | refine VO.val rfl rfl (OpV.load_own (i := 1) rfl hB Tryd.isAgg46 rfl rfl rfl (fun h => h)) ?_
      | refine VO.val rfl rfl (OpV.load_own (i := 2) rfl hB Tryd.isAgg46 rfl rfl rfl (fun h => h)) ?_
    first
      | refine VO.val rfl rfl (OpV.len_im rfl Tryd.underlying46 rfl) ?_
      | refine VO.val rfl rfl (OpV.len_v rfl Tryd.underlying46 rfl) ?_
      | refine VO.val rfl rfl (OpV.len_row (i := 0) rfl Tryd.underlying46 rfl rfl) ?_
      | refine VO.val rfl rfl (OpV.len_row (i := 1) rfl Tryd.underlying46 rfl rfl) ?_
      | refine VO.val rfl rfl (OpV.len_row (i := 2) rfl Tryd.underlying46 rfl rfl) ?_
    refine VO.val rfl rfl (OpV.lss rfl rfl rfl) ?_
    refine VO.nil ?_
    show VC _ _ _ _ _
    refine VC.cond rfl (fun aH2b => ?_) (fun aH2b => ?_)
    · have aH2 := aH2b
      try simp only [decide_eq_true_eq, decide_eq_false_iff_not, Bool.not_eq_true', Bool.not_eq_false', Int.not_lt, Int.not_le] at aH2
      refine VC.skip ?_
      show VC _ _ _ _ _
      refine VC.seq ?_
      refine VC.block ?_
      refine VC.joinK [(2, _), (3, _), (5, _), (6, _), (7, _), (12, _), (13, _)] ⟨rfl, rfl, rfl, rfl, rfl, rfl, rfl, trivial⟩ (Nat × Nat) (fun (i : Nat × Nat) => match i with | ⟨g8, g9⟩ => [(8, .v (.pointer (some ⟨g8, 0, none⟩))), (9, .v (.pointer (some ⟨g9, 0, none⟩)))]) (fun (i : Nat × Nat) => match i with | ⟨g8, g9⟩ => [.box g8 ⟨[avI (n.slots.getD q default).x, avI (n.slots.getD q default).y, avI ((n.slots.getD q default).x + szW p (n.slots.getD q default).quarter), avI ((n.slots.getD q default).y + szH p (n.slots.getD q default).quarter)], 112, 4⟩, .box g9 ⟨[avI (n.slots.getD k default).x, avI (n.slots.getD k default).y, avI ((n.slots.getD k default).x + szW p (n.slots.getD k default).quarter), avI ((n.slots.getD k default).y + szH p (n.slots.getD k default).quarter)], 112, 4⟩]) ?_ ?_
      ·
        have hsl2 := hpn.all k (by omega)
        have hsz2 := szW_bd (q := (n.slots.getD k default).quarter) hw hh
        refine VC.drawN (fun N j b => j ∈ [16, 17] ∧ N ≤ b) hB (by kernel_rfl) (fun N hN => ?_)
        first
          | refine VN.take (i := 0) rfl (by kernel_rfl) (by kernel_rfl) (by kernel_rfl) rfl rfl (OpVN.loadK_at rfl hB (fun b ⟨_, _, _, h⟩ => h) Tryd.isAgg44 Tryd.sizeOf44 rfl rfl) ?_
          | refine VN.take (i := 0) rfl (by kernel_rfl) (by kernel_rfl) (by kernel_rfl) rfl rfl (OpVN.of (OpV.loadK_own (i := 0) rfl hB Tryd.isAgg44 Tryd.sizeOf44 rfl rfl rfl (by first | exact (fun ⟨_, _, _, h⟩ => absurd h (Nat.not_le.2 (hN _ (List.mem_of_getElem? (i := 0) rfl) _ rfl))) | exact (fun ⟨_, _, _, h⟩ => absurd h (Nat.not_le.2 (hN _ (List.mem_of_getElem? (i := 1) rfl) _ rfl))) | exact (fun ⟨_, _, _, h⟩ => absurd h (Nat.not_le.2 (hN _ (List.mem_of_getElem? (i := 2) rfl) _ rfl)))))) ?_
          | refine VN.take (i := 0) rfl (by kernel_rfl) (by kernel_rfl) (by kernel_rfl) rfl rfl (OpVN.of (OpV.loadK_own (i := 1) rfl hB Tryd.isAgg44 Tryd.sizeOf44 rfl rfl rfl (by first | exact (fun ⟨_, _, _, h⟩ => absurd h (Nat.not_le.2 (hN _ (List.mem_of_getElem? (i := 0) rfl) _ rfl))) | exact (fun ⟨_, _, _, h⟩ => absurd h (Nat.not_le.2 (hN _ (List.mem_of_getElem? (i := 1) rfl) _ rfl))) | exact (fun ⟨_, _, _, h⟩ => absurd h (Nat.not_le.2 (hN _ (List.mem_of_getElem? (i := 2) rfl) _ rfl)))))) ?_
          | refine VN.take (i := 0) rfl (by kernel_rfl) (by kernel_rfl) (by kernel_rfl) rfl rfl (OpVN.of (OpV.loadK_own (i := 2) rfl hB Tryd.isAgg44 Tryd.sizeOf44 rfl rfl rfl (by first | exact (fun ⟨_, _, _, h⟩ => absurd h (Nat.not_le.2 (hN _ (List.mem_of_getElem? (i := 0) rfl) _ rfl))) | exact (fun ⟨_, _, _, h⟩ => absurd h (Nat.not_le.2 (hN _ (List.mem_of_getElem? (i := 1) rfl) _ rfl))) | exact (fun ⟨_, _, _, h⟩ => absurd h (Nat.not_le.2 (hN _ (List.mem_of_getElem? (i := 2) rfl) _ rfl)))))) ?_
        first
          | refine VN.take (i := 1) rfl (by kernel_rfl) (by kernel_rfl) (by kernel_rfl) rfl rfl (OpVN.of (OpV.fieldAddr_atO 2 rfl Tryd.underlying48 rfl rfl Tryd.sizeOf46 rfl rfl)) ?_
          | refine VN.take (i := 1) rfl (by kernel_rfl) (by kernel_rfl) (by kernel_rfl) rfl rfl (OpVN.of (OpV.fieldAddrO 2 rfl Tryd.underlying48 rfl rfl Tryd.sizeOf46 rfl)) ?_
        first
          | refine VN.take (i := 2) rfl (by kernel_rfl) (by kernel_rfl) (by kernel_rfl) rfl rfl (OpVN.load_at rfl hB (fun b ⟨_, _, _, h⟩ => h) Tryd.isAgg46 rfl rfl) ?_
          | refine VN.take (i := 2) rfl (by kernel_rfl) (by kernel_rfl) (by kernel_rfl) rfl rfl (OpVN.of (OpV.load_own (i := 0) rfl hB Tryd.isAgg46 rfl rfl rfl (by first | exact (fun ⟨_, _, _, h⟩ => absurd h (Nat.not_le.2 (hN _ (List.mem_of_getElem? (i := 0) rfl) _ rfl))) | exact (fun ⟨_, _, _, h⟩ => absurd h (Nat.not_le.2 (hN _ (List.mem_of_getElem? (i := 1) rfl) _ rfl))) | exact (fun ⟨_, _, _, h⟩ => absurd h (Nat.not_le.2 (hN _ (List.mem_of_getElem? (i := 2) rfl) _ rfl)))))) ?_
          | refine VN.take (i := 2) rfl (by kernel_rfl) (by kernel_rfl) (by kernel_rfl) rfl rfl (OpVN.of (OpV.load_own (i := 1) rfl hB Tryd.isAgg46 rfl rfl rfl (by first | exact (fun ⟨_, _, _, h⟩ => absurd h (Nat.not_le.2 (hN _ (List.mem_of_getElem? (i := 0) rfl) _ rfl))) | exact (fun ⟨_, _, _, h⟩ => absurd h (Nat.not_le.2 (hN _ (List.mem_of_getElem? (i := 1) rfl) _ rfl))) | exact (fun ⟨_, _, _, h⟩ => absurd h (Nat.not_le.2 (hN _ (List.mem_of_getElem? (i := 2) rfl) _ rfl)))))) ?_
          | refine VN.take (i := 2) rfl (by kernel_rfl) (by kernel_rfl) (by kernel_rfl) rfl rfl (OpVN.of (OpV.load_own (i := 2) rfl hB Tryd.isAgg46 rfl rfl rfl (by first | exact (fun ⟨_, _, _, h⟩ => absurd h (Nat.not_le.2 (hN _ (List.mem_of_getElem? (i := 0) rfl) _ rfl))) | exact (fun ⟨_, _, _, h⟩ => absurd h (Nat.not_le.2 (hN _ (List.mem_of_getElem? (i := 1) rfl) _ rfl))) | exact (fun ⟨_, _, _, h⟩ => absurd h (Nat.not_le.2 (hN _ (List.mem_of_getElem? (i := 2) rfl) _ rfl)))))) ?_
        refine VN.take (i := 3) rfl (by kernel_rfl) (by kernel_rfl) (by kernel_rfl) rfl rfl (OpVN.of (OpV.move (.inl rfl) rfl)) ?_
        first
          | refine VN.take (i := 4) rfl (by kernel_rfl) (by kernel_rfl) (by kernel_rfl) rfl rfl (OpVN.of (OpV.indexAddr_E rfl Tryd.underlying46 Tryd.sizeOf106 rfl rfl rfl (by omega))) ?_
          | refine VN.take (i := 4) rfl (by kernel_rfl) (by kernel_rfl) (by kernel_rfl) rfl rfl (OpVN.of (OpV.indexAddr_E rfl Tryd.underlying46 Tryd.sizeOf106 rfl rfl (Int.toNat_of_nonneg (by omega)).symm (by omega))) ?_
          | refine VN.take (i := 4) rfl (by kernel_rfl) (by kernel_rfl) (by kernel_rfl) rfl rfl (OpVN.of (OpV.indexAddr_q rfl Tryd.underlying46 Tryd.sizeOf106 rfl rfl rfl (by omega))) ?_
          | refine VN.take (i := 4) rfl (by kernel_rfl) (by kernel_rfl) (by kernel_rfl) rfl rfl (OpVN.of (OpV.indexAddr_q rfl Tryd.underlying46 Tryd.sizeOf106 rfl rfl (Int.toNat_of_nonneg (by omega)).symm (by omega))) ?_
          | refine VN.take (i := 4) rfl (by kernel_rfl) (by kernel_rfl) (by kernel_rfl) rfl rfl (OpVN.of (OpV.indexAddr_im rfl Tryd.underlying46 Tryd.sizeOf106 rfl rfl (by omega) (by omega))) ?_
        first
          | refine VN.take (i := 5) rfl (by kernel_rfl) (by kernel_rfl) (by kernel_rfl) rfl rfl (OpVN.loadK_at rfl hB (fun b ⟨_, _, _, h⟩ => h) Tryd.isAgg106 Tryd.sizeOf106 rfl rfl) ?_
          | refine VN.take (i := 5) rfl (by kernel_rfl) (by kernel_rfl) (by kernel_rfl) rfl rfl (OpVN.of (OpV.loadK_own (i := 0) rfl hB Tryd.isAgg106 Tryd.sizeOf106 rfl rfl rfl (by first | exact (fun ⟨_, _, _, h⟩ => absurd h (Nat.not_le.2 (hN _ (List.mem_of_getElem? (i := 0) rfl) _ rfl))) | exact (fun ⟨_, _, _, h⟩ => absurd h (Nat.not_le.2 (hN _ (List.mem_of_getElem? (i := 1) rfl) _ rfl))) | exact (fun ⟨_, _, _, h⟩ => absurd h (Nat.not_le.2 (hN _ (List.mem_of_getElem? (i := 2) rfl) _ rfl)))))) ?_
          | refine VN.take (i := 5) rfl (by kernel_rfl) (by kernel_rfl) (by kernel_rfl) rfl rfl (OpVN.of (OpV.loadK_own (i := 1) rfl hB Tryd.isAgg106 Tryd.sizeOf106 rfl rfl rfl (by first | exact (fun ⟨_, _, _, h⟩ => absurd h (Nat.not_le.2 (hN _ (List.mem_of_getElem? (i := 0) rfl) _ rfl))) | exact (fun ⟨_, _, _, h⟩ => absurd h (Nat.not_le.2 (hN _ (List.mem_of_getElem? (i := 1) rfl) _ rfl))) | exact (fun ⟨_, _, _, h⟩ => absurd h (Nat.not_le.2 (hN _ (List.mem_of_getElem? (i := 2) rfl) _ rfl)))))) ?_
          | refine VN.take (i := 5) rfl (by kernel_rfl) (by kernel_rfl) (by kernel_rfl) rfl rfl (OpVN.of (OpV.loadK_own (i := 2) rfl hB Tryd.isAgg106 Tryd.sizeOf106 rfl rfl rfl (by first | exact (fun ⟨_, _, _, h⟩ => absurd h (Nat.not_le.2 (hN _ (List.mem_of_getElem? (i := 0) rfl) _ rfl))) | exact (fun ⟨_, _, _, h⟩ => absurd h (Nat.not_le.2 (hN _ (List.mem_of_getElem? (i := 1) rfl) _ rfl))) | exact (fun ⟨_, _, _, h⟩ => absurd h (Nat.not_le.2 (hN _ (List.mem_of_getElem? (i := 2) rfl) _ rfl)))))) ?_
        first
          | refine VN.take (i := 7) rfl (by kernel_rfl) (by kernel_rfl) (by kernel_rfl) rfl rfl (OpVN.loadK_at rfl hB (fun b ⟨_, _, _, h⟩ => h) Tryd.isAgg44 Tryd.sizeOf44 rfl rfl) ?_
          | refine VN.take (i := 7) rfl (by kernel_rfl) (by kernel_rfl) (by kernel_rfl) rfl rfl (OpVN.of (OpV.loadK_own (i := 0) rfl hB Tryd.isAgg44 Tryd.sizeOf44 rfl rfl rfl (by first | exact (fun ⟨_, _, _, h⟩ => absurd h (Nat.not_le.2 (hN _ (List.mem_of_getElem? (i := 0) rfl) _ rfl))) | exact (fun ⟨_, _, _, h⟩ => absurd h (Nat.not_le.2 (hN _ (List.mem_of_getElem? (i := 1) rfl) _ rfl))) | exact (fun ⟨_, _, _, h⟩ => absurd h (Nat.not_le.2 (hN _ (List.mem_of_getElem? (i := 2) rfl) _ rfl)))))) ?_
          | refine VN.take (i := 7) rfl (by kernel_rfl) (by kernel_rfl) (by kernel_rfl) rfl rfl (OpVN.of (OpV.loadK_own (i := 1) rfl hB Tryd.isAgg44 Tryd.sizeOf44 rfl rfl rfl (by first | exact (fun ⟨_, _, _, h⟩ => absurd h (Nat.not_le.2 (hN _ (List.mem_of_getElem? (i := 0) rfl) _ rfl))) | exact (fun ⟨_, _, _, h⟩ => absurd h (Nat.not_le.2 (hN _ (List.mem_of_getElem? (i := 1) rfl) _ rfl))) | exact (fun ⟨_, _, _, h⟩ => absurd h (Nat.not_le.2 (hN _ (List.mem_of_getElem? (i := 2) rfl) _ rfl)))))) ?_
          | refine VN.take (i := 7) rfl (by kernel_rfl) (by kernel_rfl) (by kernel_rfl) rfl rfl (OpVN.of (OpV.loadK_own (i := 2) rfl hB Tryd.isAgg44 Tryd.sizeOf44 rfl rfl rfl (by first | exact (fun ⟨_, _, _, h⟩ => absurd h (Nat.not_le.2 (hN _ (List.mem_of_getElem? (i := 0) rfl) _ rfl))) | exact (fun ⟨_, _, _, h⟩ => absurd h (Nat.not_le.2 (hN _ (List.mem_of_getElem? (i := 1) rfl) _ rfl))) | exact (fun ⟨_, _, _, h⟩ => absurd h (Nat.not_le.2 (hN _ (List.mem_of_getElem? (i := 2) rfl) _ rfl)))))) ?_
        first
          | refine VN.take (i := 8) rfl (by kernel_rfl) (by kernel_rfl) (by kernel_rfl) rfl rfl (OpVN.of (OpV.fieldAddr_atO 2 rfl Tryd.underlying48 rfl rfl Tryd.sizeOf46 rfl rfl)) ?_
          | refine VN.take (i := 8) rfl (by kernel_rfl) (by kernel_rfl) (by kernel_rfl) rfl rfl (OpVN.of (OpV.fieldAddrO 2 rfl Tryd.underlying48 rfl rfl Tryd.sizeOf46 rfl)) ?_
        first
          | refine VN.take (i := 9) rfl (by kernel_rfl) (by kernel_rfl) (by kernel_rfl) rfl rfl (OpVN.load_at rfl hB (fun b ⟨_, _, _, h⟩ => h) Tryd.isAgg46 rfl rfl) ?_
          | refine VN.take (i := 9) rfl (by kernel_rfl) (by kernel_rfl) (by kernel_rfl) rfl rfl (OpVN.of (OpV.load_own (i := 0) rfl hB Tryd.isAgg46 rfl rfl rfl (by first | exact (fun ⟨_, _, _, h⟩ => absurd h (Nat.not_le.2 (hN _ (List.mem_of_getElem? (i := 0) rfl) _ rfl))) | exact (fun ⟨_, _, _, h⟩ => absurd h (Nat.not_le.2 (hN _ (List.mem_of_getElem? (i := 1) rfl) _ rfl))) | exact (fun ⟨_, _, _, h⟩ => absurd h (Nat.not_le.2 (hN _ (List.mem_of_getElem? (i := 2) rfl) _ rfl)))))) ?_
          | refine VN.take (i := 9) rfl (by kernel_rfl) (by kernel_rfl) (by kernel_rfl) rfl rfl (OpVN.of (OpV.load_own (i := 1) rfl hB Tryd.isAgg46 rfl rfl rfl (by first | exact (fun ⟨_, _, _, h⟩ => absurd h (Nat.not_le.2 (hN _ (List.mem_of_getElem? (i := 0) rfl) _ rfl))) | exact (fun ⟨_, _, _, h⟩ => absurd h (Nat.not_le.2 (hN _ (List.mem_of_getElem? (i := 1) rfl) _ rfl))) | exact (fun ⟨_, _, _, h⟩ => absurd h (Nat.not_le.2 (hN _ (List.mem_of_getElem? (i := 2) rfl) _ rfl)))))) ?_
          | refine VN.take (i := 9) rfl (by kernel_rfl) (by kernel_rfl) (by kernel_rfl) rfl rfl (OpVN.of (OpV.load_own (i := 2) rfl hB Tryd.isAgg46 rfl rfl rfl (by first | exact (fun ⟨_, _, _, h⟩ => absurd h (Nat.not_le.2 (hN _ (List.mem_of_getElem? (i := 0) rfl) _ rfl))) | exact (fun ⟨_, _, _, h⟩ => absurd h (Nat.not_le.2 (hN _ (List.mem_of_getElem? (i := 1) rfl) _ rfl))) | exact (fun ⟨_, _, _, h⟩ => absurd h (Nat.not_le.2 (hN _ (List.mem_of_getElem? (i := 2) rfl) _ rfl)))))) ?_
        refine VN.take (i := 10) rfl (by kernel_rfl) (by kernel_rfl) (by kernel_rfl) rfl rfl (OpVN.of (OpV.move (.inl rfl) rfl)) ?_
        first
          | refine VN.take (i := 11) rfl (by kernel_rfl) (by kernel_rfl) (by kernel_rfl) rfl rfl (OpVN.of (OpV.indexAddr_E rfl Tryd.underlying46 Tryd.sizeOf106 rfl rfl rfl (by omega))) ?_
          | refine VN.take (i := 11) rfl (by kernel_rfl) (by kernel_rfl) (by kernel_rfl) rfl rfl (OpVN.of (OpV.indexAddr_E rfl Tryd.underlying46 Tryd.sizeOf106 rfl rfl (Int.toNat_of_nonneg (by omega)).symm (by omega))) ?_
          | refine VN.take (i := 11) rfl (by kernel_rfl) (by kernel_rfl) (by kernel_rfl) rfl rfl (OpVN.of (OpV.indexAddr_q rfl Tryd.underlying46 Tryd.sizeOf106 rfl rfl rfl (by omega))) ?_
          | refine VN.take (i := 11) rfl (by kernel_rfl) (by kernel_rfl) (by kernel_rfl) rfl rfl (OpVN.of (OpV.indexAddr_q rfl Tryd.underlying46 Tryd.sizeOf106 rfl rfl (Int.toNat_of_nonneg (by omega)).symm (by omega))) ?_
          | refine VN.take (i := 11) rfl (by kernel_rfl) (by kernel_rfl) (by kernel_rfl) rfl rfl (OpVN.of (OpV.indexAddr_im rfl Tryd.underlying46 Tryd.sizeOf106 rfl rfl (by omega) (by omega))) ?_
        first
          | refine VN.take (i := 12) rfl (by kernel_rfl) (by kernel_rfl) (by kernel_rfl) rfl rfl (OpVN.loadK_at rfl hB (fun b ⟨_, _, _, h⟩ => h) Tryd.isAgg106 Tryd.sizeOf106 rfl rfl) ?_
          | refine VN.take (i := 12) rfl (by kernel_rfl) (by kernel_rfl) (by kernel_rfl) rfl rfl (OpVN.of (OpV.loadK_own (i := 0) rfl hB Tryd.isAgg106 Tryd.sizeOf106 rfl rfl rfl (by first | exact (fun ⟨_, _, _, h⟩ => absurd h (Nat.not_le.2 (hN _ (List.mem_of_getElem? (i := 0) rfl) _ rfl))) | exact (fun ⟨_, _, _, h⟩ => absurd h (Nat.not_le.2 (hN _ (List.mem_of_getElem? (i := 1) rfl) _ rfl))) | exact (fun ⟨_, _, _, h⟩ => absurd h (Nat.not_le.2 (hN _ (List.mem_of_getElem? (i := 2) rfl) _ rfl)))))) ?_
          | refine VN.take (i := 12) rfl (by kernel_rfl) (by kernel_rfl) (by kernel_rfl) rfl rfl (OpVN.of (OpV.loadK_own (i := 1) rfl hB Tryd.isAgg106 Tryd.sizeOf106 rfl rfl rfl (by first | exact (fun ⟨_, _, _, h⟩ => absurd h (Nat.not_le.2 (hN _ (List.mem_of_getElem? (i := 0) rfl) _ rfl))) | exact (fun ⟨_, _, _, h⟩ => absurd h (Nat.not_le.2 (hN _ (List.mem_of_getElem? (i := 1) rfl) _ rfl))) | exact (fun ⟨_, _, _, h⟩ => absurd h (Nat.not_le.2 (hN _ (List.mem_of_getElem? (i := 2) rfl) _ rfl)))))) ?_
          | refine VN.take (i := 12) rfl (by kernel_rfl) (by kernel_rfl) (by kernel_rfl) rfl rfl (OpVN.of (OpV.loadK_own (i := 2) rfl hB Tryd.isAgg106 Tryd.sizeOf106 rfl rfl rfl (by first | exact (fun ⟨_, _, _, h⟩ => absurd h (Nat.not_le.2 (hN _ (List.mem_of_getElem? (i := 0) rfl) _ rfl))) | exact (fun ⟨_, _, _, h⟩ => absurd h (Nat.not_le.2 (hN _ (List.mem_of_getElem? (i := 1) rfl) _ rfl))) | exact (fun ⟨_, _, _, h⟩ => absurd h (Nat.not_le.2 (hN _ (List.mem_of_getElem? (i := 2) rfl) _ rfl)))))) ?_
        refine VN.toM ?_
        refine VM.all (rs := [6, 14, 15]) (by kernel_rfl) (by decide) ?_
        refine ⟨⟨_, rfl, rfl, ?_⟩, ⟨_, rfl, rfl, ?_⟩, ⟨_, rfl, rfl, ?_⟩, trivial⟩
        ·
          refine OpM.of ?_
          refine OpE.call rfl hB rfl Tryd.call58 rfl (SpecN.spec (rf_boardBox (s := n.slots.getD q default) ⟨hw, hh⟩ hsl)) ?_
          rintro _ rfl
          refine VM.all (rs := [13, 14, 15]) (by kernel_rfl) (by decide) ?_
          refine ⟨⟨_, rfl, rfl, ?_⟩, ⟨_, rfl, rfl, ?_⟩, ⟨_, rfl, rfl, ?_⟩, trivial⟩
          ·
            refine OpM.of ?_
            refine OpE.call rfl hB rfl Tryd.call58 rfl (SpecN.spec (rf_boardBox (s := n.slots.getD k default) ⟨hw, hh⟩ hsl2)) ?_
            rintro _ rfl
            refine VM.all (rs := [14, 15]) (by kernel_rfl) (by decide) ?_
            refine ⟨⟨_, rfl, rfl, ?_⟩, ⟨_, rfl, rfl, ?_⟩, trivial⟩
            ·
              refine OpM.alloc rfl hB rfl Tryd.zeroValue112 rfl ?_
              intro g8 hg8
              refine VM.all (rs := [15]) (by kernel_rfl) (by decide) ?_
              refine ⟨⟨_, rfl, rfl, ?_⟩, trivial⟩
              refine OpM.alloc rfl hB rfl Tryd.zeroValue112 rfl ?_
              intro g9 hg9
              refine VM.all (rs := [16]) (by kernel_rfl) (by decide) ?_
              refine ⟨⟨_, rfl, rfl, ?_⟩, trivial⟩
              refine OpM.of ?_
              refine OpE.store (i := 3) rfl hB rfl Tryd.sizeOf112 rfl rfl rfl rfl rfl rfl (Nat.le_of_ble_eq_true rfl) ⟨by decide, by assumption⟩ ?_
              refine VM.all (rs := [17]) (by kernel_rfl) (by decide) ?_
              refine ⟨⟨_, rfl, rfl, ?_⟩, trivial⟩
              refine OpM.of ?_
              refine OpE.store (i := 4) rfl hB rfl Tryd.sizeOf112 rfl rfl rfl rfl rfl rfl (Nat.le_of_ble_eq_true rfl) ⟨by decide, by assumption⟩ ?_
              refine VM.done (by kernel_rfl) ?_
              exact Exists.intro (⟨g8, g9⟩) (Le.pick hB [0, 1, 2, 3, 4] ⟨rfl, rfl, rfl, rfl, rfl, rfl, rfl, rfl, rfl, trivial⟩ rfl rfl (Nat.le_refl _))
            ·
              refine OpM.alloc rfl hB rfl Tryd.zeroValue112 rfl ?_
              intro g9 hg9
              refine VM.all (rs := [14]) (by kernel_rfl) (by decide) ?_
              refine ⟨⟨_, rfl, rfl, ?_⟩, trivial⟩
              refine OpM.alloc rfl hB rfl Tryd.zeroValue112 rfl ?_
              intro g8 hg8
              refine VM.all (rs := [16]) (by kernel_rfl) (by decide) ?_
              refine ⟨⟨_, rfl, rfl, ?_⟩, trivial⟩
              refine OpM.of ?_
              refine OpE.store (i := 4) rfl hB rfl Tryd.sizeOf112 rfl rfl rfl rfl rfl rfl (Nat.le_of_ble_eq_true rfl) ⟨by decide, by assumption⟩ ?_
              refine VM.all (rs := [17]) (by kernel_rfl) (by decide) ?_
              refine ⟨⟨_, rfl, rfl, ?_⟩, trivial⟩
              refine OpM.of ?_
              refine OpE.store (i := 3) rfl hB rfl Tryd.sizeOf112 rfl rfl rfl rfl rfl rfl (Nat.le_of_ble_eq_true rfl) ⟨by decide, by assumption⟩ ?_
              refine VM.done (by kernel_rfl) ?_
              exact Exists.intro (⟨g8, g9⟩) (Le.pick hB [0, 1, 2, 4, 3] ⟨rfl, rfl, rfl, rfl, rfl, rfl, rfl, rfl, rfl, trivial⟩ rfl rfl (Nat.le_refl _))
          ·
            refine OpM.alloc rfl hB rfl Tryd.zeroValue112 rfl ?_
            intro g8 hg8
            refine VM.all (rs := [13, 15]) (by kernel_rfl) (by decide) ?_
            refine ⟨⟨_, rfl, rfl, ?_⟩, ⟨_, rfl, rfl, ?_⟩, trivial⟩
            ·
              refine OpM.of ?_
              refine OpE.call rfl hB rfl Tryd.call58 rfl (SpecN.spec (rf_boardBox (s := n.slots.getD k default) ⟨hw, hh⟩ hsl2)) ?_
              rintro _ rfl
              refine VM.all (rs := [15]) (by kernel_rfl) (by decide) ?_
              refine ⟨⟨_, rfl, rfl, ?_⟩, trivial⟩
              refine OpM.alloc rfl hB rfl Tryd.zeroValue112 rfl ?_
              intro g9 hg9
              refine VM.all (rs := [16]) (by kernel_rfl) (by decide) ?_
              refine ⟨⟨_, rfl, rfl, ?_⟩, trivial⟩
              refine OpM.of ?_
              refine OpE.store (i := 3) rfl hB rfl Tryd.sizeOf112 rfl rfl rfl rfl rfl rfl (Nat.le_of_ble_eq_true rfl) ⟨by decide, by assumption⟩ ?_
              refine VM.all (rs := [17]) (by kernel_rfl) (by decide) ?_
              refine ⟨⟨_, rfl, rfl, ?_⟩, trivial⟩
              refine OpM.of ?_
              refine OpE.store (i := 4) rfl hB rfl Tryd.sizeOf112 rfl rfl rfl rfl rfl rfl (Nat.le_of_ble_eq_true rfl) ⟨by decide, by assumption⟩ ?_
              refine VM.done (by kernel_rfl) ?_
              exact Exists.intro (⟨g8, g9⟩) (Le.pick hB [0, 1, 2, 3, 4] ⟨rfl, rfl, rfl, rfl, rfl, rfl, rfl, rfl, rfl, trivial⟩ rfl rfl (Nat.le_refl _))
            ·
              refine OpM.alloc rfl hB rfl Tryd.zeroValue112 rfl ?_
              intro g9 hg9
              refine VM.all (rs := [13]) (by kernel_rfl) (by decide) ?_
              refine ⟨⟨_, rfl, rfl, ?_⟩, trivial⟩
              refine OpM.of ?_
              refine OpE.call rfl hB rfl Tryd.call58 rfl (SpecN.spec (rf_boardBox (s := n.slots.getD k default) ⟨hw, hh⟩ hsl2)) ?_
              rintro _ rfl
              refine VM.all (rs := [16]) (by kernel_rfl) (by decide) ?_
              refine ⟨⟨_, rfl, rfl, ?_⟩, trivial⟩
              refine OpM.of ?_
              refine OpE.store (i := 3) rfl hB rfl Tryd.sizeOf112 rfl rfl rfl rfl rfl rfl (Nat.le_of_ble_eq_true rfl) ⟨by decide, by assumption⟩ ?_
              refine VM.all (rs := [17]) (by kernel_rfl) (by decide) ?_
              refine ⟨⟨_, rfl, rfl, ?_⟩, trivial⟩
              refine OpM.of ?_
              refine OpE.store (i := 4) rfl hB rfl Tryd.sizeOf112 rfl rfl rfl rfl rfl rfl (Nat.le_of_ble_eq_true rfl) ⟨by decide, by assumption⟩ ?_
              refine VM.done (by kernel_rfl) ?_
              exact Exists.intro (⟨g8, g9⟩) (Le.pick hB [0, 1, 2, 3, 4] ⟨rfl, rfl, rfl, rfl, rfl, rfl, rfl, rfl, rfl, trivial⟩ rfl rfl (Nat.le_refl _))
          ·
            refine OpM.alloc rfl hB rfl Tryd.zeroValue112 rfl ?_
            intro g9 hg9
            refine VM.all (rs := [13, 14]) (by kernel_rfl) (by decide) ?_
            refine ⟨⟨_, rfl, rfl, ?_⟩, ⟨_, rfl, rfl, ?_⟩, trivial⟩
            ·
              refine OpM.of ?_
              refine OpE.call rfl hB rfl Tryd.call58 rfl (SpecN.spec (rf_boardBox (s := n.slots.getD k default) ⟨hw, hh⟩ hsl2)) ?_
              rintro _ rfl
              refine VM.all (rs := [14]) (by kernel_rfl) (by decide) ?_
              refine ⟨⟨_, rfl, rfl, ?_⟩, trivial⟩
              refine OpM.alloc rfl hB rfl Tryd.zeroValue112 rfl ?_
              intro g8 hg8
              refine VM.all (rs := [16]) (by kernel_rfl) (by decide) ?_
              refine ⟨⟨_, rfl, rfl, ?_⟩, trivial⟩
              refine OpM.of ?_
              refine OpE.store (i := 4) rfl hB rfl Tryd.sizeOf112 rfl rfl rfl rfl rfl rfl (Nat.le_of_ble_eq_true rfl) ⟨by decide, by assumption⟩ ?_
              refine VM.all (rs := [17]) (by kernel_rfl) (by decide) ?_
              refine ⟨⟨_, rfl, rfl, ?_⟩, trivial⟩
              refine OpM.of ?_
              refine OpE.store (i := 3) rfl hB rfl Tryd.sizeOf112 rfl rfl rfl rfl rfl rfl (Nat.le_of_ble_eq_true rfl) ⟨by decide, by assumption⟩ ?_
              refine VM.done (by kernel_rfl) ?_
              exact Exists.intro (⟨g8, g9⟩) (Le.pick hB [0, 1, 2, 4, 3] ⟨rfl, rfl, rfl, rfl, rfl, rfl, rfl, rfl, rfl, trivial⟩ rfl rfl (Nat.le_refl _))
            ·
              refine OpM.alloc rfl hB rfl Tryd.zeroValue112 rfl ?_
              intro g8 hg8
              refine VM.all (rs := [13]) (by kernel_rfl) (by decide) ?_
              refine ⟨⟨_, rfl, rfl, ?_⟩, trivial⟩
              refine OpM.of ?_
              refine OpE.call rfl hB rfl Tryd.call58 rfl (SpecN.spec (rf_boardBox (s := n.slots.getD k default) ⟨hw, hh⟩ hsl2)) ?_
              rintro _ rfl
              refine VM.all (rs := [16]) (by kernel_rfl) (by decide) ?_
              refine ⟨⟨_, rfl, rfl, ?_⟩, trivial⟩
              refine OpM.of ?_
              refine OpE.store (i := 4) rfl hB rfl Tryd.sizeOf112 rfl rfl rfl rfl rfl rfl (Nat.le_of_ble_eq_true rfl) ⟨by decide, by assumption⟩ ?_
              refine VM.all (rs := [17]) (by kernel_rfl) (by decide) ?_
              refine ⟨⟨_, rfl, rfl, ?_⟩, trivial⟩
              refine OpM.of ?_
              refine OpE.store (i := 3) rfl hB rfl Tryd.sizeOf112 rfl rfl rfl rfl rfl rfl (Nat.le_of_ble_eq_true rfl) ⟨by decide, by assumption⟩ ?_
              refine VM.done (by kernel_rfl) ?_
              exact Exists.intro (⟨g8, g9⟩) (Le.pick hB [0, 1, 2, 4, 3] ⟨rfl, rfl, rfl, rfl, rfl, rfl, rfl, rfl, rfl, trivial⟩ rfl rfl (Nat.le_refl _))
        ·
          refine OpM.alloc rfl hB rfl Tryd.zeroValue112 rfl ?_
          intro g8 hg8
          refine VM.all (rs := [6, 15]) (by kernel_rfl) (by decide) ?_
          refine ⟨⟨_, rfl, rfl, ?_⟩, ⟨_, rfl, rfl, ?_⟩, trivial⟩
          ·
            refine OpM.of ?_
            refine OpE.call rfl hB rfl Tryd.call58 rfl (SpecN.spec (rf_boardBox (s := n.slots.getD q default) ⟨hw, hh⟩ hsl)) ?_
            rintro _ rfl
            refine VM.all (rs := [13, 15]) (by kernel_rfl) (by decide) ?_
            refine ⟨⟨_, rfl, rfl, ?_⟩, ⟨_, rfl, rfl, ?_⟩, trivial⟩
            ·
              refine OpM.of ?_
              refine OpE.call rfl hB rfl Tryd.call58 rfl (SpecN.spec (rf_boardBox (s := n.slots.getD k default) ⟨hw, hh⟩ hsl2)) ?_
              rintro _ rfl
              refine VM.all (rs := [15]) (by kernel_rfl) (by decide) ?_
              refine ⟨⟨_, rfl, rfl, ?_⟩, trivial⟩
              refine OpM.alloc rfl hB rfl Tryd.zeroValue112 rfl ?_
              intro g9 hg9
              refine VM.all (rs := [16]) (by kernel_rfl) (by decide) ?_
              refine ⟨⟨_, rfl, rfl, ?_⟩, trivial⟩
              refine OpM.of ?_
              refine OpE.store (i := 3) rfl hB rfl Tryd.sizeOf112 rfl rfl rfl rfl rfl rfl (Nat.le_of_ble_eq_true rfl) ⟨by decide, by assumption⟩ ?_
              refine VM.all (rs := [17]) (by kernel_rfl) (by decide) ?_
              refine ⟨⟨_, rfl, rfl, ?_⟩, trivial⟩
              refine OpM.of ?_
              refine OpE.store (i := 4) rfl hB rfl Tryd.sizeOf112 rfl rfl rfl rfl rfl rfl (Nat.le_of_ble_eq_true rfl) ⟨by decide, by assumption⟩ ?_
              refine VM.done (by kernel_rfl) ?_
              exact Exists.intro (⟨g8, g9⟩) (Le.pick hB [0, 1, 2, 3, 4] ⟨rfl, rfl, rfl, rfl, rfl, rfl, rfl, rfl, rfl, trivial⟩ rfl rfl (Nat.le_refl _))
            ·
              refine OpM.alloc rfl hB rfl Tryd.zeroValue112 rfl ?_
              intro g9 hg9
              refine VM.all (rs := [13]) (by kernel_rfl) (by decide) ?_
              refine ⟨⟨_, rfl, rfl, ?_⟩, trivial⟩
              refine OpM.of ?_
              refine OpE.call rfl hB rfl Tryd.call58 rfl (SpecN.spec (rf_boardBox (s := n.slots.getD k default) ⟨hw, hh⟩ hsl2)) ?_
              rintro _ rfl
              refine VM.all (rs := [16]) (by kernel_rfl) (by decide) ?_
              refine ⟨⟨_, rfl, rfl, ?_⟩, trivial⟩
              refine OpM.of ?_
              refine OpE.store (i := 3) rfl hB rfl Tryd.sizeOf112 rfl rfl rfl rfl rfl rfl (Nat.le_of_ble_eq_true rfl) ⟨by decide, by assumption⟩ ?_
              refine VM.all (rs := [17]) (by kernel_rfl) (by decide) ?_
              refine ⟨⟨_, rfl, rfl, ?_⟩, trivial⟩
              refine OpM.of ?_
              refine OpE.store (i := 4) rfl hB rfl Tryd.sizeOf112 rfl rfl rfl rfl rfl rfl (Nat.le_of_ble_eq_true rfl) ⟨by decide, by assumption⟩ ?_
              refine VM.done (by kernel_rfl) ?_
              exact Exists.intro (⟨g8, g9⟩) (Le.pick hB [0, 1, 2, 3, 4] ⟨rfl, rfl, rfl, rfl, rfl, rfl, rfl, rfl, rfl, trivial⟩ rfl rfl (Nat.le_refl _))
          ·
            refine OpM.alloc rfl hB rfl Tryd.zeroValue112 rfl ?_
            intro g9 hg9
            refine VM.all (rs := [6]) (by kernel_rfl) (by decide) ?_
            refine ⟨⟨_, rfl, rfl, ?_⟩, trivial⟩
            refine OpM.of ?_
            refine OpE.call rfl hB rfl Tryd.call58 rfl (SpecN.spec (rf_boardBox (s := n.slots.getD q default) ⟨hw, hh⟩ hsl)) ?_
            rintro _ rfl
            refine VM.all (rs := [13]) (by kernel_rfl) (by decide) ?_
            refine ⟨⟨_, rfl, rfl, ?_⟩, trivial⟩
            refine OpM.of ?_
            refine OpE.call rfl hB rfl Tryd.call58 rfl (SpecN.spec (rf_boardBox (s := n.slots.getD k default) ⟨hw, hh⟩ hsl2)) ?_
            rintro _ rfl
            refine VM.all (rs := [16]) (by kernel_rfl) (by decide) ?_
            refine ⟨⟨_, rfl, rfl, ?_⟩, trivial⟩
            refine OpM.of ?_
            refine OpE.store (i := 3) rfl hB rfl Tryd.sizeOf112 rfl rfl rfl rfl rfl rfl (Nat.le_of_ble_eq_true rfl) ⟨by decide, by assumption⟩ ?_
            refine VM.all (rs := [17]) (by kernel_rfl) (by decide) ?_
            refine ⟨⟨_, rfl, rfl, ?_⟩, trivial⟩
            refine OpM.of ?_
            refine OpE.store (i := 4) rfl hB rfl Tryd.sizeOf112 rfl rfl rfl rfl rfl rfl (Nat.le_of_ble_eq_true rfl) ⟨by decide, by assumption⟩ ?_
            refine VM.done (by kernel_rfl) ?_
            exact Exists.intro (⟨g8, g9⟩) (Le.pick hB [0, 1, 2, 3, 4] ⟨rfl, rfl, rfl, rfl, rfl, rfl, rfl, rfl, rfl, trivial⟩ rfl rfl (Nat.le_refl _))
        ·
          refine OpM.alloc rfl hB rfl Tryd.zeroValue112 rfl ?_
          intro g9 hg9
          refine VM.all (rs := [6, 14]) (by kernel_rfl) (by decide) ?_
          refine ⟨⟨_, rfl, rfl, ?_⟩, ⟨_, rfl, rfl, ?_⟩, trivial⟩
          ·
            refine OpM.of ?_
            refine OpE.call rfl hB rfl Tryd.call58 rfl (SpecN.spec (rf_boardBox (s := n.slots.getD q default) ⟨hw, hh⟩ hsl)) ?_
            rintro _ rfl
            refine VM.all (rs := [13, 14]) (by kernel_rfl) (by decide) ?_
            refine ⟨⟨_, rfl, rfl, ?_⟩, ⟨_, rfl, rfl, ?_⟩, trivial⟩
            ·
              refine OpM.of ?_
              refine OpE.call rfl hB rfl Tryd.call58 rfl (SpecN.spec (rf_boardBox (s := n.slots.getD k default) ⟨hw, hh⟩ hsl2)) ?_
              rintro _ rfl
              refine VM.all (rs := [14]) (by kernel_rfl) (by decide) ?_
              refine ⟨⟨_, rfl, rfl, ?_⟩, trivial⟩
              refine OpM.alloc rfl hB rfl Tryd.zeroValue112 rfl ?_
              intro g8 hg8
              refine VM.all (rs := [16]) (by kernel_rfl) (by decide) ?_
              refine ⟨⟨_, rfl, rfl, ?_⟩, trivial⟩
              refine OpM.of ?_
              refine OpE.store (i := 4) rfl hB rfl Tryd.sizeOf112 rfl rfl rfl rfl rfl rfl (Nat.le_of_ble_eq_true rfl) ⟨by decide, by assumption⟩ ?_
              refine VM.all (rs := [17]) (by kernel_rfl) (by decide) ?_
              refine ⟨⟨_, rfl, rfl, ?_⟩, trivial⟩
              refine OpM.of ?_
              refine OpE.store (i := 3) rfl hB rfl Tryd.sizeOf112 rfl rfl rfl rfl rfl rfl (Nat.le_of_ble_eq_true rfl) ⟨by decide, by assumption⟩ ?_
              refine VM.done (by kernel_rfl) ?_
              exact Exists.intro (⟨g8, g9⟩) (Le.pick hB [0, 1, 2, 4, 3] ⟨rfl, rfl, rfl, rfl, rfl, rfl, rfl, rfl, rfl, trivial⟩ rfl rfl (Nat.le_refl _))
            ·
              refine OpM.alloc rfl hB rfl Tryd.zeroValue112 rfl ?_
              intro g8 hg8
              refine VM.all (rs := [13]) (by kernel_rfl) (by decide) ?_
              refine ⟨⟨_, rfl, rfl, ?_⟩, trivial⟩
              refine OpM.of ?_
              refine OpE.call rfl hB rfl Tryd.call58 rfl (SpecN.spec (rf_boardBox (s := n.slots.getD k default) ⟨hw, hh⟩ hsl2)) ?_
              rintro _ rfl
              refine VM.all (rs := [16]) (by kernel_rfl) (by decide) ?_
              refine ⟨⟨_, rfl, rfl, ?_⟩, trivial⟩
              refine OpM.of ?_
              refine OpE.store (i := 4) rfl hB rfl Tryd.sizeOf112 rfl rfl rfl rfl rfl rfl (Nat.le_of_ble_eq_true rfl) ⟨by decide, by assumption⟩ ?_
              refine VM.all (rs := [17]) (by kernel_rfl) (by decide) ?_
              refine ⟨⟨_, rfl, rfl, ?_⟩, trivial⟩
              refine OpM.of ?_
              refine OpE.store (i := 3) rfl hB rfl Tryd.sizeOf112 rfl rfl rfl rfl rfl rfl (Nat.le_of_ble_eq_true rfl) ⟨by decide, by assumption⟩ ?_
              refine VM.done (by kernel_rfl) ?_
              exact Exists.intro (⟨g8, g9⟩) (Le.pick hB [0, 1, 2, 4, 3] ⟨rfl, rfl, rfl, rfl, rfl, rfl, rfl, rfl, rfl, trivial⟩ rfl rfl (Nat.le_refl _))
          ·
            refine OpM.alloc rfl hB rfl Tryd.zeroValue112 rfl ?_
            intro g8 hg8
            refine VM.all (rs := [6]) (by kernel_rfl) (by decide) ?_
            refine ⟨⟨_, rfl, rfl, ?_⟩, trivial⟩
            refine OpM.of ?_
            refine OpE.call rfl hB rfl Tryd.call58 rfl (SpecN.spec (rf_boardBox (s := n.slots.getD q default) ⟨hw, hh⟩ hsl)) ?_
            rintro _ rfl
            refine VM.all (rs := [13]) (by kernel_rfl) (by decide) ?_
            refine ⟨⟨_, rfl, rfl, ?_⟩, trivial⟩
            refine OpM.of ?_
            refine OpE.call rfl hB rfl Tryd.call58 rfl (SpecN.spec (rf_boardBox (s := n.slots.getD k default) ⟨hw, hh⟩ hsl2)) ?_
            rintro _ rfl
            refine VM.all (rs := [16]) (by kernel_rfl) (by decide) ?_
            refine ⟨⟨_, rfl, rfl, ?_⟩, trivial⟩
            refine OpM.of ?_
            refine OpE.store (i := 4) rfl hB rfl Tryd.sizeOf112 rfl rfl rfl rfl rfl rfl (Nat.le_of_ble_eq_true rfl) ⟨by decide, by assumption⟩ ?_
            refine VM.all (rs := [17]) (by kernel_rfl) (by decide) ?_
            refine ⟨⟨_, rfl, rfl, ?_⟩, trivial⟩
            refine OpM.of ?_
            refine OpE.store (i := 3) rfl hB rfl Tryd.sizeOf112 rfl rfl rfl rfl rfl rfl (Nat.le_of_ble_eq_true rfl) ⟨by decide, by assumption⟩ ?_
            refine VM.done (by kernel_rfl) ?_
            exact Exists.intro (⟨g8, g9⟩) (Le.pick hB [0, 1, 2, 4, 3] ⟨rfl, rfl, rfl, rfl, rfl, rfl, rfl, rfl, rfl, trivial⟩ rfl rfl (Nat.le_refl _))
      ·
        rintro ⟨g8, g9⟩
        refine VC.seq ?_
        refine VC.region ?_
        first
          | refine VO.val rfl rfl (OpV.fieldAddr_atO 2 rfl Tryd.underlying112 rfl rfl Tryd.sizeOf3 rfl rfl) ?_
          | refine VO.val rfl rfl (OpV.fieldAddrO 2 rfl Tryd.underlying112 rfl rfl Tryd.sizeOf3 rfl) ?_
        refine VO.val rfl rfl (OpV.load_own (i := 3) rfl hB Tryd.isAgg3 rfl rfl rfl (fun h => h)) ?_
        first
          | refine VO.val rfl rfl (OpV.fieldAddr_atO 2 rfl Tryd.underlying112 rfl rfl Tryd.sizeOf3 rfl rfl) ?_
          | refine VO.val rfl rfl (OpV.fieldAddrO 2 rfl Tryd.underlying112 rfl rfl Tryd.sizeOf3 rfl) ?_
        refine VO.val rfl rfl (OpV.load_own (i := 4) rfl hB Tryd.isAgg3 rfl rfl rfl (fun h => h)) ?_
        refine VO.val rfl rfl (OpV.min2 rfl rfl rfl) ?_
        first
          | refine VO.val rfl rfl (OpV.fieldAddr_atO 0 rfl Tryd.underlying112 rfl rfl Tryd.sizeOf3 rfl rfl) ?_
          | refine VO.val rfl rfl (OpV.fieldAddrO 0 rfl Tryd.underlying112 rfl rfl Tryd.sizeOf3 rfl) ?_
        refine VO.val rfl rfl (OpV.load_own (i := 3) rfl hB Tryd.isAgg3 rfl rfl rfl (fun h => h)) ?_
        first
          | refine VO.val rfl rfl (OpV.fieldAddr_atO 0 rfl Tryd.underlying112 rfl rfl Tryd.sizeOf3 rfl rfl) ?_
          | refine VO.val rfl rfl (OpV.fieldAddrO 0 rfl Tryd.underlying112 rfl rfl Tryd.sizeOf3 rfl) ?_
        refine VO.val rfl rfl (OpV.load_own (i := 4) rfl hB Tryd.isAgg3 rfl rfl rfl (fun h => h)) ?_
        refine VO.val rfl rfl (OpV.max2 rfl rfl rfl) ?_
        refine VO.val rfl rfl (OpV.gtr rfl rfl rfl) ?_
        refine VO.val rfl rfl (OpV.move (.inl rfl) rfl) ?_
        refine VO.opG rfl rfl rfl rfl (fun aK3b => ?_) (fun aK3b => ?_)
        · replace aK3b : _ = true := aK3b
          have aK3 := aK3b
          try simp only [decide_eq_true_eq, decide_eq_false_iff_not, Bool.not_eq_true', Bool.not_eq_false', Int.not_lt, Int.not_le] at aK3
          first
            | refine OpE.val (W := NoB) (OpV.fieldAddr_atO 3 rfl Tryd.underlying112 rfl rfl Tryd.sizeOf3 rfl rfl) rfl ?_
            | refine OpE.val (W := NoB) (OpV.fieldAddrO 3 rfl Tryd.underlying112 rfl rfl Tryd.sizeOf3 rfl) rfl ?_
          refine VO.opY rfl rfl rfl rfl aK3b ?_
          refine OpE.val (W := NoB) (OpV.load_own (i := 3) rfl hB Tryd.isAgg3 rfl rfl rfl (fun h => h)) rfl ?_
          refine VO.opY rfl rfl rfl rfl aK3b ?_
          first
            | refine OpE.val (W := NoB) (OpV.fieldAddr_atO 3 rfl Tryd.underlying112 rfl rfl Tryd.sizeOf3 rfl rfl) rfl ?_
            | refine OpE.val (W := NoB) (OpV.fieldAddrO 3 rfl Tryd.underlying112 rfl rfl Tryd.sizeOf3 rfl) rfl ?_
          refine VO.opY rfl rfl rfl rfl aK3b ?_
          refine OpE.val (W := NoB) (OpV.load_own (i := 4) rfl hB Tryd.isAgg3 rfl rfl rfl (fun h => h)) rfl ?_
          refine VO.opY rfl rfl rfl rfl aK3b ?_
          refine OpE.val (W := NoB) (OpV.min2 rfl rfl rfl) rfl ?_
          refine VO.opY rfl rfl rfl rfl aK3b ?_
          first
            | refine OpE.val (W := NoB) (OpV.fieldAddr_atO 1 rfl Tryd.underlying112 rfl rfl Tryd.sizeOf3 rfl rfl) rfl ?_
            | refine OpE.val (W := NoB) (OpV.fieldAddrO 1 rfl Tryd.underlying112 rfl rfl Tryd.sizeOf3 rfl) rfl ?_
          refine VO.opY rfl rfl rfl rfl aK3b ?_
          refine OpE.val (W := NoB) (OpV.load_own (i := 3) rfl hB Tryd.isAgg3 rfl rfl rfl (fun h => h)) rfl ?_
          refine VO.opY rfl rfl rfl rfl aK3b ?_
          first
            | refine OpE.val (W := NoB) (OpV.fieldAddr_atO 1 rfl Tryd.underlying112 rfl rfl Tryd.sizeOf3 rfl rfl) rfl ?_
            | refine OpE.val (W := NoB) (OpV.fieldAddrO 1 rfl Tryd.underlying112 rfl rfl Tryd.sizeOf3 rfl) rfl ?_
          refine VO.opY rfl rfl rfl rfl aK3b ?_
          refine OpE.val (W := NoB) (OpV.load_own (i := 4) rfl hB Tryd.isAgg3 rfl rfl rfl (fun h => h)) rfl ?_
          refine VO.opY rfl rfl rfl rfl aK3b ?_
          refine OpE.val (W := NoB) (OpV.max2 rfl rfl rfl) rfl ?_
          refine VO.opY rfl rfl rfl rfl aK3b ?_
          refine OpE.val (W := NoB) (OpV.gtr rfl rfl rfl) rfl ?_
          refine VO.val rfl rfl (OpV.pickT rfl rfl rfl rfl aK3b) ?_
          refine VO.nil ?_
          show VC _ _ _ _ _
          refine VC.cond rfl (fun aH4b => ?_) (fun aH4b => ?_)
          · have aH4 := aH4b
            try simp only [decide_eq_true_eq, decide_eq_false_iff_not, Bool.not_eq_true', Bool.not_eq_false', Int.not_lt, Int.not_le] at aH4
            refine VC.region ?_
            refine VO.val rfl rfl (OpV.move (.inl rfl) rfl) ?_
            refine VO.val rfl rfl (OpV.move (.inl rfl) rfl) ?_
            refine VO.val rfl rfl (OpV.move (.inl rfl) rfl) ?_
            refine VO.val rfl rfl (OpV.buildArr rfl Tryd.zeroValue62 Tryd.underlying62 Tryd.sizeOf3 rfl rfl) ?_
            refine VO.op rfl (OpE.buildSlice (zc := #[.int .i64 0, .int .i64 0]) rfl hB rfl Tryd.underlying52 Tryd.sizeOf62 Tryd.zeroValue62 (by decide) (by decide) (by kernel_rfl) rfl rfl ?_)
            first
              | refine VO.op rfl (OpE.append1 (i := 0) rfl hB rfl Tryd.underlying52 (infoOf Tryd.t62 2 (by kernel_rfl) rfl rfl) rfl (by decide) (by decide) rfl rfl rfl rfl (rowL_snoc _ (⟨(q : Int), (k : Int)⟩ : IPair)) (by omega) (fun _ _ => trivial) ?_)
              | refine VO.op rfl (OpE.append1 (i := 1) rfl hB rfl Tryd.underlying52 (infoOf Tryd.t62 2 (by kernel_rfl) rfl rfl) rfl (by decide) (by decide) rfl rfl rfl rfl (rowL_snoc _ (⟨(q : Int), (k : Int)⟩ : IPair)) (by omega) (fun _ _ => trivial) ?_)
              | refine VO.op rfl (OpE.append1 (i := 2) rfl hB rfl Tryd.underlying52 (infoOf Tryd.t62 2 (by kernel_rfl) rfl rfl) rfl (by decide) (by decide) rfl rfl rfl rfl (rowL_snoc _ (⟨(q : Int), (k : Int)⟩ : IPair)) (by omega) (fun _ _ => trivial) ?_)
              | refine VO.op rfl (OpE.append1 (i := 3) rfl hB rfl Tryd.underlying52 (infoOf Tryd.t62 2 (by kernel_rfl) rfl rfl) rfl (by decide) (by decide) rfl rfl rfl rfl (rowL_snoc _ (⟨(q : Int), (k : Int)⟩ : IPair)) (by omega) (fun _ _ => trivial) ?_)
              | refine VO.op rfl (OpE.append1 (i := 4) rfl hB rfl Tryd.underlying52 (infoOf Tryd.t62 2 (by kernel_rfl) rfl rfl) rfl (by decide) (by decide) rfl rfl rfl rfl (rowL_snoc _ (⟨(q : Int), (k : Int)⟩ : IPair)) (by omega) (fun _ _ => trivial) ?_)
            intro u2
            refine VO.val rfl rfl (OpV.move (.inr rfl) rfl) ?_
            refine VO.nil ?_
            show VC _ _ _ _ _
            refine VC.region ?_
            refine VO.val rfl rfl (OpV.move (.inl rfl) rfl) ?_
            refine VO.val rfl rfl (OpV.add rfl rfl rfl (by unfold fits; omega)) ?_
            refine VO.val rfl rfl (OpV.move (.inr rfl) rfl) ?_
            refine VO.nil ?_
            first
              | exact Exists.intro (⟨(u2, k + 1), by show q < k + 1; omega, by show k + 1 ≤ _; omega⟩) (And.intro (Le.mk hB [0, 1, 2] ⟨rfl, rfl, rfl, rfl, rfl, rfl, rfl, trivial⟩ rfl (by dsimp only; first | (rw [accN_t (by omega) (ovr_t hsz (szW_bd hw hh) (by assumption) (by assumption)), List.length_append]; rfl) | (rw [accN_f (by omega) (by first | exact ovr_1 hsz (szW_bd hw hh) (by assumption) | exact ovr_2 hsz (szW_bd hw hh) (by assumption))]; rfl)) (Nat.le_refl _)) (by first | omega | (show _ < _; omega) | (simp only []; omega)))
              | exact Exists.intro (⟨(u, k + 1), by show q < k + 1; omega, by show k + 1 ≤ _; omega⟩) (And.intro (Le.mk hB [0, 1, 2] ⟨rfl, rfl, rfl, rfl, rfl, rfl, rfl, trivial⟩ rfl (by dsimp only; first | (rw [accN_t (by omega) (ovr_t hsz (szW_bd hw hh) (by assumption) (by assumption)), List.length_append]; rfl) | (rw [accN_f (by omega) (by first | exact ovr_1 hsz (szW_bd hw hh) (by assumption) | exact ovr_2 hsz (szW_bd hw hh) (by assumption))]; rfl)) (Nat.le_refl _)) (by first | omega | (show _ < _; omega) | (simp only []; omega)))
          · have aH4 := aH4b
            try simp only [decide_eq_true_eq, decide_eq_false_iff_not, Bool.not_eq_true', Bool.not_eq_false', Int.not_lt, Int.not_le] at aH4
            refine VC.skip ?_
            show VC _ _ _ _ _
            refine VC.region ?_
            refine VO.val rfl rfl (OpV.move (.inl rfl) rfl) ?_
            refine VO.val rfl rfl (OpV.add rfl rfl rfl (by unfold fits; omega)) ?_
            refine VO.val rfl rfl (OpV.move (.inr rfl) rfl) ?_
            refine VO.nil ?_
            first
              | exact Exists.intro (⟨(u2, k + 1), by show q < k + 1; omega, by show k + 1 ≤ _; omega⟩) (And.intro (Le.mk hB [0, 1, 2] ⟨rfl, rfl, rfl, rfl, rfl, rfl, rfl, trivial⟩ rfl (by dsimp only; first | (rw [accN_t (by omega) (ovr_t hsz (szW_bd hw hh) (by assumption) (by assumption)), List.length_append]; rfl) | (rw [accN_f (by omega) (by first | exact ovr_1 hsz (szW_bd hw hh) (by assumption) | exact ovr_2 hsz (szW_bd hw hh) (by assumption))]; rfl)) (Nat.le_refl _)) (by first | omega | (show _ < _; omega) | (simp only []; omega)))
              | exact Exists.intro (⟨(u, k + 1), by show q < k + 1; omega, by show k + 1 ≤ _; omega⟩) (And.intro (Le.mk hB [0, 1, 2] ⟨rfl, rfl, rfl, rfl, rfl, rfl, rfl, trivial⟩ rfl (by dsimp only; first | (rw [accN_t (by omega) (ovr_t hsz (szW_bd hw hh) (by assumption) (by assumption)), List.length_append]; rfl) | (rw [accN_f (by omega) (by first | exact ovr_1 hsz (szW_bd hw hh) (by assumption) | exact ovr_2 hsz (szW_bd hw hh) (by assumption))]; rfl)) (Nat.le_refl _)) (by first | omega | (show _ < _; omega) | (simp only []; omega)))
        · replace aK3b : _ = false := aK3b
          have aK3 := aK3b
          try simp only [decide_eq_true_eq, decide_eq_false_iff_not, Bool.not_eq_true', Bool.not_eq_false', Int.not_lt, Int.not_le] at aK3
          refine VO.opX rfl rfl rfl rfl aK3b ?_
          refine VO.opX rfl rfl rfl rfl aK3b ?_
          refine VO.opX rfl rfl rfl rfl aK3b ?_
          refine VO.opX rfl rfl rfl rfl aK3b ?_
          refine VO.opX rfl rfl rfl rfl aK3b ?_
          refine VO.opX rfl rfl rfl rfl aK3b ?_
          refine VO.opX rfl rfl rfl rfl aK3b ?_
          refine VO.opX rfl rfl rfl rfl aK3b ?_
          refine VO.opX rfl rfl rfl rfl aK3b ?_
          refine VO.opX rfl rfl rfl rfl aK3b ?_
          refine VO.val rfl rfl (OpV.pickF rfl rfl rfl rfl aK3b) ?_
          refine VO.nil ?_
          show VC _ _ _ _ _
          refine VC.condF rfl rfl ?_
          refine VC.skip ?_
          show VC _ _ _ _ _
          refine VC.region ?_
          refine VO.val rfl rfl (OpV.move (.inl rfl) rfl) ?_
          refine VO.val rfl rfl (OpV.add rfl rfl rfl (by unfold fits; omega)) ?_
          refine VO.val rfl rfl (OpV.move (.inr rfl) rfl) ?_
          refine VO.nil ?_
          first
            | exact Exists.intro (⟨(u2, k + 1), by show q < k + 1; omega, by show k + 1 ≤ _; omega⟩) (And.intro (Le.mk hB [0, 1, 2] ⟨rfl, rfl, rfl, rfl, rfl, rfl, rfl, trivial⟩ rfl (by dsimp only; first | (rw [accN_t (by omega) (ovr_t hsz (szW_bd hw hh) (by assumption) (by assumption)), List.length_append]; rfl) | (rw [accN_f (by omega) (by first | exact ovr_1 hsz (szW_bd hw hh) (by assumption) | exact ovr_2 hsz (szW_bd hw hh) (by assumption))]; rfl)) (Nat.le_refl _)) (by first | omega | (show _ < _; omega) | (simp only []; omega)))
            | exact Exists.intro (⟨(u, k + 1), by show q < k + 1; omega, by show k + 1 ≤ _; omega⟩) (And.intro (Le.mk hB [0, 1, 2] ⟨rfl, rfl, rfl, rfl, rfl, rfl, rfl, trivial⟩ rfl (by dsimp only; first | (rw [accN_t (by omega) (ovr_t hsz (szW_bd hw hh) (by assumption) (by assumption)), List.length_append]; rfl) | (rw [accN_f (by omega) (by first | exact ovr_1 hsz (szW_bd hw hh) (by assumption) | exact ovr_2 hsz (szW_bd hw hh) (by assumption))]; rfl)) (Nat.le_refl _)) (by first | omega | (show _ < _; omega) | (simp only []; omega)))
    · have aH2 := aH2b
      try simp only [decide_eq_true_eq, decide_eq_false_iff_not, Bool.not_eq_true', Bool.not_eq_false', Int.not_lt, Int.not_le] at aH2
      refine VC.exit ?_
      show VC _ _ _ _ _
      rw [accN_all hk1 hk2 (by omega)]
      refine VC.region ?_
      refine VO.val rfl rfl (OpV.add rfl rfl rfl (by unfold fits; omega)) ?_
      refine VO.val rfl rfl (OpV.move (.inl rfl) rfl) ?_
      refine VO.nil ?_
      exact Exists.intro (⟨(u, q + 1), by show q + 1 ≤ _; omega⟩) (And.intro (Le.mk hB [0, 1, 2] ⟨rfl, rfl, rfl, rfl, rfl, trivial⟩ rfl rfl (Nat.le_refl _)) (by first | omega | (show _ < _; omega) | (simp only []; omega)))
  · have aH1 := aH1b
    try simp only [decide_eq_true_eq, decide_eq_false_iff_not, Bool.not_eq_true', Bool.not_eq_false', Int.not_lt, Int.not_le] at aH1
    refine VC.exit ?_
    show VC _ _ _ _ _
    refine VC.seq ?_
    have hqe : q = n.slots.length := by omega
    rw [hqe]
    refine VC.region ?_
    refine VO.val rfl rfl (OpV.move (.inl rfl) rfl) ?_
    refine VO.val rfl rfl (OpV.move (.inr rfl) rfl) ?_
    refine VO.nil ?_
    show VC _ _ _ _ _
    refine VC.ret ?_
    exact Exists.intro _ (And.intro (RetN.one Tryd.results20 (ResN.rowT (i := 2) rfl rfl rfl (flat_ip _))) (by rw [ovsR, if_pos h00, ovL]))
theorem turnE_z {p : ProdS} {n : PanS} (h : panelF p n = 0) : turnE p n = panF (turnP p n) := turnE_2 h
set_option maxRecDepth 100000 in
set_option maxHeartbeats 8000000 in
theorem rf_TurnedOf {p : ProdS} {n : PanS} (h00 : panelF p n = 0) :
    Spec Tryd.prog 21 [avProd p, avPan n] (fun y => y = .tup [avPan (turnR p n), avI (turnE p n)]) := by
  refine Spec.of_VC Tryd.func21 rfl Tryd.ntmps21 (Nat.le_of_ble_eq_true rfl) fun w A hB => ?_
  have hnew : True := trivial
  refine VC.seq ?_
  refine VC.region ?_
  refine VO.op rfl (OpE.box rfl hB rfl rfl rfl ?_)
  intro g2
  refine VO.op rfl (OpE.box rfl hB rfl rfl rfl ?_)
  intro g3
  refine VO.op rfl (OpE.alloc rfl hB rfl Tryd.zeroValue48 rfl ?_)
  intro g4
  refine VO.val rfl rfl (OpV.move (.inr rfl) rfl) ?_
  refine VO.nil ?_
  show VC _ _ _ _ _
  refine VC.seq ?_
  have hz := panelF_0 h00
  have hok := prodOk hz.1
  have hpn := panOk hz.2
  have hw := hok.wide
  have hh := hok.high
  have hnh := hpn.high
  have hlen := hpn.len
  refine VC.region ?_
  first
    | refine VO.val rfl rfl (OpV.fieldAddr_atO 1 rfl Tryd.underlying48 rfl rfl Tryd.sizeOf3 rfl rfl) ?_
    | refine VO.val rfl rfl (OpV.fieldAddrO 1 rfl Tryd.underlying48 rfl rfl Tryd.sizeOf3 rfl) ?_
  refine VO.val rfl rfl (OpV.load_own (i := 1) rfl hB Tryd.isAgg3 rfl rfl rfl (fun h => h)) ?_
  first
    | refine VO.val rfl rfl (OpV.fieldAddr_atO 0 rfl Tryd.underlying48 rfl rfl Tryd.sizeOf3 rfl rfl) ?_
    | refine VO.val rfl rfl (OpV.fieldAddrO 0 rfl Tryd.underlying48 rfl rfl Tryd.sizeOf3 rfl) ?_
  refine VO.val rfl rfl (OpV.load_own (i := 1) rfl hB Tryd.isAgg3 rfl rfl rfl (fun h => h)) ?_
  refine VO.val rfl rfl (OpV.build (pls := #[(0, 1), (1, 1), (2, 1)]) rfl Tryd.zeroValue48 Tryd.underlying48 (fun w => by kernel_rfl) rfl rfl) ?_
  refine VO.op rfl (OpE.alloc rfl hB rfl Tryd.zeroValue48 rfl ?_)
  intro g6
  refine VO.op rfl (OpE.store (i := 3) rfl hB rfl Tryd.sizeOf48 rfl rfl rfl rfl rfl rfl (Nat.le_of_ble_eq_true rfl) trivial ?_)
  refine VO.nil ?_
  show VC _ _ _ _ _
  refine VC.seq ?_
  refine VC.seq ?_
  refine VC.region ?_
  first
    | refine VO.val rfl rfl (OpV.fieldAddr_atO 2 rfl Tryd.underlying48 rfl rfl Tryd.sizeOf46 rfl rfl) ?_
    | refine VO.val rfl rfl (OpV.fieldAddrO 2 rfl Tryd.underlying48 rfl rfl Tryd.sizeOf46 rfl) ?_
  refine VO.val rfl rfl (OpV.load_own (i := 1) rfl hB Tryd.isAgg46 rfl rfl rfl (fun h => h)) ?_
  first
    | refine VO.val rfl rfl (OpV.len_im rfl Tryd.underlying46 rfl) ?_
    | refine VO.val rfl rfl (OpV.len_v rfl Tryd.underlying46 rfl) ?_
    | refine VO.val rfl rfl (OpV.len_row (i := 0) rfl Tryd.underlying46 rfl rfl) ?_
    | refine VO.val rfl rfl (OpV.len_row (i := 1) rfl Tryd.underlying46 rfl rfl) ?_
    | refine VO.val rfl rfl (OpV.len_row (i := 2) rfl Tryd.underlying46 rfl rfl) ?_
    | refine VO.val rfl rfl (OpV.len_row (i := 3) rfl Tryd.underlying46 rfl rfl) ?_
  refine VO.val rfl rfl (OpV.move (.inl rfl) rfl) ?_
  refine VO.nil ?_
  show VC _ _ _ _ _
  refine VC.block ?_
  refine VC.le _ (Le.nilRow 4 106) ?_
  refine VC.loopK [(2, _), (3, _), (4, _), (6, _), (21, _), (22, _)] ⟨rfl, rfl, rfl, rfl, rfl, rfl, trivial⟩ ({z : Option Addr × Nat × Nat // z.2.2 ≤ n.slots.length}) (fun (i : {z : Option Addr × Nat × Nat // z.2.2 ≤ n.slots.length}) => match i with | ⟨⟨b, c, q⟩, hq⟩ => [(23, avI (q : Int))]) (fun (i : {z : Option Addr × Nat × Nat // z.2.2 ≤ n.slots.length}) => match i with | ⟨⟨b, c, q⟩, hq⟩ => [boxProd g2 p 44, boxPan g3 n 48, .box g4 ⟨[avI 0, avI 0, .v (.slice none 0 0)], 48, 3⟩, .box g6 ⟨[avI n.high, avI n.wide, .v (.slice b ((n.slots.take q).map (turnS p n)).length c)], 48, 3⟩, .row (.slice b ((n.slots.take q).map (turnS p n)).length c) ((n.slots.take q).map (turnS p n)).length 4 (rowL ((n.slots.take q).map (turnS p n))) 106]) (fun (i : {z : Option Addr × Nat × Nat // z.2.2 ≤ n.slots.length}) => match i with | ⟨⟨b, c, q⟩, hq⟩ => 0) (fun (i : {z : Option Addr × Nat × Nat // z.2.2 ≤ n.slots.length}) => match i with | ⟨⟨b, c, q⟩, hq⟩ => n.slots.length - q) ⟨(none, 0, 0), Nat.zero_le _⟩ (Le.mk hB [0, 1, 2, 3, 4] ⟨rfl, rfl, rfl, rfl, rfl, rfl, rfl, trivial⟩ rfl rfl (Nat.le_refl _)) ?_
  rintro ⟨⟨b, c, q⟩, hq⟩
  show VC _ _ _ _ ⟨[(23, avI (q : Int))] ++ [(2, _), (3, _), (4, _), (6, _), (21, _), (22, _)], [boxProd g2 p 44, boxPan g3 n 48, .box g4 ⟨[avI 0, avI 0, .v (.slice none 0 0)], 48, 3⟩, .box g6 ⟨[avI n.high, avI n.wide, .v (.slice b ((n.slots.take q).map (turnS p n)).length c)], 48, 3⟩, .row (.slice b ((n.slots.take q).map (turnS p n)).length c) ((n.slots.take q).map (turnS p n)).length 4 (rowL ((n.slots.take q).map (turnS p n))) 106], 0⟩
  simp only at hq
  have htl : ((n.slots.take q).map (turnS p n)).length ≤ 100 := Nat.le_trans (turn_len p n q) hlen
  refine VC.seq ?_
  refine VC.region ?_
  refine VO.val rfl rfl (OpV.lss rfl rfl rfl) ?_
  refine VO.nil ?_
  show VC _ _ _ _ _
  refine VC.seq ?_
  refine VC.cond rfl (fun aH1b => ?_) (fun aH1b => ?_)
  · have aH1 := aH1b
    try simp only [decide_eq_true_eq, decide_eq_false_iff_not, Bool.not_eq_true', Bool.not_eq_false', Int.not_lt, Int.not_le] at aH1
    refine VC.skip ?_
    show VC _ _ _ _ _
    refine VC.seq ?_
    refine VC.block ?_
    refine VC.seq ?_
    have hsl := hpn.all q (by omega)
    have hsz := szW_bd (q := (n.slots.getD q default).quarter) hw hh
    have h4 := Int.tmod_eq_emod_of_nonneg (a := (n.slots.getD q default).quarter + 1) (b := 4) (by omega)
    refine VC.region ?_
    first
      | refine VO.val rfl rfl (OpV.indexAddr_E rfl Tryd.underlying46 Tryd.sizeOf106 rfl rfl rfl (by omega)) ?_
      | refine VO.val rfl rfl (OpV.indexAddr_E rfl Tryd.underlying46 Tryd.sizeOf106 rfl rfl (Int.toNat_of_nonneg (by omega)).symm (by omega)) ?_
      | refine VO.val rfl rfl (OpV.indexAddr_q rfl Tryd.underlying46 Tryd.sizeOf106 rfl rfl rfl (by omega)) ?_
      | refine VO.val rfl rfl (OpV.indexAddr_q rfl Tryd.underlying46 Tryd.sizeOf106 rfl rfl (Int.toNat_of_nonneg (by omega)).symm (by omega)) ?_
      | refine VO.val rfl rfl (OpV.indexAddr_im rfl Tryd.underlying46 Tryd.sizeOf106 rfl rfl (by omega) (by omega)) ?_
    first
      | refine VO.val rfl rfl (OpV.loadK_at rfl hB OutW.no Tryd.isAgg106 Tryd.sizeOf106 rfl rfl) ?_
      | refine VO.val rfl rfl (OpV.loadK_own (i := 0) rfl hB Tryd.isAgg106 Tryd.sizeOf106 rfl rfl rfl (fun h => h)) ?_
      | refine VO.val rfl rfl (OpV.loadK_own (i := 1) rfl hB Tryd.isAgg106 Tryd.sizeOf106 rfl rfl rfl (fun h => h)) ?_
      | refine VO.val rfl rfl (OpV.loadK_own (i := 2) rfl hB Tryd.isAgg106 Tryd.sizeOf106 rfl rfl rfl (fun h => h)) ?_
      | refine VO.val rfl rfl (OpV.loadK_own (i := 3) rfl hB Tryd.isAgg106 Tryd.sizeOf106 rfl rfl rfl (fun h => h)) ?_
      | refine VO.val rfl rfl (OpV.loadK_own (i := 4) rfl hB Tryd.isAgg106 Tryd.sizeOf106 rfl rfl rfl (fun h => h)) ?_
    refine VO.op rfl (OpE.alloc rfl hB rfl Tryd.zeroValue106 rfl ?_)
    intro g8
    refine VO.op rfl (OpE.store (i := 5) rfl hB rfl Tryd.sizeOf106 rfl rfl rfl rfl rfl rfl (Nat.le_of_ble_eq_true rfl) trivial ?_)
    refine VO.nil ?_
    show VC _ _ _ _ _
    refine VC.seq ?_
    refine VC.region ?_
    first
      | refine VO.val rfl rfl (OpV.loadK_at rfl hB OutW.no Tryd.isAgg44 Tryd.sizeOf44 rfl rfl) ?_
      | refine VO.val rfl rfl (OpV.loadK_own (i := 0) rfl hB Tryd.isAgg44 Tryd.sizeOf44 rfl rfl rfl (fun h => h)) ?_
      | refine VO.val rfl rfl (OpV.loadK_own (i := 1) rfl hB Tryd.isAgg44 Tryd.sizeOf44 rfl rfl rfl (fun h => h)) ?_
      | refine VO.val rfl rfl (OpV.loadK_own (i := 2) rfl hB Tryd.isAgg44 Tryd.sizeOf44 rfl rfl rfl (fun h => h)) ?_
      | refine VO.val rfl rfl (OpV.loadK_own (i := 3) rfl hB Tryd.isAgg44 Tryd.sizeOf44 rfl rfl rfl (fun h => h)) ?_
      | refine VO.val rfl rfl (OpV.loadK_own (i := 4) rfl hB Tryd.isAgg44 Tryd.sizeOf44 rfl rfl rfl (fun h => h)) ?_
      | refine VO.val rfl rfl (OpV.loadK_own (i := 5) rfl hB Tryd.isAgg44 Tryd.sizeOf44 rfl rfl rfl (fun h => h)) ?_
    refine VO.val rfl rfl (OpV.loadK_own (i := 5) rfl hB Tryd.isAgg106 Tryd.sizeOf106 rfl rfl rfl (fun h => h)) ?_
    refine VO.op rfl (OpE.call rfl hB rfl Tryd.call58 rfl (SpecN.spec (rf_boardBox (s := n.slots.getD q default) ⟨hw, hh⟩ hsl)) ?_)
    rintro _ rfl
    refine VO.op rfl (OpE.alloc rfl hB rfl Tryd.zeroValue112 rfl ?_)
    intro g9
    refine VO.op rfl (OpE.store (i := 6) rfl hB rfl Tryd.sizeOf112 rfl rfl rfl rfl rfl rfl (Nat.le_of_ble_eq_true rfl) trivial ?_)
    refine VO.nil ?_
    show VC _ _ _ _ _
    refine VC.seq ?_
    refine VC.region ?_
    first
      | refine VO.val rfl rfl (OpV.fieldAddr_atO 0 rfl Tryd.underlying112 rfl rfl Tryd.sizeOf3 rfl rfl) ?_
      | refine VO.val rfl rfl (OpV.fieldAddrO 0 rfl Tryd.underlying112 rfl rfl Tryd.sizeOf3 rfl) ?_
    refine VO.val rfl rfl (OpV.load_own (i := 6) rfl hB Tryd.isAgg3 rfl rfl rfl (fun h => h)) ?_
    first
      | refine VO.val rfl rfl (OpV.fieldAddr_atO 1 rfl Tryd.underlying112 rfl rfl Tryd.sizeOf3 rfl rfl) ?_
      | refine VO.val rfl rfl (OpV.fieldAddrO 1 rfl Tryd.underlying112 rfl rfl Tryd.sizeOf3 rfl) ?_
    refine VO.val rfl rfl (OpV.load_own (i := 6) rfl hB Tryd.isAgg3 rfl rfl rfl (fun h => h)) ?_
    first
      | refine VO.val rfl rfl (OpV.fieldAddr_atO 1 rfl Tryd.underlying48 rfl rfl Tryd.sizeOf3 rfl rfl) ?_
      | refine VO.val rfl rfl (OpV.fieldAddrO 1 rfl Tryd.underlying48 rfl rfl Tryd.sizeOf3 rfl) ?_
    first
      | refine VO.val rfl rfl (OpV.load_at rfl hB OutW.no Tryd.isAgg3 rfl rfl) ?_
      | refine VO.val rfl rfl (OpV.load_own (i := 0) rfl hB Tryd.isAgg3 rfl rfl rfl (fun h => h)) ?_
      | refine VO.val rfl rfl (OpV.load_own (i := 1) rfl hB Tryd.isAgg3 rfl rfl rfl (fun h => h)) ?_
      | refine VO.val rfl rfl (OpV.load_own (i := 2) rfl hB Tryd.isAgg3 rfl rfl rfl (fun h => h)) ?_
      | refine VO.val rfl rfl (OpV.load_own (i := 3) rfl hB Tryd.isAgg3 rfl rfl rfl (fun h => h)) ?_
      | refine VO.val rfl rfl (OpV.load_own (i := 4) rfl hB Tryd.isAgg3 rfl rfl rfl (fun h => h)) ?_
      | refine VO.val rfl rfl (OpV.load_own (i := 5) rfl hB Tryd.isAgg3 rfl rfl rfl (fun h => h)) ?_
      | refine VO.val rfl rfl (OpV.load_own (i := 6) rfl hB Tryd.isAgg3 rfl rfl rfl (fun h => h)) ?_
    refine VO.op rfl (OpE.call rfl hB rfl Tryd.call59 rfl (SpecN.spec (rf_quarter (cx := (n.slots.getD q default).x) (cy := (n.slots.getD q default).y) (h := n.high) (by omega) (by omega))) ?_)
    rintro _ rfl
    refine VO.val rfl rfl (OpV.move (.inl rfl) rfl) ?_
    first
      | refine VO.val rfl rfl (OpV.extract rfl rfl rfl) ?_
      | refine VO.val rfl rfl (OpV.extract_v rfl rfl rfl) ?_
    first
      | refine VO.val rfl rfl (OpV.extract rfl rfl rfl) ?_
      | refine VO.val rfl rfl (OpV.extract_v rfl rfl rfl) ?_
    refine VO.val rfl rfl (OpV.move (.inr rfl) rfl) ?_
    refine VO.val rfl rfl (OpV.move (.inr rfl) rfl) ?_
    refine VO.nil ?_
    show VC _ _ _ _ _
    refine VC.seq ?_
    refine VC.region ?_
    first
      | refine VO.val rfl rfl (OpV.fieldAddr_atO 2 rfl Tryd.underlying112 rfl rfl Tryd.sizeOf3 rfl rfl) ?_
      | refine VO.val rfl rfl (OpV.fieldAddrO 2 rfl Tryd.underlying112 rfl rfl Tryd.sizeOf3 rfl) ?_
    refine VO.val rfl rfl (OpV.load_own (i := 6) rfl hB Tryd.isAgg3 rfl rfl rfl (fun h => h)) ?_
    first
      | refine VO.val rfl rfl (OpV.fieldAddr_atO 3 rfl Tryd.underlying112 rfl rfl Tryd.sizeOf3 rfl rfl) ?_
      | refine VO.val rfl rfl (OpV.fieldAddrO 3 rfl Tryd.underlying112 rfl rfl Tryd.sizeOf3 rfl) ?_
    refine VO.val rfl rfl (OpV.load_own (i := 6) rfl hB Tryd.isAgg3 rfl rfl rfl (fun h => h)) ?_
    first
      | refine VO.val rfl rfl (OpV.fieldAddr_atO 1 rfl Tryd.underlying48 rfl rfl Tryd.sizeOf3 rfl rfl) ?_
      | refine VO.val rfl rfl (OpV.fieldAddrO 1 rfl Tryd.underlying48 rfl rfl Tryd.sizeOf3 rfl) ?_
    first
      | refine VO.val rfl rfl (OpV.load_at rfl hB OutW.no Tryd.isAgg3 rfl rfl) ?_
      | refine VO.val rfl rfl (OpV.load_own (i := 0) rfl hB Tryd.isAgg3 rfl rfl rfl (fun h => h)) ?_
      | refine VO.val rfl rfl (OpV.load_own (i := 1) rfl hB Tryd.isAgg3 rfl rfl rfl (fun h => h)) ?_
      | refine VO.val rfl rfl (OpV.load_own (i := 2) rfl hB Tryd.isAgg3 rfl rfl rfl (fun h => h)) ?_
      | refine VO.val rfl rfl (OpV.load_own (i := 3) rfl hB Tryd.isAgg3 rfl rfl rfl (fun h => h)) ?_
      | refine VO.val rfl rfl (OpV.load_own (i := 4) rfl hB Tryd.isAgg3 rfl rfl rfl (fun h => h)) ?_
      | refine VO.val rfl rfl (OpV.load_own (i := 5) rfl hB Tryd.isAgg3 rfl rfl rfl (fun h => h)) ?_
      | refine VO.val rfl rfl (OpV.load_own (i := 6) rfl hB Tryd.isAgg3 rfl rfl rfl (fun h => h)) ?_
    refine VO.op rfl (OpE.call rfl hB rfl Tryd.call59 rfl (SpecN.spec (rf_quarter (cx := (n.slots.getD q default).x + szW p (n.slots.getD q default).quarter) (cy := (n.slots.getD q default).y + szH p (n.slots.getD q default).quarter) (h := n.high) (by omega) (by omega))) ?_)
    rintro _ rfl
    refine VO.val rfl rfl (OpV.move (.inl rfl) rfl) ?_
    first
      | refine VO.val rfl rfl (OpV.extract rfl rfl rfl) ?_
      | refine VO.val rfl rfl (OpV.extract_v rfl rfl rfl) ?_
    first
      | refine VO.val rfl rfl (OpV.extract rfl rfl rfl) ?_
      | refine VO.val rfl rfl (OpV.extract_v rfl rfl rfl) ?_
    refine VO.val rfl rfl (OpV.move (.inr rfl) rfl) ?_
    refine VO.val rfl rfl (OpV.move (.inr rfl) rfl) ?_
    refine VO.nil ?_
    show VC _ _ _ _ _
    refine VC.region ?_
    first
      | refine VO.val rfl rfl (OpV.fieldAddr_atO 2 rfl Tryd.underlying48 rfl rfl Tryd.sizeOf46 rfl rfl) ?_
      | refine VO.val rfl rfl (OpV.fieldAddrO 2 rfl Tryd.underlying48 rfl rfl Tryd.sizeOf46 rfl) ?_
    first
      | refine VO.val rfl rfl (OpV.load_at rfl hB OutW.no Tryd.isAgg46 rfl rfl) ?_
      | refine VO.val rfl rfl (OpV.load_own (i := 0) rfl hB Tryd.isAgg46 rfl rfl rfl (fun h => h)) ?_
      | refine VO.val rfl rfl (OpV.load_own (i := 1) rfl hB Tryd.isAgg46 rfl rfl rfl (fun h => h)) ?_
      | refine VO.val rfl rfl (OpV.load_own (i := 2) rfl hB Tryd.isAgg46 rfl rfl rfl (fun h => h)) ?_
      | refine VO.val rfl rfl (OpV.load_own (i := 3) rfl hB Tryd.isAgg46 rfl rfl rfl (fun h => h)) ?_
      | refine VO.val rfl rfl (OpV.load_own (i := 4) rfl hB Tryd.isAgg46 rfl rfl rfl (fun h => h)) ?_
      | refine VO.val rfl rfl (OpV.load_own (i := 5) rfl hB Tryd.isAgg46 rfl rfl rfl (fun h => h)) ?_
      | refine VO.val rfl rfl (OpV.load_own (i := 6) rfl hB Tryd.isAgg46 rfl rfl rfl (fun h => h)) ?_
    refine VO.val rfl rfl (OpV.move (.inl rfl) rfl) ?_
    refine VO.val rfl rfl (OpV.move (.inl rfl) rfl) ?_
    refine VO.val rfl rfl (OpV.min2 rfl rfl rfl) ?_
    refine VO.le _ (Le.recast (t := 54) (y := avI (n.high - (n.slots.getD q default).y - szH p (n.slots.getD q default).quarter)) rfl (fun w Z u h => by rw [show n.high - (n.slots.getD q default).y - szH p (n.slots.getD q default).quarter = min (n.high - (n.slots.getD q default).y) (n.high - ((n.slots.getD q default).y + szH p (n.slots.getD q default).quarter)) by omega]; exact h)) ?_
    refine VO.val rfl rfl (OpV.move (.inl rfl) rfl) ?_
    refine VO.val rfl rfl (OpV.move (.inl rfl) rfl) ?_
    refine VO.val rfl rfl (OpV.min2 rfl rfl rfl) ?_
    refine VO.le _ (Le.recast (t := 57) (y := avI (n.slots.getD q default).x) rfl (fun w Z u h => by rw [show (n.slots.getD q default).x = min (n.slots.getD q default).x ((n.slots.getD q default).x + szW p (n.slots.getD q default).quarter) by omega]; exact h)) ?_
    first
      | refine VO.val rfl rfl (OpV.fieldAddr_atO 2 rfl Tryd.underlying106 rfl rfl Tryd.sizeOf3 rfl rfl) ?_
      | refine VO.val rfl rfl (OpV.fieldAddrO 2 rfl Tryd.underlying106 rfl rfl Tryd.sizeOf3 rfl) ?_
    refine VO.val rfl rfl (OpV.load_own (i := 5) rfl hB Tryd.isAgg3 rfl rfl rfl (fun h => h)) ?_
    refine VO.val rfl rfl (OpV.add rfl rfl rfl (by unfold fits; omega)) ?_
    refine VO.val rfl rfl (OpV.rem rfl rfl rfl (by omega) (by unfold fits; omega)) ?_
    first
      | refine VO.val rfl rfl (OpV.fieldAddr_atO 3 rfl Tryd.underlying106 rfl rfl Tryd.sizeOf4 rfl rfl) ?_
      | refine VO.val rfl rfl (OpV.fieldAddrO 3 rfl Tryd.underlying106 rfl rfl Tryd.sizeOf4 rfl) ?_
    refine VO.val rfl rfl (OpV.load_own (i := 5) rfl hB Tryd.isAgg4 rfl rfl rfl (fun h => h)) ?_
    refine VO.val rfl rfl (OpV.build (pls := #[(0, 1), (1, 1), (2, 1), (3, 1)]) rfl Tryd.zeroValue106 Tryd.underlying106 (fun w => by kernel_rfl) rfl rfl) ?_
    refine VO.op rfl (OpE.buildSlice (zc := #[.int .i64 0, .int .i64 0, .int .i64 0, .bool false]) rfl hB rfl Tryd.underlying46 Tryd.sizeOf106 Tryd.zeroValue106 (by decide) (by decide) (by kernel_rfl) rfl rfl ?_)
    first
      | refine VO.op rfl (OpE.append1S (i := 0) rfl hB rfl Tryd.underlying46 (infoOf Tryd.t106 4 (by kernel_rfl) rfl rfl) rfl (by decide) (by decide) rfl rfl rfl rfl (rowL_snoc _ (turnS p n (n.slots.getD q default))) (by omega) (fun _ _ => trivial) ?_)
      | refine VO.op rfl (OpE.append1S (i := 1) rfl hB rfl Tryd.underlying46 (infoOf Tryd.t106 4 (by kernel_rfl) rfl rfl) rfl (by decide) (by decide) rfl rfl rfl rfl (rowL_snoc _ (turnS p n (n.slots.getD q default))) (by omega) (fun _ _ => trivial) ?_)
      | refine VO.op rfl (OpE.append1S (i := 2) rfl hB rfl Tryd.underlying46 (infoOf Tryd.t106 4 (by kernel_rfl) rfl rfl) rfl (by decide) (by decide) rfl rfl rfl rfl (rowL_snoc _ (turnS p n (n.slots.getD q default))) (by omega) (fun _ _ => trivial) ?_)
      | refine VO.op rfl (OpE.append1S (i := 3) rfl hB rfl Tryd.underlying46 (infoOf Tryd.t106 4 (by kernel_rfl) rfl rfl) rfl (by decide) (by decide) rfl rfl rfl rfl (rowL_snoc _ (turnS p n (n.slots.getD q default))) (by omega) (fun _ _ => trivial) ?_)
      | refine VO.op rfl (OpE.append1S (i := 4) rfl hB rfl Tryd.underlying46 (infoOf Tryd.t106 4 (by kernel_rfl) rfl rfl) rfl (by decide) (by decide) rfl rfl rfl rfl (rowL_snoc _ (turnS p n (n.slots.getD q default))) (by omega) (fun _ _ => trivial) ?_)
      | refine VO.op rfl (OpE.append1S (i := 5) rfl hB rfl Tryd.underlying46 (infoOf Tryd.t106 4 (by kernel_rfl) rfl rfl) rfl (by decide) (by decide) rfl rfl rfl rfl (rowL_snoc _ (turnS p n (n.slots.getD q default))) (by omega) (fun _ _ => trivial) ?_)
      | refine VO.op rfl (OpE.append1S (i := 6) rfl hB rfl Tryd.underlying46 (infoOf Tryd.t106 4 (by kernel_rfl) rfl rfl) rfl (by decide) (by decide) rfl rfl rfl rfl (rowL_snoc _ (turnS p n (n.slots.getD q default))) (by omega) (fun _ _ => trivial) ?_)
    intro b2 c2
    first
      | refine VO.val rfl rfl (OpV.fieldAddr_atO 2 rfl Tryd.underlying48 rfl rfl Tryd.sizeOf46 rfl rfl) ?_
      | refine VO.val rfl rfl (OpV.fieldAddrO 2 rfl Tryd.underlying48 rfl rfl Tryd.sizeOf46 rfl) ?_
    first
      | refine VO.op rfl (OpE.store (i := 0) rfl hB rfl Tryd.sizeOf46 rfl rfl rfl rfl rfl rfl (Nat.le_of_ble_eq_true rfl) trivial ?_)
      | refine VO.op rfl (OpE.store (i := 1) rfl hB rfl Tryd.sizeOf46 rfl rfl rfl rfl rfl rfl (Nat.le_of_ble_eq_true rfl) trivial ?_)
      | refine VO.op rfl (OpE.store (i := 2) rfl hB rfl Tryd.sizeOf46 rfl rfl rfl rfl rfl rfl (Nat.le_of_ble_eq_true rfl) trivial ?_)
      | refine VO.op rfl (OpE.store (i := 3) rfl hB rfl Tryd.sizeOf46 rfl rfl rfl rfl rfl rfl (Nat.le_of_ble_eq_true rfl) trivial ?_)
      | refine VO.op rfl (OpE.store (i := 4) rfl hB rfl Tryd.sizeOf46 rfl rfl rfl rfl rfl rfl (Nat.le_of_ble_eq_true rfl) trivial ?_)
      | refine VO.op rfl (OpE.store (i := 5) rfl hB rfl Tryd.sizeOf46 rfl rfl rfl rfl rfl rfl (Nat.le_of_ble_eq_true rfl) trivial ?_)
      | refine VO.op rfl (OpE.store (i := 6) rfl hB rfl Tryd.sizeOf46 rfl rfl rfl rfl rfl rfl (Nat.le_of_ble_eq_true rfl) trivial ?_)
    refine VO.nil ?_
    show VC _ _ _ _ _
    refine VC.region ?_
    refine VO.val rfl rfl (OpV.add rfl rfl rfl (by unfold fits; omega)) ?_
    refine VO.val rfl rfl (OpV.move (.inl rfl) rfl) ?_
    refine VO.nil ?_
    exact Exists.intro (⟨(b2, c2, q + 1), by show q + 1 ≤ _; omega⟩) (And.intro (Le.mk hB [0, 1, 2, 3, 4] ⟨rfl, rfl, rfl, rfl, rfl, rfl, rfl, trivial⟩ rfl (by dsimp only; rw [turn_take (by omega), List.length_append]; rfl) (Nat.le_refl _)) (by first | omega | (show _ < _; omega) | (simp only []; omega)))
  · have aH1 := aH1b
    try simp only [decide_eq_true_eq, decide_eq_false_iff_not, Bool.not_eq_true', Bool.not_eq_false', Int.not_lt, Int.not_le] at aH1
    refine VC.exit ?_
    show VC _ _ _ _ _
    refine VC.seq ?_
    refine VC.seq ?_
    have hqe : n.slots.take q = n.slots := List.take_of_length_le (by omega)
    rw [hqe]
    refine VC.le _ (Le.cellRow (i := 3) (k := 4) (j := 2) (y := avL (turnP p n).slots) hB rfl rfl rfl (by omega) (fun w Z u h => Rep.rowL rfl h)) ?_
    refine VC.region ?_
    first
      | refine VO.val rfl rfl (OpV.loadK_at rfl hB OutW.no Tryd.isAgg48 Tryd.sizeOf48 rfl rfl) ?_
      | refine VO.val rfl rfl (OpV.loadK_own (i := 0) rfl hB Tryd.isAgg48 Tryd.sizeOf48 rfl rfl rfl (fun h => h)) ?_
      | refine VO.val rfl rfl (OpV.loadK_own (i := 1) rfl hB Tryd.isAgg48 Tryd.sizeOf48 rfl rfl rfl (fun h => h)) ?_
      | refine VO.val rfl rfl (OpV.loadK_own (i := 2) rfl hB Tryd.isAgg48 Tryd.sizeOf48 rfl rfl rfl (fun h => h)) ?_
      | refine VO.val rfl rfl (OpV.loadK_own (i := 3) rfl hB Tryd.isAgg48 Tryd.sizeOf48 rfl rfl rfl (fun h => h)) ?_
      | refine VO.val rfl rfl (OpV.loadK_own (i := 4) rfl hB Tryd.isAgg48 Tryd.sizeOf48 rfl rfl rfl (fun h => h)) ?_
    refine VO.op rfl (OpE.call rfl hB rfl Tryd.call57 rfl (SpecN.spec (rf_panelFault (n := turnP p n) (by show (n.slots.map (turnS p n)).length ≤ _; rw [List.length_map]; omega))) ?_)
    rintro _ rfl
    refine VO.val rfl rfl (OpV.move (.inr rfl) rfl) ?_
    refine VO.nil ?_
    show VC _ _ _ _ _
    refine VC.seq ?_
    refine VC.region ?_
    refine VO.val rfl rfl (OpV.move (.inl rfl) rfl) ?_
    refine VO.val rfl rfl (OpV.neq rfl rfl rfl) ?_
    refine VO.nil ?_
    show VC _ _ _ _ _
    refine VC.cond rfl (fun h2b => ?_) (fun h2b => ?_)
    · have h2 := h2b
      try simp only [decide_eq_true_eq, decide_eq_false_iff_not, Bool.not_eq_true', Bool.not_eq_false', Int.not_lt, Int.not_le] at h2
      refine VC.seq ?_
      refine VC.region ?_
      refine VO.val rfl rfl (OpV.build (pls := #[(0, 1), (1, 1), (2, 1)]) rfl Tryd.zeroValue48 Tryd.underlying48 (fun w => by kernel_rfl) rfl rfl) ?_
      refine VO.le _ (Le.recast (t := 73) (y := avPan ⟨0, 0, []⟩) rfl (fun w Z u h => nil_pan h)) ?_
      refine VO.val rfl rfl (OpV.move (.inl rfl) rfl) ?_
      first
        | refine VO.op rfl (OpE.store (i := 0) rfl hB rfl Tryd.sizeOf48 rfl rfl rfl rfl rfl rfl (Nat.le_of_ble_eq_true rfl) trivial ?_)
        | refine VO.op rfl (OpE.store (i := 1) rfl hB rfl Tryd.sizeOf48 rfl rfl rfl rfl rfl rfl (Nat.le_of_ble_eq_true rfl) trivial ?_)
        | refine VO.op rfl (OpE.store (i := 2) rfl hB rfl Tryd.sizeOf48 rfl rfl rfl rfl rfl rfl (Nat.le_of_ble_eq_true rfl) trivial ?_)
        | refine VO.op rfl (OpE.store (i := 3) rfl hB rfl Tryd.sizeOf48 rfl rfl rfl rfl rfl rfl (Nat.le_of_ble_eq_true rfl) trivial ?_)
        | refine VO.op rfl (OpE.store (i := 4) rfl hB rfl Tryd.sizeOf48 rfl rfl rfl rfl rfl rfl (Nat.le_of_ble_eq_true rfl) trivial ?_)
      refine VO.val rfl rfl (OpV.move (.inr rfl) rfl) ?_
      refine VO.nil ?_
      show VC _ _ _ _ _
      refine VC.ret ?_
      exact Exists.intro _ (And.intro (RetV.two Tryd.results21 ((by first | exact ResV.cellK (i := 0) Tryd.isAgg48 Tryd.sizeOf48 rfl rfl rfl | exact ResV.cellK (i := 1) Tryd.isAgg48 Tryd.sizeOf48 rfl rfl rfl | exact ResV.cellK (i := 2) Tryd.isAgg48 Tryd.sizeOf48 rfl rfl rfl | exact ResV.cellK (i := 3) Tryd.isAgg48 Tryd.sizeOf48 rfl rfl rfl | exact ResV.cellK (i := 4) Tryd.isAgg48 Tryd.sizeOf48 rfl rfl rfl)) (ResV.tmp rfl)) (by first | (rw [turnR, turnE_2 h00, if_neg h2]; rfl) | (rw [turnR, turnE_2 h00, if_pos (by omega), show panF (turnP p n) = 0 by omega]; rfl)))
    · have h2 := h2b
      try simp only [decide_eq_true_eq, decide_eq_false_iff_not, Bool.not_eq_true', Bool.not_eq_false', Int.not_lt, Int.not_le] at h2
      refine VC.skip ?_
      show VC _ _ _ _ _
      refine VC.seq ?_
      refine VC.region ?_
      first
        | refine VO.val rfl rfl (OpV.loadK_at rfl hB OutW.no Tryd.isAgg48 Tryd.sizeOf48 rfl rfl) ?_
        | refine VO.val rfl rfl (OpV.loadK_own (i := 0) rfl hB Tryd.isAgg48 Tryd.sizeOf48 rfl rfl rfl (fun h => h)) ?_
        | refine VO.val rfl rfl (OpV.loadK_own (i := 1) rfl hB Tryd.isAgg48 Tryd.sizeOf48 rfl rfl rfl (fun h => h)) ?_
        | refine VO.val rfl rfl (OpV.loadK_own (i := 2) rfl hB Tryd.isAgg48 Tryd.sizeOf48 rfl rfl rfl (fun h => h)) ?_
        | refine VO.val rfl rfl (OpV.loadK_own (i := 3) rfl hB Tryd.isAgg48 Tryd.sizeOf48 rfl rfl rfl (fun h => h)) ?_
        | refine VO.val rfl rfl (OpV.loadK_own (i := 4) rfl hB Tryd.isAgg48 Tryd.sizeOf48 rfl rfl rfl (fun h => h)) ?_
      first
        | refine VO.op rfl (OpE.store (i := 0) rfl hB rfl Tryd.sizeOf48 rfl rfl rfl rfl rfl rfl (Nat.le_of_ble_eq_true rfl) trivial ?_)
        | refine VO.op rfl (OpE.store (i := 1) rfl hB rfl Tryd.sizeOf48 rfl rfl rfl rfl rfl rfl (Nat.le_of_ble_eq_true rfl) trivial ?_)
        | refine VO.op rfl (OpE.store (i := 2) rfl hB rfl Tryd.sizeOf48 rfl rfl rfl rfl rfl rfl (Nat.le_of_ble_eq_true rfl) trivial ?_)
        | refine VO.op rfl (OpE.store (i := 3) rfl hB rfl Tryd.sizeOf48 rfl rfl rfl rfl rfl rfl (Nat.le_of_ble_eq_true rfl) trivial ?_)
        | refine VO.op rfl (OpE.store (i := 4) rfl hB rfl Tryd.sizeOf48 rfl rfl rfl rfl rfl rfl (Nat.le_of_ble_eq_true rfl) trivial ?_)
      refine VO.val rfl rfl (OpV.move (.inr rfl) rfl) ?_
      refine VO.nil ?_
      show VC _ _ _ _ _
      refine VC.ret ?_
      exact Exists.intro _ (And.intro (RetV.two Tryd.results21 ((by first | exact ResV.cellK (i := 0) Tryd.isAgg48 Tryd.sizeOf48 rfl rfl rfl | exact ResV.cellK (i := 1) Tryd.isAgg48 Tryd.sizeOf48 rfl rfl rfl | exact ResV.cellK (i := 2) Tryd.isAgg48 Tryd.sizeOf48 rfl rfl rfl | exact ResV.cellK (i := 3) Tryd.isAgg48 Tryd.sizeOf48 rfl rfl rfl | exact ResV.cellK (i := 4) Tryd.isAgg48 Tryd.sizeOf48 rfl rfl rfl)) (ResV.tmp rfl)) (by first | (rw [turnR, turnE_2 h00, if_neg h2]; rfl) | (rw [turnR, turnE_2 h00, if_pos (by omega), show panF (turnP p n) = 0 by omega]; rfl)))
end Go.Proofs.YtgikefjbdhnffaaDoor
