/- The walk of the law PanelsTurned. -/
import Derived.Test.YtgikefjbdhnffaaDoorPanelS4
import Derived.Test.YtgikefjbdhnffaaDoorPanelEq
import Derived.Test.YtgikefjbdhnffaaDoorGenPan
import Derived.Test.YtgikefjbdhnffaaDoorGenProd
import Derived.Test.YtgikefjbdhnffaaDoorPanFact
import Derived.Test.YtgikefjbdhnffaaDoorSlicesS
import Derived.Test.YtgikefjbdhnffaaDoorLaw0
namespace Go.Proofs.YtgikefjbdhnffaaDoor
open Go.RowKit
set_option linter.unusedVariables false
set_option linter.unusedSimpArgs false
theorem outsR_len {p : ProdS} {n : PanS} (hl : n.slots.length ≤ 1000000) : (outsR p n).length ≤ 1000000000 := by
  unfold outsR
  split
  · have := numsL_len (outO p n) n.slots n.slots.length
    unfold outL
    omega
  · simp
theorem ovsR_len {p : ProdS} {n : PanS} (hl : n.slots.length ≤ 1000) : (ovsR p n).length ≤ 1000000000 := by
  unfold ovsR
  split
  · have := pairN_len (ovO p) n.slots n.slots.length (Nat.le_refl _)
    have h3 : n.slots.length * n.slots.length ≤ 1000 * 1000 := Nat.mul_le_mul hl hl
    unfold ovL
    omega
  · simp
theorem ovsR_no' {p : ProdS} {n : PanS} (h : panelF p n ≠ 0) : ovsR p n = [] := if_neg h
theorem turnR_no {p : ProdS} {n : PanS} (h : panelF p n ≠ 0) : turnR p n = ⟨0, 0, []⟩ := by
  rw [turnR, if_neg]
  rw [turnE_1 h]; exact h
theorem turnR_len {p : ProdS} {n : PanS} (hl : n.slots.length ≤ 1000) : (turnR p n).slots.length ≤ 1000000000 := by
  unfold turnR
  split
  · show (n.slots.map (turnS p n)).length ≤ _; rw [List.length_map]; omega
  · show ([] : List SlotS).length ≤ _; simp
set_option maxRecDepth 100000 in
set_option maxHeartbeats 40000000 in
theorem panelsTurned_any (a0 : Option Addr) (cap0 : Nat) (L : List Int) (w : World) (hin : Inp w a0 L) :
    Calls Tryd.prog 4 #[.slice a0 L.length cap0] w fun e w' => e = .returned (.bool true) ∧ Chg NoB w w' := by
  refine law_calls Tryd.func4 rfl Tryd.ntmps4 (Nat.le_of_ble_eq_true rfl) Tryd.results4 ?_
  have hB := B0.ok w (fun _ => True) 92
  have hnew : True := trivial
  refine VC.seq ?_
  refine VC.region ?_
  refine VO.val rfl rfl (OpV.move (.inr rfl) rfl) ?_
  refine VO.nil ?_
  show VC _ _ _ _ _
  refine VC.seq ?_
  refine VC.region ?_
  refine VO.val rfl rfl (OpV.move (.inl rfl) rfl) ?_
  refine VO.val rfl rfl (OpV.build (pls := #[(0, 1), (1, 1)]) rfl Tryd.zeroValue25 Tryd.underlying25 (fun w => by kernel_rfl) rfl rfl) ?_
  refine VO.op rfl (OpE.box rfl hB rfl rfl rfl ?_)
  intro g
  refine VO.val rfl rfl (OpV.move (.inr rfl) rfl) ?_
  refine VO.nil ?_
  show VC _ _ _ _ _
  refine VC.stream (i := 0) (sl := [(3, sp g)]) (by exact rfl) (by exact rfl) hin (by exact ⟨rfl, trivial⟩) (fun p hp => by simp at hp; subst hp; exact ⟨_, rfl⟩) (fun w1 hge hB => ?_)
  refine VC.seq ?_
  refine VC.region ?_
  refine VO.val rfl rfl (OpV.move (.inl rfl) rfl) ?_
  refine VO.op rfl (OpE.callT' (0) rfl rfl hB rfl Tryd.call13 rfl (aProduct_T) (by omega) ?_)
  rintro _ ⟨p, hp, rfl⟩
  refine VO.op rfl (OpE.alloc rfl hB rfl Tryd.zeroValue44 rfl ?_)
  intro g4
  refine VO.op rfl (OpE.store (i := 0) rfl hB rfl Tryd.sizeOf44 rfl rfl rfl rfl rfl rfl (Nat.le_of_ble_eq_true rfl) trivial ?_)
  refine VO.nil ?_
  show VC _ _ _ _ _
  refine VC.seq ?_
  refine VC.le ⟨[(3, _), (4, _)], [.box _ ⟨[_, _, _, _], _, _⟩], 0 + 50⟩ (Le.mk hB [0] ⟨rfl, rfl, trivial⟩ rfl rfl (Nat.le_refl _)) ?_
  refine VC.region ?_
  refine VO.val rfl rfl (OpV.move (.inl rfl) rfl) ?_
  refine VO.val rfl rfl (OpV.loadK_own (i := 0) rfl hB Tryd.isAgg44 Tryd.sizeOf44 rfl rfl rfl (fun h => h)) ?_
  refine VO.op rfl (OpE.callT' (0 + 50) rfl rfl hB rfl Tryd.call14 rfl (aPanel_T) (by omega) ?_)
  rintro _ ⟨n, hn, rfl⟩
  obtain ⟨e, he⟩ : ∃ e, panelF p n = e := ⟨_, rfl⟩
  obtain ⟨os, hos⟩ : ∃ z, outsR p n = z := ⟨_, rfl⟩
  obtain ⟨vs, hvs⟩ : ∃ z, ovsR p n = z := ⟨_, rfl⟩
  obtain ⟨tr, htr⟩ : ∃ z, turnR p n = z := ⟨_, rfl⟩
  obtain ⟨te, hte⟩ : ∃ z, turnE p n = z := ⟨_, rfl⟩
  have hl1 : n.slots.length ≤ 1000000 := by omega
  have hC := panel_Outside (n := n) hp.1 hl1
  rw [hos, he] at hC
  have hD := panel_Overlaps (n := n) hp.1 hl1
  rw [hvs, he] at hD
  have hT := panel_Turned (n := n) hp.1 hl1
  rw [htr, hte] at hT
  have hF := rf_PanelFault (n := n) hp.1 hl1
  rw [he] at hF
  have hR1 : e = 0 → SpecN Tryd.prog 19 [avProd p, avPan n] (fun y => y = avInts os) := fun h => by rw [← hos]; exact rf_OutsideOf (he.trans h)
  have hR2 : e = 0 → SpecN Tryd.prog 20 [avProd p, avPan n] (fun y => y = avL vs) := fun h => by rw [← hvs]; exact rf_OverlapsOf (he.trans h)
  have hR3 : e = 0 → Spec Tryd.prog 21 [avProd p, avPan n] (fun y => y = .tup [avPan tr, avI te]) := fun h => by rw [← htr, ← hte]; exact rf_TurnedOf (he.trans h)
  have hz : e ≠ 0 → os = [] ∧ vs = [] ∧ tr = ⟨0, 0, []⟩ ∧ te = e := fun h => ⟨by rw [← hos]; exact outsR_no (by rw [he]; exact h), by rw [← hvs]; exact ovsR_no' (by rw [he]; exact h), by rw [← htr]; exact turnR_no (by rw [he]; exact h), by rw [← hte, ← he]; exact turnE_1 (by rw [he]; exact h)⟩
  have hz1 : os.length ≤ 1000000000 := by rw [← hos]; exact outsR_len hl1
  have hz2 : vs.length ≤ 1000000000 := by rw [← hvs]; exact ovsR_len (by omega)
  have hz3 : tr.slots.length ≤ 1000000000 := by rw [← htr]; exact turnR_len (by omega)
  clear he hos hvs htr hte
  refine VO.op rfl (OpE.alloc rfl hB rfl Tryd.zeroValue48 rfl ?_)
  intro g5
  refine VO.op rfl (OpE.store (i := 1) rfl hB rfl Tryd.sizeOf48 rfl rfl rfl rfl rfl rfl (Nat.le_of_ble_eq_true rfl) trivial ?_)
  refine VO.nil ?_
  show VC _ _ _ _ _
  refine VC.seq ?_
  refine VC.le ⟨[(3, _), (4, _), (5, _)], [.box _ ⟨[_, _, _, _], _, _⟩, .box _ ⟨[_, _, _], _, _⟩], 0 + 50 + 40⟩ (Le.mk hB [0, 1] ⟨rfl, rfl, rfl, trivial⟩ rfl rfl (Nat.le_refl _)) ?_
  refine VC.region ?_
  refine VO.val rfl rfl (OpV.loadK_own (i := 0) rfl hB Tryd.isAgg44 Tryd.sizeOf44 rfl rfl rfl (fun h => h)) ?_
  refine VO.val rfl rfl (OpV.loadK_own (i := 1) rfl hB Tryd.isAgg48 Tryd.sizeOf48 rfl rfl rfl (fun h => h)) ?_
  refine VO.op rfl (OpE.call rfl hB rfl Tryd.call15 rfl (SpecN.spec (hC)) ?_)
  rintro _ rfl
  refine VO.val rfl rfl (OpV.move (.inl rfl) rfl) ?_
  first
    | refine VO.val rfl rfl (OpV.extract rfl rfl rfl) ?_
    | refine VO.val rfl rfl (OpV.extract_v rfl rfl rfl) ?_
  first
    | refine VO.val rfl rfl (OpV.extract rfl rfl rfl) ?_
    | refine VO.val rfl rfl (OpV.extract_v rfl rfl rfl) ?_
  refine VO.val rfl rfl (OpV.move (.inr rfl) rfl) ?_
  refine VO.val rfl rfl (OpV.move (.inr rfl) rfl) ?_
  refine VO.nil ?_
  show VC _ _ _ _ _
  refine VC.seq ?_
  refine VC.le ⟨[(3, _), (4, _), (5, _), (6, _), (7, _)], [.box _ ⟨[_, _, _, _], _, _⟩, .box _ ⟨[_, _, _], _, _⟩], 0 + 50 + 40⟩ (Le.mk hB [0, 1] ⟨rfl, rfl, rfl, rfl, rfl, trivial⟩ rfl rfl (Nat.le_refl _)) ?_
  refine VC.region ?_
  refine VO.val rfl rfl (OpV.loadK_own (i := 0) rfl hB Tryd.isAgg44 Tryd.sizeOf44 rfl rfl rfl (fun h => h)) ?_
  refine VO.val rfl rfl (OpV.loadK_own (i := 1) rfl hB Tryd.isAgg48 Tryd.sizeOf48 rfl rfl rfl (fun h => h)) ?_
  refine VO.op rfl (OpE.call rfl hB rfl Tryd.call16 rfl (SpecN.spec (hD)) ?_)
  rintro _ rfl
  refine VO.val rfl rfl (OpV.move (.inl rfl) rfl) ?_
  first
    | refine VO.val rfl rfl (OpV.extract rfl rfl rfl) ?_
    | refine VO.val rfl rfl (OpV.extract_v rfl rfl rfl) ?_
  first
    | refine VO.val rfl rfl (OpV.extract rfl rfl rfl) ?_
    | refine VO.val rfl rfl (OpV.extract_v rfl rfl rfl) ?_
  refine VO.val rfl rfl (OpV.move (.inr rfl) rfl) ?_
  refine VO.val rfl rfl (OpV.move (.inr rfl) rfl) ?_
  refine VO.nil ?_
  show VC _ _ _ _ _
  refine VC.seq ?_
  refine VC.le ⟨[(3, _), (4, _), (5, _), (6, _), (7, _), (8, _), (9, _)], [.box _ ⟨[_, _, _, _], _, _⟩, .box _ ⟨[_, _, _], _, _⟩], 0 + 50 + 40⟩ (Le.mk hB [0, 1] ⟨rfl, rfl, rfl, rfl, rfl, rfl, rfl, trivial⟩ rfl rfl (Nat.le_refl _)) ?_
  refine VC.region ?_
  refine VO.val rfl rfl (OpV.loadK_own (i := 0) rfl hB Tryd.isAgg44 Tryd.sizeOf44 rfl rfl rfl (fun h => h)) ?_
  refine VO.val rfl rfl (OpV.loadK_own (i := 1) rfl hB Tryd.isAgg48 Tryd.sizeOf48 rfl rfl rfl (fun h => h)) ?_
  refine VO.op rfl (OpE.call rfl hB rfl Tryd.call17 rfl (hT) ?_)
  rintro _ rfl
  refine VO.val rfl rfl (OpV.move (.inl rfl) rfl) ?_
  first
    | refine VO.val rfl rfl (OpV.extract rfl rfl rfl) ?_
    | refine VO.val rfl rfl (OpV.extract_v rfl rfl rfl) ?_
  first
    | refine VO.val rfl rfl (OpV.extract rfl rfl rfl) ?_
    | refine VO.val rfl rfl (OpV.extract_v rfl rfl rfl) ?_
  refine VO.op rfl (OpE.alloc rfl hB rfl Tryd.zeroValue48 rfl ?_)
  intro g10
  refine VO.op rfl (OpE.store (i := 2) rfl hB rfl Tryd.sizeOf48 rfl rfl rfl rfl rfl rfl (Nat.le_of_ble_eq_true rfl) trivial ?_)
  refine VO.val rfl rfl (OpV.move (.inr rfl) rfl) ?_
  refine VO.nil ?_
  show VC _ _ _ _ _
  refine VC.seq ?_
  refine VC.le ⟨[(3, _), (4, _), (5, _), (6, _), (7, _), (8, _), (9, _), (10, _), (11, _)], [.box _ ⟨[_, _, _, _], _, _⟩, .box _ ⟨[_, _, _], _, _⟩, .box _ ⟨[_, _, _], _, _⟩], 0 + 50 + 40⟩ (Le.mk hB [0, 1, 2] ⟨rfl, rfl, rfl, rfl, rfl, rfl, rfl, rfl, rfl, trivial⟩ rfl rfl (Nat.le_refl _)) ?_
  refine VC.region ?_
  refine VO.val rfl rfl (OpV.loadK_own (i := 0) rfl hB Tryd.isAgg44 Tryd.sizeOf44 rfl rfl rfl (fun h => h)) ?_
  refine VO.val rfl rfl (OpV.loadK_own (i := 1) rfl hB Tryd.isAgg48 Tryd.sizeOf48 rfl rfl rfl (fun h => h)) ?_
  refine VO.op rfl (OpE.call rfl hB rfl Tryd.call18 rfl (SpecN.spec (hF)) ?_)
  rintro _ rfl
  refine VO.val rfl rfl (OpV.move (.inr rfl) rfl) ?_
  refine VO.nil ?_
  show VC _ _ _ _ _
  refine VC.seq ?_
  refine VC.region ?_
  refine VO.val rfl rfl (OpV.move (.inr rfl) rfl) ?_
  first | refine VO.le _ (Le.recast (t := 13) (y := avInts []) rfl (fun w Z u h => by rw [h.eq_v]; exact .nil _ _)) ?_ | skip
  refine VO.nil ?_
  show VC _ _ _ _ _
  refine VC.seq ?_
  refine VC.region ?_
  refine VO.val rfl rfl (OpV.move (.inr rfl) rfl) ?_
  first | refine VO.le _ (Le.recast (t := 14) (y := avL ([] : List IPair)) rfl (fun w Z u h => by rw [h.eq_v]; exact .nil _ _)) ?_ | skip
  refine VO.nil ?_
  show VC _ _ _ _ _
  refine VC.seq ?_
  refine VC.region ?_
  refine VO.op rfl (OpE.alloc rfl hB rfl Tryd.zeroValue48 rfl ?_)
  intro g15
  refine VO.nil ?_
  show VC _ _ _ _ _
  refine VC.seq ?_
  refine VC.region ?_
  refine VO.val rfl rfl (OpV.move (.inl rfl) rfl) ?_
  refine VO.val rfl rfl (OpV.move (.inr rfl) rfl) ?_
  refine VO.nil ?_
  show VC _ _ _ _ _
  refine VC.seq ?_
  refine VC.seq ?_
  refine VC.region ?_
  refine VO.val rfl rfl (OpV.move (.inl rfl) rfl) ?_
  refine VO.val rfl rfl (OpV.eql rfl rfl rfl) ?_
  refine VO.nil ?_
  show VC _ _ _ _ _
  refine VC.cond rfl (fun h0b => ?_) (fun h0b => ?_)
  · have h0 := h0b
    try simp only [decide_eq_true_eq, decide_eq_false_iff_not, Bool.not_eq_true', Bool.not_eq_false', Int.not_lt, Int.not_le] at h0
    refine VC.seq ?_
    refine VC.le ⟨[(3, _), (4, _), (5, _), (6, _), (7, _), (8, _), (9, _), (10, _), (11, _), (12, _), (13, _), (14, _), (15, _), (16, _)], [.box _ ⟨[_, _, _, _], _, _⟩, .box _ ⟨[_, _, _], _, _⟩, .box _ ⟨[_, _, _], _, _⟩, .box _ ⟨[_, _, _], _, _⟩], 0 + 50 + 40⟩ (Le.mk hB [0, 1, 2, 3] ⟨rfl, rfl, rfl, rfl, rfl, rfl, rfl, rfl, rfl, rfl, rfl, rfl, rfl, rfl, trivial⟩ rfl rfl (Nat.le_refl _)) ?_
    refine VC.draw (fun _ => NoB) hB (by kernel_rfl) ?_
    refine VA.take (i := 0) rfl (by kernel_rfl) (by kernel_rfl) (by kernel_rfl) rfl rfl (OpV.loadK_own (i := 0) rfl hB Tryd.isAgg44 Tryd.sizeOf44 rfl rfl rfl Wi.not0) ?_
    refine VA.take (i := 1) rfl (by kernel_rfl) (by kernel_rfl) (by kernel_rfl) rfl rfl (OpV.loadK_own (i := 1) rfl hB Tryd.isAgg48 Tryd.sizeOf48 rfl rfl rfl Wi.not0) ?_
    refine VA.take (i := 3) rfl (by kernel_rfl) (by kernel_rfl) (by kernel_rfl) rfl rfl (OpV.loadK_own (i := 0) rfl hB Tryd.isAgg44 Tryd.sizeOf44 rfl rfl rfl Wi.not0) ?_
    refine VA.take (i := 4) rfl (by kernel_rfl) (by kernel_rfl) (by kernel_rfl) rfl rfl (OpV.loadK_own (i := 1) rfl hB Tryd.isAgg48 Tryd.sizeOf48 rfl rfl rfl Wi.not0) ?_
    refine VA.all (rs := [2]) (by kernel_rfl) (by decide) ?_
    refine ⟨⟨_, rfl, .inl rfl, ?_⟩, trivial⟩
    refine OpE.call rfl hB rfl Tryd.call19 rfl (SpecN.spec (hR1 h0)) ?_
    rintro _ rfl
    refine VA.all (rs := [5]) (by kernel_rfl) (by decide) ?_
    refine ⟨⟨_, rfl, .inl rfl, ?_⟩, trivial⟩
    refine OpE.call rfl hB rfl Tryd.call20 rfl (SpecN.spec (hR2 h0)) ?_
    rintro _ rfl
    refine VA.take (i := 6) rfl (by kernel_rfl) (by kernel_rfl) (by kernel_rfl) rfl rfl (OpV.move (.inr rfl) rfl) ?_
    first | refine VO.le _ (Le.recast (t := 13) (y := avInts []) rfl (fun w Z u h => by rw [h.eq_v]; exact .nil _ _)) ?_ | skip
    refine VA.take (i := 7) rfl (by kernel_rfl) (by kernel_rfl) (by kernel_rfl) rfl rfl (OpV.move (.inr rfl) rfl) ?_
    first | refine VO.le _ (Le.recast (t := 14) (y := avL ([] : List IPair)) rfl (fun w Z u h => by rw [h.eq_v]; exact .nil _ _)) ?_ | skip
    refine VA.done (by kernel_rfl) ?_
    show VC _ _ _ _ _
    refine VC.le ⟨[(3, _), (4, _), (5, _), (6, _), (7, _), (8, _), (9, _), (10, _), (11, _), (12, _), (13, _), (14, _), (15, _), (16, _)], [.box _ ⟨[_, _, _, _], _, _⟩, .box _ ⟨[_, _, _], _, _⟩, .box _ ⟨[_, _, _], _, _⟩, .box _ ⟨[_, _, _], _, _⟩], 0 + 50 + 40⟩ (Le.mk hB [0, 1, 2, 3] ⟨rfl, rfl, rfl, rfl, rfl, rfl, rfl, rfl, rfl, rfl, rfl, rfl, rfl, rfl, trivial⟩ rfl rfl (Nat.le_refl _)) ?_
    refine VC.region ?_
    refine VO.val rfl rfl (OpV.loadK_own (i := 0) rfl hB Tryd.isAgg44 Tryd.sizeOf44 rfl rfl rfl (fun h => h)) ?_
    refine VO.val rfl rfl (OpV.loadK_own (i := 1) rfl hB Tryd.isAgg48 Tryd.sizeOf48 rfl rfl rfl (fun h => h)) ?_
    refine VO.op rfl (OpE.call rfl hB rfl Tryd.call21 rfl (hR3 h0) ?_)
    rintro _ rfl
    refine VO.val rfl rfl (OpV.move (.inl rfl) rfl) ?_
    first
      | refine VO.val rfl rfl (OpV.extract rfl rfl rfl) ?_
      | refine VO.val rfl rfl (OpV.extract_v rfl rfl rfl) ?_
    first
      | refine VO.val rfl rfl (OpV.extract rfl rfl rfl) ?_
      | refine VO.val rfl rfl (OpV.extract_v rfl rfl rfl) ?_
    refine VO.op rfl (OpE.store (i := 3) rfl hB rfl Tryd.sizeOf48 rfl rfl rfl rfl rfl rfl (Nat.le_of_ble_eq_true rfl) trivial ?_)
    refine VO.val rfl rfl (OpV.move (.inr rfl) rfl) ?_
    refine VO.nil ?_
    show VC _ _ _ _ _
    refine VC.seq ?_
    refine VC.le ⟨[(6, _), (7, _), (8, _), (9, _), (10, _), (11, _), (12, _), (13, _), (14, _), (15, _), (16, _)], [.box _ ⟨[_, _, _, _], _, _⟩, .box _ ⟨[_, _, _], _, _⟩, .box _ ⟨[_, _, _], _, _⟩, .box _ ⟨[_, _, _], _, _⟩], 0 + 50 + 40⟩ (Le.mk hB [0, 1, 2, 3] ⟨rfl, rfl, rfl, rfl, rfl, rfl, rfl, rfl, rfl, rfl, rfl, trivial⟩ rfl rfl (Nat.le_refl _)) ?_
    refine VC.region ?_
    refine VO.val rfl rfl (OpV.move (.inl rfl) rfl) ?_
    refine VO.val rfl rfl (OpV.move (.inl rfl) rfl) ?_
    refine VO.val rfl rfl (OpV.eql rfl rfl rfl) ?_
    refine VO.le _ (Le.boolT (t := 63) rfl (decide_eq_true rfl)) ?_
    refine VO.val rfl rfl (OpV.move (.inl rfl) rfl) ?_
    refine VO.opY rfl rfl rfl rfl rfl ?_
    refine OpE.val (W := NoB) (OpV.move (.inl rfl) rfl) rfl ?_
    refine VO.opY rfl rfl rfl rfl rfl ?_
    refine OpE.val (W := NoB) (OpV.move (.inl rfl) rfl) rfl ?_
    refine VO.opY rfl rfl rfl rfl rfl ?_
    refine OpE.call rfl hB rfl Tryd.call22 rfl (SpecN.spec (slices_Equal_int hz1 (by first | exact hz1 | decide))) ?_
    rintro _ rfl
    refine VO.le _ (Le.boolT (t := 67) rfl (by first | exact decide_eq_true rfl | exact decide_eq_true (hz h0).1)) ?_
    refine VO.val rfl rfl (OpV.pickT rfl rfl rfl rfl rfl) ?_
    refine VO.val rfl rfl (OpV.move (.inl rfl) rfl) ?_
    refine VO.opY rfl rfl rfl rfl rfl ?_
    refine OpE.val (W := NoB) (OpV.move (.inl rfl) rfl) rfl ?_
    refine VO.opY rfl rfl rfl rfl rfl ?_
    refine OpE.val (W := NoB) (OpV.move (.inl rfl) rfl) rfl ?_
    refine VO.opY rfl rfl rfl rfl rfl ?_
    refine OpE.val (W := NoB) (OpV.eql rfl rfl rfl) rfl ?_
    refine VO.le _ (Le.boolT (t := 72) rfl (decide_eq_true rfl)) ?_
    refine VO.val rfl rfl (OpV.pickT rfl rfl rfl rfl rfl) ?_
    refine VO.val rfl rfl (OpV.move (.inl rfl) rfl) ?_
    refine VO.opY rfl rfl rfl rfl rfl ?_
    refine OpE.val (W := NoB) (OpV.move (.inl rfl) rfl) rfl ?_
    refine VO.opY rfl rfl rfl rfl rfl ?_
    refine OpE.val (W := NoB) (OpV.move (.inl rfl) rfl) rfl ?_
    refine VO.opY rfl rfl rfl rfl rfl ?_
    refine OpE.call rfl hB rfl Tryd.call23 rfl (SpecN.spec (slices_Equal_ipair hz2 (by first | exact hz2 | decide))) ?_
    rintro _ rfl
    refine VO.le _ (Le.boolT (t := 77) rfl (by first | exact eqLs_self eqIp_self _ | (rw [(hz h0).2.1]; rfl))) ?_
    refine VO.val rfl rfl (OpV.pickT rfl rfl rfl rfl rfl) ?_
    refine VO.val rfl rfl (OpV.move (.inl rfl) rfl) ?_
    refine VO.opY rfl rfl rfl rfl rfl ?_
    refine OpE.val (W := NoB) (OpV.move (.inl rfl) rfl) rfl ?_
    refine VO.opY rfl rfl rfl rfl rfl ?_
    refine OpE.val (W := NoB) (OpV.move (.inl rfl) rfl) rfl ?_
    refine VO.opY rfl rfl rfl rfl rfl ?_
    refine OpE.val (W := NoB) (OpV.eql rfl rfl rfl) rfl ?_
    refine VO.le _ (Le.boolT (t := 82) rfl (by first | exact decide_eq_true rfl | exact decide_eq_true (hz h0).2.2.2)) ?_
    refine VO.val rfl rfl (OpV.pickT rfl rfl rfl rfl rfl) ?_
    refine VO.val rfl rfl (OpV.move (.inl rfl) rfl) ?_
    refine VO.opY rfl rfl rfl rfl rfl ?_
    first
      | refine OpE.val (W := NoB) (OpV.loadK_at rfl hB OutW.no Tryd.isAgg48 Tryd.sizeOf48 rfl rfl) rfl ?_
      | refine OpE.val (W := NoB) (OpV.loadK_own (i := 0) rfl hB Tryd.isAgg48 Tryd.sizeOf48 rfl rfl rfl (fun h => h)) rfl ?_
      | refine OpE.val (W := NoB) (OpV.loadK_own (i := 1) rfl hB Tryd.isAgg48 Tryd.sizeOf48 rfl rfl rfl (fun h => h)) rfl ?_
      | refine OpE.val (W := NoB) (OpV.loadK_own (i := 2) rfl hB Tryd.isAgg48 Tryd.sizeOf48 rfl rfl rfl (fun h => h)) rfl ?_
      | refine OpE.val (W := NoB) (OpV.loadK_own (i := 3) rfl hB Tryd.isAgg48 Tryd.sizeOf48 rfl rfl rfl (fun h => h)) rfl ?_
    refine VO.opY rfl rfl rfl rfl rfl ?_
    first
      | refine OpE.val (W := NoB) (OpV.loadK_at rfl hB OutW.no Tryd.isAgg48 Tryd.sizeOf48 rfl rfl) rfl ?_
      | refine OpE.val (W := NoB) (OpV.loadK_own (i := 0) rfl hB Tryd.isAgg48 Tryd.sizeOf48 rfl rfl rfl (fun h => h)) rfl ?_
      | refine OpE.val (W := NoB) (OpV.loadK_own (i := 1) rfl hB Tryd.isAgg48 Tryd.sizeOf48 rfl rfl rfl (fun h => h)) rfl ?_
      | refine OpE.val (W := NoB) (OpV.loadK_own (i := 2) rfl hB Tryd.isAgg48 Tryd.sizeOf48 rfl rfl rfl (fun h => h)) rfl ?_
      | refine OpE.val (W := NoB) (OpV.loadK_own (i := 3) rfl hB Tryd.isAgg48 Tryd.sizeOf48 rfl rfl rfl (fun h => h)) rfl ?_
    first | refine VO.le _ (Le.recast (t := 86) (y := avPan ⟨0, 0, []⟩) rfl (fun w Z u h => nil_pan h)) ?_ | skip
    refine VO.opY rfl rfl rfl rfl rfl ?_
    refine OpE.call rfl hB rfl Tryd.call24 rfl (SpecN.spec (rf_SamePanel hz3 (by first | exact hz3 | decide))) ?_
    rintro _ rfl
    refine VO.le _ (Le.boolT (t := 87) rfl (by first | exact samePan_self _ | (rw [(hz h0).2.2.1]; exact samePan_self _))) ?_
    refine VO.val rfl rfl (OpV.pickT rfl rfl rfl rfl rfl) ?_
    refine VO.val rfl rfl (OpV.move (.inl rfl) rfl) ?_
    refine VO.opY rfl rfl rfl rfl rfl ?_
    refine OpE.call rfl hB rfl Tryd.call12 rfl (SpecN.spec (rf_paneled)) ?_
    rintro _ rfl
    refine VO.val rfl rfl (OpV.pickT rfl rfl rfl rfl rfl) ?_
    refine VO.val rfl rfl (OpV.move (.inr rfl) rfl) ?_
    refine VO.nil ?_
    show VC _ _ _ _ _
    refine VC.ret ?_
    exact And.intro rfl rfl
  · have h0 := h0b
    try simp only [decide_eq_true_eq, decide_eq_false_iff_not, Bool.not_eq_true', Bool.not_eq_false', Int.not_lt, Int.not_le] at h0
    refine VC.skip ?_
    show VC _ _ _ _ _
    refine VC.seq ?_
    refine VC.le ⟨[(6, _), (7, _), (8, _), (9, _), (10, _), (11, _), (12, _), (13, _), (14, _), (15, _), (16, _)], [.box _ ⟨[_, _, _, _], _, _⟩, .box _ ⟨[_, _, _], _, _⟩, .box _ ⟨[_, _, _], _, _⟩, .box _ ⟨[_, _, _], _, _⟩], 0 + 50 + 40⟩ (Le.mk hB [0, 1, 2, 3] ⟨rfl, rfl, rfl, rfl, rfl, rfl, rfl, rfl, rfl, rfl, rfl, trivial⟩ rfl rfl (Nat.le_refl _)) ?_
    refine VC.region ?_
    refine VO.val rfl rfl (OpV.move (.inl rfl) rfl) ?_
    refine VO.val rfl rfl (OpV.move (.inl rfl) rfl) ?_
    refine VO.val rfl rfl (OpV.eql rfl rfl rfl) ?_
    refine VO.le _ (Le.boolT (t := 63) rfl (decide_eq_true rfl)) ?_
    refine VO.val rfl rfl (OpV.move (.inl rfl) rfl) ?_
    refine VO.opY rfl rfl rfl rfl rfl ?_
    refine OpE.val (W := NoB) (OpV.move (.inl rfl) rfl) rfl ?_
    refine VO.opY rfl rfl rfl rfl rfl ?_
    refine OpE.val (W := NoB) (OpV.move (.inl rfl) rfl) rfl ?_
    refine VO.opY rfl rfl rfl rfl rfl ?_
    refine OpE.call rfl hB rfl Tryd.call22 rfl (SpecN.spec (slices_Equal_int hz1 (by first | exact hz1 | decide))) ?_
    rintro _ rfl
    refine VO.le _ (Le.boolT (t := 67) rfl (by first | exact decide_eq_true rfl | exact decide_eq_true (hz h0).1)) ?_
    refine VO.val rfl rfl (OpV.pickT rfl rfl rfl rfl rfl) ?_
    refine VO.val rfl rfl (OpV.move (.inl rfl) rfl) ?_
    refine VO.opY rfl rfl rfl rfl rfl ?_
    refine OpE.val (W := NoB) (OpV.move (.inl rfl) rfl) rfl ?_
    refine VO.opY rfl rfl rfl rfl rfl ?_
    refine OpE.val (W := NoB) (OpV.move (.inl rfl) rfl) rfl ?_
    refine VO.opY rfl rfl rfl rfl rfl ?_
    refine OpE.val (W := NoB) (OpV.eql rfl rfl rfl) rfl ?_
    refine VO.le _ (Le.boolT (t := 72) rfl (decide_eq_true rfl)) ?_
    refine VO.val rfl rfl (OpV.pickT rfl rfl rfl rfl rfl) ?_
    refine VO.val rfl rfl (OpV.move (.inl rfl) rfl) ?_
    refine VO.opY rfl rfl rfl rfl rfl ?_
    refine OpE.val (W := NoB) (OpV.move (.inl rfl) rfl) rfl ?_
    refine VO.opY rfl rfl rfl rfl rfl ?_
    refine OpE.val (W := NoB) (OpV.move (.inl rfl) rfl) rfl ?_
    refine VO.opY rfl rfl rfl rfl rfl ?_
    refine OpE.call rfl hB rfl Tryd.call23 rfl (SpecN.spec (slices_Equal_ipair hz2 (by first | exact hz2 | decide))) ?_
    rintro _ rfl
    refine VO.le _ (Le.boolT (t := 77) rfl (by first | exact eqLs_self eqIp_self _ | (rw [(hz h0).2.1]; rfl))) ?_
    refine VO.val rfl rfl (OpV.pickT rfl rfl rfl rfl rfl) ?_
    refine VO.val rfl rfl (OpV.move (.inl rfl) rfl) ?_
    refine VO.opY rfl rfl rfl rfl rfl ?_
    refine OpE.val (W := NoB) (OpV.move (.inl rfl) rfl) rfl ?_
    refine VO.opY rfl rfl rfl rfl rfl ?_
    refine OpE.val (W := NoB) (OpV.move (.inl rfl) rfl) rfl ?_
    refine VO.opY rfl rfl rfl rfl rfl ?_
    refine OpE.val (W := NoB) (OpV.eql rfl rfl rfl) rfl ?_
    refine VO.le _ (Le.boolT (t := 82) rfl (by first | exact decide_eq_true rfl | exact decide_eq_true (hz h0).2.2.2)) ?_
    refine VO.val rfl rfl (OpV.pickT rfl rfl rfl rfl rfl) ?_
    refine VO.val rfl rfl (OpV.move (.inl rfl) rfl) ?_
    refine VO.opY rfl rfl rfl rfl rfl ?_
    first
      | refine OpE.val (W := NoB) (OpV.loadK_at rfl hB OutW.no Tryd.isAgg48 Tryd.sizeOf48 rfl rfl) rfl ?_
      | refine OpE.val (W := NoB) (OpV.loadK_own (i := 0) rfl hB Tryd.isAgg48 Tryd.sizeOf48 rfl rfl rfl (fun h => h)) rfl ?_
      | refine OpE.val (W := NoB) (OpV.loadK_own (i := 1) rfl hB Tryd.isAgg48 Tryd.sizeOf48 rfl rfl rfl (fun h => h)) rfl ?_
      | refine OpE.val (W := NoB) (OpV.loadK_own (i := 2) rfl hB Tryd.isAgg48 Tryd.sizeOf48 rfl rfl rfl (fun h => h)) rfl ?_
      | refine OpE.val (W := NoB) (OpV.loadK_own (i := 3) rfl hB Tryd.isAgg48 Tryd.sizeOf48 rfl rfl rfl (fun h => h)) rfl ?_
    refine VO.opY rfl rfl rfl rfl rfl ?_
    first
      | refine OpE.val (W := NoB) (OpV.loadK_at rfl hB OutW.no Tryd.isAgg48 Tryd.sizeOf48 rfl rfl) rfl ?_
      | refine OpE.val (W := NoB) (OpV.loadK_own (i := 0) rfl hB Tryd.isAgg48 Tryd.sizeOf48 rfl rfl rfl (fun h => h)) rfl ?_
      | refine OpE.val (W := NoB) (OpV.loadK_own (i := 1) rfl hB Tryd.isAgg48 Tryd.sizeOf48 rfl rfl rfl (fun h => h)) rfl ?_
      | refine OpE.val (W := NoB) (OpV.loadK_own (i := 2) rfl hB Tryd.isAgg48 Tryd.sizeOf48 rfl rfl rfl (fun h => h)) rfl ?_
      | refine OpE.val (W := NoB) (OpV.loadK_own (i := 3) rfl hB Tryd.isAgg48 Tryd.sizeOf48 rfl rfl rfl (fun h => h)) rfl ?_
    first | refine VO.le _ (Le.recast (t := 86) (y := avPan ⟨0, 0, []⟩) rfl (fun w Z u h => nil_pan h)) ?_ | skip
    refine VO.opY rfl rfl rfl rfl rfl ?_
    refine OpE.call rfl hB rfl Tryd.call24 rfl (SpecN.spec (rf_SamePanel hz3 (by first | exact hz3 | decide))) ?_
    rintro _ rfl
    refine VO.le _ (Le.boolT (t := 87) rfl (by first | exact samePan_self _ | (rw [(hz h0).2.2.1]; exact samePan_self _))) ?_
    refine VO.val rfl rfl (OpV.pickT rfl rfl rfl rfl rfl) ?_
    refine VO.val rfl rfl (OpV.move (.inl rfl) rfl) ?_
    refine VO.opY rfl rfl rfl rfl rfl ?_
    refine OpE.call rfl hB rfl Tryd.call12 rfl (SpecN.spec (rf_paneled)) ?_
    rintro _ rfl
    refine VO.val rfl rfl (OpV.pickT rfl rfl rfl rfl rfl) ?_
    refine VO.val rfl rfl (OpV.move (.inr rfl) rfl) ?_
    refine VO.nil ?_
    show VC _ _ _ _ _
    refine VC.ret ?_
    exact And.intro rfl rfl
end Go.Proofs.YtgikefjbdhnffaaDoor
