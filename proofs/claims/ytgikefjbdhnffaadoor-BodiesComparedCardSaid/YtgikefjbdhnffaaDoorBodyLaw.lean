/- The walk of the law BodiesCompared. -/
import Derived.Test.YtgikefjbdhnffaaDoorBodyR2
import Derived.Test.YtgikefjbdhnffaaDoorGenBody
import Derived.Test.YtgikefjbdhnffaaDoorGenProd
import Derived.Test.YtgikefjbdhnffaaDoorBodyEq
import Derived.Test.YtgikefjbdhnffaaDoorPanFact
import Derived.Test.YtgikefjbdhnffaaDoorErrs
import Derived.Test.YtgikefjbdhnffaaDoorLaw0
namespace Go.Proofs.YtgikefjbdhnffaaDoor
open Go.RowKit
set_option linter.unusedVariables false
set_option linter.unusedSimpArgs false
theorem bods_errs (p : ProdS) (b : List BodyS) (n : Int) : errsF [prodF p, bodiesF b, gapF n] = bodsE p b n := by
  unfold bodsE
  by_cases h1 : prodF p = 0
  · by_cases h2 : bodiesF b = 0
    · by_cases h3 : gapF n = 0
      · simp [errsF, h1, h2, h3]
      · simp [errsF, h1, h2, h3]
    · simp [errsF, h1, h2]
  · simp [errsF, h1]
theorem crowdR_len {p : ProdS} {b : List BodyS} {n : Int} : (crowdR p b n).length ≤ 1000000000 := by
  unfold crowdR
  split
  · rename_i h
    have h1 := lyL_len p b
    have h2 := (prodOk (bodsE_0 h).1).len
    have h3 := pairsR_len (pairO n) (lyL p b) (lyL p b).length
    rw [pairsR_all] at h3
    have h4 : (lyL p b).length * (lyL p b).length ≤ 1000 * 1000 := Nat.mul_le_mul (by omega) (by omega)
    omega
  · simp
theorem beyondR_len {p : ProdS} {b : List BodyS} {n : Int} : (beyondR p b n).length ≤ 1000000000 := by
  unfold beyondR
  split
  · rename_i h
    have h1 := lyL_len p b
    have h2 := (prodOk (bodsE_0 h).1).len
    have h3 := List.length_filterMap_le (beyondO p n) (lyL p b)
    omega
  · simp
set_option maxRecDepth 100000 in
set_option maxHeartbeats 40000000 in
theorem bodiesCompared_any (a0 : Option Addr) (cap0 : Nat) (L : List Int) (w : World) (hin : Inp w a0 L) :
    Calls Tryd.prog 5 #[.slice a0 L.length cap0] w fun e w' => e = .returned (.bool true) ∧ Chg NoB w w' := by
  refine law_calls Tryd.func5 rfl Tryd.ntmps5 (Nat.le_of_ble_eq_true rfl) Tryd.results5 ?_
  have hB := B0.ok w (fun _ => True) 76
  have hnew : True := trivial
  refine VC.seq ?_
  refine VC.region ?_
  refine VO.val rfl rfl (OpV.move (.inr rfl) rfl) ?_
  refine VO.nil ?_
  show VC _ _ _ _ _
  refine VC.seq ?_
  refine VC.region ?_
  refine VO.val rfl rfl (OpV.move (.inl rfl) rfl) ?_
  refine VO.val rfl rfl (OpV.build (pls := #[(0, 1), (1, 1)]) rfl Tryd.zeroValue25 Tryd.underlying25 (fun w => by kernel_rfl) rfl rfl) ?_
  refine VO.op rfl (OpE.box rfl hB rfl rfl rfl ?_)
  intro g
  refine VO.val rfl rfl (OpV.move (.inr rfl) rfl) ?_
  refine VO.nil ?_
  show VC _ _ _ _ _
  refine VC.stream (i := 0) (sl := [(3, sp g)]) (by exact rfl) (by exact rfl) hin (by exact ⟨rfl, trivial⟩) (fun p hp => by simp at hp; subst hp; exact ⟨_, rfl⟩) (fun w1 hge hB => ?_)
  refine VC.seq ?_
  refine VC.region ?_
  refine VO.val rfl rfl (OpV.move (.inl rfl) rfl) ?_
  refine VO.op rfl (OpE.callT' (0) rfl rfl hB rfl Tryd.call13 rfl (aProduct_T) (by omega) ?_)
  rintro _ ⟨p, hp, rfl⟩
  refine VO.val rfl rfl (OpV.move (.inl rfl) rfl) ?_
  refine VO.op rfl (OpE.callT' (0 + 50) rfl rfl hB rfl Tryd.call25 rfl (bodies_T) (by omega) ?_)
  rintro _ ⟨b, hb, rfl⟩
  refine VO.val rfl rfl (OpV.move (.inl rfl) rfl) ?_
  refine VO.op rfl (OpE.callT' (0 + 50 + 30) rfl rfl hB rfl Tryd.call26 rfl (aGap_T) (by omega) ?_)
  rintro _ ⟨n, hn, rfl⟩
  obtain ⟨e, he⟩ : ∃ e, bodsE p b n = e := ⟨_, rfl⟩
  obtain ⟨cr, hcr⟩ : ∃ z, crowdR p b n = z := ⟨_, rfl⟩
  obtain ⟨br, hbr⟩ : ∃ z, beyondR p b n = z := ⟨_, rfl⟩
  obtain ⟨e1, he1⟩ : ∃ z, prodF p = z := ⟨_, rfl⟩
  obtain ⟨e2, he2⟩ : ∃ z, bodiesF b = z := ⟨_, rfl⟩
  obtain ⟨e3, he3⟩ : ∃ z, gapF n = z := ⟨_, rfl⟩
  have hC := panel_Crowded (n := n) hp.1 hb.1
  rw [hcr, he] at hC
  have hD := panel_Beyond (n := n) hp.1 hb.1
  rw [hbr, he] at hD
  have hF1 := rf_ProductFault hp.1
  rw [he1] at hF1
  have hF2 := rf_BodiesFault hb.1
  rw [he2] at hF2
  have hF3 := rf_GapFault (n := n)
  rw [he3] at hF3
  have hee : errsF [e1, e2, e3] = e := by rw [← he1, ← he2, ← he3, bods_errs, he]
  have hR1 : e = 0 → SpecN Tryd.prog 33 [avProd p, avL b, avI n] (fun y => y = avL cr) := fun h => by rw [← hcr]; exact rf_CrowdedOf hp.1 hb.1 (he.trans h)
  have hR2 : e = 0 → SpecN Tryd.prog 34 [avProd p, avL b, avI n] (fun y => y = avStrs br) := fun h => by rw [← hbr]; exact rf_BeyondOf hp.1 hb.1 (he.trans h)
  have hz : e ≠ 0 → cr = [] ∧ br = [] := fun h => ⟨by rw [← hcr]; exact crowdR_no (by rw [he]; exact h), by rw [← hbr]; exact beyondR_no (by rw [he]; exact h)⟩
  have hl1 : cr.length ≤ 1000000000 := by rw [← hcr]; exact crowdR_len
  have hl2 : br.length ≤ 1000000000 := by rw [← hbr]; exact beyondR_len
  clear he hcr hbr he1 he2 he3
  refine VO.op rfl (OpE.alloc rfl hB rfl Tryd.zeroValue44 rfl ?_)
  intro g4
  refine VO.op rfl (OpE.store (i := 0) rfl hB rfl Tryd.sizeOf44 rfl rfl rfl rfl rfl rfl (Nat.le_of_ble_eq_true rfl) trivial ?_)
  refine VO.val rfl rfl (OpV.move (.inr rfl) rfl) ?_
  refine VO.val rfl rfl (OpV.move (.inr rfl) rfl) ?_
  refine VO.nil ?_
  show VC _ _ _ _ _
  refine VC.seq ?_
  refine VC.le ⟨[(3, _), (4, _), (5, _), (6, _)], [.box _ ⟨[_, _, _, _], _, _⟩], 0 + 50 + 30 + 1⟩ (Le.mk hB [0] ⟨rfl, rfl, rfl, rfl, trivial⟩ rfl rfl (Nat.le_refl _)) ?_
  refine VC.region ?_
  refine VO.val rfl rfl (OpV.loadK_own (i := 0) rfl hB Tryd.isAgg44 Tryd.sizeOf44 rfl rfl rfl (fun h => h)) ?_
  refine VO.val rfl rfl (OpV.move (.inl rfl) rfl) ?_
  refine VO.val rfl rfl (OpV.move (.inl rfl) rfl) ?_
  refine VO.op rfl (OpE.call rfl hB rfl Tryd.call27 rfl (SpecN.spec (hC)) ?_)
  rintro _ rfl
  refine VO.val rfl rfl (OpV.move (.inl rfl) rfl) ?_
  first
    | refine VO.val rfl rfl (OpV.extract rfl rfl rfl) ?_
    | refine VO.val rfl rfl (OpV.extract_v rfl rfl rfl) ?_
  first
    | refine VO.val rfl rfl (OpV.extract rfl rfl rfl) ?_
    | refine VO.val rfl rfl (OpV.extract_v rfl rfl rfl) ?_
  refine VO.val rfl rfl (OpV.move (.inr rfl) rfl) ?_
  refine VO.val rfl rfl (OpV.move (.inr rfl) rfl) ?_
  refine VO.nil ?_
  show VC _ _ _ _ _
  refine VC.seq ?_
  refine VC.le ⟨[(3, _), (4, _), (5, _), (6, _), (7, _), (8, _)], [.box _ ⟨[_, _, _, _], _, _⟩], 0 + 50 + 30 + 1⟩ (Le.mk hB [0] ⟨rfl, rfl, rfl, rfl, rfl, rfl, trivial⟩ rfl rfl (Nat.le_refl _)) ?_
  refine VC.region ?_
  refine VO.val rfl rfl (OpV.loadK_own (i := 0) rfl hB Tryd.isAgg44 Tryd.sizeOf44 rfl rfl rfl (fun h => h)) ?_
  refine VO.val rfl rfl (OpV.move (.inl rfl) rfl) ?_
  refine VO.val rfl rfl (OpV.move (.inl rfl) rfl) ?_
  refine VO.op rfl (OpE.call rfl hB rfl Tryd.call28 rfl (SpecN.spec (hD)) ?_)
  rintro _ rfl
  refine VO.val rfl rfl (OpV.move (.inl rfl) rfl) ?_
  first
    | refine VO.val rfl rfl (OpV.extract rfl rfl rfl) ?_
    | refine VO.val rfl rfl (OpV.extract_v rfl rfl rfl) ?_
  first
    | refine VO.val rfl rfl (OpV.extract rfl rfl rfl) ?_
    | refine VO.val rfl rfl (OpV.extract_v rfl rfl rfl) ?_
  refine VO.val rfl rfl (OpV.move (.inr rfl) rfl) ?_
  refine VO.val rfl rfl (OpV.move (.inr rfl) rfl) ?_
  refine VO.nil ?_
  show VC _ _ _ _ _
  refine VC.seq ?_
  refine VC.le ⟨[(3, _), (4, _), (5, _), (6, _), (7, _), (8, _), (9, _), (10, _)], [.box _ ⟨[_, _, _, _], _, _⟩], 0 + 50 + 30 + 1⟩ (Le.mk hB [0] ⟨rfl, rfl, rfl, rfl, rfl, rfl, rfl, rfl, trivial⟩ rfl rfl (Nat.le_refl _)) ?_
  refine VC.region ?_
  refine VO.val rfl rfl (OpV.loadK_own (i := 0) rfl hB Tryd.isAgg44 Tryd.sizeOf44 rfl rfl rfl (fun h => h)) ?_
  refine VO.op rfl (OpE.call rfl hB rfl Tryd.call30 rfl (SpecN.spec (hF1)) ?_)
  rintro _ rfl
  refine VO.val rfl rfl (OpV.move (.inl rfl) rfl) ?_
  refine VO.op rfl (OpE.call rfl hB rfl Tryd.call31 rfl (SpecN.spec (hF2)) ?_)
  rintro _ rfl
  refine VO.val rfl rfl (OpV.move (.inl rfl) rfl) ?_
  refine VO.op rfl (OpE.call rfl hB rfl Tryd.call32 rfl (SpecN.spec (hF3)) ?_)
  rintro _ rfl
  refine VO.op rfl (OpE.buildSlice (zc := #[.int .i64 0, .int .i64 0, .int .i64 0]) rfl hB rfl Tryd.underlying124 Tryd.sizeOf30 Tryd.zeroValue30 (by decide) (by decide) (by kernel_rfl) rfl rfl ?_)
  refine VO.le _ (Le.recast (t := 43) (y := avInts [e1, e2, e3]) rfl (fun w Z u h => Rep.ints (xs := [e1, e2, e3]) rfl h)) ?_
  refine VO.op rfl (OpE.call rfl hB rfl Tryd.call29 rfl (SpecN.spec (rf_errs (xs := [e1, e2, e3]) (by simp))) ?_)
  rintro _ rfl
  refine VO.le _ (Le.recast (t := 44) (y := avI e) rfl (fun w Z u h => by rw [← hee]; exact h)) ?_
  refine VO.val rfl rfl (OpV.move (.inr rfl) rfl) ?_
  refine VO.nil ?_
  show VC _ _ _ _ _
  refine VC.seq ?_
  refine VC.le ⟨[(3, _), (4, _), (5, _), (6, _), (7, _), (8, _), (9, _), (10, _), (11, _)], [.box _ ⟨[_, _, _, _], _, _⟩], 0 + 50 + 30 + 1⟩ (Le.mk hB [0] ⟨rfl, rfl, rfl, rfl, rfl, rfl, rfl, rfl, rfl, trivial⟩ rfl rfl (Nat.le_refl _)) ?_
  refine VC.region ?_
  refine VO.val rfl rfl (OpV.move (.inr rfl) rfl) ?_
  first | refine VO.le _ (Le.recast (t := 12) (y := avL ([] : List PairS)) rfl (fun w Z u h => by rw [h.eq_v]; exact .nil _ _)) ?_ | skip
  refine VO.nil ?_
  show VC _ _ _ _ _
  refine VC.seq ?_
  refine VC.region ?_
  refine VO.val rfl rfl (OpV.move (.inr rfl) rfl) ?_
  first | refine VO.le _ (Le.recast (t := 13) (y := avStrs []) rfl (fun w Z u h => by rw [h.eq_v]; exact .nil _ _)) ?_ | skip
  refine VO.nil ?_
  show VC _ _ _ _ _
  refine VC.seq ?_
  refine VC.seq ?_
  refine VC.le ⟨[(3, _), (4, _), (5, _), (6, _), (7, _), (8, _), (9, _), (10, _), (11, _), (12, _), (13, _)], [.box _ ⟨[_, _, _, _], _, _⟩], 0 + 50 + 30 + 1⟩ (Le.mk hB [0] ⟨rfl, rfl, rfl, rfl, rfl, rfl, rfl, rfl, rfl, rfl, rfl, trivial⟩ rfl rfl (Nat.le_refl _)) ?_
  refine VC.region ?_
  refine VO.val rfl rfl (OpV.move (.inl rfl) rfl) ?_
  refine VO.val rfl rfl (OpV.eql rfl rfl rfl) ?_
  refine VO.nil ?_
  show VC _ _ _ _ _
  refine VC.cond rfl (fun h0b => ?_) (fun h0b => ?_)
  · have h0 := h0b
    try simp only [decide_eq_true_eq, decide_eq_false_iff_not, Bool.not_eq_true', Bool.not_eq_false', Int.not_lt, Int.not_le] at h0
    refine VC.draw (fun _ => NoB) hB (by kernel_rfl) ?_
    refine VA.take (i := 0) rfl (by kernel_rfl) (by kernel_rfl) (by kernel_rfl) rfl rfl (OpV.loadK_own (i := 0) rfl hB Tryd.isAgg44 Tryd.sizeOf44 rfl rfl rfl Wi.not0) ?_
    refine VA.take (i := 1) rfl (by kernel_rfl) (by kernel_rfl) (by kernel_rfl) rfl rfl (OpV.move (.inl rfl) rfl) ?_
    refine VA.take (i := 2) rfl (by kernel_rfl) (by kernel_rfl) (by kernel_rfl) rfl rfl (OpV.move (.inl rfl) rfl) ?_
    refine VA.take (i := 4) rfl (by kernel_rfl) (by kernel_rfl) (by kernel_rfl) rfl rfl (OpV.loadK_own (i := 0) rfl hB Tryd.isAgg44 Tryd.sizeOf44 rfl rfl rfl Wi.not0) ?_
    refine VA.take (i := 5) rfl (by kernel_rfl) (by kernel_rfl) (by kernel_rfl) rfl rfl (OpV.move (.inl rfl) rfl) ?_
    refine VA.take (i := 6) rfl (by kernel_rfl) (by kernel_rfl) (by kernel_rfl) rfl rfl (OpV.move (.inl rfl) rfl) ?_
    refine VA.all (rs := [3]) (by kernel_rfl) (by decide) ?_
    refine ⟨⟨_, rfl, .inl rfl, ?_⟩, trivial⟩
    refine OpE.call rfl hB rfl Tryd.call33 rfl (SpecN.spec (hR1 h0)) ?_
    rintro _ rfl
    refine VA.all (rs := [7]) (by kernel_rfl) (by decide) ?_
    refine ⟨⟨_, rfl, .inl rfl, ?_⟩, trivial⟩
    refine OpE.call rfl hB rfl Tryd.call34 rfl (SpecN.spec (hR2 h0)) ?_
    rintro _ rfl
    refine VA.take (i := 8) rfl (by kernel_rfl) (by kernel_rfl) (by kernel_rfl) rfl rfl (OpV.move (.inr rfl) rfl) ?_
    first | refine VO.le _ (Le.recast (t := 12) (y := avL ([] : List PairS)) rfl (fun w Z u h => by rw [h.eq_v]; exact .nil _ _)) ?_ | skip
    refine VA.take (i := 9) rfl (by kernel_rfl) (by kernel_rfl) (by kernel_rfl) rfl rfl (OpV.move (.inr rfl) rfl) ?_
    first | refine VO.le _ (Le.recast (t := 13) (y := avStrs []) rfl (fun w Z u h => by rw [h.eq_v]; exact .nil _ _)) ?_ | skip
    refine VA.done (by kernel_rfl) ?_
    show VC _ _ _ _ _
    refine VC.seq ?_
    refine VC.le ⟨[(3, _), (4, _), (5, _), (6, _), (7, _), (8, _), (9, _), (10, _), (11, _), (12, _), (13, _)], [.box _ ⟨[_, _, _, _], _, _⟩], 0 + 50 + 30 + 1⟩ (Le.mk hB [0] ⟨rfl, rfl, rfl, rfl, rfl, rfl, rfl, rfl, rfl, rfl, rfl, trivial⟩ rfl rfl (Nat.le_refl _)) ?_
    refine VC.region ?_
    refine VO.val rfl rfl (OpV.move (.inl rfl) rfl) ?_
    refine VO.val rfl rfl (OpV.move (.inl rfl) rfl) ?_
    refine VO.val rfl rfl (OpV.eql rfl rfl rfl) ?_
    refine VO.le _ (Le.boolT (t := 57) rfl (decide_eq_true rfl)) ?_
    refine VO.val rfl rfl (OpV.move (.inl rfl) rfl) ?_
    refine VO.opY rfl rfl rfl rfl rfl ?_
    refine OpE.val (W := NoB) (OpV.move (.inl rfl) rfl) rfl ?_
    refine VO.opY rfl rfl rfl rfl rfl ?_
    refine OpE.val (W := NoB) (OpV.move (.inl rfl) rfl) rfl ?_
    refine VO.opY rfl rfl rfl rfl rfl ?_
    refine OpE.call rfl hB rfl Tryd.call35 rfl (SpecN.spec (slices_Equal_pair hl1 (by first | exact hl1 | decide))) ?_
    rintro _ rfl
    refine VO.le _ (Le.boolT (t := 61) rfl (by first | exact eqLs_self eqPr_self _ | (rw [(hz h0).1]; rfl))) ?_
    refine VO.val rfl rfl (OpV.pickT rfl rfl rfl rfl rfl) ?_
    refine VO.val rfl rfl (OpV.move (.inl rfl) rfl) ?_
    refine VO.opY rfl rfl rfl rfl rfl ?_
    refine OpE.val (W := NoB) (OpV.move (.inl rfl) rfl) rfl ?_
    refine VO.opY rfl rfl rfl rfl rfl ?_
    refine OpE.val (W := NoB) (OpV.move (.inl rfl) rfl) rfl ?_
    refine VO.opY rfl rfl rfl rfl rfl ?_
    refine OpE.val (W := NoB) (OpV.eql rfl rfl rfl) rfl ?_
    refine VO.le _ (Le.boolT (t := 66) rfl (decide_eq_true rfl)) ?_
    refine VO.val rfl rfl (OpV.pickT rfl rfl rfl rfl rfl) ?_
    refine VO.val rfl rfl (OpV.move (.inl rfl) rfl) ?_
    refine VO.opY rfl rfl rfl rfl rfl ?_
    refine OpE.val (W := NoB) (OpV.move (.inl rfl) rfl) rfl ?_
    refine VO.opY rfl rfl rfl rfl rfl ?_
    refine OpE.val (W := NoB) (OpV.move (.inl rfl) rfl) rfl ?_
    refine VO.opY rfl rfl rfl rfl rfl ?_
    refine OpE.call rfl hB rfl Tryd.call36 rfl (SpecN.spec (slices_Equal_str hl2 (by first | exact hl2 | decide))) ?_
    rintro _ rfl
    refine VO.le _ (Le.boolT (t := 71) rfl (by first | exact eqLs_self sEq_refl _ | (rw [(hz h0).2]; rfl))) ?_
    refine VO.val rfl rfl (OpV.pickT rfl rfl rfl rfl rfl) ?_
    refine VO.val rfl rfl (OpV.move (.inl rfl) rfl) ?_
    refine VO.opY rfl rfl rfl rfl rfl ?_
    refine OpE.call rfl hB rfl Tryd.call12 rfl (SpecN.spec (rf_paneled)) ?_
    rintro _ rfl
    refine VO.val rfl rfl (OpV.pickT rfl rfl rfl rfl rfl) ?_
    refine VO.val rfl rfl (OpV.move (.inr rfl) rfl) ?_
    refine VO.nil ?_
    show VC _ _ _ _ _
    refine VC.ret ?_
    exact And.intro rfl rfl
  · have h0 := h0b
    try simp only [decide_eq_true_eq, decide_eq_false_iff_not, Bool.not_eq_true', Bool.not_eq_false', Int.not_lt, Int.not_le] at h0
    refine VC.skip ?_
    show VC _ _ _ _ _
    refine VC.seq ?_
    refine VC.le ⟨[(3, _), (4, _), (5, _), (6, _), (7, _), (8, _), (9, _), (10, _), (11, _), (12, _), (13, _)], [.box _ ⟨[_, _, _, _], _, _⟩], 0 + 50 + 30 + 1⟩ (Le.mk hB [0] ⟨rfl, rfl, rfl, rfl, rfl, rfl, rfl, rfl, rfl, rfl, rfl, trivial⟩ rfl rfl (Nat.le_refl _)) ?_
    refine VC.region ?_
    refine VO.val rfl rfl (OpV.move (.inl rfl) rfl) ?_
    refine VO.val rfl rfl (OpV.move (.inl rfl) rfl) ?_
    refine VO.val rfl rfl (OpV.eql rfl rfl rfl) ?_
    refine VO.le _ (Le.boolT (t := 57) rfl (decide_eq_true rfl)) ?_
    refine VO.val rfl rfl (OpV.move (.inl rfl) rfl) ?_
    refine VO.opY rfl rfl rfl rfl rfl ?_
    refine OpE.val (W := NoB) (OpV.move (.inl rfl) rfl) rfl ?_
    refine VO.opY rfl rfl rfl rfl rfl ?_
    refine OpE.val (W := NoB) (OpV.move (.inl rfl) rfl) rfl ?_
    refine VO.opY rfl rfl rfl rfl rfl ?_
    refine OpE.call rfl hB rfl Tryd.call35 rfl (SpecN.spec (slices_Equal_pair hl1 (by first | exact hl1 | decide))) ?_
    rintro _ rfl
    refine VO.le _ (Le.boolT (t := 61) rfl (by first | exact eqLs_self eqPr_self _ | (rw [(hz h0).1]; rfl))) ?_
    refine VO.val rfl rfl (OpV.pickT rfl rfl rfl rfl rfl) ?_
    refine VO.val rfl rfl (OpV.move (.inl rfl) rfl) ?_
    refine VO.opY rfl rfl rfl rfl rfl ?_
    refine OpE.val (W := NoB) (OpV.move (.inl rfl) rfl) rfl ?_
    refine VO.opY rfl rfl rfl rfl rfl ?_
    refine OpE.val (W := NoB) (OpV.move (.inl rfl) rfl) rfl ?_
    refine VO.opY rfl rfl rfl rfl rfl ?_
    refine OpE.val (W := NoB) (OpV.eql rfl rfl rfl) rfl ?_
    refine VO.le _ (Le.boolT (t := 66) rfl (decide_eq_true rfl)) ?_
    refine VO.val rfl rfl (OpV.pickT rfl rfl rfl rfl rfl) ?_
    refine VO.val rfl rfl (OpV.move (.inl rfl) rfl) ?_
    refine VO.opY rfl rfl rfl rfl rfl ?_
    refine OpE.val (W := NoB) (OpV.move (.inl rfl) rfl) rfl ?_
    refine VO.opY rfl rfl rfl rfl rfl ?_
    refine OpE.val (W := NoB) (OpV.move (.inl rfl) rfl) rfl ?_
    refine VO.opY rfl rfl rfl rfl rfl ?_
    refine OpE.call rfl hB rfl Tryd.call36 rfl (SpecN.spec (slices_Equal_str hl2 (by first | exact hl2 | decide))) ?_
    rintro _ rfl
    refine VO.le _ (Le.boolT (t := 71) rfl (by first | exact eqLs_self sEq_refl _ | (rw [(hz h0).2]; rfl))) ?_
    refine VO.val rfl rfl (OpV.pickT rfl rfl rfl rfl rfl) ?_
    refine VO.val rfl rfl (OpV.move (.inl rfl) rfl) ?_
    refine VO.opY rfl rfl rfl rfl rfl ?_
    refine OpE.call rfl hB rfl Tryd.call12 rfl (SpecN.spec (rf_paneled)) ?_
    rintro _ rfl
    refine VO.val rfl rfl (OpV.pickT rfl rfl rfl rfl rfl) ?_
    refine VO.val rfl rfl (OpV.move (.inr rfl) rfl) ?_
    refine VO.nil ?_
    show VC _ _ _ _ _
    refine VC.ret ?_
    exact And.intro rfl rfl
end Go.Proofs.YtgikefjbdhnffaaDoor
