/- Walks: the needs of a product. -/
import Derived.Test.YtgikefjbdhnffaaDoorProdS
namespace Go.Proofs.YtgikefjbdhnffaaDoor
open Go.RowKit
set_option linter.unusedVariables false
set_option linter.unusedSimpArgs false
abbrev kvS : ByteArray → Value := fun k => Value.string k
abbrev eI : Int → AV := fun n => avI n
theorem flat_need (xs : List NeedS) : FlatA (rowL xs) := flat_rowL (fun x j hj => by
  match j, hj with
  | 0, _ => exact ⟨_, rfl⟩
  | 1, _ => exact ⟨_, rfl⟩) xs
theorem cnt_key_small {p : ProdS} (hs : SmP p) (q : Nat) : ∀ x ∈ cntP (p.places.take q), x.1.size ≤ maxLen := fun x hx => by
  have : x.1 ∈ (cntP (p.places.take q)).map (·.1) := List.mem_map.2 ⟨x, hx, rfl⟩
  obtain ⟨y, hy, e⟩ := cntP_mem.1 this
  obtain ⟨j, hj, rfl⟩ := List.getElem_of_mem hy
  rw [← e]
  have h1 := hs.part j
  simp only [List.length_take] at hj
  rw [List.getElem_take]
  rw [List.getD_eq_getElem?_getD, List.getElem?_eq_getElem (by omega)] at h1
  simp only [maxLen]
  exact Nat.le_trans h1 (by decide)
theorem needs_take {p : ProdS} {r : Nat} (h : r < (sKeys (cntP p.places)).length) : (needsL p).take (r + 1) = (needsL p).take r ++ [⟨(sKeys (cntP p.places)).getD r ByteArray.empty, mgetD (cntP p.places) ((sKeys (cntP p.places)).getD r ByteArray.empty) 0⟩] := by
  rw [take_snocD (by simpa [needsL] using h) default]
  congr 2
  simp [needsL, List.getD_eq_getElem?_getD, h]
set_option maxRecDepth 100000 in
set_option maxHeartbeats 4000000 in
theorem panel_Needs {p : ProdS} (hs : SmP p) :
    SpecN Tryd.prog 50 [avProd p] (fun y => y = .tup [avL (needsR p), avI (prodF p)]) := by
  refine SpecN.of_VCN Tryd.func50 rfl Tryd.ntmps50 (Nat.le_of_ble_eq_true rfl) fun w A hB => ?_
  have hnew : True := trivial
  refine VC.seq ?_
  have hl := hs.len
  refine VC.region ?_
  refine VO.op rfl (OpE.box rfl hB rfl rfl rfl ?_)
  intro g1
  refine VO.val rfl rfl (OpV.move (.inr rfl) rfl) ?_
  refine VO.val rfl rfl (OpV.move (.inr rfl) rfl) ?_
  refine VO.nil ?_
  show VC _ _ _ _ _
  refine VC.seq ?_
  refine VC.seq ?_
  refine VC.region ?_
  refine VO.val rfl rfl (OpV.loadK_own (i := 0) rfl hB Tryd.isAgg44 Tryd.sizeOf44 rfl rfl rfl (fun h => h)) ?_
  refine VO.op rfl (OpE.call rfl hB rfl Tryd.call68 rfl (SpecN.spec (panel_CheckProduct hs)) ?_)
  rintro _ rfl
  refine VO.val rfl rfl (OpV.move (.inr rfl) rfl) ?_
  refine VO.nil ?_
  show VC _ _ _ _ _
  refine VC.seq ?_
  refine VC.region ?_
  refine VO.val rfl rfl (OpV.move (.inl rfl) rfl) ?_
  refine VO.val rfl rfl (OpV.neq rfl rfl rfl) ?_
  refine VO.nil ?_
  show VC _ _ _ _ _
  refine VC.cond rfl (fun h0b => ?_) (fun h0b => ?_)
  · have h0 := h0b
    try simp only [decide_eq_true_eq, decide_eq_false_iff_not, Bool.not_eq_true', Bool.not_eq_false', Int.not_lt, Int.not_le] at h0
    refine VC.seq ?_
    refine VC.region ?_
    refine VO.val rfl rfl (OpV.move (.inl rfl) rfl) ?_
    refine VO.val rfl rfl (OpV.move (.inr rfl) rfl) ?_
    refine VO.val rfl rfl (OpV.move (.inr rfl) rfl) ?_
    refine VO.nil ?_
    show VC _ _ _ _ _
    refine VC.ret ?_
    exact Exists.intro _ (And.intro (RetN.two Tryd.results50 (ResN.nilE rfl) (ResN.v rfl)) (by first | (rw [needsR, if_neg h0]; rfl) | (rw [needsR, if_pos h00, h00])))
  · have h0 := h0b
    try simp only [decide_eq_true_eq, decide_eq_false_iff_not, Bool.not_eq_true', Bool.not_eq_false', Int.not_lt, Int.not_le] at h0
    have h00 : prodF p = 0 := by omega
    have hok := prodOk h00
    have hlen := hok.len
    refine VC.skip ?_
    show VC _ _ _ _ _
    refine VC.seq ?_
    refine VC.region ?_
    refine VO.op rfl (OpE.makeMap (kvS) (eI) rfl hB rfl ?_)
    intro g16
    refine VO.val rfl rfl (OpV.move (.inr rfl) rfl) ?_
    refine VO.nil ?_
    show VC _ _ _ _ _
    refine VC.seq ?_
    refine VC.seq ?_
    refine VC.region ?_
    first
      | refine VO.val rfl rfl (OpV.fieldAddr_atO 3 rfl Tryd.underlying44 rfl rfl Tryd.sizeOf42 rfl rfl) ?_
      | refine VO.val rfl rfl (OpV.fieldAddrO 3 rfl Tryd.underlying44 rfl rfl Tryd.sizeOf42 rfl) ?_
    refine VO.val rfl rfl (OpV.load_own (i := 0) rfl hB Tryd.isAgg42 rfl rfl rfl (fun h => h)) ?_
    first
      | refine VO.val rfl rfl (OpV.len_im rfl Tryd.underlying42 rfl) ?_
      | refine VO.val rfl rfl (OpV.len_v rfl Tryd.underlying42 rfl) ?_
      | refine VO.val rfl rfl (OpV.len_row (i := 0) rfl Tryd.underlying42 rfl rfl) ?_
      | refine VO.val rfl rfl (OpV.len_row (i := 1) rfl Tryd.underlying42 rfl rfl) ?_
    refine VO.val rfl rfl (OpV.move (.inl rfl) rfl) ?_
    refine VO.nil ?_
    show VC _ _ _ _ _
    refine VC.block ?_
    refine VC.loopK [(5, _), (18, _), (19, _)] ⟨rfl, rfl, rfl, trivial⟩ ({q : Nat // q ≤ p.places.length}) (fun (i : {q : Nat // q ≤ p.places.length}) => match i with | ⟨q, hq⟩ => [(20, avI (q : Int))]) (fun (i : {q : Nat // q ≤ p.places.length}) => match i with | ⟨q, hq⟩ => [boxProd g1 p 44, mapE kvS g16 eI (cntP (p.places.take q))]) (fun (i : {q : Nat // q ≤ p.places.length}) => match i with | ⟨q, hq⟩ => 0) (fun (i : {q : Nat // q ≤ p.places.length}) => match i with | ⟨q, hq⟩ => p.places.length - q) ⟨0, Nat.zero_le _⟩ (Le.mk hB [0, 1] ⟨rfl, rfl, rfl, rfl, trivial⟩ rfl rfl (Nat.le_refl _)) ?_
    rintro ⟨q, hq⟩
    show VC _ _ _ _ ⟨[(20, avI (q : Int))] ++ [(5, _), (18, _), (19, _)], [boxProd g1 p 44, mapE kvS g16 eI (cntP (p.places.take q))], 0⟩
    refine VC.seq ?_
    refine VC.region ?_
    refine VO.val rfl rfl (OpV.lss rfl rfl rfl) ?_
    refine VO.nil ?_
    show VC _ _ _ _ _
    refine VC.seq ?_
    refine VC.cond rfl (fun aH1b => ?_) (fun aH1b => ?_)
    · have aH1 := aH1b
      try simp only [decide_eq_true_eq, decide_eq_false_iff_not, Bool.not_eq_true', Bool.not_eq_false', Int.not_lt, Int.not_le] at aH1
      refine VC.skip ?_
      show VC _ _ _ _ _
      refine VC.seq ?_
      refine VC.block ?_
      refine VC.seq ?_
      refine VC.region ?_
      first
        | refine VO.val rfl rfl (OpV.indexAddr_E rfl Tryd.underlying42 Tryd.sizeOf100 rfl rfl rfl (by omega)) ?_
        | refine VO.val rfl rfl (OpV.indexAddr_E rfl Tryd.underlying42 Tryd.sizeOf100 rfl rfl (Int.toNat_of_nonneg (by omega)).symm (by omega)) ?_
        | refine VO.val rfl rfl (OpV.indexAddr_q rfl Tryd.underlying42 Tryd.sizeOf100 rfl rfl rfl (by omega)) ?_
        | refine VO.val rfl rfl (OpV.indexAddr_q rfl Tryd.underlying42 Tryd.sizeOf100 rfl rfl (Int.toNat_of_nonneg (by omega)).symm (by omega)) ?_
        | refine VO.val rfl rfl (OpV.indexAddr_im rfl Tryd.underlying42 Tryd.sizeOf100 rfl rfl (by omega) (by omega)) ?_
      first
        | refine VO.val rfl rfl (OpV.loadK_at rfl hB OutW.no Tryd.isAgg100 Tryd.sizeOf100 rfl rfl) ?_
        | refine VO.val rfl rfl (OpV.loadK_own (i := 0) rfl hB Tryd.isAgg100 Tryd.sizeOf100 rfl rfl rfl (fun h => h)) ?_
        | refine VO.val rfl rfl (OpV.loadK_own (i := 1) rfl hB Tryd.isAgg100 Tryd.sizeOf100 rfl rfl rfl (fun h => h)) ?_
      refine VO.op rfl (OpE.alloc rfl hB rfl Tryd.zeroValue100 rfl ?_)
      intro g7
      refine VO.op rfl (OpE.store (i := 2) rfl hB rfl Tryd.sizeOf100 rfl rfl rfl rfl rfl rfl (Nat.le_of_ble_eq_true rfl) trivial ?_)
      refine VO.nil ?_
      show VC _ _ _ _ _
      refine VC.region ?_
      refine VO.val rfl rfl (OpV.move (.inl rfl) rfl) ?_
      first
        | refine VO.val rfl rfl (OpV.fieldAddr_atO 1 rfl Tryd.underlying100 rfl rfl Tryd.sizeOf9 rfl rfl) ?_
        | refine VO.val rfl rfl (OpV.fieldAddrO 1 rfl Tryd.underlying100 rfl rfl Tryd.sizeOf9 rfl) ?_
      refine VO.val rfl rfl (OpV.load_own (i := 2) rfl hB Tryd.isAgg9 rfl rfl rfl (fun h => h)) ?_
      first
        | refine VO.val rfl rfl (OpV.lookup_own (i := 0) rfl hB Tryd.underlying130 (KeyOk.str Tryd.underlying9) Tryd.zeroValue3 rfl (KeyE.v rfl) rfl (fun h => h)) ?_
        | refine VO.val rfl rfl (OpV.lookup_own (i := 1) rfl hB Tryd.underlying130 (KeyOk.str Tryd.underlying9) Tryd.zeroValue3 rfl (KeyE.v rfl) rfl (fun h => h)) ?_
        | refine VO.val rfl rfl (OpV.lookup_own (i := 2) rfl hB Tryd.underlying130 (KeyOk.str Tryd.underlying9) Tryd.zeroValue3 rfl (KeyE.v rfl) rfl (fun h => h)) ?_
      refine VO.le _ (Le.recast (t := 27) (y := avI (mgetD (cntP (p.places.take q)) (p.places.getD q default).part 0)) rfl (fun w Z u h => by unfold mgetD; revert h; cases mget (cntP (p.places.take q)) (p.places.getD q default).part <;> exact id)) ?_
      refine VO.val rfl rfl (OpV.add rfl rfl rfl (by have h := cntP_bd (p.places.take q) (p.places.getD q default).part; have h2 := List.length_take_le q p.places; unfold fits; omega)) ?_
      first
        | refine VO.op rfl (OpE.mapUpdate (i := 0) (xx := mgetD (cntP (p.places.take q)) (p.places.getD q default).part 0 + 1) rfl hB rfl Tryd.underlying130 (KeyOk.str Tryd.underlying9) rfl (KeyE.v rfl) rfl rfl trivial ?_)
        | refine VO.op rfl (OpE.mapUpdate (i := 1) (xx := mgetD (cntP (p.places.take q)) (p.places.getD q default).part 0 + 1) rfl hB rfl Tryd.underlying130 (KeyOk.str Tryd.underlying9) rfl (KeyE.v rfl) rfl rfl trivial ?_)
        | refine VO.op rfl (OpE.mapUpdate (i := 2) (xx := mgetD (cntP (p.places.take q)) (p.places.getD q default).part 0 + 1) rfl hB rfl Tryd.underlying130 (KeyOk.str Tryd.underlying9) rfl (KeyE.v rfl) rfl rfl trivial ?_)
      refine VO.nil ?_
      show VC _ _ _ _ _
      refine VC.region ?_
      refine VO.val rfl rfl (OpV.add rfl rfl rfl (by unfold fits; omega)) ?_
      refine VO.val rfl rfl (OpV.move (.inl rfl) rfl) ?_
      refine VO.nil ?_
      exact Exists.intro (⟨q + 1, by omega⟩) (And.intro (Le.mk hB [0, 1] ⟨rfl, rfl, rfl, rfl, trivial⟩ rfl (by dsimp only; rw [cntP_take (by omega)]; rfl) (Nat.le_refl _)) (by first | omega | (show _ < _; omega) | (simp only []; omega)))
    · have aH1 := aH1b
      try simp only [decide_eq_true_eq, decide_eq_false_iff_not, Bool.not_eq_true', Bool.not_eq_false', Int.not_lt, Int.not_le] at aH1
      refine VC.exit ?_
      show VC _ _ _ _ _
      refine VC.seq ?_
      have hqe : p.places.take q = p.places := List.take_of_length_le (by omega)
      rw [hqe]
      have hcl := cntP_len p.places
      refine VC.region ?_
      refine VO.val rfl rfl (OpV.move (.inr rfl) rfl) ?_
      refine VO.nil ?_
      show VC _ _ _ _ _
      refine VC.seq ?_
      refine VC.seq ?_
      refine VC.region ?_
      refine VO.val rfl rfl (OpV.move (.inl rfl) rfl) ?_
      refine VO.op rfl (OpE.callH rfl hB rfl Tryd.call70 rfl rfl (maps_Keys_int (some g16)) (List.Perm.refl _) (fun _ _ => trivial) ?_)
      rintro _ _ ⟨g31, rfl, rfl⟩
      refine VO.op rfl (OpE.callH (rest := [_]) rfl hB rfl Tryd.call69 rfl rfl (slices_Sorted_int (l := cntP p.places) (E := eI) (cntP_nodup _) (by have := cnt_key_small hs p.places.length; rwa [List.take_length] at this) (by omega)) (List.Perm.cons _ (List.Perm.swap _ _ _)) (fun _ _ => trivial) ?_)
      rintro _ _ ⟨u32, rfl, rfl⟩
      refine VO.le _ (Le.rowS (t := 32) (i := 0) hB hnew rfl rfl (sKeys_len _).symm) ?_
      obtain ⟨m, hm⟩ : ∃ m, cntP p.places = m := ⟨_, rfl⟩
      obtain ⟨ks, hks⟩ : ∃ ks, sKeys (cntP p.places) = ks := ⟨_, rfl⟩
      have hkl : ks.length = (cntP p.places).length := by rw [← hks, sKeys_len]
      rw [hks]
      first
        | refine VO.val rfl rfl (OpV.len_im rfl Tryd.underlying70 rfl) ?_
        | refine VO.val rfl rfl (OpV.len_v rfl Tryd.underlying70 rfl) ?_
        | refine VO.val rfl rfl (OpV.len_row (i := 0) rfl Tryd.underlying70 rfl rfl) ?_
        | refine VO.val rfl rfl (OpV.len_row (i := 1) rfl Tryd.underlying70 rfl rfl) ?_
        | refine VO.val rfl rfl (OpV.len_row (i := 2) rfl Tryd.underlying70 rfl rfl) ?_
      refine VO.val rfl rfl (OpV.move (.inl rfl) rfl) ?_
      refine VO.nil ?_
      show VC _ _ _ _ _
      refine VC.block ?_
      refine VC.le _ (Le.nilRow 2 102) ?_
      refine VC.loopK [(5, _), (32, _), (33, _)] ⟨rfl, rfl, rfl, trivial⟩ ({z : Value × Nat // z.2 ≤ ks.length}) (fun (i : {z : Value × Nat // z.2 ≤ ks.length}) => match i with | ⟨⟨u, r⟩, hr⟩ => [(8, .v u), (34, avI (r : Int))]) (fun (i : {z : Value × Nat // z.2 ≤ ks.length}) => match i with | ⟨⟨u, r⟩, hr⟩ => [mapE kvS g16 eI (cntP p.places), .row u r 2 (rowL ((needsL p).take r)) 102]) (fun (i : {z : Value × Nat // z.2 ≤ ks.length}) => match i with | ⟨⟨u, r⟩, hr⟩ => 0) (fun (i : {z : Value × Nat // z.2 ≤ ks.length}) => match i with | ⟨⟨u, r⟩, hr⟩ => ks.length - r) ⟨(.slice none 0 0, 0), Nat.zero_le _⟩ (Le.mk hB [1, 3] ⟨rfl, rfl, rfl, rfl, rfl, trivial⟩ rfl rfl (Nat.le_refl _)) ?_
      rintro ⟨⟨u, r⟩, hr⟩
      show VC _ _ _ _ ⟨[(8, .v u), (34, avI (r : Int))] ++ [(5, _), (32, _), (33, _)], [mapE kvS g16 eI (cntP p.places), .row u r 2 (rowL ((needsL p).take r)) 102], 0⟩
      simp only at hr
      refine VC.seq ?_
      refine VC.region ?_
      refine VO.val rfl rfl (OpV.lss rfl rfl rfl) ?_
      refine VO.nil ?_
      show VC _ _ _ _ _
      refine VC.seq ?_
      refine VC.cond rfl (fun aH2b => ?_) (fun aH2b => ?_)
      · have aH2 := aH2b
        try simp only [decide_eq_true_eq, decide_eq_false_iff_not, Bool.not_eq_true', Bool.not_eq_false', Int.not_lt, Int.not_le] at aH2
        refine VC.skip ?_
        show VC _ _ _ _ _
        refine VC.seq ?_
        refine VC.block ?_
        refine VC.seq ?_
        refine VC.region ?_
        first
          | refine VO.val rfl rfl (OpV.indexAddr_1 rfl Tryd.underlying70 Tryd.sizeOf9 rfl rfl rfl (by omega)) ?_
          | refine VO.val rfl rfl (OpV.indexAddr_1 rfl Tryd.underlying70 Tryd.sizeOf9 rfl rfl (Int.toNat_of_nonneg (by omega)).symm (by omega)) ?_
          | refine VO.val rfl rfl (OpV.indexAddr_o rfl Tryd.underlying70 Tryd.sizeOf9 rfl rfl rfl (by omega)) ?_
          | refine VO.val rfl rfl (OpV.indexAddr_o rfl Tryd.underlying70 Tryd.sizeOf9 rfl rfl (Int.toNat_of_nonneg (by omega)).symm (by omega)) ?_
          | refine VO.val rfl rfl (OpV.indexAddr_q rfl Tryd.underlying70 Tryd.sizeOf9 rfl rfl rfl (by omega)) ?_
          | refine VO.val rfl rfl (OpV.indexAddr_q rfl Tryd.underlying70 Tryd.sizeOf9 rfl rfl (Int.toNat_of_nonneg (by omega)).symm (by omega)) ?_
          | refine VO.val rfl rfl (OpV.indexAddr_im rfl Tryd.underlying70 Tryd.sizeOf9 rfl rfl (by omega) (by omega)) ?_
        first
          | refine VO.val rfl rfl (OpV.load_at rfl hB OutW.no Tryd.isAgg9 rfl rfl) ?_
          | refine VO.val rfl rfl (OpV.load_own (i := 0) rfl hB Tryd.isAgg9 rfl rfl rfl (fun h => h)) ?_
          | refine VO.val rfl rfl (OpV.load_own (i := 1) rfl hB Tryd.isAgg9 rfl rfl rfl (fun h => h)) ?_
        refine VO.val rfl rfl (OpV.move (.inr rfl) rfl) ?_
        refine VO.nil ?_
        show VC _ _ _ _ _
        refine VC.region ?_
        refine VO.val rfl rfl (OpV.move (.inl rfl) rfl) ?_
        refine VO.val rfl rfl (OpV.move (.inl rfl) rfl) ?_
        refine VO.val rfl rfl (OpV.move (.inl rfl) rfl) ?_
        refine VO.val rfl rfl (OpV.move (.inl rfl) rfl) ?_
        first
          | refine VO.val rfl rfl (OpV.lookup_own (i := 0) rfl hB Tryd.underlying130 (KeyOk.str Tryd.underlying9) Tryd.zeroValue3 rfl (KeyE.v rfl) rfl (fun h => h)) ?_
          | refine VO.val rfl rfl (OpV.lookup_own (i := 1) rfl hB Tryd.underlying130 (KeyOk.str Tryd.underlying9) Tryd.zeroValue3 rfl (KeyE.v rfl) rfl (fun h => h)) ?_
        refine VO.le _ (Le.recast (t := 42) (y := avI (mgetD (cntP p.places) (ks.getD r ByteArray.empty) 0)) rfl (fun w Z u h => by unfold mgetD; revert h; cases mget (cntP p.places) (ks.getD r ByteArray.empty) <;> exact id)) ?_
        refine VO.val rfl rfl (OpV.build (pls := #[(0, 1), (1, 1)]) rfl Tryd.zeroValue102 Tryd.underlying102 (fun w => by kernel_rfl) rfl rfl) ?_
        refine VO.op rfl (OpE.buildSlice (zc := #[.string ⟨#[]⟩, .int .i64 0]) rfl hB rfl Tryd.underlying96 Tryd.sizeOf102 Tryd.zeroValue102 (by decide) (by decide) (by kernel_rfl) rfl rfl ?_)
        first
          | refine VO.op rfl (OpE.append1 (i := 0) rfl hB rfl Tryd.underlying96 (infoOf Tryd.t102 2 (by kernel_rfl) rfl rfl) rfl (by decide) (by decide) rfl rfl rfl rfl (rowL_snoc _ (⟨ks.getD r ByteArray.empty, mgetD (cntP p.places) (ks.getD r ByteArray.empty) 0⟩ : NeedS)) (by omega) (fun _ _ => trivial) ?_)
          | refine VO.op rfl (OpE.append1 (i := 1) rfl hB rfl Tryd.underlying96 (infoOf Tryd.t102 2 (by kernel_rfl) rfl rfl) rfl (by decide) (by decide) rfl rfl rfl rfl (rowL_snoc _ (⟨ks.getD r ByteArray.empty, mgetD (cntP p.places) (ks.getD r ByteArray.empty) 0⟩ : NeedS)) (by omega) (fun _ _ => trivial) ?_)
        intro u2
        refine VO.val rfl rfl (OpV.move (.inr rfl) rfl) ?_
        refine VO.nil ?_
        show VC _ _ _ _ _
        refine VC.region ?_
        refine VO.val rfl rfl (OpV.add rfl rfl rfl (by unfold fits; omega)) ?_
        refine VO.val rfl rfl (OpV.move (.inl rfl) rfl) ?_
        refine VO.nil ?_
        exact Exists.intro (⟨(u2, r + 1), by show r + 1 ≤ _; omega⟩) (And.intro (Le.mk hB [0, 1] ⟨rfl, rfl, rfl, rfl, rfl, trivial⟩ rfl (by dsimp only; rw [needs_take (by rw [hks]; omega), hks]; rfl) (Nat.le_refl _)) (by first | omega | (show _ < _; omega) | (simp only []; omega)))
      · have aH2 := aH2b
        try simp only [decide_eq_true_eq, decide_eq_false_iff_not, Bool.not_eq_true', Bool.not_eq_false', Int.not_lt, Int.not_le] at aH2
        refine VC.exit ?_
        show VC _ _ _ _ _
        refine VC.seq ?_
        have hre : r = (needsL p).length := by rw [needsL_len]; omega
        have hrt : (needsL p).take r = needsL p := List.take_of_length_le (by omega)
        rw [hrt]
        refine VC.region ?_
        refine VO.val rfl rfl (OpV.move (.inl rfl) rfl) ?_
        refine VO.val rfl rfl (OpV.move (.inr rfl) rfl) ?_
        refine VO.val rfl rfl (OpV.move (.inr rfl) rfl) ?_
        refine VO.nil ?_
        show VC _ _ _ _ _
        refine VC.ret ?_
        exact Exists.intro _ (And.intro (RetN.two Tryd.results50 (ResN.rowT (i := 1) (xs := needsL p) rfl rfl hre (flat_need _)) (ResN.v rfl)) (by first | (rw [needsR, if_neg h0]; rfl) | (rw [needsR, if_pos h00, h00])))
end Go.Proofs.YtgikefjbdhnffaaDoor
