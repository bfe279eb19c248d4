/- Part 4 of a proof: the walks and laws that it needs. -/
import Derived.Shelf.Strings.Builder1
import Derived.Shelf.Strings.Builder2
import Derived.Shelf.Strings.OnBuilder
import Derived.Shelf.Strings.Trim
import Derived.Shelf.Small.Utf8
import Derived.Shelf.Small.Bits
import Derived.Shelf.Small.Strs
import Derived.Shelf.Small.Wraps
import Derived.Shelf.Strconv.Atoi
import Derived.Shelf.Strconv.Itoa0
import Derived.Shelf.Strconv.Itoa1
import Derived.Shelf.LaysM
import Derived.Shelf.Strconv.Itoa2
import Derived.Shelf.Strconv.Itoa3
import Derived.Shelf.Strings.Search1
import Derived.Shelf.Strings.Search2
import Derived.Shelf.Strings.Search3
import Derived.Shelf.Strings.Cut
import Derived.Shelf.Strings.Count
import Derived.Shelf.Strings.Shaped
import Derived.Shelf.Strings.Prefix
import Derived.Shelf.Strings.Split
import Derived.Shelf.Strings.Runes
import Derived.Shelf.Strings.AsciiSet
import Derived.Shelf.Bits.Mul64
import Derived.Shelf.Unicode.DecodeSlow
import Derived.Ground.SlgnProg
import Derived.Shelf.SlicesG.CompactS
import Derived.Ground.SlgmProg
import Derived.Shelf.SortM.Plain
import Derived.Shelf.SortM.SortNone
import Derived.Test.YtbbgjeiefmiblaaGreatDoorProg
import Derived.Lib.Bytealg
import Derived.Lib.AtoiErrMem
import Derived.WideLaws
import Derived.Lib.LaidTab
import Derived.Lib.ItoaNum
import Derived.Sort.Grow
import Derived.Lib.ItoaMem
import Derived.Lib.AppendStr
import Derived.Lib.Builder
import Derived.WalkKit
import Derived.Laws.Externs
import Derived.Laws.IdiomRangeMap
import Derived.Sort.Walk0
import Derived.Lib.SlicesCompact
import Derived.Test.YtbbgjeiefmiblaaGreatDoorZG3
namespace Go.Proofs.YtbbgjeiefmiblaaGreatDoor
open Go.RowKit
set_option linter.unusedVariables false
set_option linter.unusedSimpArgs false
abbrev kvS : ByteArray → Value := fun k => Value.string k
abbrev eI : Int → AV := fun n => avI n
theorem flat_need (xs : List NeedS) : FlatA (rowL xs) := flat_rowL (fun x j hj => by
 match j, hj with
 | 0, _ => exact ⟨_, rfl⟩
 | 1, _ => exact ⟨_, rfl⟩) xs
theorem cnt_key_small {p : ProdS} (hs : SmP p) (q : Nat) : ∀ x ∈ cntP (p.places.take q), x.1.size ≤ maxLen := fun x hx => by
 have : x.1 ∈ (cntP (p.places.take q)).map (·.1) := List.mem_map.2 ⟨x, hx, rfl⟩
 obtain ⟨y, hy, e⟩ := cntP_mem.1 this
 obtain ⟨j, hj, rfl⟩ := List.getElem_of_mem hy
 rw [← e]
 have h1 := hs.part j
 simp only [List.length_take] at hj
 rw [List.getElem_take]
 rw [List.getD_eq_getElem?_getD, List.getElem?_eq_getElem (by omega)] at h1
 simp only [maxLen]
 exact Nat.le_trans h1 (by decide)
theorem needs_take {p : ProdS} {r : Nat} (h : r < (sKeys (cntP p.places)).length) : (needsL p).take (r + 1) = (needsL p).take r ++ [⟨(sKeys (cntP p.places)).getD r ByteArray.empty, mgetD (cntP p.places) ((sKeys (cntP p.places)).getD r ByteArray.empty) 0⟩] := by
 rw [take_snocD (by simpa [needsL] using h) default]
 congr 2
 simp [needsL, List.getD_eq_getElem?_getD, h]
set_option maxRecDepth 100000 in
set_option maxHeartbeats 4000000 in
theorem panel_Needs {p : ProdS} (hs : SmP p) :
  SpecN Tryz.prog 49 [avProd p] (fun y => y = .tup [avL (needsR p), avI (prodF p)]) := by
 refine SpecN.of_VCN Tryz.func49 rfl Tryz.ntmps49 (Nle rfl) fun w A hB => ?_
 have hnew : True := trivial
 refine VC.seq ?_
 have hl := hs.len
 refine VC.region ?_
 refine VO.op rfl (OpE.box rfl hB rfl rfl rfl ?_)
 intro g1
 refine VO.ma rfl rfl rfl rfl ?_
 refine VO.ma rfl rfl rfl rfl ?_
 refine VO.nil ?_
 refine VC.seq ?_
 refine VC.sr ?_
 refine VO.val rfl rfl (OpV.loadK_own (i := 0) rfl hB Tryz.isAgg65 Tryz.sizeOf65 rfl rfl rfl (fun h => h)) ?_
 refine VO.op rfl (OpE.call rfl hB rfl Tryz.call95 rfl (SpecN.spec (panel_CheckProduct hs)) ?_)
 rintro _ rfl
 refine VO.ma rfl rfl rfl rfl ?_
 refine VO.nil ?_
 refine VC.sr ?_
 refine VO.mv rfl rfl rfl rfl ?_
 refine VO.val rfl rfl (OpV.neq rfl rfl rfl) ?_
 refine VO.nil ?_
 refine VC.cond rfl (fun h0b => ?_) (fun h0b => ?_)
 ·have h0 := h0b
  try simp only [qqT, qqF, qqN, qqM, qqL, qqE] at h0
  refine VC.sr ?_
  refine VO.mv rfl rfl rfl rfl ?_
  refine VO.ma rfl rfl rfl rfl ?_
  refine VO.ma rfl rfl rfl rfl ?_
  refine VO.nil ?_
  refine VC.ret ?_
  exact Exists.intro _ (And.intro (RetN.two Tryz.results49 (ResN.nilE rfl) (ResN.v rfl)) (by first | (rw [needsR, if_neg h0]; rfl) | (rw [needsR, if_pos h00, h00])))
 ·have h0 := h0b
  try simp only [qqT, qqF, qqN, qqM, qqL, qqE] at h0
  have h00 : prodF p = 0 := by omega
  have hok := prodOk h00
  have hlen := hok.len
  refine VC.skip ?_
  refine VC.sr ?_
  refine VO.op rfl (OpE.makeMap (kvS) (eI) rfl hB rfl ?_)
  intro g16
  refine VO.ma rfl rfl rfl rfl ?_
  refine VO.nil ?_
  refine VC.seq ?_
  refine VC.sr ?_
  refine VO.val rfl rfl (OpV.fieldAddrO 3 rfl Tryz.underlying65 rfl rfl Tryz.sizeOf63 rfl) ?_
  refine VO.val rfl rfl (OpV.load_own (i := 0) rfl hB Tryz.isAgg63 rfl rfl rfl (fun h => h)) ?_
  refine VO.val rfl rfl (OpV.len_im rfl Tryz.underlying63 rfl) ?_
  refine VO.mv rfl rfl rfl rfl ?_
  refine VO.nil ?_
  refine VC.block ?_
  refine VC.loopK [(5, _), (18, _), (19, _)] ⟨rfl, rfl, rfl, trivial⟩ ({q : Nat // q ≤ p.places.length}) (fun (iZ : {q : Nat // q ≤ p.places.length}) => match iZ with | ⟨q, hq⟩ => [(20, avI (q : Int))]) (fun (iZ : {q : Nat // q ≤ p.places.length}) => match iZ with | ⟨q, hq⟩ => [boxProd g1 p 65, mapE kvS g16 eI (cntP (p.places.take q))]) (fun (iZ : {q : Nat // q ≤ p.places.length}) => match iZ with | ⟨q, hq⟩ => 0) (fun (iZ : {q : Nat // q ≤ p.places.length}) => match iZ with | ⟨q, hq⟩ => p.places.length - q) ⟨0, Nat.zero_le _⟩ (Le.mk hB [0, 1] ⟨rfl, rfl, rfl, rfl, trivial⟩ rfl rfl (Nat.le_refl _)) ?_
  rintro ⟨q, hq⟩
  show VC _ _ _ _ ⟨[(20, avI (q : Int))] ++ [(5, _), (18, _), (19, _)], [boxProd g1 p 65, mapE kvS g16 eI (cntP (p.places.take q))], 0⟩
  refine VC.sr ?_
  refine VO.val rfl rfl (OpV.lss rfl rfl rfl) ?_
  refine VO.nil ?_
  refine VC.seq ?_
  refine VC.cond rfl (fun aH1b => ?_) (fun aH1b => ?_)
  ·have aH1 := aH1b
   try simp only [qqT, qqF, qqN, qqM, qqL, qqE] at aH1
   refine VC.skip ?_
   refine VC.seq ?_
   refine VC.block ?_
   refine VC.sr ?_
   refine VO.val rfl rfl (OpV.indexAddr_E rfl Tryz.underlying63 Tryz.sizeOf128 rfl rfl rfl (by omega)) ?_
   refine VO.val rfl rfl (OpV.loadK_at rfl hB OutW.no Tryz.isAgg128 Tryz.sizeOf128 rfl rfl) ?_
   refine VO.op rfl (OpE.alloc rfl hB rfl Tryz.zeroValue128 rfl ?_)
   intro g7
   refine VO.op rfl (OpE.store (i := 2) rfl hB rfl Tryz.sizeOf128 rfl rfl rfl rfl rfl rfl (Nle rfl) trivial ?_)
   refine VO.nil ?_
   refine VC.region ?_
   refine VO.mv rfl rfl rfl rfl ?_
   refine VO.val rfl rfl (OpV.fieldAddrO 1 rfl Tryz.underlying128 rfl rfl Tryz.sizeOf9 rfl) ?_
   refine VO.val rfl rfl (OpV.load_own (i := 2) rfl hB Tryz.isAgg9 rfl rfl rfl (fun h => h)) ?_
   refine VO.val rfl rfl (OpV.lookup_own (i := 1) rfl hB Tryz.underlying163 (KeyOk.str Tryz.underlying9) Tryz.zeroValue3 rfl (KeyE.v rfl) rfl (fun h => h)) ?_
   refine VO.le _ (Le.recast (t := 27) (y := avI (mgetD (cntP (p.places.take q)) (p.places.getD q default).part 0)) rfl (fun w Z u h => by unfold mgetD; revert h; cases mget (cntP (p.places.take q)) (p.places.getD q default).part <;> exact id)) ?_
   refine VO.val rfl rfl (OpV.add rfl rfl rfl (by have h := cntP_bd (p.places.take q) (p.places.getD q default).part; have h2 := List.length_take_le q p.places; unfold fits; omega)) ?_
   refine VO.op rfl (OpE.mapUpdate (i := 1) (xx := mgetD (cntP (p.places.take q)) (p.places.getD q default).part 0 + 1) rfl hB rfl Tryz.underlying163 (KeyOk.str Tryz.underlying9) rfl (KeyE.v rfl) rfl rfl trivial ?_)
   refine VO.nil ?_
   refine VC.region ?_
   refine VO.val rfl rfl (OpV.add rfl rfl rfl (by unfold fits; omega)) ?_
   refine VO.mv rfl rfl rfl rfl ?_
   refine VO.nil ?_
   exact Exists.intro (⟨q + 1, by omega⟩) (And.intro (Le.mk hB [0, 1] ⟨rfl, rfl, rfl, rfl, trivial⟩ rfl (by dsimp only; rw [cntP_take (by omega)]; rfl) (Nat.le_refl _)) (by first | omega | (show _ < _; omega) | (simp only []; omega)))
  ·have aH1 := aH1b
   try simp only [qqT, qqF, qqN, qqM, qqL, qqE] at aH1
   refine VC.exit ?_
   refine VC.seq ?_
   have hqe : p.places.take q = p.places := List.take_of_length_le (by omega)
   rw [hqe]
   have hcl := cntP_len p.places
   refine VC.region ?_
   refine VO.ma rfl rfl rfl rfl ?_
   refine VO.nil ?_
   refine VC.seq ?_
   refine VC.sr ?_
   refine VO.mv rfl rfl rfl rfl ?_
   refine VO.op rfl (OpE.callH rfl hB rfl Tryz.call107 rfl rfl (maps_Keys_int (some g16)) (List.Perm.refl _) (fun _ _ => trivial) ?_)
   rintro _ _ ⟨g31, rfl, rfl⟩
   refine VO.op rfl (OpE.callH (rest := [_]) rfl hB rfl Tryz.call106 rfl rfl (slices_Sorted_int (l := cntP p.places) (E := eI) (cntP_nodup _) (by have := cnt_key_small hs p.places.length; rwa [List.take_length] at this) (by omega)) (List.Perm.cons _ (List.Perm.swap _ _ _)) (fun _ _ => trivial) ?_)
   rintro _ _ ⟨u32, rfl, rfl⟩
   refine VO.le _ (Le.rowS (t := 32) (i := 0) hB hnew rfl rfl (sKeys_len _).symm) ?_
   obtain ⟨m, hm⟩ : ∃ m, cntP p.places = m := ⟨_, rfl⟩
   obtain ⟨ks, hks⟩ : ∃ ks, sKeys (cntP p.places) = ks := ⟨_, rfl⟩
   have hkl : ks.length = (cntP p.places).length := by rw [← hks, sKeys_len]
   rw [hks]
   refine VO.val rfl rfl (OpV.len_im rfl Tryz.underlying29 rfl) ?_
   refine VO.mv rfl rfl rfl rfl ?_
   refine VO.nil ?_
   refine VC.block ?_
   refine VC.le _ (Le.nilRow 2 82) ?_
   refine VC.loopK [(5, _), (32, _), (33, _)] ⟨rfl, rfl, rfl, trivial⟩ ({z : Value × Nat // z.2 ≤ ks.length}) (fun (iZ : {z : Value × Nat // z.2 ≤ ks.length}) => match iZ with | ⟨⟨u, r⟩, hr⟩ => [(8, .v u), (34, avI (r : Int))]) (fun (iZ : {z : Value × Nat // z.2 ≤ ks.length}) => match iZ with | ⟨⟨u, r⟩, hr⟩ => [mapE kvS g16 eI (cntP p.places), .row u r 2 (rowL ((needsL p).take r)) 82]) (fun (iZ : {z : Value × Nat // z.2 ≤ ks.length}) => match iZ with | ⟨⟨u, r⟩, hr⟩ => 0) (fun (iZ : {z : Value × Nat // z.2 ≤ ks.length}) => match iZ with | ⟨⟨u, r⟩, hr⟩ => ks.length - r) ⟨(.slice none 0 0, 0), Nat.zero_le _⟩ (Le.mk hB [1, 3] ⟨rfl, rfl, rfl, rfl, rfl, trivial⟩ rfl rfl (Nat.le_refl _)) ?_
   rintro ⟨⟨u, r⟩, hr⟩
   show VC _ _ _ _ ⟨[(8, .v u), (34, avI (r : Int))] ++ [(5, _), (32, _), (33, _)], [mapE kvS g16 eI (cntP p.places), .row u r 2 (rowL ((needsL p).take r)) 82], 0⟩
   simp only at hr
   refine VC.sr ?_
   refine VO.val rfl rfl (OpV.lss rfl rfl rfl) ?_
   refine VO.nil ?_
   refine VC.seq ?_
   refine VC.cond rfl (fun aH2b => ?_) (fun aH2b => ?_)
   ·have aH2 := aH2b
    try simp only [qqT, qqF, qqN, qqM, qqL, qqE] at aH2
    refine VC.skip ?_
    refine VC.seq ?_
    refine VC.block ?_
    refine VC.sr ?_
    refine VO.val rfl rfl (OpV.indexAddr_1 rfl Tryz.underlying29 Tryz.sizeOf9 rfl rfl rfl (by omega)) ?_
    refine VO.val rfl rfl (OpV.load_at rfl hB OutW.no Tryz.isAgg9 rfl rfl) ?_
    refine VO.ma rfl rfl rfl rfl ?_
    refine VO.nil ?_
    refine VC.region ?_
    refine VO.mv rfl rfl rfl rfl ?_
    refine VO.mv rfl rfl rfl rfl ?_
    refine VO.mv rfl rfl rfl rfl ?_
    refine VO.mv rfl rfl rfl rfl ?_
    refine VO.val rfl rfl (OpV.lookup_own (i := 0) rfl hB Tryz.underlying163 (KeyOk.str Tryz.underlying9) Tryz.zeroValue3 rfl (KeyE.v rfl) rfl (fun h => h)) ?_
    refine VO.le _ (Le.recast (t := 42) (y := avI (mgetD (cntP p.places) (ks.getD r ByteArray.empty) 0)) rfl (fun w Z u h => by unfold mgetD; revert h; cases mget (cntP p.places) (ks.getD r ByteArray.empty) <;> exact id)) ?_
    refine VO.val rfl rfl (OpV.build (pls := #[(0, 1), (1, 1)]) rfl Tryz.zeroValue82 Tryz.underlying82 (fun w => by kernel_rfl) rfl rfl) ?_
    refine VO.op rfl (OpE.buildSlice (zc := #[.string ⟨#[]⟩, .int .i64 0]) rfl hB rfl Tryz.underlying78 Tryz.sizeOf82 Tryz.zeroValue82 (by decide) (by decide) (by kernel_rfl) rfl rfl ?_)
    refine VO.op rfl (OpE.append1 (i := 1) rfl hB rfl Tryz.underlying78 (infoOf Tryz.t82 2 (by kernel_rfl) rfl rfl) rfl (by decide) (by decide) rfl rfl rfl rfl (rowL_snoc _ (⟨ks.getD r ByteArray.empty, mgetD (cntP p.places) (ks.getD r ByteArray.empty) 0⟩ : NeedS)) (by omega) (fun _ _ => trivial) ?_)
    intro u2
    refine VO.ma rfl rfl rfl rfl ?_
    refine VO.nil ?_
    refine VC.region ?_
    refine VO.val rfl rfl (OpV.add rfl rfl rfl (by unfold fits; omega)) ?_
    refine VO.mv rfl rfl rfl rfl ?_
    refine VO.nil ?_
    exact Exists.intro (⟨(u2, r + 1), by show r + 1 ≤ _; omega⟩) (And.intro (Le.mk hB [0, 1] ⟨rfl, rfl, rfl, rfl, rfl, trivial⟩ rfl (by dsimp only; rw [needs_take (by rw [hks]; omega), hks]; rfl) (Nat.le_refl _)) (by first | omega | (show _ < _; omega) | (simp only []; omega)))
   ·have aH2 := aH2b
    try simp only [qqT, qqF, qqN, qqM, qqL, qqE] at aH2
    refine VC.exit ?_
    refine VC.seq ?_
    have hre : r = (needsL p).length := by rw [needsL_len]; omega
    have hrt : (needsL p).take r = needsL p := List.take_of_length_le (by omega)
    rw [hrt]
    refine VC.region ?_
    refine VO.mv rfl rfl rfl rfl ?_
    refine VO.ma rfl rfl rfl rfl ?_
    refine VO.ma rfl rfl rfl rfl ?_
    refine VO.nil ?_
    refine VC.ret ?_
    exact Exists.intro _ (And.intro (RetN.two Tryz.results49 (ResN.rowT (i := 1) (xs := needsL p) rfl rfl hre (flat_need _)) (ResN.v rfl)) (by first | (rw [needsR, if_neg h0]; rfl) | (rw [needsR, if_pos h00, h00])))
end Go.Proofs.YtbbgjeiefmiblaaGreatDoor
namespace Go.Proofs.YtbbgjeiefmiblaaGreatDoor
open Go.RowKit
set_option linter.unusedVariables false
set_option linter.unusedSimpArgs false
def lastP (p : ProdS) (q : Nat) : ByteArray := if q = 0 then ⟨#[]⟩ else (p.places.getD (q - 1) default).name
theorem lastP_succ (p : ProdS) (q : Nat) : lastP p (q + 1) = (p.places.getD q default).name := by simp [lastP]
theorem placeE_7' {p : ProdS} {i : Nat} (h1 : keyF (p.places.getD i default).name = true) (h2 : keyF (p.places.getD i default).part = true) (hs : sLe (p.places.getD i default).name (lastP p i) = true) : placeE p i = 7 := by
 by_cases hq : i = 0
 ·rw [lastP, if_pos hq, sLe_empty h1] at hs; cases hs
 ·rw [lastP, if_neg hq] at hs; exact placeE_7 h1 h2 (by omega) hs
theorem lastP_ne {p : ProdS} {i : Nat} (hs : sLe (p.places.getD i default).name (lastP p i) = false) : i = 0 ∨ sLe (p.places.getD i default).name (p.places.getD (i - 1) default).name = false := by
 by_cases hq : i = 0
 ·exact .inl hq
 ·rw [lastP, if_neg hq] at hs; exact .inr hs
theorem oin {n a b : Int} {v : Bool} (h : (!(decide (a ≤ n) && decide (n ≤ b))) = v) : outR n a b = v := (outR_in n a b).trans h
set_option maxRecDepth 100000 in
theorem rf_ProductFault {p : ProdS} (hs : SmP p) :
    SpecN Tryz.prog 41 [avProd p] (fun y => y = avI (prodF p)) := by
  refine SpecN.of_VCN Tryz.func41 rfl Tryz.ntmps41 (Nle rfl) fun w A hB => ?_
  have hnew : True := trivial
  refine VC.seq ?_
  have hl := hs.len
  refine VC.region ?_
  refine VO.op rfl (OpE.box rfl hB rfl rfl rfl ?_)
  intro g1
  refine VO.ma rfl rfl rfl rfl ?_
  refine VO.nil ?_
  refine VC.seq ?_
  refine VC.block ?_
  refine VC.sr ?_
  refine VO.val rfl rfl (OpV.fieldAddrO 0 rfl Tryz.underlying65 rfl rfl Tryz.sizeOf9 rfl) ?_
  refine VO.val rfl rfl (OpV.load_own (i := 0) rfl hB Tryz.isAgg9 rfl rfl rfl (fun h => h)) ?_
  refine VO.op rfl (OpE.call rfl hB rfl Tryz.call70 rfl (SpecN.spec (rf_Key (by have := hs.key; omega))) ?_)
  rintro _ rfl
  refine VO.val rfl rfl (OpV.not rfl rfl) ?_
  refine VO.ma rfl rfl rfl rfl ?_
  refine VO.nil ?_
  refine VC.cond rfl (fun k0b => ?_) (fun k0b => ?_)
  · have k0 := k0b
    try simp only [qqT, qqF, qqN, qqM, qqL, qqE] at k0
    refine VC.sr ?_
    refine VO.ma rfl rfl rfl rfl ?_
    refine VO.nil ?_
    refine VC.ret ?_
    exact Exists.intro _ (And.intro (RetN.one Tryz.results41 (ResN.v rfl)) (by rw [prodF_5 (by assumption)]))
  · have k0 := k0b
    try simp only [qqT, qqF, qqN, qqM, qqL, qqE] at k0
    refine VC.sr ?_
    refine VO.val rfl rfl (OpV.fieldAddrO 1 rfl Tryz.underlying65 rfl rfl Tryz.sizeOf3 rfl) ?_
    refine VO.val rfl rfl (OpV.load_own (i := 0) rfl hB Tryz.isAgg3 rfl rfl rfl (fun h => h)) ?_
    refine VO.op rfl (OpE.call rfl hB rfl Tryz.call69 rfl (SpecN.spec (rf_in)) ?_)
    rintro _ rfl
    refine VO.val rfl rfl (OpV.not rfl rfl) ?_
    refine VO.mv rfl rfl rfl rfl ?_
    refine VO.opG rfl rfl rfl rfl (fun aK1b => ?_) (fun aK1b => ?_)
    · replace aK1b : _ = false := aK1b
      have aK1 := aK1b
      try simp only [qqT, qqF, qqN, qqM, qqL, qqE] at aK1
      refine OpE.val (W := NoB) (OpV.fieldAddrO 2 rfl Tryz.underlying65 rfl rfl Tryz.sizeOf3 rfl) rfl ?_
      refine VO.opY rfl rfl rfl rfl aK1b ?_
      refine OpE.val (W := NoB) (OpV.load_own (i := 0) rfl hB Tryz.isAgg3 rfl rfl rfl (fun h => h)) rfl ?_
      refine VO.opY rfl rfl rfl rfl aK1b ?_
      refine OpE.call rfl hB rfl Tryz.call69 rfl (SpecN.spec (rf_in)) ?_
      rintro _ rfl
      refine VO.opY rfl rfl rfl rfl aK1b ?_
      refine OpE.val (W := NoB) (OpV.not rfl rfl) rfl ?_
      refine VO.val rfl rfl (OpV.pickF rfl rfl rfl rfl aK1b) ?_
      refine VO.ma rfl rfl rfl rfl ?_
      refine VO.nil ?_
      refine VC.cond rfl (fun aH2b => ?_) (fun aH2b => ?_)
      · have aH2 := aH2b
        try simp only [qqT, qqF, qqN, qqM, qqL, qqE] at aH2
        refine VC.sr ?_
        refine VO.ma rfl rfl rfl rfl ?_
        refine VO.nil ?_
        refine VC.ret ?_
        exact Exists.intro _ (And.intro (RetN.one Tryz.results41 (ResN.v rfl)) (by first | rw [prodF_1 k0 (or2a (oin (by assumption)))] | rw [prodF_1 k0 (or2b (oin (by assumption)))]))
      · have aH2 := aH2b
        try simp only [qqT, qqF, qqN, qqM, qqL, qqE] at aH2
        refine VC.sr ?_
        refine VO.val rfl rfl (OpV.fieldAddrO 3 rfl Tryz.underlying65 rfl rfl Tryz.sizeOf63 rfl) ?_
        refine VO.val rfl rfl (OpV.load_own (i := 0) rfl hB Tryz.isAgg63 rfl rfl rfl (fun h => h)) ?_
        refine VO.val rfl rfl (OpV.len_im rfl Tryz.underlying63 rfl) ?_
        refine VO.val rfl rfl (OpV.gtr rfl rfl rfl) ?_
        refine VO.ma rfl rfl rfl rfl ?_
        refine VO.nil ?_
        refine VC.cond rfl (fun aH3b => ?_) (fun aH3b => ?_)
        · have aH3 := aH3b
          try simp only [qqT, qqF, qqN, qqM, qqL, qqE] at aH3
          refine VC.sr ?_
          refine VO.ma rfl rfl rfl rfl ?_
          refine VO.nil ?_
          refine VC.ret ?_
          exact Exists.intro _ (And.intro (RetN.one Tryz.results41 (ResN.v rfl)) (by rw [prodF_2 k0 (or2f (oin (by assumption)) (oin (by assumption))) (by omega)]))
        · have aH3 := aH3b
          try simp only [qqT, qqF, qqN, qqM, qqL, qqE] at aH3
          refine VC.skip ?_
          refine VC.sr ?_
          refine VO.ma rfl rfl rfl rfl ?_
          refine VO.nil ?_
          refine VC.seq ?_
          refine VC.sr ?_
          refine VO.val rfl rfl (OpV.fieldAddrO 3 rfl Tryz.underlying65 rfl rfl Tryz.sizeOf63 rfl) ?_
          refine VO.val rfl rfl (OpV.load_own (i := 0) rfl hB Tryz.isAgg63 rfl rfl rfl (fun h => h)) ?_
          refine VO.val rfl rfl (OpV.len_im rfl Tryz.underlying63 rfl) ?_
          refine VO.mv rfl rfl rfl rfl ?_
          refine VO.nil ?_
          refine VC.block ?_
          refine VC.loopK [(1, _), (28, _), (29, _)] ⟨rfl, rfl, rfl, trivial⟩ ({q : Nat // q ≤ p.places.length ∧ ∀ j, j < q → placeE p j = 0}) (fun (iZ : {q : Nat // q ≤ p.places.length ∧ ∀ j, j < q → placeE p j = 0}) => match iZ with | ⟨q, hq, hn⟩ => [(3, avS (lastP p q)), (30, avI (q : Int))]) (fun (iZ : {q : Nat // q ≤ p.places.length ∧ ∀ j, j < q → placeE p j = 0}) => match iZ with | ⟨q, hq, hn⟩ => [boxProd g1 p 65]) (fun (iZ : {q : Nat // q ≤ p.places.length ∧ ∀ j, j < q → placeE p j = 0}) => match iZ with | ⟨q, hq, hn⟩ => 0) (fun (iZ : {q : Nat // q ≤ p.places.length ∧ ∀ j, j < q → placeE p j = 0}) => match iZ with | ⟨q, hq, hn⟩ => p.places.length - q) ⟨0, Nat.zero_le _, fun j hj => absurd hj (Nat.not_lt_zero j)⟩ (Le.mk hB [0] ⟨rfl, rfl, rfl, rfl, rfl, trivial⟩ rfl rfl (Nat.le_refl _)) ?_
          rintro ⟨q, hq, hn⟩
          show VC _ _ _ _ ⟨[(3, avS (lastP p q)), (30, avI (q : Int))] ++ [(1, _), (28, _), (29, _)], [boxProd g1 p 65], 0⟩
          refine VC.sr ?_
          refine VO.val rfl rfl (OpV.lss rfl rfl rfl) ?_
          refine VO.nil ?_
          refine VC.seq ?_
          refine VC.cond rfl (fun aH4b => ?_) (fun aH4b => ?_)
          · have aH4 := aH4b
            try simp only [qqT, qqF, qqN, qqM, qqL, qqE] at aH4
            refine VC.skip ?_
            refine VC.seq ?_
            refine VC.block ?_
            refine VC.sr ?_
            refine VO.val rfl rfl (OpV.indexAddr_E rfl Tryz.underlying63 Tryz.sizeOf128 rfl rfl rfl (by omega)) ?_
            refine VO.val rfl rfl (OpV.loadK_at rfl hB OutW.no Tryz.isAgg128 Tryz.sizeOf128 rfl rfl) ?_
            refine VO.op rfl (OpE.alloc rfl hB rfl Tryz.zeroValue128 rfl ?_)
            intro g5
            refine VO.op rfl (OpE.store (i := 1) rfl hB rfl Tryz.sizeOf128 rfl rfl rfl rfl rfl rfl (Nle rfl) trivial ?_)
            refine VO.nil ?_
            refine VC.seq ?_
            refine VC.block ?_
            refine VC.sr ?_
            refine VO.val rfl rfl (OpV.fieldAddrO 0 rfl Tryz.underlying128 rfl rfl Tryz.sizeOf9 rfl) ?_
            refine VO.val rfl rfl (OpV.load_own (i := 1) rfl hB Tryz.isAgg9 rfl rfl rfl (fun h => h)) ?_
            refine VO.op rfl (OpE.call rfl hB rfl Tryz.call70 rfl (SpecN.spec (rf_Key (by have := hs.name q; omega))) ?_)
            rintro _ rfl
            refine VO.val rfl rfl (OpV.not rfl rfl) ?_
            refine VO.mv rfl rfl rfl rfl ?_
            refine VO.opG rfl rfl rfl rfl (fun aK5b => ?_) (fun aK5b => ?_)
            · replace aK5b : _ = false := aK5b
              have aK5 := aK5b
              try simp only [qqT, qqF, qqN, qqM, qqL, qqE] at aK5
              refine OpE.val (W := NoB) (OpV.fieldAddrO 1 rfl Tryz.underlying128 rfl rfl Tryz.sizeOf9 rfl) rfl ?_
              refine VO.opY rfl rfl rfl rfl aK5b ?_
              refine OpE.val (W := NoB) (OpV.load_own (i := 1) rfl hB Tryz.isAgg9 rfl rfl rfl (fun h => h)) rfl ?_
              refine VO.opY rfl rfl rfl rfl aK5b ?_
              refine OpE.call rfl hB rfl Tryz.call70 rfl (SpecN.spec (rf_Key (by have := hs.part q; omega))) ?_
              rintro _ rfl
              refine VO.opY rfl rfl rfl rfl aK5b ?_
              refine OpE.val (W := NoB) (OpV.not rfl rfl) rfl ?_
              refine VO.val rfl rfl (OpV.pickF rfl rfl rfl rfl aK5b) ?_
              refine VO.ma rfl rfl rfl rfl ?_
              refine VO.nil ?_
              refine VC.cond rfl (fun aH6b => ?_) (fun aH6b => ?_)
              · have aH6 := aH6b
                try simp only [qqT, qqF, qqN, qqM, qqL, qqE] at aH6
                refine VC.sr ?_
                refine VO.ma rfl rfl rfl rfl ?_
                refine VO.nil ?_
                refine VC.ret ?_
                exact Exists.intro _ (And.intro (RetN.one Tryz.results41 (ResN.v rfl)) (by first | rw [prodF_at k0 (or2f (oin (by assumption)) (oin (by assumption))) (by omega) (by omega) hn (placeE_5a (by assumption)) (by decide)] | rw [prodF_at k0 (or2f (oin (by assumption)) (oin (by assumption))) (by omega) (by omega) hn (placeE_5b (by assumption)) (by decide)]))
              · have aH6 := aH6b
                try simp only [qqT, qqF, qqN, qqM, qqL, qqE] at aH6
                refine VC.sr ?_
                refine VO.val rfl rfl (OpV.fieldAddrO 0 rfl Tryz.underlying128 rfl rfl Tryz.sizeOf9 rfl) ?_
                refine VO.val rfl rfl (OpV.load_own (i := 1) rfl hB Tryz.isAgg9 rfl rfl rfl (fun h => h)) ?_
                refine VO.mv rfl rfl rfl rfl ?_
                refine VO.val rfl rfl (OpV.sleq rfl rfl rfl) ?_
                refine VO.ma rfl rfl rfl rfl ?_
                refine VO.nil ?_
                refine VC.cond rfl (fun aH7b => ?_) (fun aH7b => ?_)
                · have aH7 := aH7b
                  try simp only [qqT, qqF, qqN, qqM, qqL, qqE] at aH7
                  refine VC.sr ?_
                  refine VO.ma rfl rfl rfl rfl ?_
                  refine VO.nil ?_
                  refine VC.ret ?_
                  exact Exists.intro _ (And.intro (RetN.one Tryz.results41 (ResN.v rfl)) (by rw [prodF_at k0 (or2f (oin (by assumption)) (oin (by assumption))) (by omega) (by omega) hn (placeE_7' (by assumption) (by assumption) (by assumption)) (by decide)]))
                · have aH7 := aH7b
                  try simp only [qqT, qqF, qqN, qqM, qqL, qqE] at aH7
                  refine VC.sr ?_
                  refine VO.val rfl rfl (OpV.fieldAddrO 2 rfl Tryz.underlying128 rfl rfl Tryz.sizeOf3 rfl) ?_
                  refine VO.val rfl rfl (OpV.load_own (i := 1) rfl hB Tryz.isAgg3 rfl rfl rfl (fun h => h)) ?_
                  refine VO.val rfl rfl (OpV.fieldAddrO 1 rfl Tryz.underlying65 rfl rfl Tryz.sizeOf3 rfl) ?_
                  refine VO.val rfl rfl (OpV.load_own (i := 0) rfl hB Tryz.isAgg3 rfl rfl rfl (fun h => h)) ?_
                  refine VO.op rfl (OpE.call rfl hB rfl Tryz.call69 rfl (SpecN.spec (rf_in)) ?_)
                  rintro _ rfl
                  refine VO.val rfl rfl (OpV.not rfl rfl) ?_
                  refine VO.mv rfl rfl rfl rfl ?_
                  refine VO.opG rfl rfl rfl rfl (fun aK8b => ?_) (fun aK8b => ?_)
                  · replace aK8b : _ = false := aK8b
                    have aK8 := aK8b
                    try simp only [qqT, qqF, qqN, qqM, qqL, qqE] at aK8
                    refine OpE.val (W := NoB) (OpV.fieldAddrO 3 rfl Tryz.underlying128 rfl rfl Tryz.sizeOf3 rfl) rfl ?_
                    refine VO.opY rfl rfl rfl rfl aK8b ?_
                    refine OpE.val (W := NoB) (OpV.load_own (i := 1) rfl hB Tryz.isAgg3 rfl rfl rfl (fun h => h)) rfl ?_
                    refine VO.opY rfl rfl rfl rfl aK8b ?_
                    refine OpE.val (W := NoB) (OpV.fieldAddrO 2 rfl Tryz.underlying65 rfl rfl Tryz.sizeOf3 rfl) rfl ?_
                    refine VO.opY rfl rfl rfl rfl aK8b ?_
                    refine OpE.val (W := NoB) (OpV.load_own (i := 0) rfl hB Tryz.isAgg3 rfl rfl rfl (fun h => h)) rfl ?_
                    refine VO.opY rfl rfl rfl rfl aK8b ?_
                    refine OpE.call rfl hB rfl Tryz.call69 rfl (SpecN.spec (rf_in)) ?_
                    rintro _ rfl
                    refine VO.opY rfl rfl rfl rfl aK8b ?_
                    refine OpE.val (W := NoB) (OpV.not rfl rfl) rfl ?_
                    refine VO.val rfl rfl (OpV.pickF rfl rfl rfl rfl aK8b) ?_
                    refine VO.mv rfl rfl rfl rfl ?_
                    refine VO.opG rfl rfl rfl rfl (fun aK9b => ?_) (fun aK9b => ?_)
                    · replace aK9b : _ = false := aK9b
                      have aK9 := aK9b
                      try simp only [qqT, qqF, qqN, qqM, qqL, qqE] at aK9
                      refine OpE.val (W := NoB) (OpV.fieldAddrO 4 rfl Tryz.underlying128 rfl rfl Tryz.sizeOf3 rfl) rfl ?_
                      refine VO.opY rfl rfl rfl rfl aK9b ?_
                      refine OpE.val (W := NoB) (OpV.load_own (i := 1) rfl hB Tryz.isAgg3 rfl rfl rfl (fun h => h)) rfl ?_
                      refine VO.opY rfl rfl rfl rfl aK9b ?_
                      refine OpE.call rfl hB rfl Tryz.call69 rfl (SpecN.spec (rf_in)) ?_
                      rintro _ rfl
                      refine VO.opY rfl rfl rfl rfl aK9b ?_
                      refine OpE.val (W := NoB) (OpV.not rfl rfl) rfl ?_
                      refine VO.val rfl rfl (OpV.pickF rfl rfl rfl rfl aK9b) ?_
                      refine VO.ma rfl rfl rfl rfl ?_
                      refine VO.nil ?_
                      refine VC.cond rfl (fun aH10b => ?_) (fun aH10b => ?_)
                      · have aH10 := aH10b
                        try simp only [qqT, qqF, qqN, qqM, qqL, qqE] at aH10
                        refine VC.sr ?_
                        refine VO.ma rfl rfl rfl rfl ?_
                        refine VO.nil ?_
                        refine VC.ret ?_
                        exact Exists.intro _ (And.intro (RetN.one Tryz.results41 (ResN.v rfl)) (by first | rw [prodF_at k0 (or2f (oin (by assumption)) (oin (by assumption))) (by omega) (by omega) hn (placeE_1 (by assumption) (by assumption) (lastP_ne (by assumption)) (or3a (oin (by assumption)))) (by decide)] | rw [prodF_at k0 (or2f (oin (by assumption)) (oin (by assumption))) (by omega) (by omega) hn (placeE_1 (by assumption) (by assumption) (lastP_ne (by assumption)) (or3b (oin (by assumption)))) (by decide)] | rw [prodF_at k0 (or2f (oin (by assumption)) (oin (by assumption))) (by omega) (by omega) hn (placeE_1 (by assumption) (by assumption) (lastP_ne (by assumption)) (or3c (oin (by assumption)))) (by decide)]))
                      · have aH10 := aH10b
                        try simp only [qqT, qqF, qqN, qqM, qqL, qqE] at aH10
                        refine VC.skip ?_
                        refine VC.region ?_
                        refine VO.val rfl rfl (OpV.fieldAddrO 0 rfl Tryz.underlying128 rfl rfl Tryz.sizeOf9 rfl) ?_
                        refine VO.val rfl rfl (OpV.load_own (i := 1) rfl hB Tryz.isAgg9 rfl rfl rfl (fun h => h)) ?_
                        refine VO.ma rfl rfl rfl rfl ?_
                        refine VO.nil ?_
                        refine VC.region ?_
                        refine VO.val rfl rfl (OpV.add rfl rfl rfl (by unfold fits; omega)) ?_
                        refine VO.mv rfl rfl rfl rfl ?_
                        refine VO.nil ?_
                        exact Exists.intro (⟨q + 1, by omega, lt_succ_cases hn (placeE_0 (by assumption) (by assumption) (lastP_ne (by assumption)) (or3f (oin (by assumption)) (oin (by assumption)) (oin (by assumption))))⟩) (And.intro (Le.mk hB [0] ⟨(by rw [lastP_succ]; rfl), rfl, rfl, rfl, rfl, trivial⟩ rfl rfl (Nat.le_refl _)) (by first | omega | (show _ < _; omega) | (simp only []; omega)))
                    · replace aK9b : _ = true := aK9b
                      have aK9 := aK9b
                      try simp only [qqT, qqF, qqN, qqM, qqL, qqE] at aK9
                      refine VO.opX rfl rfl rfl rfl aK9b ?_
                      refine VO.opX rfl rfl rfl rfl aK9b ?_
                      refine VO.opX rfl rfl rfl rfl aK9b ?_
                      refine VO.val rfl rfl (OpV.pickT rfl rfl rfl rfl aK9b) ?_
                      refine VO.ma rfl rfl rfl rfl ?_
                      refine VO.nil ?_
                      refine VC.condT rfl rfl ?_
                      refine VC.sr ?_
                      refine VO.ma rfl rfl rfl rfl ?_
                      refine VO.nil ?_
                      refine VC.ret ?_
                      exact Exists.intro _ (And.intro (RetN.one Tryz.results41 (ResN.v rfl)) (by first | rw [prodF_at k0 (or2f (oin (by assumption)) (oin (by assumption))) (by omega) (by omega) hn (placeE_1 (by assumption) (by assumption) (lastP_ne (by assumption)) (or3a (oin (by assumption)))) (by decide)] | rw [prodF_at k0 (or2f (oin (by assumption)) (oin (by assumption))) (by omega) (by omega) hn (placeE_1 (by assumption) (by assumption) (lastP_ne (by assumption)) (or3b (oin (by assumption)))) (by decide)] | rw [prodF_at k0 (or2f (oin (by assumption)) (oin (by assumption))) (by omega) (by omega) hn (placeE_1 (by assumption) (by assumption) (lastP_ne (by assumption)) (or3c (oin (by assumption)))) (by decide)]))
                  · replace aK8b : _ = true := aK8b
                    have aK8 := aK8b
                    try simp only [qqT, qqF, qqN, qqM, qqL, qqE] at aK8
                    refine VO.opX rfl rfl rfl rfl aK8b ?_
                    refine VO.opX rfl rfl rfl rfl aK8b ?_
                    refine VO.opX rfl rfl rfl rfl aK8b ?_
                    refine VO.opX rfl rfl rfl rfl aK8b ?_
                    refine VO.opX rfl rfl rfl rfl aK8b ?_
                    refine VO.val rfl rfl (OpV.pickT rfl rfl rfl rfl aK8b) ?_
                    refine VO.mv rfl rfl rfl rfl ?_
                    refine VO.opX rfl rfl rfl rfl rfl ?_
                    refine VO.opX rfl rfl rfl rfl rfl ?_
                    refine VO.opX rfl rfl rfl rfl rfl ?_
                    refine VO.opX rfl rfl rfl rfl rfl ?_
                    refine VO.val rfl rfl (OpV.pickT rfl rfl rfl rfl rfl) ?_
                    refine VO.ma rfl rfl rfl rfl ?_
                    refine VO.nil ?_
                    refine VC.condT rfl rfl ?_
                    refine VC.sr ?_
                    refine VO.ma rfl rfl rfl rfl ?_
                    refine VO.nil ?_
                    refine VC.ret ?_
                    exact Exists.intro _ (And.intro (RetN.one Tryz.results41 (ResN.v rfl)) (by first | rw [prodF_at k0 (or2f (oin (by assumption)) (oin (by assumption))) (by omega) (by omega) hn (placeE_1 (by assumption) (by assumption) (lastP_ne (by assumption)) (or3a (oin (by assumption)))) (by decide)] | rw [prodF_at k0 (or2f (oin (by assumption)) (oin (by assumption))) (by omega) (by omega) hn (placeE_1 (by assumption) (by assumption) (lastP_ne (by assumption)) (or3b (oin (by assumption)))) (by decide)] | rw [prodF_at k0 (or2f (oin (by assumption)) (oin (by assumption))) (by omega) (by omega) hn (placeE_1 (by assumption) (by assumption) (lastP_ne (by assumption)) (or3c (oin (by assumption)))) (by decide)]))
            · replace aK5b : _ = true := aK5b
              have aK5 := aK5b
              try simp only [qqT, qqF, qqN, qqM, qqL, qqE] at aK5
              refine VO.opX rfl rfl rfl rfl aK5b ?_
              refine VO.opX rfl rfl rfl rfl aK5b ?_
              refine VO.opX rfl rfl rfl rfl aK5b ?_
              refine VO.val rfl rfl (OpV.pickT rfl rfl rfl rfl aK5b) ?_
              refine VO.ma rfl rfl rfl rfl ?_
              refine VO.nil ?_
              refine VC.condT rfl rfl ?_
              refine VC.sr ?_
              refine VO.ma rfl rfl rfl rfl ?_
              refine VO.nil ?_
              refine VC.ret ?_
              exact Exists.intro _ (And.intro (RetN.one Tryz.results41 (ResN.v rfl)) (by first | rw [prodF_at k0 (or2f (oin (by assumption)) (oin (by assumption))) (by omega) (by omega) hn (placeE_5a (by assumption)) (by decide)] | rw [prodF_at k0 (or2f (oin (by assumption)) (oin (by assumption))) (by omega) (by omega) hn (placeE_5b (by assumption)) (by decide)]))
          · have aH4 := aH4b
            try simp only [qqT, qqF, qqN, qqM, qqL, qqE] at aH4
            refine VC.exit ?_
            refine VC.sr ?_
            refine VO.ma rfl rfl rfl rfl ?_
            refine VO.nil ?_
            refine VC.ret ?_
            exact Exists.intro _ (And.intro (RetN.one Tryz.results41 (ResN.v rfl)) (by rw [prodF_ok k0 (or2f (oin (by assumption)) (oin (by assumption))) (by omega) (fun j hj => hn j (by omega))]))
    · replace aK1b : _ = true := aK1b
      have aK1 := aK1b
      try simp only [qqT, qqF, qqN, qqM, qqL, qqE] at aK1
      refine VO.opX rfl rfl rfl rfl aK1b ?_
      refine VO.opX rfl rfl rfl rfl aK1b ?_
      refine VO.opX rfl rfl rfl rfl aK1b ?_
      refine VO.val rfl rfl (OpV.pickT rfl rfl rfl rfl aK1b) ?_
      refine VO.ma rfl rfl rfl rfl ?_
      refine VO.nil ?_
      refine VC.condT rfl rfl ?_
      refine VC.sr ?_
      refine VO.ma rfl rfl rfl rfl ?_
      refine VO.nil ?_
      refine VC.ret ?_
      exact Exists.intro _ (And.intro (RetN.one Tryz.results41 (ResN.v rfl)) (by first | rw [prodF_1 k0 (or2a (oin (by assumption)))] | rw [prodF_1 k0 (or2b (oin (by assumption)))]))



end Go.Proofs.YtbbgjeiefmiblaaGreatDoor
namespace Go.Proofs.YtbbgjeiefmiblaaGreatDoor
open Go.RowKit
set_option linter.unusedVariables false
set_option linter.unusedSimpArgs false
theorem nil_prod {w : World} {Z : Nat → Prop} {u : Value} {a : ByteArray} {b c : Int} (h : Rep w Z (.agg [avS a, avI b, avI c, .v (.slice none 0 0)]) u) : Rep w Z (avProd ⟨a, b, c, []⟩) u := by
 cases h with
 | agg cs us hl hr =>
  refine .agg _ us hl fun j hj => ?_
  match j, hj with
  | 0, _ => exact hr 0 (by simp)
  | 1, _ => exact hr 1 (by simp)
  | 2, _ => exact hr 2 (by simp)
  | 3, _ =>
   have := hr 3 (by simp)
   show Rep w Z (.im 0 5 _) _
   rw [this.eq_v]; exact .nil _ _
def plainP : ProdS := ⟨⟨#[112]⟩, 10, 10, []⟩
theorem plainP_sm : SmP plainP := ⟨by decide, by decide, fun i => by show (([] : List PlaceS).getD i default).name.size ≤ _; simp; decide, fun i => by show (([] : List PlaceS).getD i default).part.size ≤ _; simp; decide⟩
theorem plainP_ok : prodF plainP = 0 := by decide +kernel
set_option maxRecDepth 100000 in
set_option maxHeartbeats 8000000 in
theorem rightProduct_T {p : Nat} {L : List Int}  :
  SpecT Tryz.prog (TT p L) (fun b => b = p) 48 [sp p] 300 (fun y => ∃ p : ProdS, (SmP p ∧ p.places.length ≤ 5 ∧ prodF p = 0) ∧ y = avProd p) := by
 refine SpecT.of_VC Tryz.func48 rfl Tryz.ntmps48 (Nle rfl) (low := (fun b => b ≤ p)) (fun w A k h => h.ok) fun w A k hk hB => ?_
 have hnew : True := trivial
 refine VC.sr ?_
 refine VO.op rfl (OpE.alloc rfl hB rfl Tryz.zeroValue65 rfl ?_)
 intro g2
 refine VO.nil ?_
 refine VC.seq ?_
 refine VC.sr ?_
 refine VO.mv rfl rfl rfl rfl ?_
 refine VO.nil ?_
 refine VC.block ?_
 refine VC.loopK [(0, _), (2, _)] ⟨rfl, rfl, trivial⟩ ({q : Nat // q ≤ 6}) (fun (iZ : {q : Nat // q ≤ 6}) => match iZ with | ⟨q, hq⟩ => [(4, avI (q : Int))]) (fun (iZ : {q : Nat // q ≤ 6}) => match iZ with | ⟨q, hq⟩ => [bA g2]) (fun (iZ : {q : Nat // q ≤ 6}) => match iZ with | ⟨q, hq⟩ => k + 50 * q) (fun (iZ : {q : Nat // q ≤ 6}) => match iZ with | ⟨q, hq⟩ => 6 - q) ⟨0, Nat.zero_le _⟩ (Le.mk hB [0] ⟨rfl, rfl, rfl, trivial⟩ rfl rfl (show k ≤ k + 50 * 0 by omega)) ?_
 rintro ⟨q, hq⟩
 show VC _ _ _ _ ⟨[(4, avI (q : Int))] ++ [(0, _), (2, _)], [bA g2], k + 50 * q⟩
 refine VC.sr ?_
 refine VO.val rfl rfl (OpV.lss rfl rfl rfl) ?_
 refine VO.nil ?_
 refine VC.seq ?_
 refine VC.cond rfl (fun aH1b => ?_) (fun aH1b => ?_)
 ·have aH1 := aH1b
  try simp only [qqT, qqF, qqN, qqM, qqL, qqE] at aH1
  refine VC.skip ?_
  refine VC.seq ?_
  refine VC.block ?_
  refine VC.sr ?_
  refine VO.mv rfl rfl rfl rfl ?_
  refine VO.op rfl (OpE.callT' (k + 50 * q) rfl rfl hB rfl Tryz.call36 rfl (aProduct_T) (by omega) ?_)
  rintro _ ⟨pr, hp, rfl⟩
  refine VO.op rfl (OpE.alloc rfl hB rfl Tryz.zeroValue65 rfl ?_)
  intro g3
  refine VO.op rfl (OpE.store (i := 1) rfl hB rfl Tryz.sizeOf65 rfl rfl rfl rfl rfl rfl (Nle rfl) trivial ?_)
  refine VO.nil ?_
  refine VC.sr ?_
  refine VO.val rfl rfl (OpV.loadK_own (i := 1) rfl hB Tryz.isAgg65 Tryz.sizeOf65 rfl rfl rfl (fun h => h)) ?_
  refine VO.op rfl (OpE.call rfl hB rfl Tryz.call41 rfl (SpecN.spec (rf_ProductFault hp.1)) ?_)
  rintro _ rfl
  refine VO.val rfl rfl (OpV.eql rfl rfl rfl) ?_
  refine VO.nil ?_
  refine VC.cond rfl (fun h1b => ?_) (fun h1b => ?_)
  ·have h1 := h1b
   try simp only [qqT, qqF, qqN, qqM, qqL, qqE] at h1
   refine VC.sr ?_
   refine VO.val rfl rfl (OpV.loadK_own (i := 1) rfl hB Tryz.isAgg65 Tryz.sizeOf65 rfl rfl rfl (fun h => h)) ?_
   refine VO.op rfl (OpE.store (i := 0) rfl hB rfl Tryz.sizeOf65 rfl rfl rfl rfl rfl rfl (Nle rfl) trivial ?_)
   refine VO.nil ?_
   refine VC.ret ?_
   exact Exists.intro _ (And.intro (RetV.one Tryz.results48 ((by first | exact ResV.cellK (i := 0) Tryz.isAgg65 Tryz.sizeOf65 rfl rfl rfl | exact ResV.cellK (i := 1) Tryz.isAgg65 Tryz.sizeOf65 rfl rfl rfl))) (And.intro (⟨pr, ⟨hp.1, hp.2, h1⟩, rfl⟩) ((show k + 50 * q + 50 ≤ k + 300 by omega))))
  ·have h1 := h1b
   try simp only [qqT, qqF, qqN, qqM, qqL, qqE] at h1
   refine VC.skip ?_
   refine VC.region ?_
   refine VO.val rfl rfl (OpV.add rfl rfl rfl (by unfold fits; omega)) ?_
   refine VO.mv rfl rfl rfl rfl ?_
   refine VO.nil ?_
   exact Exists.intro (⟨q + 1, by omega⟩) (And.intro (Le.mk hB [0] ⟨rfl, rfl, rfl, trivial⟩ rfl rfl (show k + 50 * q + 50 ≤ k + 50 * (q + 1) by omega)) (by first | omega | (show _ < _; omega) | (simp only []; omega)))
 ·have aH1 := aH1b
  try simp only [qqT, qqF, qqN, qqM, qqL, qqE] at aH1
  refine VC.exit ?_
  refine VC.sr ?_
  refine VO.val rfl rfl (OpV.build (pls := #[(0, 1), (1, 1), (2, 1), (3, 1)]) rfl Tryz.zeroValue65 Tryz.underlying65 (fun w => by kernel_rfl) rfl rfl) ?_
  refine VO.le _ (Le.recast (t := 13) (y := avProd plainP) rfl (fun w Z u h => nil_prod h)) ?_
  refine VO.op rfl (OpE.store (i := 0) rfl hB rfl Tryz.sizeOf65 rfl rfl rfl rfl rfl rfl (Nle rfl) trivial ?_)
  refine VO.nil ?_
  refine VC.ret ?_
  exact Exists.intro _ (And.intro (RetV.one Tryz.results48 ((by first | exact ResV.cellK (i := 0) Tryz.isAgg65 Tryz.sizeOf65 rfl rfl rfl))) (And.intro (⟨plainP, ⟨plainP_sm, by decide, plainP_ok⟩, rfl⟩) ((show k + 50 * q ≤ k + 300 by omega))))

end Go.Proofs.YtbbgjeiefmiblaaGreatDoor
namespace Go.Proofs.YtbbgjeiefmiblaaGreatDoor
open Go.RowKit
set_option linter.unusedVariables false
set_option linter.unusedSimpArgs false

def Inp (w : World) (a : Option Addr) (L : List Int) : Prop :=
 L.length ≤ 9223372036854775807 ∧ ∀ i, i < L.length → ∃ b o, a = some ⟨b, o, none⟩ ∧ w.cell? ⟨b, o + i, none⟩ = some (.int .i64 (L.getD i 0))

theorem Inp.ofRow {w : World} {a : Option Addr} {len cap : Nat} {zs : List Int}
  (h : (a = none ∧ len = 0 ∧ cap = 0 ∧ zs = []) ∨
   ∃ x, a = some x ∧ len ≤ cap ∧ cap ≤ maxLen ∧ zs.length = cap ∧ (∀ i, i < zs.length → w.cell? (x.add i) = some (.int .i64 (zs.getD i 0))) ∧ ∀ n ∈ zs, (Lit.int .i64 n).wf = true) :
  ∃ L : List Int, L.length = len ∧ Inp w a L := by
 rcases h with ⟨rfl, rfl, rfl, rfl⟩ | ⟨x, rfl, h1, h2, h3, h4, h5⟩
 ·exact ⟨[], rfl, by simp, by simp⟩
 ·unfold maxLen at h2
  refine ⟨zs.take len, by simp; omega, by simp; omega, fun i hi => ?_⟩
  have hi' : i < len ∧ i < zs.length := by simp at hi; omega
  obtain ⟨b, o, s⟩ := x
  have h0 := h4 0 (by omega)
  have hs : s = none := by
   cases s with
   | none => rfl
   | some s =>
    simp only [Addr.add, if_true, World.cell?] at h0
    split at h0 <;> simp at h0
  subst hs
  have hadd : (⟨b, o, none⟩ : Addr).add i = ⟨b, o + i, none⟩ := by unfold Addr.add; split <;> simp_all
  have := h4 i hi'.2
  rw [hadd] at this
  exact ⟨b, o, rfl, by rw [this]; simp [hi'.1, hi'.2]⟩

def lawQ (t : Nat) (x : Value) (e : Exit) (s : St') : Prop := e = .ret ∧ look s.sl t = some (.v x)
section
variable {P : Program} {w : World} {A : Nat → Prop} {nt t : Nat} {x : Value} {c : Code} {s : St'}
theorem VC.rebase (h : ∀ a w1, R (B0 w A nt) s a w1 → ∃ (B1 : Bs) (s1 : St'), B1.nt = nt ∧ B1.w0 = w1 ∧ (∀ b, B1.S b → w.heap.size ≤ b) ∧ R B1 s1 a w1 ∧ VC P B1 c (lawQ t x) s1) : VC P (B0 w A nt) c (lawQ t x) s := fun a w1 hr => by
 obtain ⟨B1, s1, h1, h2, h3, h4, h5⟩ := h a w1 hr
 refine Code.wp_mono (fun e a' w' ⟨s2, ⟨k1, k2⟩, k3⟩ => ?_) (h5 a w1 h4)
 refine ⟨⟨[(t, .v x)], [], 0⟩, ⟨k1, by simp [look_put]⟩, fun t' y hy => ?_, k3.size.trans h1, k3.defs, fun p hp => by simp at hp, List.Pairwise.nil, ?_, fun p hp => by simp at hp, trivial⟩
 ·rw [look_put] at hy
  split at hy
  ·rename_i e; subst e; cases hy; exact (k3.slots _ _ k2).flat ⟨_, rfl⟩
  ·cases hy
 ·have c1 := hr.chg
  have c2 := k3.chg
  rw [h2] at c2
  exact (c1.any.trans c2).mono fun b hb hs => (Nat.not_lt.2 (h3 b hs) hb).elim
theorem law_calls {F : FuncId} {fn : Func} {a0 : Option Addr} {cap0 : Nat} {L : List Int} {body : Code} (hf : P.funcs[F]? = some fn) (hb : fn.body = some body) (hn : fn.ntmps = nt) (h1 : 1 ≤ nt) (hres : fn.results = #[.tmp t])
  (h : VC P (B0 w (fun _ => True) nt) body (lawQ t (.bool true)) ⟨slots0 0 [.v (.slice a0 L.length cap0)], [], 0⟩) : Calls P F #[.slice a0 L.length cap0] w fun e w' => e = .returned (.bool true) ∧ Chg NoB w w' := by
 subst hn
 refine calls_of_wp hf hb (Code.wp_mono (fun e a w' hq => ?_) (h _ w (R.start (us := #[.slice a0 L.length cap0]) (k := 0) rfl ⟨rfl, fun j hj => by simp at hj; subst hj; exact .v _⟩ (fun _ h => h.elim) trivial (by show fn.ntmps = 1 + (fn.ntmps - 1); omega))))
 obtain ⟨s, ⟨rfl, hq⟩, hr⟩ := hq
 refine ⟨hr.defs, .bool true, ?_, rfl, hr.chg⟩
 have hv := (hr.slots t _ hq).eq_v
 simp [results_eq, hres, resRun, hv]
end
theorem Le.boolT {B : Bs} {s : St'} {t : Nat} {b : Bool} (ht : look s.sl t = some (avB b)) (hb : b = true) : Le B s ⟨(t, avB true) :: s.sl, s.hp, s.k⟩ := Le.recast ht fun w Z u h => by subst hb; exact h
end Go.Proofs.YtbbgjeiefmiblaaGreatDoor
namespace Go.Proofs
open Go.Shelf
def Tryz.lays169_ren : Go.Shelf.Ren := ⟨fun | 169 => 68 | n => n, fun | 70 => 100 | 9 => 9 | 0 => 0 | 72 => 103 | 37 => 101 | 127 => 178 | 3 => 3 | 5 => 5 | n => n, fun | n => n⟩
theorem Tryz.lays169 : Go.Proofs.Lays.n169 Tryz.prog Tryz.lays169_ren := {
 mixed := by kernel_rfl
 f169 := Tryz.func68.trans (congrArg some (by kernel_rfl))
 t0 := Tryz.underlying0
 a0 := Tryz.isAgg0
 z0 := Tryz.sizeOf0
 v0 := Tryz.zeroValue0
 t3 := Tryz.underlying3
 a3 := Tryz.isAgg3
 z3 := Tryz.sizeOf3
 v3 := Tryz.zeroValue3
 t9 := Tryz.underlying9
 a9 := Tryz.isAgg9
 z9 := Tryz.sizeOf9
 v9 := Tryz.zeroValue9
 t37 := Tryz.underlying101
 a37 := Tryz.isAgg101
 z37 := Tryz.sizeOf101
 v37 := Tryz.zeroValue101
 t70 := Tryz.underlying100
 a70 := Tryz.isAgg100
 z70 := Tryz.sizeOf100
 v70 := Tryz.zeroValue100
 t72 := Tryz.underlying103
 a72 := Tryz.isAgg103
 z72 := Tryz.sizeOf103
 v72 := Tryz.zeroValue103
 t127 := Tryz.underlying178
 a127 := Tryz.isAgg178
 z127 := Tryz.sizeOf178
 v127 := Tryz.zeroValue178 }
theorem Tryz.Builder_Extra_169 : Builder.Extra Tryz.prog Tryz.lays169_ren := {
 sizeBuilder := by kernel_rfl
 liesBuilder := by kernel_rfl
 t5 := Tryz.underlying5
 a5 := Tryz.isAgg5
 z5 := Tryz.sizeOf5
 v5 := Tryz.zeroValue5
 infoByte := by kernel_rfl
 cellsByte := by kernel_rfl
 sizeByte := by kernel_rfl
 neB5 := by decide }
open Go.RowKit in
theorem Tryz.Builder_String_any (B b : Nat) (l : List UInt8) (w : World) (h : Lib.IsBuilder 103 5 B b (Lib.byteCells l) w) (hBw : B ≤ w.heap.size) :
  Calls Tryz.prog 68 #[.pointer (some ⟨b, 0, none⟩)] w fun e w' => e = .returned (.string ⟨l.toArray⟩) ∧ Below B w w' := Any.Builder_String_any Tryz.lays169 Tryz.Builder_Extra_169 B b l w h hBw
def Tryz.lays156_ren : Go.Shelf.Ren := ⟨fun | 156 => 117 | 165 => 154 | 166 => 65 | 169 => 68 | 240 => 116 | 241 => 195 | 276 => 153 | 277 => 232 | n => n, fun | 31 => 29 | 9 => 9 | 3 => 3 | 4 => 4 | 0 => 0 | 20 => 20 | 72 => 103 | 76 => 106 | 70 => 100 | 37 => 101 | 75 => 105 | 127 => 178 | 164 => 216 | 5 => 5 | 80 => 31 | n => n, fun | n => n⟩
theorem Tryz.lays156 : Go.Proofs.Lays.n156 Tryz.prog Tryz.lays156_ren := {
 mixed := by kernel_rfl
 f156 := Tryz.func117.trans (congrArg some (by kernel_rfl))
 f165 := Tryz.func154.trans (congrArg some (by kernel_rfl))
 f166 := Tryz.func65.trans (congrArg some (by kernel_rfl))
 f169 := Tryz.func68.trans (congrArg some (by kernel_rfl))
 f240 := Tryz.func116.trans (congrArg some (by kernel_rfl))
 f241 := Tryz.func195.trans (congrArg some (by kernel_rfl))
 f276 := Tryz.func153.trans (congrArg some (by kernel_rfl))
 f277 := Tryz.func232.trans (congrArg some (by kernel_rfl))
 t0 := Tryz.underlying0
 a0 := Tryz.isAgg0
 z0 := Tryz.sizeOf0
 v0 := Tryz.zeroValue0
 t3 := Tryz.underlying3
 a3 := Tryz.isAgg3
 z3 := Tryz.sizeOf3
 v3 := Tryz.zeroValue3
 t4 := Tryz.underlying4
 a4 := Tryz.isAgg4
 z4 := Tryz.sizeOf4
 v4 := Tryz.zeroValue4
 t9 := Tryz.underlying9
 a9 := Tryz.isAgg9
 z9 := Tryz.sizeOf9
 v9 := Tryz.zeroValue9
 t20 := Tryz.underlying20
 a20 := Tryz.isAgg20
 z20 := Tryz.sizeOf20
 v20 := Tryz.zeroValue20
 t31 := Tryz.underlying29
 a31 := Tryz.isAgg29
 z31 := Tryz.sizeOf29
 v31 := Tryz.zeroValue29
 t37 := Tryz.underlying101
 a37 := Tryz.isAgg101
 z37 := Tryz.sizeOf101
 v37 := Tryz.zeroValue101
 t70 := Tryz.underlying100
 a70 := Tryz.isAgg100
 z70 := Tryz.sizeOf100
 v70 := Tryz.zeroValue100
 t72 := Tryz.underlying103
 a72 := Tryz.isAgg103
 z72 := Tryz.sizeOf103
 v72 := Tryz.zeroValue103
 t75 := Tryz.underlying105
 a75 := Tryz.isAgg105
 z75 := Tryz.sizeOf105
 v75 := Tryz.zeroValue105
 t76 := Tryz.underlying106
 a76 := Tryz.isAgg106
 z76 := Tryz.sizeOf106
 v76 := Tryz.zeroValue106
 t127 := Tryz.underlying178
 a127 := Tryz.isAgg178
 z127 := Tryz.sizeOf178
 v127 := Tryz.zeroValue178
 t164 := Tryz.underlying216
 a164 := Tryz.isAgg216
 z164 := Tryz.sizeOf216
 v164 := Tryz.zeroValue216 }
theorem Tryz.Builder_Extra_156 : Builder.Extra Tryz.prog Tryz.lays156_ren := {
 sizeBuilder := by kernel_rfl
 liesBuilder := by kernel_rfl
 t5 := Tryz.underlying5
 a5 := Tryz.isAgg5
 z5 := Tryz.sizeOf5
 v5 := Tryz.zeroValue5
 infoByte := by kernel_rfl
 cellsByte := by kernel_rfl
 sizeByte := by kernel_rfl
 neB5 := by decide }
open Go.RowKit in
theorem Tryz.strings_Join_none (a : Option Addr) (c : Nat) (sep : ByteArray) (w : World) :
  Calls Tryz.prog 117 #[.slice a 0 c, .string sep] w fun e w' => e = .returned (.string ⟨#[]⟩) ∧ w' = w := Any.strings_Join_none Tryz.lays156 Tryz.Builder_Extra_156 a c sep w
open Go.RowKit in
theorem Tryz.strings_Join (bk o c : Nat) (xs : List ByteArray) (sep : ByteArray) (w : World) (hcells : ∀ (j : Nat) x, xs[j]? = some x → w.cell? ⟨bk, o + j, none⟩ = some (.string x)) (hbk : bk < w.heap.size) (hN : xs.length ≤ 140737488355328) (hcap : xs.length ≤ c) (hlen : (Lib.join (xs.map (·.data.toList)) sep.data.toList).length ≤ 140737488355328) :
  Calls Tryz.prog 117 #[.slice (some ⟨bk, o, none⟩) xs.length c, .string sep] w fun e w' => e = .returned (.string ⟨(Lib.join (xs.map (·.data.toList)) sep.data.toList).toArray⟩) ∧ Below w.heap.size w w' := Any.strings_Join Tryz.lays156 Tryz.Builder_Extra_156 bk o c xs sep w hcells hbk hN hcap hlen
def Tryz.lays103_ren : Go.Shelf.Ren := ⟨fun | 103 => 223 | 210 => 249 | 206 => 250 | n => n, fun | 9 => 9 | 4 => 4 | 24 => 181 | 3 => 3 | n => n, fun | n => n⟩
theorem Tryz.lays103 : Go.Proofs.Lays.n103 Tryz.prog Tryz.lays103_ren := {
 mixed := by kernel_rfl
 f103 := Tryz.func223.trans (congrArg some (by kernel_rfl))
 f206 := Tryz.func250.trans (congrArg some (by kernel_rfl))
 f210 := Tryz.func249.trans (congrArg some (by kernel_rfl))
 t3 := Tryz.underlying3
 a3 := Tryz.isAgg3
 z3 := Tryz.sizeOf3
 v3 := Tryz.zeroValue3
 t4 := Tryz.underlying4
 a4 := Tryz.isAgg4
 z4 := Tryz.sizeOf4
 v4 := Tryz.zeroValue4
 t9 := Tryz.underlying9
 a9 := Tryz.isAgg9
 z9 := Tryz.sizeOf9
 v9 := Tryz.zeroValue9
 t24 := Tryz.underlying181
 a24 := Tryz.isAgg181
 z24 := Tryz.sizeOf181
 v24 := Tryz.zeroValue181 }
open Go.RowKit in
theorem Tryz.strings_CutPrefix (s p : ByteArray) (w : World) :
  Calls Tryz.prog 223 #[.string s, .string p] w fun e w' => e = .returned (.tuple #[.string ⟨(Lib.trimPrefix s.data.toList p.data.toList).toArray⟩, .bool (Lib.hasPrefix s.data.toList p.data.toList)]) ∧ w' = w := Any.strings_CutPrefix Tryz.lays103 s p w
def Tryz.lays104_ren : Go.Shelf.Ren := ⟨fun | 104 => 122 | 211 => 166 | 207 => 202 | n => n, fun | 9 => 9 | 4 => 4 | 24 => 181 | 3 => 3 | n => n, fun | n => n⟩
theorem Tryz.lays104 : Go.Proofs.Lays.n104 Tryz.prog Tryz.lays104_ren := {
 mixed := by kernel_rfl
 f104 := Tryz.func122.trans (congrArg some (by kernel_rfl))
 f207 := Tryz.func202.trans (congrArg some (by kernel_rfl))
 f211 := Tryz.func166.trans (congrArg some (by kernel_rfl))
 t3 := Tryz.underlying3
 a3 := Tryz.isAgg3
 z3 := Tryz.sizeOf3
 v3 := Tryz.zeroValue3
 t4 := Tryz.underlying4
 a4 := Tryz.isAgg4
 z4 := Tryz.sizeOf4
 v4 := Tryz.zeroValue4
 t9 := Tryz.underlying9
 a9 := Tryz.isAgg9
 z9 := Tryz.sizeOf9
 v9 := Tryz.zeroValue9
 t24 := Tryz.underlying181
 a24 := Tryz.isAgg181
 z24 := Tryz.sizeOf181
 v24 := Tryz.zeroValue181 }
open Go.RowKit in
theorem Tryz.strings_CutSuffix (s p : ByteArray) (w : World) (hs : s.size ≤ 9223372036854775807) :
  Calls Tryz.prog 122 #[.string s, .string p] w fun e w' => e = .returned (.tuple #[.string ⟨(Lib.trimSuffix s.data.toList p.data.toList).toArray⟩, .bool (Lib.hasSuffix s.data.toList p.data.toList)]) ∧ w' = w := Any.strings_CutSuffix Tryz.lays104 s p w hs
def Tryz.lays172_ren : Go.Shelf.Ren := ⟨fun | 172 => 185 | 244 => 225 | 245 => 226 | 247 => 251 | 279 => 252 | 280 => 253 | 281 => 254 | 282 => 255 | 287 => 264 | 316 => 265 | 171 => 97 | 205 => 266 | 321 => 268 | 322 => 269 | 243 => 143 | 246 => 182 | 283 => 219 | 284 => 220 | 285 => 221 | 286 => 222 | 129 => 165 | 317 => 245 | 318 => 246 | 319 => 247 | 320 => 248 | 337 => 262 | 338 => 263 | n => n, fun | 9 => 9 | 3 => 3 | 75 => 105 | 76 => 106 | 4 => 4 | 5 => 5 | 167 => 292 | 37 => 101 | 0 => 0 | 85 => 293 | 2 => 2 | 168 => 295 | 53 => 172 | 175 => 301 | 46 => 90 | 210 => 304 | 127 => 178 | 145 => 316 | 143 => 314 | 21 => 21 | 171 => 268 | 173 => 270 | 212 => 290 | 51 => 169 | 20 => 20 | 213 => 291 | 232 => 311 | 233 => 312 | 80 => 31 | n => n, fun | 15 => 2 | 16 => 3 | 17 => 1 | 18 => 6 | 19 => 7 | n => n⟩
theorem Tryz.lays172 : Go.Proofs.Lays.n172 Tryz.prog Tryz.lays172_ren := {
 mixed := by kernel_rfl
 f129 := Tryz.func165.trans (congrArg some (by kernel_rfl))
 f171 := Tryz.func97.trans (congrArg some (by kernel_rfl))
 f172 := Tryz.func185.trans (congrArg some (by kernel_rfl))
 f205 := Tryz.func266.trans (congrArg some (by kernel_rfl))
 f243 := Tryz.func143.trans (congrArg some (by kernel_rfl))
 f244 := Tryz.func225.trans (congrArg some (by kernel_rfl))
 f245 := Tryz.func226.trans (congrArg some (by kernel_rfl))
 f246 := Tryz.func182.trans (congrArg some (by kernel_rfl))
 f247 := Tryz.func251.trans (congrArg some (by kernel_rfl))
 f279 := Tryz.func252.trans (congrArg some (by kernel_rfl))
 f280 := Tryz.func253.trans (congrArg some (by kernel_rfl))
 f281 := Tryz.func254.trans (congrArg some (by kernel_rfl))
 f282 := Tryz.func255.trans (congrArg some (by kernel_rfl))
 f283 := Tryz.func219.trans (congrArg some (by kernel_rfl))
 f284 := Tryz.func220.trans (congrArg some (by kernel_rfl))
 f285 := Tryz.func221.trans (congrArg some (by kernel_rfl))
 f286 := Tryz.func222.trans (congrArg some (by kernel_rfl))
 f287 := Tryz.func264.trans (congrArg some (by kernel_rfl))
 f316 := Tryz.func265.trans (congrArg some (by kernel_rfl))
 f317 := Tryz.func245.trans (congrArg some (by kernel_rfl))
 f318 := Tryz.func246.trans (congrArg some (by kernel_rfl))
 f319 := Tryz.func247.trans (congrArg some (by kernel_rfl))
 f320 := Tryz.func248.trans (congrArg some (by kernel_rfl))
 f321 := Tryz.func268.trans (congrArg some (by kernel_rfl))
 f322 := Tryz.func269.trans (congrArg some (by kernel_rfl))
 f337 := Tryz.func262.trans (congrArg some (by kernel_rfl))
 f338 := Tryz.func263.trans (congrArg some (by kernel_rfl))
 t0 := Tryz.underlying0
 a0 := Tryz.isAgg0
 z0 := Tryz.sizeOf0
 v0 := Tryz.zeroValue0
 t2 := Tryz.underlying2
 a2 := Tryz.isAgg2
 z2 := Tryz.sizeOf2
 v2 := Tryz.zeroValue2
 t3 := Tryz.underlying3
 a3 := Tryz.isAgg3
 z3 := Tryz.sizeOf3
 v3 := Tryz.zeroValue3
 t4 := Tryz.underlying4
 a4 := Tryz.isAgg4
 z4 := Tryz.sizeOf4
 v4 := Tryz.zeroValue4
 t5 := Tryz.underlying5
 a5 := Tryz.isAgg5
 z5 := Tryz.sizeOf5
 v5 := Tryz.zeroValue5
 t9 := Tryz.underlying9
 a9 := Tryz.isAgg9
 z9 := Tryz.sizeOf9
 v9 := Tryz.zeroValue9
 t20 := Tryz.underlying20
 a20 := Tryz.isAgg20
 z20 := Tryz.sizeOf20
 v20 := Tryz.zeroValue20
 t21 := Tryz.underlying21
 a21 := Tryz.isAgg21
 z21 := Tryz.sizeOf21
 v21 := Tryz.zeroValue21
 t37 := Tryz.underlying101
 a37 := Tryz.isAgg101
 z37 := Tryz.sizeOf101
 v37 := Tryz.zeroValue101
 t46 := Tryz.underlying90
 a46 := Tryz.isAgg90
 z46 := Tryz.sizeOf90
 v46 := Tryz.zeroValue90
 t51 := Tryz.underlying169
 a51 := Tryz.isAgg169
 z51 := Tryz.sizeOf169
 v51 := Tryz.zeroValue169
 t53 := Tryz.underlying172
 a53 := Tryz.isAgg172
 z53 := Tryz.sizeOf172
 v53 := Tryz.zeroValue172
 t75 := Tryz.underlying105
 a75 := Tryz.isAgg105
 z75 := Tryz.sizeOf105
 v75 := Tryz.zeroValue105
 t76 := Tryz.underlying106
 a76 := Tryz.isAgg106
 z76 := Tryz.sizeOf106
 v76 := Tryz.zeroValue106
 t85 := Tryz.underlying293
 a85 := Tryz.isAgg293
 z85 := Tryz.sizeOf293
 v85 := Tryz.zeroValue293
 t127 := Tryz.underlying178
 a127 := Tryz.isAgg178
 z127 := Tryz.sizeOf178
 v127 := Tryz.zeroValue178
 t143 := Tryz.underlying314
 a143 := Tryz.isAgg314
 z143 := Tryz.sizeOf314
 v143 := Tryz.zeroValue314
 t145 := Tryz.underlying316
 a145 := Tryz.isAgg316
 z145 := Tryz.sizeOf316
 v145 := Tryz.zeroValue316
 t167 := Tryz.underlying292
 a167 := Tryz.isAgg292
 z167 := Tryz.sizeOf292
 v167 := Tryz.zeroValue292
 t168 := Tryz.underlying295
 a168 := Tryz.isAgg295
 z168 := Tryz.sizeOf295
 v168 := Tryz.zeroValue295
 t171 := Tryz.underlying268
 a171 := Tryz.isAgg268
 z171 := Tryz.sizeOf268
 v171 := Tryz.zeroValue268
 t173 := Tryz.underlying270
 a173 := Tryz.isAgg270
 z173 := Tryz.sizeOf270
 v173 := Tryz.zeroValue270
 t175 := Tryz.underlying301
 a175 := Tryz.isAgg301
 z175 := Tryz.sizeOf301
 v175 := Tryz.zeroValue301
 t210 := Tryz.underlying304
 a210 := Tryz.isAgg304
 z210 := Tryz.sizeOf304
 v210 := Tryz.zeroValue304
 t212 := Tryz.underlying290
 a212 := Tryz.isAgg290
 z212 := Tryz.sizeOf290
 v212 := Tryz.zeroValue290
 t213 := Tryz.underlying291
 a213 := Tryz.isAgg291
 z213 := Tryz.sizeOf291
 t232 := Tryz.underlying311
 a232 := Tryz.isAgg311
 z232 := Tryz.sizeOf311
 v232 := Tryz.zeroValue311
 t233 := Tryz.underlying312
 a233 := Tryz.isAgg312
 z233 := Tryz.sizeOf312
 v233 := Tryz.zeroValue312
 g15 := by kernel_rfl
 g16 := by kernel_rfl
 g17 := by kernel_rfl
 g18 := by kernel_rfl
 g19 := by kernel_rfl }
open Go.RowKit in
theorem Tryz.strconv_Atoi (s : ByteArray) (n : Int) (hl : s.size ≤ 18) (h : Lib.atoi s.data.toList = some n) (w : World) :
  Calls Tryz.prog 185 #[.string s] w fun e w' => e = .returned (.tuple #[.int .i64 n, .nilIface]) ∧ ∃ t, w' = Lib.bytesWorld w 5 t := Any.strconv_Atoi Tryz.lays172 s n hl h w
def Tryz.laysM171_ren : Go.Shelf.Ren := ⟨fun | 171 => 97 | 243 => 143 | 246 => 182 | 283 => 219 | 284 => 220 | 285 => 221 | 286 => 222 | 129 => 165 | 317 => 245 | 318 => 246 | 319 => 247 | 320 => 248 | 337 => 262 | 338 => 263 | n => n, fun | 3 => 3 | 9 => 9 | 2 => 2 | 4 => 4 | 171 => 268 | 0 => 0 | 53 => 172 | 37 => 101 | 5 => 5 | 173 => 270 | 212 => 290 | 51 => 169 | 20 => 20 | 213 => 291 | 46 => 90 | 232 => 311 | 233 => 312 | n => n, fun | 17 => 1 | 18 => 6 | 19 => 7 | n => n⟩
theorem Tryz.laysM171 : Go.Proofs.LaysM.n171 Tryz.prog Tryz.laysM171_ren := {
 mixed := by kernel_rfl
 f129 := Tryz.func165.trans (congrArg some (by kernel_rfl))
 f171 := Tryz.func97.trans (congrArg some (by kernel_rfl))
 f243 := Tryz.func143.trans (congrArg some (by kernel_rfl))
 f246 := Tryz.func182.trans (congrArg some (by kernel_rfl))
 f283 := Tryz.func219.trans (congrArg some (by kernel_rfl))
 f284 := Tryz.func220.trans (congrArg some (by kernel_rfl))
 f285 := Tryz.func221.trans (congrArg some (by kernel_rfl))
 f286 := Tryz.func222.trans (congrArg some (by kernel_rfl))
 f317 := Tryz.func245.trans (congrArg some (by kernel_rfl))
 f318 := Tryz.func246.trans (congrArg some (by kernel_rfl))
 f319 := Tryz.func247.trans (congrArg some (by kernel_rfl))
 f320 := Tryz.func248.trans (congrArg some (by kernel_rfl))
 f337 := Tryz.func262.trans (congrArg some (by kernel_rfl))
 f338 := Tryz.func263.trans (congrArg some (by kernel_rfl))
 t0 := Tryz.underlying0
 a0 := Tryz.isAgg0
 z0 := Tryz.sizeOf0
 v0 := Tryz.zeroValue0
 t2 := Tryz.underlying2
 a2 := Tryz.isAgg2
 z2 := Tryz.sizeOf2
 v2 := Tryz.zeroValue2
 t3 := Tryz.underlying3
 a3 := Tryz.isAgg3
 z3 := Tryz.sizeOf3
 v3 := Tryz.zeroValue3
 t4 := Tryz.underlying4
 a4 := Tryz.isAgg4
 z4 := Tryz.sizeOf4
 v4 := Tryz.zeroValue4
 t5 := Tryz.underlying5
 a5 := Tryz.isAgg5
 z5 := Tryz.sizeOf5
 v5 := Tryz.zeroValue5
 t9 := Tryz.underlying9
 a9 := Tryz.isAgg9
 z9 := Tryz.sizeOf9
 v9 := Tryz.zeroValue9
 t20 := Tryz.underlying20
 a20 := Tryz.isAgg20
 z20 := Tryz.sizeOf20
 v20 := Tryz.zeroValue20
 t37 := Tryz.underlying101
 a37 := Tryz.isAgg101
 z37 := Tryz.sizeOf101
 v37 := Tryz.zeroValue101
 t46 := Tryz.underlying90
 a46 := Tryz.isAgg90
 z46 := Tryz.sizeOf90
 v46 := Tryz.zeroValue90
 t51 := Tryz.underlying169
 a51 := Tryz.isAgg169
 z51 := Tryz.sizeOf169
 v51 := Tryz.zeroValue169
 t53 := Tryz.underlying172
 a53 := Tryz.isAgg172
 z53 := Tryz.sizeOf172
 v53 := Tryz.zeroValue172
 t171 := Tryz.underlying268
 a171 := Tryz.isAgg268
 z171 := Tryz.sizeOf268
 v171 := Tryz.zeroValue268
 t173 := Tryz.underlying270
 a173 := Tryz.isAgg270
 z173 := Tryz.sizeOf270
 v173 := Tryz.zeroValue270
 t212 := Tryz.underlying290
 a212 := Tryz.isAgg290
 z212 := Tryz.sizeOf290
 v212 := Tryz.zeroValue290
 t213 := Tryz.underlying291
 a213 := Tryz.isAgg291
 z213 := Tryz.sizeOf291
 t232 := Tryz.underlying311
 a232 := Tryz.isAgg311
 z232 := Tryz.sizeOf311
 v232 := Tryz.zeroValue311
 t233 := Tryz.underlying312
 a233 := Tryz.isAgg312
 z233 := Tryz.sizeOf312
 v233 := Tryz.zeroValue312
 g17 := by kernel_rfl
 g18 := by kernel_rfl
 g19 := by kernel_rfl
 i0 := by kernel_rfl
 i2 := by kernel_rfl
 i3 := by kernel_rfl
 i4 := by kernel_rfl
 i5 := by kernel_rfl
 i9 := by kernel_rfl
 i20 := by kernel_rfl
 i37 := by kernel_rfl
 i46 := by kernel_rfl
 i51 := by kernel_rfl
 i53 := by kernel_rfl
 i171 := by kernel_rfl
 i173 := by kernel_rfl
 i212 := by kernel_rfl
 i232 := by kernel_rfl
 i233 := by kernel_rfl
 m17 := by kernel_rfl
 m18 := by kernel_rfl
 m19 := by kernel_rfl }
open Go.RowKit Go.Sort Go.Lib in
theorem Tryz.strconv_Itoa (n : Int) (h0 : -9223372036854775808 ≤ n) (h1 : n ≤ 9223372036854775807) (w : World) (htab : Lib.TabIs Tryz.prog w "internal/strconv.uint64pow10" .u64 Lib.pow10Tab) :
  Calls Tryz.prog 97 #[.int .i64 n] w fun e w' => e = .returned (.string ⟨(Lib.itoa n).toArray⟩) ∧ ∃ k os, w' = grow (w.drewN k) os := Any.strconv_Itoa Tryz.laysM171 n h0 h1 w htab
def Tryz.lays143_ren : Go.Shelf.Ren := ⟨fun | 143 => 124 | 219 => 168 | 217 => 187 | 225 => 205 | 224 => 206 | 267 => 207 | 266 => 227 | 314 => 236 | n => n, fun | 9 => 9 | 3 => 3 | 4 => 4 | 5 => 5 | 46 => 90 | 146 => 170 | 51 => 169 | n => n, fun | 1 => 0 | n => n⟩
theorem Tryz.lays143 : Go.Proofs.Lays.n143 Tryz.prog Tryz.lays143_ren := {
 mixed := by kernel_rfl
 f143 := Tryz.func124.trans (congrArg some (by kernel_rfl))
 f217 := Tryz.func187.trans (congrArg some (by kernel_rfl))
 f219 := Tryz.func168.trans (congrArg some (by kernel_rfl))
 f224 := Tryz.func206.trans (congrArg some (by kernel_rfl))
 f225 := Tryz.func205.trans (congrArg some (by kernel_rfl))
 f266 := Tryz.func227.trans (congrArg some (by kernel_rfl))
 f267 := Tryz.func207.trans (congrArg some (by kernel_rfl))
 f314 := Tryz.func236.trans (congrArg some (by kernel_rfl))
 t3 := Tryz.underlying3
 a3 := Tryz.isAgg3
 z3 := Tryz.sizeOf3
 v3 := Tryz.zeroValue3
 t4 := Tryz.underlying4
 a4 := Tryz.isAgg4
 z4 := Tryz.sizeOf4
 v4 := Tryz.zeroValue4
 t5 := Tryz.underlying5
 a5 := Tryz.isAgg5
 z5 := Tryz.sizeOf5
 v5 := Tryz.zeroValue5
 t9 := Tryz.underlying9
 a9 := Tryz.isAgg9
 z9 := Tryz.sizeOf9
 v9 := Tryz.zeroValue9
 t46 := Tryz.underlying90
 a46 := Tryz.isAgg90
 z46 := Tryz.sizeOf90
 v46 := Tryz.zeroValue90
 t51 := Tryz.underlying169
 a51 := Tryz.isAgg169
 z51 := Tryz.sizeOf169
 v51 := Tryz.zeroValue169
 t146 := Tryz.underlying170
 a146 := Tryz.isAgg170
 z146 := Tryz.sizeOf170
 v146 := Tryz.zeroValue170
 g1 := by kernel_rfl }
open Go.RowKit Go.Lib in
theorem Tryz.strings_Index_one (s : ByteArray) (c : UInt8) (w : World) :
  Calls Tryz.prog 124 #[.string s, .string ⟨#[c]⟩] w fun e w' => e = .returned (.int .i64 (Lib.indexByte s.data.toList c)) ∧ w' = w := Any.strings_Index_one Tryz.lays143 s c w
def Tryz.lays138_ren : Go.Shelf.Ren := ⟨fun | 138 => 204 | 195 => 234 | 218 => 235 | 143 => 124 | 219 => 168 | 217 => 187 | 225 => 205 | 224 => 206 | 267 => 207 | 266 => 227 | 314 => 236 | n => n, fun | 9 => 9 | 3 => 3 | 4 => 4 | 5 => 5 | 0 => 0 | 46 => 90 | 146 => 170 | 51 => 169 | n => n, fun | 1 => 0 | n => n⟩
theorem Tryz.lays138 : Go.Proofs.Lays.n138 Tryz.prog Tryz.lays138_ren := {
 mixed := by kernel_rfl
 f138 := Tryz.func204.trans (congrArg some (by kernel_rfl))
 f143 := Tryz.func124.trans (congrArg some (by kernel_rfl))
 f195 := Tryz.func234.trans (congrArg some (by kernel_rfl))
 f217 := Tryz.func187.trans (congrArg some (by kernel_rfl))
 f218 := Tryz.func235.trans (congrArg some (by kernel_rfl))
 f219 := Tryz.func168.trans (congrArg some (by kernel_rfl))
 f224 := Tryz.func206.trans (congrArg some (by kernel_rfl))
 f225 := Tryz.func205.trans (congrArg some (by kernel_rfl))
 f266 := Tryz.func227.trans (congrArg some (by kernel_rfl))
 f267 := Tryz.func207.trans (congrArg some (by kernel_rfl))
 f314 := Tryz.func236.trans (congrArg some (by kernel_rfl))
 t0 := Tryz.underlying0
 a0 := Tryz.isAgg0
 z0 := Tryz.sizeOf0
 v0 := Tryz.zeroValue0
 t3 := Tryz.underlying3
 a3 := Tryz.isAgg3
 z3 := Tryz.sizeOf3
 v3 := Tryz.zeroValue3
 t4 := Tryz.underlying4
 a4 := Tryz.isAgg4
 z4 := Tryz.sizeOf4
 v4 := Tryz.zeroValue4
 t5 := Tryz.underlying5
 a5 := Tryz.isAgg5
 z5 := Tryz.sizeOf5
 v5 := Tryz.zeroValue5
 t9 := Tryz.underlying9
 a9 := Tryz.isAgg9
 z9 := Tryz.sizeOf9
 v9 := Tryz.zeroValue9
 t46 := Tryz.underlying90
 a46 := Tryz.isAgg90
 z46 := Tryz.sizeOf90
 v46 := Tryz.zeroValue90
 t51 := Tryz.underlying169
 a51 := Tryz.isAgg169
 z51 := Tryz.sizeOf169
 v51 := Tryz.zeroValue169
 t146 := Tryz.underlying170
 a146 := Tryz.isAgg170
 z146 := Tryz.sizeOf170
 v146 := Tryz.zeroValue170
 g1 := by kernel_rfl }
open Go.RowKit Go.Lib in
theorem Tryz.strings_Count_one (s : ByteArray) (c : UInt8) (w : World) :
  Calls Tryz.prog 204 #[.string s, .string ⟨#[c]⟩] w fun e w' => e = .returned (.int .i64 (Lib.countByte s.data.toList c)) ∧ w' = w := Any.strings_Count_one Tryz.lays138 s c w
end Go.Proofs
namespace Go.Proofs.YtbbgjeiefmiblaaGreatDoor
open Go.RowKit
set_option linter.unusedVariables false
set_option linter.unusedSimpArgs false
def splitL (c : UInt8) : List UInt8 → List (List UInt8)
 | [] => [[]]
 | b :: l => if b = c then [] :: splitL c l else match splitL c l with
  | [] => [[b]]
  | h :: t => (b :: h) :: t
theorem splitL_ne (c : UInt8) : ∀ l, splitL c l ≠ []
 | [] => by simp [splitL]
 | b :: l => by
  unfold splitL
  split
  ·simp
  ·split <;> simp
theorem splitL_len (c : UInt8) : ∀ l, (splitL c l).length = Lib.countByte l c + 1
 | [] => by simp [splitL, Lib.countByte]
 | b :: l => by
  have ih := splitL_len c l
  unfold Lib.countByte at *
  rw [splitL]
  split
  ·rename_i h; subst h; rw [List.length_cons, ih]; simp
  ·rename_i h
   rw [List.count_cons_of_ne (by simpa using h)]
   have hne := splitL_ne c l
   split
   ·rename_i e; exact absurd e hne
   ·rename_i h' t e; rw [e] at ih; simpa using ih
theorem index_none {c : UInt8} : ∀ {l : List UInt8}, Lib.indexByte l c < 0 → splitL c l = [l]
 | [], _ => rfl
 | b :: l, h => by
  unfold Lib.indexByte at h
  by_cases hb : b = c
  ·subst hb; simp at h
  ·have hb' : (b == c) = false := by simpa using hb
   rw [hb'] at h
   have hge := Lib.indexByte_ge l c
   have h1 : Lib.indexByte l c < 0 := by
    by_cases e : Lib.indexByte l c = -1
    ·omega
    ·have : (Lib.indexByte l c == -1) = false := by simpa using e
     rw [this] at h
     simp at h
     omega
   rw [splitL, if_neg hb, index_none h1]
theorem index_some {c : UInt8} : ∀ {l : List UInt8} {m : Nat}, Lib.indexByte l c = m → m < l.length ∧ splitL c l = l.take m :: splitL c (l.drop (m + 1))
 | [], m, h => by simp [Lib.indexByte] at h
 | b :: l, m, h => by
  unfold Lib.indexByte at h
  by_cases hb : b = c
  ·subst hb
   simp at h
   obtain rfl : m = 0 := by omega
   exact ⟨by simp, by simp [splitL]⟩
  ·have hb' : (b == c) = false := by simpa using hb
   rw [hb'] at h
   have hge := Lib.indexByte_ge l c
   by_cases e : Lib.indexByte l c = -1
   ·have e2 : (Lib.indexByte l c == -1) = true := by simpa using e
    rw [e2] at h
    simp at h
   ·have e2 : (Lib.indexByte l c == -1) = false := by simpa using e
    rw [e2] at h
    simp only [Bool.false_eq_true, if_false] at h
    obtain ⟨k, rfl⟩ : ∃ k, m = k + 1 := ⟨m - 1, by omega⟩
    obtain ⟨h1, h2⟩ := index_some (c := c) (l := l) (m := k) (by omega)
    refine ⟨by simp; omega, ?_⟩
    rw [splitL, if_neg hb, h2]
    simp
abbrev byL (p : ByteArray) : List UInt8 := p.data.toList
theorem byL_len (p : ByteArray) : (byL p).length = p.size := lenB p
theorem bytesOf_byL (p : ByteArray) : bytesOf (byL p) = p := by simp [bytesOf, byL]
theorem byL_extract (p : ByteArray) (l h : Nat) : byL (p.extract l h) = ((byL p).drop l).take (h - l) := by
 simp [byL, ByteArray.data_extract, Array.toList_extract, List.extract_eq_take_drop]
def splitS (c : UInt8) (p : ByteArray) : List ByteArray := (splitL c (byL p)).map bytesOf
theorem splitS_len (c : UInt8) (p : ByteArray) : (splitS c p).length = Lib.countByte (byL p) c + 1 := by rw [splitS, List.length_map, splitL_len]
theorem splitS_none {c : UInt8} {p : ByteArray} (h : Lib.indexByte (byL p) c < 0) : splitS c p = [p] := by rw [splitS, index_none h]; simp [bytesOf]
theorem splitS_some {c : UInt8} {p : ByteArray} {m : Nat} (h : Lib.indexByte (byL p) c = m) : m < p.size ∧ splitS c p = p.extract 0 m :: splitS c (p.extract (m + 1) p.size) := by
 obtain ⟨h1, h2⟩ := index_some h
 rw [byL_len] at h1
 refine ⟨h1, ?_⟩
 have e1 : p.extract 0 m = bytesOf ((byL p).take m) := by rw [← bytesOf_byL (p.extract 0 m), byL_extract]; simp
 have e2 : byL (p.extract (m + 1) p.size) = (byL p).drop (m + 1) := by
  rw [byL_extract, List.take_of_length_le (by rw [List.length_drop, byL_len]; omega)]
 rw [splitS, h2, List.map_cons, e1, splitS, e2]
theorem getD_drop {ps : List ByteArray} {i : Nat} {x : ByteArray} {t : List ByteArray} (h : ps.drop i = x :: t) : i < ps.length ∧ ps.getD i ByteArray.empty = x ∧ ps.drop (i + 1) = t := by
 have hi : i < ps.length := by
  have := congrArg List.length h
  rw [List.length_drop, List.length_cons] at this; omega
 rw [List.drop_eq_getElem_cons hi] at h
 obtain ⟨h1, h2⟩ := List.cons.inj h
 exact ⟨hi, by rw [List.getD_eq_getElem?_getD, List.getElem?_eq_getElem hi]; exact h1, h2⟩
theorem split_next {ps : List ByteArray} {c : UInt8} {r : ByteArray} {i m : Nat} (h : ps.drop i = splitS c r) (hm : Lib.indexByte (byL r) c = m) : m < r.size ∧ ps.getD i ByteArray.empty = r.extract 0 m ∧ ps.drop (i + 1) = splitS c (r.extract (m + 1) r.size) := by
 obtain ⟨h1, h2⟩ := splitS_some hm
 rw [h2] at h
 exact ⟨h1, (getD_drop h).2⟩
theorem split_last {ps : List ByteArray} {c : UInt8} {r : ByteArray} {i : Nat} (h : ps.drop i = splitS c r) (hl : ps.length = i + 1) : ps.getD i ByteArray.empty = r := by
 have hn : Lib.indexByte (byL r) c < 0 := by
  by_cases h0 : Lib.indexByte (byL r) c < 0
  ·exact h0
  ·obtain ⟨m, hm⟩ : ∃ m : Nat, Lib.indexByte (byL r) c = m := ⟨_, (Int.toNat_of_nonneg (by omega)).symm⟩
   have h3 := congrArg List.length h
   rw [(splitS_some hm).2, List.length_drop, List.length_cons, splitS_len] at h3
   omega
 rw [splitS_none hn] at h
 exact (getD_drop h).2.1
def partS (ps : List ByteArray) (i : Nat) : List ByteArray := ps.take i ++ List.replicate (ps.length - i) ⟨#[]⟩
theorem partS_len (ps : List ByteArray) {i : Nat} (h : i ≤ ps.length) : (partS ps i).length = ps.length := by simp [partS]; omega
theorem partS_0 (ps : List ByteArray) : partS ps 0 = List.replicate ps.length ⟨#[]⟩ := by simp [partS]
theorem partS_all (ps : List ByteArray) : partS ps ps.length = ps := by simp [partS]
theorem partS_set {ps : List ByteArray} {i : Nat} {x : ByteArray} (h : i < ps.length) (hx : ps.getD i ByteArray.empty = x) : (partS ps i).set i x = partS ps (i + 1) := by
 rw [List.getD_eq_getElem?_getD, List.getElem?_eq_getElem h] at hx
 simp at hx
 unfold partS
 obtain ⟨k, hk⟩ : ∃ k, ps.length - i = k + 1 := ⟨ps.length - i - 1, by omega⟩
 rw [hk, show ps.length - (i + 1) = k by omega, List.replicate_succ, List.take_add_one, List.getElem?_eq_getElem h, List.set_append]
 have hl : (ps.take i).length = i := by simp; omega
 rw [if_neg (by omega), hl, Nat.sub_self]
 simp [hx]
end Go.Proofs.YtbbgjeiefmiblaaGreatDoor
namespace Go.Proofs.YtbbgjeiefmiblaaGreatDoor
open Go.RowKit
set_option linter.unusedVariables false
set_option linter.unusedSimpArgs false

theorem bl_irr : ∀ x : List UInt8, Op.bytesLess x x = false
 | [] => rfl
 | a :: x => by
  rw [Op.bytesLess, bl_irr x]
  have : ¬ a < a := by rw [UInt8.lt_iff_toNat_lt]; omega
  simp [this]
theorem bl_trans : ∀ {x y z : List UInt8}, Op.bytesLess x y = true → Op.bytesLess y z = true → Op.bytesLess x z = true
 | _, [], _, h, _ => by simp [Op.bytesLess] at h
 | _, _ :: _, [], _, h => by simp [Op.bytesLess] at h
 | [], _ :: _, _ :: _, _, _ => rfl
 | a :: x, b :: y, c :: z, h1, h2 => by
  simp only [Op.bytesLess, Bool.or_eq_true, decide_eq_true_eq, Bool.and_eq_true, beq_iff_eq, UInt8.lt_iff_toNat_lt] at h1 h2 ⊢
  rcases h1 with h1 | ⟨rfl, h1⟩
  ·rcases h2 with h2 | ⟨rfl, h2⟩
   ·exact .inl (by omega)
   ·exact .inl h1
  ·rcases h2 with h2 | ⟨rfl, h2⟩
   ·exact .inl h2
   ·exact .inr ⟨rfl, bl_trans h1 h2⟩
theorem bl_total : ∀ {x y : List UInt8}, Op.bytesLess x y = false → x ≠ y → Op.bytesLess y x = true
 | [], [], _, h => absurd rfl h
 | _ :: _, [], _, _ => rfl
 | [], _ :: _, h, _ => by simp [Op.bytesLess] at h
 | a :: x, b :: y, h, hne => by
  simp only [Op.bytesLess, Bool.or_eq_false_iff, decide_eq_false_iff_not, Bool.and_eq_false_iff, beq_eq_false_iff_ne, UInt8.lt_iff_toNat_lt, Bool.or_eq_true, decide_eq_true_eq, Bool.and_eq_true, beq_iff_eq] at h ⊢
  by_cases hab : a = b
  ·subst hab
   have h2 : Op.bytesLess x y = false := by rcases h.2 with h2 | h2; exact absurd rfl h2; exact h2
   exact .inr ⟨rfl, bl_total h2 fun e => hne (by rw [e])⟩
  ·left
   have : a.toNat ≠ b.toNat := fun e => hab (UInt8.toNat_inj.1 e)
   omega
theorem sLt_irr (p : ByteArray) : sLt p p = false := bl_irr _
theorem sLt_trans {p q r : ByteArray} (h1 : sLt p q = true) (h2 : sLt q r = true) : sLt p r = true := bl_trans h1 h2
theorem sLt_of_not {p q : ByteArray} (h : sLe p q = false) : sLt q p = true := by
 unfold sLe at h
 rw [Bool.or_eq_false_iff] at h
 refine bl_total h.1 fun e => ?_
 have : sEq p q = true := by unfold sEq; rw [e]; simp
 rw [this] at h; cases h.2
theorem sEq_refl (p : ByteArray) : sEq p p = true := sEq_eq.2 rfl
def SortS (l : List ByteArray) : Prop := ∀ a b, a < b → b < l.length → sLt (l.getD a ByteArray.empty) (l.getD b ByteArray.empty) = true
section
variable {xs : List ByteArray} {v : ByteArray} {i : Nat}
end

end Go.Proofs.YtbbgjeiefmiblaaGreatDoor
namespace Go.Proofs.YtbbgjeiefmiblaaGreatDoor
open Go.RowKit
set_option linter.unusedVariables false
set_option linter.unusedSimpArgs false
section
variable {P : Program} {s : St'}
theorem ResN.boxS {t i n g cap : Nat} {xs : List ByteArray} {ty : TypeId} {tot : Nat} (h : look s.sl t = some (.v (.slice (some ⟨g, 0, none⟩) n cap))) (hi : s.hp[i]? = some (.box g ⟨strsL xs, ty, tot⟩)) (hn : n = xs.length) (hcap : n ≤ cap) (hm : cap ≤ maxLen) : ResN P s (.tmp t) (avStrs xs) :=
 ResN.box h hi (by show n * 1 ≤ (strsL xs).length; rw [strsL_len]; omega) hcap hm (flat_strs xs) fun w Z u h => Rep.strs hn h
end
theorem strings_Index_S {s : ByteArray} {c : UInt8} : SpecN Tryz.prog 124 [avS s, avS ⟨#[c]⟩] (fun y => y = avI (Lib.indexByte (byL s) c)) := by
 intro w us ha
 rw [argsV2 ha]
 refine (Tryz.strings_Index_one s c w).mono ?_
 rintro e w' ⟨rfl, rfl⟩
 exact ⟨_, _, rfl, rfl, .v _, Chg.refl _ _, trivial⟩
theorem strings_Count_S {s : ByteArray} {c : UInt8} : SpecN Tryz.prog 204 [avS s, avS ⟨#[c]⟩] (fun y => y = avI (Lib.countByte (byL s) c : Int)) := by
 intro w us ha
 rw [argsV2 ha]
 refine (Tryz.strings_Count_one s c w).mono ?_
 rintro e w' ⟨rfl, rfl⟩
 exact ⟨_, _, rfl, rfl, .v _, Chg.refl _ _, trivial⟩



set_option maxRecDepth 100000 in
set_option maxHeartbeats 4000000 in
theorem strings_genSplit {s : ByteArray} {c : UInt8} (hs : s.size ≤ 100000000) :
  SpecN Tryz.prog 167 [avS s, avS ⟨#[c]⟩, avI 0, avI (-1)] (fun y => y = avStrs (splitS c s)) := by
 refine SpecN.of_VCN Tryz.func167 rfl Tryz.ntmps167 (Nle rfl) fun w A hB => ?_
 have hnew : True := trivial
 refine VC.seq ?_
 obtain ⟨ps, hps⟩ : ∃ ps, splitS c s = ps := ⟨_, rfl⟩
 have hpl : ps.length = Lib.countByte (byL s) c + 1 := by rw [← hps, splitS_len]
 have hcl : Lib.countByte (byL s) c ≤ s.size := by rw [← byL_len]; exact List.count_le_length
 have hc1 : (⟨#[c]⟩ : ByteArray).size = 1 := rfl
 refine VC.region ?_
 refine VO.ma rfl rfl rfl rfl ?_
 refine VO.nil ?_
 refine VC.seq ?_
 refine VC.sr ?_
 refine VO.mv rfl rfl rfl rfl ?_
 refine VO.val rfl rfl (OpV.eql rfl rfl rfl) ?_
 refine VO.nil ?_
 refine VC.condF rfl rfl ?_
 refine VC.skip ?_
 refine VC.seq ?_
 refine VC.sr ?_
 refine VO.mv rfl rfl rfl rfl ?_
 refine VO.val rfl rfl (OpV.seql rfl rfl rfl) ?_
 refine VO.le _ (Le.recast (t := 15) (y := avB false) rfl (fun w Z u h => by rw [sEq_empty] at h; exact h)) ?_
 refine VO.nil ?_
 refine VC.condF rfl rfl ?_
 refine VC.skip ?_
 refine VC.seq ?_
 refine VC.sr ?_
 refine VO.mv rfl rfl rfl rfl ?_
 refine VO.val rfl rfl (OpV.lss rfl rfl rfl) ?_
 refine VO.nil ?_
 refine VC.condT rfl rfl ?_
 refine VC.region ?_
 refine VO.mv rfl rfl rfl rfl ?_
 refine VO.mv rfl rfl rfl rfl ?_
 refine VO.op rfl (OpE.call rfl hB rfl Tryz.call204 rfl (SpecN.spec (strings_Count_S)) ?_)
 rintro _ rfl
 refine VO.val rfl rfl (OpV.add rfl rfl rfl (by unfold fits; omega)) ?_
 refine VO.ma rfl rfl rfl rfl ?_
 refine VO.nil ?_
 refine VC.sr ?_
 refine VO.mv rfl rfl rfl rfl ?_
 refine VO.mv rfl rfl rfl rfl ?_
 refine VO.val rfl rfl (OpV.len_s rfl Tryz.underlying9 rfl) ?_
 refine VO.val rfl rfl (OpV.add rfl rfl rfl (by unfold fits; omega)) ?_
 refine VO.val rfl rfl (OpV.min2 rfl rfl rfl) ?_
 refine VO.ma rfl rfl rfl rfl ?_
 refine VO.nil ?_
 refine VC.sr ?_
 refine VO.mv rfl rfl rfl rfl ?_
 refine VO.op rfl (OpE.make rfl hB rfl Tryz.underlying29 (infoOf Tryz.t9 1 (by kernel_rfl) rfl rfl) (by decide) rfl rfl (n := ps.length) (by omega) (by omega) (by omega) (made_strs _ _) ?_)
 intro g31
 refine VO.ma rfl rfl rfl rfl ?_
 refine VO.nil ?_
 refine VC.sr ?_
 refine VO.mv rfl rfl rfl rfl ?_
 refine VO.val rfl rfl (OpV.sub rfl rfl rfl (by unfold fits; omega)) ?_
 refine VO.ma rfl rfl rfl rfl ?_
 refine VO.nil ?_
 refine VC.sr ?_
 refine VO.ma rfl rfl rfl rfl ?_
 refine VO.nil ?_
 refine VC.seq ?_
 refine VC.block ?_
 refine VC.loopK [(1, _), (2, _), (3, _), (9, _)] ⟨rfl, rfl, rfl, rfl, trivial⟩ ({z : ByteArray × Nat // z.2 < ps.length ∧ ps.drop z.2 = splitS c z.1 ∧ z.1.size ≤ s.size}) (fun (iZ : {z : ByteArray × Nat // z.2 < ps.length ∧ ps.drop z.2 = splitS c z.1 ∧ z.1.size ≤ s.size}) => match iZ with | ⟨⟨r, i⟩, hi, hr, hrs⟩ => [(0, avS r), (10, avI (i : Int))]) (fun (iZ : {z : ByteArray × Nat // z.2 < ps.length ∧ ps.drop z.2 = splitS c z.1 ∧ z.1.size ≤ s.size}) => match iZ with | ⟨⟨r, i⟩, hi, hr, hrs⟩ => [.box g31 ⟨strsL (partS ps i), 9, (strsL (List.replicate ps.length (⟨#[]⟩ : ByteArray))).length⟩]) (fun (iZ : {z : ByteArray × Nat // z.2 < ps.length ∧ ps.drop z.2 = splitS c z.1 ∧ z.1.size ≤ s.size}) => match iZ with | ⟨⟨r, i⟩, hi, hr, hrs⟩ => 0) (fun (iZ : {z : ByteArray × Nat // z.2 < ps.length ∧ ps.drop z.2 = splitS c z.1 ∧ z.1.size ≤ s.size}) => match iZ with | ⟨⟨r, i⟩, hi, hr, hrs⟩ => ps.length - i) ⟨(s, 0), by show 0 < _; omega, by show ps.drop 0 = splitS c s; rw [hps, List.drop_zero], Nat.le_refl _⟩ (Le.mk hB [0] ⟨rfl, rfl, rfl, rfl, rfl, rfl, trivial⟩ rfl (congrArg (fun z => [Ent.box g31 ⟨strsL z, 9, (strsL (List.replicate ps.length (⟨#[]⟩ : ByteArray))).length⟩]) (partS_0 ps).symm) (Nat.le_refl _)) ?_
 rintro ⟨⟨r, i⟩, hi, hr, hrs⟩
 show VC _ _ _ _ ⟨[(0, avS r), (10, avI (i : Int))] ++ [(1, _), (2, _), (3, _), (9, _)], [.box g31 ⟨strsL (partS ps i), 9, (strsL (List.replicate ps.length (⟨#[]⟩ : ByteArray))).length⟩], 0⟩
 simp only at hi hr hrs
 have hrl : ps.length - i = Lib.countByte (byL r) c + 1 := by rw [← splitS_len, ← hr, List.length_drop]
 refine VC.seq ?_
 refine VC.sr ?_
 refine VO.mv rfl rfl rfl rfl ?_
 refine VO.mv rfl rfl rfl rfl ?_
 refine VO.val rfl rfl (OpV.lss rfl rfl rfl) ?_
 refine VO.nil ?_
 refine VC.cond rfl (fun aH1b => ?_) (fun aH1b => ?_)
 ·have aH1 := aH1b
  try simp only [qqT, qqF, qqN, qqM, qqL, qqE] at aH1
  refine VC.skip ?_
  refine VC.block ?_
  refine VC.sr ?_
  refine VO.mv rfl rfl rfl rfl ?_
  refine VO.mv rfl rfl rfl rfl ?_
  refine VO.op rfl (OpE.call rfl hB rfl Tryz.call124 rfl (SpecN.spec (strings_Index_S)) ?_)
  rintro _ rfl
  refine VO.ma rfl rfl rfl rfl ?_
  refine VO.nil ?_
  refine VC.seq ?_
  refine VC.sr ?_
  refine VO.mv rfl rfl rfl rfl ?_
  refine VO.val rfl rfl (OpV.lss rfl rfl rfl) ?_
  refine VO.nil ?_
  refine VC.cond rfl (fun h4b => ?_) (fun h4b => ?_)
  ·have h4 := h4b
   try simp only [qqT, qqF, qqN, qqM, qqL, qqE] at h4
   exact VC.absurd (by have := splitS_none h4; have h5 := congrArg List.length this; rw [splitS_len, ← hrl] at h5; simp at h5; omega)
  ·have h4 := h4b
   try simp only [qqT, qqF, qqN, qqM, qqL, qqE] at h4
   obtain ⟨m, hm⟩ : ∃ m : Nat, Lib.indexByte (byL r) c = m := ⟨(Lib.indexByte (byL r) c).toNat, by omega⟩
   obtain ⟨hm1, hm3, hr2⟩ := split_next hr hm
   refine VC.skip ?_
   refine VC.sr ?_
   refine VO.mv rfl rfl rfl rfl ?_
   refine VO.mv rfl rfl rfl rfl ?_
   refine VO.mv rfl rfl rfl rfl ?_
   refine VO.mv rfl rfl rfl rfl ?_
   refine VO.mv rfl rfl rfl rfl ?_
   refine VO.val rfl rfl (OpV.add rfl rfl rfl (by unfold fits; omega)) ?_
   refine VO.val rfl rfl (OpV.slice_s (h := m) rfl Tryz.underlying9 rfl rfl ⟨_, _, rfl, by omega⟩ (by omega) (by omega)) ?_
   refine VO.val rfl rfl (OpV.indexAddr_o rfl Tryz.underlying29 Tryz.sizeOf9 rfl rfl rfl (by omega)) ?_
   refine VO.op rfl (OpE.store1 (i := 0) rfl hB rfl Tryz.sizeOf9 rfl rfl rfl rfl rfl rfl (by rw [strsL_len, partS_len _ (by omega)]; exact hi) ((strsL_set _ _ _).trans (congrArg strsL (partS_set hi hm3))) trivial ?_)
   refine VO.nil ?_
   refine VC.sr ?_
   refine VO.mv rfl rfl rfl rfl ?_
   refine VO.mv rfl rfl rfl rfl ?_
   refine VO.mv rfl rfl rfl rfl ?_
   refine VO.val rfl rfl (OpV.len_s rfl Tryz.underlying9 rfl) ?_
   refine VO.val rfl rfl (OpV.add rfl rfl rfl (by unfold fits; omega)) ?_
   refine VO.val rfl rfl (OpV.slice_s (l := m + 1) rfl Tryz.underlying9 rfl ⟨_, _, rfl, by omega⟩ rfl (by omega) (by omega)) ?_
   refine VO.ma rfl rfl rfl rfl ?_
   refine VO.nil ?_
   refine VC.region ?_
   refine VO.mv rfl rfl rfl rfl ?_
   refine VO.val rfl rfl (OpV.add rfl rfl rfl (by unfold fits; omega)) ?_
   refine VO.ma rfl rfl rfl rfl ?_
   refine VO.nil ?_
   exact Exists.intro (⟨(r.extract (m + 1) r.size, i + 1), by show i + 1 < _; omega, hr2, by show (r.extract (m + 1) r.size).size ≤ _; rw [ByteArray.size_extract]; omega⟩) (And.intro (Le.mk hB [0] ⟨rfl, rfl, rfl, rfl, rfl, rfl, trivial⟩ rfl rfl (Nat.le_refl _)) (by first | omega | (show _ < _; omega) | (simp only []; omega)))
 ·have aH1 := aH1b
  try simp only [qqT, qqF, qqN, qqM, qqL, qqE] at aH1
  have hl1 : ps.length = i + 1 := by omega
  have hlast := split_last hr hl1
  refine VC.exit ?_
  refine VC.sr ?_
  refine VO.mv rfl rfl rfl rfl ?_
  refine VO.mv rfl rfl rfl rfl ?_
  refine VO.mv rfl rfl rfl rfl ?_
  refine VO.val rfl rfl (OpV.indexAddr_o rfl Tryz.underlying29 Tryz.sizeOf9 rfl rfl rfl (by omega)) ?_
  refine VO.op rfl (OpE.store1 (i := 0) rfl hB rfl Tryz.sizeOf9 rfl rfl rfl rfl rfl rfl (by rw [strsL_len, partS_len _ (by omega)]; exact hi) ((strsL_set _ _ _).trans (congrArg strsL (partS_set hi hlast))) trivial ?_)
  refine VO.nil ?_
  refine VC.sr ?_
  refine VO.mv rfl rfl rfl rfl ?_
  refine VO.mv rfl rfl rfl rfl ?_
  refine VO.val rfl rfl (OpV.add rfl rfl rfl (by unfold fits; omega)) ?_
  refine VO.val rfl rfl (OpV.slice_own (h := i + 1) rfl Tryz.underlying29 Tryz.sizeOf9 rfl rfl ⟨_, _, rfl, by omega⟩ (by omega) (by omega) (by omega)) ?_
  refine VO.ma rfl rfl rfl rfl ?_
  refine VO.nil ?_
  refine VC.ret ?_
  exact Exists.intro _ (And.intro (RetN.one Tryz.results167 (ResN.boxS (i := 0) (xs := partS ps (i + 1)) rfl rfl (by rw [partS_len _ (by omega)]; omega) (by omega) (capM (by omega)))) (by rw [hps, ← hl1, partS_all]))
end Go.Proofs.YtbbgjeiefmiblaaGreatDoor
namespace Go.Proofs.YtbbgjeiefmiblaaGreatDoor
open Go.RowKit
set_option linter.unusedVariables false
set_option linter.unusedSimpArgs false

set_option maxRecDepth 100000 in
theorem slices_Index_str {xs : List ByteArray} {v : ByteArray} (hl : xs.length ≤ 1000000000) :
  SpecN Tryz.prog 109 [avStrs xs, avS v] (fun y => y = avI (fidx (fun x => sEq v x) xs)) := by
 refine SpecN.of_VCN Tryz.func109 rfl Tryz.ntmps109 (Nle rfl) fun w A hB => ?_
 have hnew : True := trivial
 refine VC.sr ?_
 refine VO.ma rfl rfl rfl rfl ?_
 refine VO.nil ?_
 refine VC.seq ?_
 refine VC.sr ?_
 refine VO.mv rfl rfl rfl rfl ?_
 refine VO.val rfl rfl (OpV.len_im rfl Tryz.underlying29 rfl) ?_
 refine VO.mv rfl rfl rfl rfl ?_
 refine VO.nil ?_
 refine VC.block ?_
 refine VC.loopK [] trivial ({q : Nat // q ≤ xs.length ∧ ∀ j, j < q → sEq v (xs.getD j ByteArray.empty) = false}) (fun (iZ : {q : Nat // q ≤ xs.length ∧ ∀ j, j < q → sEq v (xs.getD j ByteArray.empty) = false}) => match iZ with | ⟨q, hq, hn⟩ => [(0, avStrs xs), (1, avS v), (6, avStrs xs), (7, avI xs.length), (8, avI (q : Int))]) (fun (iZ : {q : Nat // q ≤ xs.length ∧ ∀ j, j < q → sEq v (xs.getD j ByteArray.empty) = false}) => match iZ with | ⟨q, hq, hn⟩ => []) (fun (iZ : {q : Nat // q ≤ xs.length ∧ ∀ j, j < q → sEq v (xs.getD j ByteArray.empty) = false}) => match iZ with | ⟨q, hq, hn⟩ => 0) (fun (iZ : {q : Nat // q ≤ xs.length ∧ ∀ j, j < q → sEq v (xs.getD j ByteArray.empty) = false}) => match iZ with | ⟨q, hq, hn⟩ => xs.length - q) ⟨0, Nat.zero_le _, fun j hj => absurd hj (Nat.not_lt_zero j)⟩ (Le.mk hB [] ⟨rfl, rfl, rfl, rfl, rfl, trivial⟩ rfl rfl (Nat.le_refl _)) ?_
 rintro ⟨q, hq, hn⟩
 show VC _ _ _ _ ⟨[(0, avStrs xs), (1, avS v), (6, avStrs xs), (7, avI xs.length), (8, avI (q : Int))] ++ [], [], 0⟩
 refine VC.sr ?_
 refine VO.val rfl rfl (OpV.lss rfl rfl rfl) ?_
 refine VO.nil ?_
 refine VC.seq ?_
 refine VC.cond rfl (fun aH1b => ?_) (fun aH1b => ?_)
 ·have aH1 := aH1b
  try simp only [qqT, qqF, qqN, qqM, qqL, qqE] at aH1
  refine VC.skip ?_
  refine VC.seq ?_
  refine VC.block ?_
  refine VC.sr ?_
  refine VO.mv rfl rfl rfl rfl ?_
  refine VO.ma rfl rfl rfl rfl ?_
  refine VO.nil ?_
  refine VC.sr ?_
  refine VO.mv rfl rfl rfl rfl ?_
  refine VO.mv rfl rfl rfl rfl ?_
  refine VO.mv rfl rfl rfl rfl ?_
  refine VO.val rfl rfl (OpV.indexAddr_1 rfl Tryz.underlying29 Tryz.sizeOf9 rfl rfl rfl (by omega)) ?_
  refine VO.val rfl rfl (OpV.load_at rfl hB OutW.no Tryz.isAgg9 rfl rfl) ?_
  refine VO.val rfl rfl (OpV.seql rfl rfl rfl) ?_
  refine VO.nil ?_
  refine VC.cond rfl (fun aH2b => ?_) (fun aH2b => ?_)
  ·have aH2 := aH2b
   try simp only [qqT, qqF, qqN, qqM, qqL, qqE] at aH2
   refine VC.sr ?_
   refine VO.mv rfl rfl rfl rfl ?_
   refine VO.ma rfl rfl rfl rfl ?_
   refine VO.nil ?_
   refine VC.ret ?_
   exact Exists.intro _ (And.intro (RetN.one Tryz.results109 (ResN.v rfl)) (by first | (rw [fidx_found (d := ByteArray.empty) (q := q) (by omega) hn (by assumption)]) | (rw [fidx_none (d := ByteArray.empty) (fun j hj => hn j (by omega))])))
  ·have aH2 := aH2b
   try simp only [qqT, qqF, qqN, qqM, qqL, qqE] at aH2
   refine VC.skip ?_
   refine VC.region ?_
   refine VO.val rfl rfl (OpV.add rfl rfl rfl (by unfold fits; omega)) ?_
   refine VO.mv rfl rfl rfl rfl ?_
   refine VO.nil ?_
   exact Exists.intro (⟨q + 1, by omega, lt_succ_cases hn (by assumption)⟩) (And.intro (Le.mk hB [] ⟨rfl, rfl, rfl, rfl, rfl, trivial⟩ rfl rfl (Nat.le_refl _)) (by first | omega | (show _ < _; omega) | (simp only []; omega)))
 ·have aH1 := aH1b
  try simp only [qqT, qqF, qqN, qqM, qqL, qqE] at aH1
  refine VC.exit ?_
  refine VC.sr ?_
  refine VO.ma rfl rfl rfl rfl ?_
  refine VO.nil ?_
  refine VC.ret ?_
  exact Exists.intro _ (And.intro (RetN.one Tryz.results109 (ResN.v rfl)) (by first | (rw [fidx_found (d := ByteArray.empty) (q := q) (by omega) hn (by assumption)]) | (rw [fidx_none (d := ByteArray.empty) (fun j hj => hn j (by omega))])))
set_option maxRecDepth 100000 in
theorem slices_Contains_str {xs : List ByteArray} {v : ByteArray} (hl : xs.length ≤ 1000000000) :
  SpecN Tryz.prog 54 [avStrs xs, avS v] (fun y => y = avB (xs.any fun x => sEq v x)) := by
 refine SpecN.of_VCN Tryz.func54 rfl Tryz.ntmps54 (Nle rfl) fun w A hB => ?_
 have hnew : True := trivial
 refine VC.sr ?_
 refine VO.ma rfl rfl rfl rfl ?_
 refine VO.nil ?_
 refine VC.sr ?_
 refine VO.mv rfl rfl rfl rfl ?_
 refine VO.mv rfl rfl rfl rfl ?_
 refine VO.op rfl (OpE.call rfl hB rfl Tryz.call109 rfl (SpecN.spec ((slices_Index_str (by omega)))) ?_)
 rintro _ rfl
 refine VO.val rfl rfl (OpV.geq rfl rfl rfl) ?_
 refine VO.ma rfl rfl rfl rfl ?_
 refine VO.nil ?_
 refine VC.ret ?_
 exact Exists.intro _ (And.intro (RetN.one Tryz.results54 (ResN.v rfl)) (by rw [← fidx_any]))

end Go.Proofs.YtbbgjeiefmiblaaGreatDoor
namespace Go.Proofs.YtbbgjeiefmiblaaGreatDoor
open Go.RowKit
set_option linter.unusedVariables false
set_option linter.unusedSimpArgs false
theorem not_true_false {b : Bool} (h : (!b) = true) : b = false := by cases b <;> simp_all
theorem not_false_true {b : Bool} (h : (!b) = false) : b = true := by cases b <;> simp_all
def eqLs {α : Type} (e : α → α → Bool) : List α → List α → Bool
 | [], [] => true
 | x :: l, y :: r => e x y && eqLs e l r
 | _, _ => false
theorem eqLs_self {α : Type} {e : α → α → Bool} (h : ∀ x, e x x = true) : ∀ l : List α, eqLs e l l = true
 | [] => rfl
 | x :: l => by rw [eqLs, h, eqLs_self h l]; rfl
theorem eqLs_len {α : Type} {e : α → α → Bool} : ∀ {l r : List α}, l.length ≠ r.length → eqLs e l r = false
 | [], [], h => absurd rfl h
 | [], _ :: _, _ => rfl
 | _ :: _, [], _ => rfl
 | x :: l, y :: r, h => by rw [eqLs, eqLs_len (by simpa using h), Bool.and_false]
theorem eqLs_at {α : Type} {e : α → α → Bool} {d : α} : ∀ {l r : List α} {q : Nat}, q < l.length → e (l.getD q d) (r.getD q d) = false → eqLs e l r = false
 | [], _, q, h, _ => by simp at h
 | x :: l, [], q, h, _ => rfl
 | x :: l, y :: r, 0, _, h2 => by simp at h2; rw [eqLs, h2]; rfl
 | x :: l, y :: r, q + 1, h1, h2 => by rw [eqLs, eqLs_at (d := d) (q := q) (by simpa using h1) (by simpa using h2), Bool.and_false]
theorem eqLs_all {α : Type} {e : α → α → Bool} {d : α} : ∀ {l r : List α}, l.length = r.length → (∀ j, j < l.length → e (l.getD j d) (r.getD j d) = true) → eqLs e l r = true
 | [], [], _, _ => rfl
 | [], _ :: _, h, _ => by simp at h
 | _ :: _, [], h, _ => by simp at h
 | x :: l, y :: r, h, h2 => by
  have h0 := h2 0 (by simp)
  simp at h0
  rw [eqLs, h0, eqLs_all (d := d) (by simpa using h) (fun j hj => by simpa using h2 (j + 1) (by simpa using hj))]
  rfl
end Go.Proofs.YtbbgjeiefmiblaaGreatDoor
namespace Go.Proofs.YtbbgjeiefmiblaaGreatDoor
open Go.RowKit
set_option linter.unusedVariables false
set_option linter.unusedSimpArgs false
theorem rep_sb {w : World} {Z : Nat → Prop} (p : ByteArray) (b : Bool) : Rep w Z (.tup [avS p, avB b]) (.tuple #[.string p, .bool b]) := .tup _ _ rfl fun q hq => by
 match q, hq with
 | 0, _ => exact .v _
 | 1, _ => exact .v _
theorem strings_CutPrefix_S {s p : ByteArray} : SpecN Tryz.prog 223 [avS s, avS p] (fun y => y = .tup [avS (bytesOf (Lib.trimPrefix (byL s) (byL p))), avB (Lib.hasPrefix (byL s) (byL p))]) := by
 intro w us ha
 rw [argsV2 ha]
 refine (Tryz.strings_CutPrefix s p w).mono ?_
 rintro e w' ⟨rfl, rfl⟩
 exact ⟨_, _, rfl, rfl, rep_sb _ _, Chg.refl _ _, trivial⟩
theorem strings_CutSuffix_S {s p : ByteArray} (hs : s.size ≤ 1000000000) : SpecN Tryz.prog 122 [avS s, avS p] (fun y => y = .tup [avS (bytesOf (Lib.trimSuffix (byL s) (byL p))), avB (Lib.hasSuffix (byL s) (byL p))]) := by
 intro w us ha
 rw [argsV2 ha]
 refine (Tryz.strings_CutSuffix s p w (by omega)).mono ?_
 rintro e w' ⟨rfl, rfl⟩
 exact ⟨_, _, rfl, rfl, rep_sb _ _, Chg.refl _ _, trivial⟩
set_option maxRecDepth 100000 in
theorem strings_Split {s : ByteArray} {c : UInt8} (hs : s.size ≤ 100000000) :
  Spec Tryz.prog 123 [avS s, avS ⟨#[c]⟩] (fun y => y = avStrs (splitS c s)) := by
 refine Spec.of_VC Tryz.func123 rfl Tryz.ntmps123 (Nle rfl) fun w A hB => ?_
 have hnew : True := trivial
 refine VC.sr ?_
 refine VO.ma rfl rfl rfl rfl ?_
 refine VO.nil ?_
 refine VC.sr ?_
 refine VO.mv rfl rfl rfl rfl ?_
 refine VO.mv rfl rfl rfl rfl ?_
 refine VO.op rfl (OpE.call rfl hB rfl Tryz.call167 rfl (SpecN.spec (strings_genSplit hs)) ?_)
 rintro _ rfl
 refine VO.ma rfl rfl rfl rfl ?_
 refine VO.nil ?_
 refine VC.ret ?_
 exact Exists.intro _ (And.intro (RetV.one Tryz.results123 (ResV.tmp rfl)) (rfl))
def wordsB (s : ByteArray) : Bool := (splitS 32 s).all fun x => !sEq x ⟨#[]⟩
def wordsR (s : ByteArray) : List ByteArray := if wordsB s = true then splitS 32 s else []
theorem words_all {s : ByteArray} (h : ∀ j, j < (splitS 32 s).length → sEq ((splitS 32 s).getD j ByteArray.empty) ⟨#[]⟩ = false) : wordsB s = true ∧ wordsR s = splitS 32 s := by
 have h1 : wordsB s = true := by
  unfold wordsB
  rw [List.all_eq_true]
  intro x hx
  obtain ⟨j, hj, rfl⟩ := List.getElem_of_mem hx
  have := h j hj
  rw [List.getD_eq_getElem?_getD, List.getElem?_eq_getElem hj] at this
  simp at this
  simp [this]
 exact ⟨h1, if_pos h1⟩
theorem words_none {s : ByteArray} {q : Nat} (hq : q < (splitS 32 s).length) (h : sEq ((splitS 32 s).getD q ByteArray.empty) ⟨#[]⟩ = true) : wordsB s = false ∧ wordsR s = [] := by
 have h1 : wordsB s = false := by
  unfold wordsB
  rw [List.all_eq_false]
  rw [List.getD_eq_getElem?_getD, List.getElem?_eq_getElem hq] at h
  exact ⟨_, List.getElem_mem hq, by simp at h; simp [h]⟩
 exact ⟨h1, if_neg (by rw [h1]; simp)⟩
set_option maxRecDepth 100000 in
theorem kit_Words {s : ByteArray} (hs : s.size ≤ 100000000) :
  Spec Tryz.prog 146 [avS s] (fun y => y = .tup [avStrs (wordsR s), avB (wordsB s)]) := by
 refine Spec.of_VC Tryz.func146 rfl Tryz.ntmps146 (Nle rfl) fun w A hB => ?_
 have hnew : True := trivial
 refine VC.seq ?_
 have hpl := splitS_len 32 s
 have hcl : Lib.countByte (byL s) 32 ≤ s.size := by rw [← byL_len]; exact List.count_le_length
 refine VC.region ?_
 refine VO.ma rfl rfl rfl rfl ?_
 first | refine VO.le _ (Le.recast (t := 2) (y := avStrs []) rfl (fun w Z u h => by rw [h.eq_v]; exact .nil _ _)) ?_ | skip
 refine VO.ma rfl rfl rfl rfl ?_
 refine VO.nil ?_
 refine VC.sr ?_
 refine VO.mv rfl rfl rfl rfl ?_
 refine VO.op rfl (OpE.call rfl hB rfl Tryz.call123 rfl (strings_Split (c := 32) hs) ?_)
 rintro _ rfl
 refine VO.ma rfl rfl rfl rfl ?_
 refine VO.nil ?_
 refine VC.seq ?_
 refine VC.sr ?_
 refine VO.mv rfl rfl rfl rfl ?_
 refine VO.val rfl rfl (OpV.len_im rfl Tryz.underlying29 rfl) ?_
 refine VO.mv rfl rfl rfl rfl ?_
 refine VO.nil ?_
 refine VC.block ?_
 refine VC.loopK [(4, _), (9, _), (10, _)] ⟨rfl, rfl, rfl, trivial⟩ ({q : Nat // q ≤ (splitS 32 s).length ∧ ∀ j, j < q → sEq ((splitS 32 s).getD j ByteArray.empty) ⟨#[]⟩ = false}) (fun (iZ : {q : Nat // q ≤ (splitS 32 s).length ∧ ∀ j, j < q → sEq ((splitS 32 s).getD j ByteArray.empty) ⟨#[]⟩ = false}) => match iZ with | ⟨q, hq, hn⟩ => [(11, avI (q : Int))]) (fun (iZ : {q : Nat // q ≤ (splitS 32 s).length ∧ ∀ j, j < q → sEq ((splitS 32 s).getD j ByteArray.empty) ⟨#[]⟩ = false}) => match iZ with | ⟨q, hq, hn⟩ => []) (fun (iZ : {q : Nat // q ≤ (splitS 32 s).length ∧ ∀ j, j < q → sEq ((splitS 32 s).getD j ByteArray.empty) ⟨#[]⟩ = false}) => match iZ with | ⟨q, hq, hn⟩ => 0) (fun (iZ : {q : Nat // q ≤ (splitS 32 s).length ∧ ∀ j, j < q → sEq ((splitS 32 s).getD j ByteArray.empty) ⟨#[]⟩ = false}) => match iZ with | ⟨q, hq, hn⟩ => (splitS 32 s).length - q) ⟨0, Nat.zero_le _, fun j hj => absurd hj (Nat.not_lt_zero j)⟩ (Le.mk hB [] ⟨rfl, rfl, rfl, rfl, trivial⟩ rfl rfl (Nat.le_refl _)) ?_
 rintro ⟨q, hq, hn⟩
 show VC _ _ _ _ ⟨[(11, avI (q : Int))] ++ [(4, _), (9, _), (10, _)], [], 0⟩
 refine VC.sr ?_
 refine VO.val rfl rfl (OpV.lss rfl rfl rfl) ?_
 refine VO.nil ?_
 refine VC.seq ?_
 refine VC.cond rfl (fun aH1b => ?_) (fun aH1b => ?_)
 ·have aH1 := aH1b
  try simp only [qqT, qqF, qqN, qqM, qqL, qqE] at aH1
  refine VC.skip ?_
  refine VC.seq ?_
  refine VC.block ?_
  refine VC.sr ?_
  refine VO.val rfl rfl (OpV.indexAddr_1 rfl Tryz.underlying29 Tryz.sizeOf9 rfl rfl rfl (by omega)) ?_
  refine VO.val rfl rfl (OpV.load_at rfl hB OutW.no Tryz.isAgg9 rfl rfl) ?_
  refine VO.ma rfl rfl rfl rfl ?_
  refine VO.nil ?_
  refine VC.sr ?_
  refine VO.mv rfl rfl rfl rfl ?_
  refine VO.val rfl rfl (OpV.seql rfl rfl rfl) ?_
  refine VO.nil ?_
  refine VC.cond rfl (fun h1b => ?_) (fun h1b => ?_)
  ·have h1 := h1b
   try simp only [qqT, qqF, qqN, qqM, qqL, qqE] at h1
   refine VC.sr ?_
   refine VO.ma rfl rfl rfl rfl ?_
   first | refine VO.le _ (Le.recast (t := 2) (y := avStrs []) rfl (fun w Z u h => by rw [h.eq_v]; exact .nil _ _)) ?_ | skip
   refine VO.ma rfl rfl rfl rfl ?_
   refine VO.nil ?_
   refine VC.ret ?_
   exact Exists.intro _ (And.intro (RetV.two Tryz.results146 (ResV.tmp rfl) (ResV.tmp rfl)) (by rw [(words_none (by omega) h1b).1, (words_none (by omega) h1b).2]))
  ·have h1 := h1b
   try simp only [qqT, qqF, qqN, qqM, qqL, qqE] at h1
   refine VC.skip ?_
   refine VC.region ?_
   refine VO.val rfl rfl (OpV.add rfl rfl rfl (by unfold fits; omega)) ?_
   refine VO.mv rfl rfl rfl rfl ?_
   refine VO.nil ?_
   exact Exists.intro (⟨q + 1, by omega, lt_succ_cases hn (h1b)⟩) (And.intro (Le.mk hB [] ⟨rfl, rfl, rfl, rfl, trivial⟩ rfl rfl (Nat.le_refl _)) (by first | omega | (show _ < _; omega) | (simp only []; omega)))
 ·have aH1 := aH1b
  try simp only [qqT, qqF, qqN, qqM, qqL, qqE] at aH1
  refine VC.exit ?_
  refine VC.sr ?_
  refine VO.mv rfl rfl rfl rfl ?_
  refine VO.ma rfl rfl rfl rfl ?_
  first | refine VO.le _ (Le.recast (t := 2) (y := avStrs []) rfl (fun w Z u h => by rw [h.eq_v]; exact .nil _ _)) ?_ | skip
  refine VO.ma rfl rfl rfl rfl ?_
  refine VO.nil ?_
  refine VC.ret ?_
  exact Exists.intro _ (And.intro (RetV.two Tryz.results146 (ResV.tmp rfl) (ResV.tmp rfl)) (by rw [(words_all (fun j hj => hn j (by omega))).1, (words_all (fun j hj => hn j (by omega))).2]))
def endB (s : ByteArray) : Bool := Lib.hasSuffix (byL s) [10]
def linesR (s : ByteArray) : List ByteArray := if sEq s ⟨#[]⟩ = true then [] else splitS 10 (bytesOf (Lib.trimSuffix (byL s) [10]))
def linesE (s : ByteArray) : Bool := if sEq s ⟨#[]⟩ = true then true else endB s
theorem trimSuffix_size (s p : ByteArray) : (bytesOf (Lib.trimSuffix (byL s) (byL p))).size ≤ s.size := by
 rw [← byL_len, ← byL_len]
 show ((Lib.trimSuffix (byL s) (byL p)).toArray.toList).length ≤ _
 unfold Lib.trimSuffix
 split <;> simp
set_option maxRecDepth 100000 in
theorem kit_Lines {s : ByteArray} (hs : s.size ≤ 100000000) :
  Spec Tryz.prog 77 [avS s] (fun y => y = .tup [avStrs (linesR s), avB (linesE s)]) := by
 refine Spec.of_VC Tryz.func77 rfl Tryz.ntmps77 (Nle rfl) fun w A hB => ?_
 have hnew : True := trivial
 refine VC.sr ?_
 refine VO.ma rfl rfl rfl rfl ?_
 first | refine VO.le _ (Le.recast (t := 2) (y := avStrs []) rfl (fun w Z u h => by rw [h.eq_v]; exact .nil _ _)) ?_ | skip
 refine VO.ma rfl rfl rfl rfl ?_
 refine VO.nil ?_
 refine VC.seq ?_
 refine VC.sr ?_
 refine VO.mv rfl rfl rfl rfl ?_
 refine VO.val rfl rfl (OpV.seql rfl rfl rfl) ?_
 refine VO.nil ?_
 refine VC.cond rfl (fun h0b => ?_) (fun h0b => ?_)
 ·have h0 := h0b
  try simp only [qqT, qqF, qqN, qqM, qqL, qqE] at h0
  refine VC.sr ?_
  refine VO.ma rfl rfl rfl rfl ?_
  first | refine VO.le _ (Le.recast (t := 2) (y := avStrs []) rfl (fun w Z u h => by rw [h.eq_v]; exact .nil _ _)) ?_ | skip
  refine VO.ma rfl rfl rfl rfl ?_
  refine VO.nil ?_
  refine VC.ret ?_
  exact Exists.intro _ (And.intro (RetV.two Tryz.results77 (ResV.tmp rfl) (ResV.tmp rfl)) (by rw [linesR, linesE, if_pos h0, if_pos h0]))
 ·have h0 := h0b
  try simp only [qqT, qqF, qqN, qqM, qqL, qqE] at h0
  refine VC.skip ?_
  refine VC.sr ?_
  refine VO.mv rfl rfl rfl rfl ?_
  refine VO.op rfl (OpE.call rfl hB rfl Tryz.call122 rfl (SpecN.spec (strings_CutSuffix_S (p := ⟨#[10]⟩) (by omega))) ?_)
  rintro _ rfl
  refine VO.mv rfl rfl rfl rfl ?_
  refine VO.val rfl rfl (OpV.extract rfl rfl rfl) ?_
  refine VO.val rfl rfl (OpV.extract rfl rfl rfl) ?_
  refine VO.ma rfl rfl rfl rfl ?_
  refine VO.ma rfl rfl rfl rfl ?_
  refine VO.nil ?_
  refine VC.sr ?_
  refine VO.mv rfl rfl rfl rfl ?_
  refine VO.op rfl (OpE.call rfl hB rfl Tryz.call123 rfl (strings_Split (c := 10) (Nat.le_trans (trimSuffix_size s ⟨#[10]⟩) hs)) ?_)
  rintro _ rfl
  refine VO.mv rfl rfl rfl rfl ?_
  refine VO.ma rfl rfl rfl rfl ?_
  first | refine VO.le _ (Le.recast (t := 2) (y := avStrs []) rfl (fun w Z u h => by rw [h.eq_v]; exact .nil _ _)) ?_ | skip
  refine VO.ma rfl rfl rfl rfl ?_
  refine VO.nil ?_
  refine VC.ret ?_
  exact Exists.intro _ (And.intro (RetV.two Tryz.results77 (ResV.tmp rfl) (ResV.tmp rfl)) (by rw [linesR, linesE, if_neg (by rw [h0]; simp), if_neg (by rw [h0]; simp)]; rfl))
end Go.Proofs.YtbbgjeiefmiblaaGreatDoor
namespace Go.Proofs.YtbbgjeiefmiblaaGreatDoor
open Go.RowKit
set_option linter.unusedVariables false
set_option linter.unusedSimpArgs false
section
variable {P : Program} {B : Bs} {W : Nat → Prop} {s : St'} {o : Oper}
theorem OpV.inil {x : Operand} {t u : TypeId} (ho : o.op = .binOp .eql t x (.const .nilIface) u) (hu : P.underlying t = some (.interface (P.methodsAt t))) (hx : evO s x = some (.v .nilIface)) : OpV P B W s o (avB true) :=
 OpV.conc (fun a w hr w' hcw => by
  have e := run_eql_nil_nil (P := P) w' t hu
  have e2 : a.eval (.const .nilIface) = .nilIface := rfl
  simp [execOp, ho, hr.evv hx, eqGuard, e2]
  rw [e]
  rfl)
end
theorem strconv_Atoi_S {d : ByteArray} {n : Int} (hl : d.size ≤ 18) (h : Lib.atoi (byL d) = some n) : SpecN Tryz.prog 185 [avS d] (fun y => y = .tup [avI n, .v .nilIface]) := by
 intro w us ha
 rw [args1 ha]
 refine (Tryz.strconv_Atoi d n hl h w).mono ?_
 rintro e w' ⟨rfl, t, rfl⟩
 refine ⟨_, _, rfl, rfl, .tup _ _ rfl fun q hq => ?_, .ofBelowN (Lib.bytesWorld_below w _ t), trivial⟩
 match q, hq with
 | 0, _ => exact .v _
 | 1, _ => exact .v _
abbrev digsB : List UInt8 := [48, 49, 50, 51, 52, 53, 54, 55, 56, 57]
def trimD (d : ByteArray) : ByteArray := ⟨(Lib.trimS (byL d) digsB).toArray⟩
def zerD (d : ByteArray) : Bool := decide ((byL d).getD 0 0 = 48)
def badD (d : ByteArray) (neg : Bool) (most : Int) : Bool := sEq d ⟨#[]⟩ || (decide (most < d.size) || (!sEq (trimD d) ⟨#[]⟩ || (zerD d && (decide ((1 : Int) < d.size) || neg))))
theorem trimD_all {d : ByteArray} (h : sEq (trimD d) ⟨#[]⟩ = true) : (byL d).all (inB digsB) = true := by
 rw [← trimS_all]
 have := sEq_eq.1 h
 have h2 := congrArg (fun p : ByteArray => p.data.toList) this
 simpa [trimD] using h2
theorem dig_val {b : UInt8} (h : inB digsB b = true) : ∃ k, Lib.digitVal b = some k := by
 have hc := inB_contains digsB b
 rw [h] at hc
 have h2 : b ∈ digsB := by simpa using hc.symm
 unfold Lib.digitVal
 simp [digsB] at h2
 rcases h2 with rfl | rfl | rfl | rfl | rfl | rfl | rfl | rfl | rfl | rfl <;> exact ⟨_, rfl⟩
theorem decFrom_all : ∀ {l : List UInt8} (acc : Nat), l.all (inB digsB) = true → ∃ n, Lib.decFrom acc l = some n
 | [], acc, _ => ⟨acc, rfl⟩
 | b :: r, acc, h => by
  rw [List.all_cons, Bool.and_eq_true] at h
  obtain ⟨k, hk⟩ := dig_val h.1
  unfold Lib.decFrom
  rw [hk]
  exact decFrom_all _ h.2
theorem dig_lt {b : UInt8} {k : Nat} (h : Lib.digitVal b = some k) : k ≤ 9 := by
 unfold Lib.digitVal at h
 split at h
 ·injection h with h; omega
 ·cases h
theorem decFrom_lt : ∀ {l : List UInt8} {acc n : Nat}, Lib.decFrom acc l = some n → n < (acc + 1) * 10 ^ l.length
 | [], acc, n, h => by
  unfold Lib.decFrom at h
  injection h with h; subst h; simp
 | b :: r, acc, n, h => by
  unfold Lib.decFrom at h
  cases hk : Lib.digitVal b with
  | none => rw [hk] at h; cases h
  | some k =>
   rw [hk] at h
   have h1 := decFrom_lt (l := r) h
   have h2 := dig_lt hk
   rw [List.length_cons, Nat.pow_succ']
   refine Nat.lt_of_lt_of_le h1 ?_
   rw [← Nat.mul_assoc]
   exact Nat.mul_le_mul_right _ (by omega)
theorem atoi_lt {l : List UInt8} {n : Nat} (h : l.all (inB digsB) = true) (ha : Lib.atoi l = some (n : Int)) (hl : l.length ≤ 18) : n < 10 ^ 18 := by
 cases l with
 | nil => cases ha
 | cons b r =>
  obtain ⟨m, e⟩ := decFrom_all 0 h
  rw [List.all_cons, Bool.and_eq_true] at h
  have hb : b ≠ 45 ∧ b ≠ 43 := by
   have hc := inB_contains digsB b
   rw [h.1] at hc
   constructor <;> (rintro rfl; simp at hc)
  have e1 : (b == 45) = false := by simpa using hb.1
  have e2 : (b == 43) = false := by simpa using hb.2
  simp only [Lib.atoi, e1, e2, Bool.false_eq_true, if_false, Lib.decNat, List.isEmpty_cons, e, Option.map_some, Option.some.injEq, Int.natCast_inj] at ha
  subst ha
  have h1 := decFrom_lt e
  rw [Nat.zero_add, Nat.one_mul] at h1
  exact Nat.lt_of_lt_of_le h1 (Nat.pow_le_pow_right (by decide) hl)
theorem atoi_all {l : List UInt8} (h : l.all (inB digsB) = true) (hn : l ≠ []) : ∃ n : Nat, Lib.atoi l = some (n : Int) := by
 cases l with
 | nil => exact absurd rfl hn
 | cons b r =>
  obtain ⟨n, e⟩ := decFrom_all 0 h
  rw [List.all_cons, Bool.and_eq_true] at h
  have hb : b ≠ 45 ∧ b ≠ 43 := by
   have hc := inB_contains digsB b
   rw [h.1] at hc
   constructor <;> (rintro rfl; simp at hc)
  have e1 : (b == 45) = false := by simpa using hb.1
  have e2 : (b == 43) = false := by simpa using hb.2
  refine ⟨n, ?_⟩
  simp only [Lib.atoi, e1, e2, Bool.false_eq_true, if_false, Lib.decNat, List.isEmpty_cons, e]
  rfl
def dOf (s : ByteArray) : ByteArray := bytesOf (Lib.trimPrefix (byL s) [45])
def negOf (s : ByteArray) : Bool := Lib.hasPrefix (byL s) [45]
def valD (d : ByteArray) : Int := (Lib.atoi (byL d)).getD 0
def numE (s : ByteArray) (most : Int) : Bool := !badD (dOf s) (negOf s) most
def numV (s : ByteArray) (most : Int) : Int := if badD (dOf s) (negOf s) most = true then 0 else if negOf s = true then -valD (dOf s) else valD (dOf s)
theorem dOf_size (s : ByteArray) : (dOf s).size ≤ s.size := by
 rw [← byL_len, ← byL_len]
 show ((Lib.trimPrefix (byL s) [45]).toArray.toList).length ≤ _
 unfold Lib.trimPrefix
 split <;> simp
theorem dig0 {d : ByteArray} (hp : 0 < d.size) : decide ((d[0].toNat : Int) = 48) = decide ((byL d).getD 0 0 = 48) := by
 have h := byteAt hp
 rw [← h]
 congr 1
 refine propext ⟨fun e => ?_, fun e => ?_⟩
 ·rw [e]; rfl
 ·have := congrArg UInt8.toNat e
  simp at this
  omega
theorem bad_ok {d : ByteArray} {neg : Bool} {most : Int} (h : badD d neg most = false) : sEq d ⟨#[]⟩ = false ∧ d.size ≤ most ∧ sEq (trimD d) ⟨#[]⟩ = true := by
 unfold badD at h
 simp only [Bool.or_eq_false_iff, decide_eq_false_iff_not, Bool.not_eq_false', Int.not_lt] at h
 exact ⟨h.1, h.2.1, h.2.2.1⟩
theorem bad_val {d : ByteArray} {neg : Bool} {most : Int} (hm : most ≤ 18) (h : badD d neg most = false) : ∃ n : Nat, Lib.atoi (byL d) = some (n : Int) ∧ valD d = n ∧ n < 1000000000000000000 := by
 obtain ⟨h1, h2, h3⟩ := bad_ok h
 obtain ⟨n, e⟩ := atoi_all (trimD_all h3) (fun e => by
  have := byL_len d
  rw [e] at this
  have hp := pos_of_ne (p := d) h1
  simp at this; omega)
 exact ⟨n, e, by rw [valD, e]; rfl, atoi_lt (trimD_all h3) e (by rw [byL_len]; omega)⟩
set_option maxRecDepth 100000 in
set_option maxHeartbeats 4000000 in
theorem kit_Number {s : ByteArray} {most : Int} (hs : s.size ≤ 100000000) (h0 : 0 ≤ most) (hm : most ≤ 18) :
  SpecN Tryz.prog 183 [avS s, avI most] (fun y => y = .tup [avI (numV s most), avB (numE s most)]) := by
 refine SpecN.of_VCN Tryz.func183 rfl Tryz.ntmps183 (Nle rfl) fun w A hB => ?_
 have hnew : True := trivial
 refine VC.sr ?_
 refine VO.ma rfl rfl rfl rfl ?_
 refine VO.ma rfl rfl rfl rfl ?_
 refine VO.nil ?_
 refine VC.sr ?_
 refine VO.mv rfl rfl rfl rfl ?_
 refine VO.op rfl (OpE.call rfl hB rfl Tryz.call223 rfl (SpecN.spec (strings_CutPrefix_S (p := ⟨#[45]⟩))) ?_)
 rintro _ rfl
 obtain ⟨d, hd⟩ : ∃ d, dOf s = d := ⟨_, rfl⟩
 obtain ⟨neg, hng⟩ : ∃ b, negOf s = b := ⟨_, rfl⟩
 have hds : d.size ≤ s.size := by rw [← hd]; exact dOf_size s
 refine VO.le _ (Le.recast (t := 12) (y := .tup [avS d, avB neg]) rfl (fun w Z u h => by rw [← hd, ← hng]; exact h)) ?_
 refine VO.mv rfl rfl rfl rfl ?_
 refine VO.val rfl rfl (OpV.extract rfl rfl rfl) ?_
 refine VO.val rfl rfl (OpV.extract rfl rfl rfl) ?_
 refine VO.ma rfl rfl rfl rfl ?_
 refine VO.ma rfl rfl rfl rfl ?_
 refine VO.nil ?_
 refine VC.seq ?_
 refine VC.sr ?_
 refine VO.mv rfl rfl rfl rfl ?_
 refine VO.val rfl rfl (OpV.seql rfl rfl rfl) ?_
 refine VO.mv rfl rfl rfl rfl ?_
 refine VO.opG rfl rfl rfl rfl (fun aK1b => ?_) (fun aK1b => ?_)
 ·replace aK1b : _ = false := aK1b
  have aK1 := aK1b
  try simp only [qqT, qqF, qqN, qqM, qqL, qqE] at aK1
  refine OpE.val (W := NoB) (OpV.move (.inl rfl) rfl) rfl ?_
  refine VO.opY rfl rfl rfl rfl aK1b ?_
  refine OpE.val (W := NoB) (OpV.len_s rfl Tryz.underlying9 rfl) rfl ?_
  refine VO.opY rfl rfl rfl rfl aK1b ?_
  refine OpE.val (W := NoB) (OpV.move (.inl rfl) rfl) rfl ?_
  refine VO.opY rfl rfl rfl rfl aK1b ?_
  refine OpE.val (W := NoB) (OpV.gtr rfl rfl rfl) rfl ?_
  refine VO.val rfl rfl (OpV.pickF rfl rfl rfl rfl aK1b) ?_
  refine VO.mv rfl rfl rfl rfl ?_
  refine VO.opG rfl rfl rfl rfl (fun aK2b => ?_) (fun aK2b => ?_)
  ·replace aK2b : _ = false := aK2b
   have aK2 := aK2b
   try simp only [qqT, qqF, qqN, qqM, qqL, qqE] at aK2
   refine OpE.val (W := NoB) (OpV.move (.inl rfl) rfl) rfl ?_
   refine VO.opY rfl rfl rfl rfl aK2b ?_
   refine OpE.call rfl hB rfl Tryz.call152 rfl (SpecN.spec (strings_Trim_S (s := d) (by omega) (by decide) (ascii_of_all (by decide)))) ?_
   rintro _ rfl
   refine VO.le _ (Le.recast (t := 25) (y := avS (trimD d)) rfl (fun w Z u h => h)) ?_
   refine VO.opY rfl rfl rfl rfl aK2b ?_
   refine OpE.val (W := NoB) (OpV.sneq rfl rfl rfl) rfl ?_
   refine VO.val rfl rfl (OpV.pickF rfl rfl rfl rfl aK2b) ?_
   refine VO.mv rfl rfl rfl rfl ?_
   refine VO.opG rfl rfl rfl rfl (fun aK3b => ?_) (fun aK3b => ?_)
   ·replace aK3b : _ = false := aK3b
    have aK3 := aK3b
    try simp only [qqT, qqF, qqN, qqM, qqL, qqE] at aK3
    refine OpE.val (W := NoB) (OpV.move (.inl rfl) rfl) rfl ?_
    refine VO.opY rfl rfl rfl rfl aK3b ?_
    refine OpE.val (W := NoB) (OpV.index_s rfl Tryz.underlying9 rfl rfl (by omega) (by have h := pos_of_ne (p := d) (by assumption); simpa using h)) rfl ?_
    refine VO.opY rfl rfl rfl rfl aK3b ?_
    refine OpE.val (W := NoB) (OpV.eql rfl rfl rfl) rfl ?_
    have hp0 : 0 < d.size := pos_of_ne (p := d) (by assumption)
    refine VO.le _ (Le.recast (t := 31) (y := avB (zerD d)) rfl (fun w Z u h => by rw [zerD, ← dig0 hp0]; exact h)) ?_
    refine VO.opY rfl rfl rfl rfl aK3b ?_
    refine OpE.val (W := NoB) (OpV.move (.inl rfl) rfl) rfl ?_
    refine VO.opG rfl rfl rfl rfl (fun aK4b => ?_) (fun aK4b => ?_)
    ·replace aK4b : _ = true := aK4b
     have aK4 := aK4b
     try simp only [qqT, qqF, qqN, qqM, qqL, qqE] at aK4
     refine OpE.val (W := NoB) (OpV.move (.inl rfl) rfl) rfl ?_
     refine VO.opY rfl rfl rfl rfl aK4b ?_
     refine OpE.val (W := NoB) (OpV.len_s rfl Tryz.underlying9 rfl) rfl ?_
     refine VO.opY rfl rfl rfl rfl aK4b ?_
     refine OpE.val (W := NoB) (OpV.gtr rfl rfl rfl) rfl ?_
     refine VO.opY rfl rfl rfl rfl aK4b ?_
     refine OpE.val (W := NoB) (OpV.move (.inl rfl) rfl) rfl ?_
     refine VO.opG rfl rfl rfl rfl (fun aK5b => ?_) (fun aK5b => ?_)
     ·replace aK5b : _ = false := aK5b
      have aK5 := aK5b
      try simp only [qqT, qqF, qqN, qqM, qqL, qqE] at aK5
      refine OpE.val (W := NoB) (OpV.move (.inl rfl) rfl) rfl ?_
      refine VO.opY rfl rfl rfl rfl aK4b ?_
      refine OpE.val (W := NoB) (OpV.pickF rfl rfl rfl rfl aK5b) rfl ?_
      refine VO.opY rfl rfl rfl rfl aK3b ?_
      refine OpE.val (W := NoB) (OpV.pickT rfl rfl rfl rfl aK4b) rfl ?_
      refine VO.val rfl rfl (OpV.pickF rfl rfl rfl rfl aK3b) ?_
      refine VO.nil ?_
      refine VC.cond rfl (fun aH6b => ?_) (fun aH6b => ?_)
      ·have aH6 := aH6b
       try simp only [qqT, qqF, qqN, qqM, qqL, qqE] at aH6
       have hbad : badD d neg most = true := by simp [badD, *]
       refine VC.sr ?_
       refine VO.ma rfl rfl rfl rfl ?_
       refine VO.ma rfl rfl rfl rfl ?_
       refine VO.nil ?_
       refine VC.ret ?_
       exact Exists.intro _ (And.intro (RetN.two Tryz.results183 (ResN.v rfl) (ResN.v rfl)) (by rw [numV, numE, hd, hng, hbad]; rfl))
      ·have aH6 := aH6b
       try simp only [qqT, qqF, qqN, qqM, qqL, qqE] at aH6
       have hbad : badD d neg most = false := by simp [badD, *]
       obtain ⟨n, hn1, hn2, hn3⟩ := bad_val hm hbad
       have hb3 := bad_ok hbad
       refine VC.skip ?_
       refine VC.sr ?_
       refine VO.mv rfl rfl rfl rfl ?_
       refine VO.op rfl (OpE.call rfl hB rfl Tryz.call185 rfl (SpecN.spec (strconv_Atoi_S (n := (n : Int)) (by omega) hn1)) ?_)
       rintro _ rfl
       refine VO.mv rfl rfl rfl rfl ?_
       refine VO.val rfl rfl (OpV.extract rfl rfl rfl) ?_
       refine VO.val rfl rfl (OpV.extract rfl rfl rfl) ?_
       refine VO.ma rfl rfl rfl rfl ?_
       refine VO.ma rfl rfl rfl rfl ?_
       refine VO.nil ?_
       refine VC.seq ?_
       refine VC.sr ?_
       refine VO.mv rfl rfl rfl rfl ?_
       refine VO.nil ?_
       refine VC.condF rfl aH6b ?_
       refine VC.skip ?_
       refine VC.seq ?_
       refine VC.draw (fun _ => NoB) hB (by kernel_rfl) ?_
       refine VA.take (i := 0) rfl (by kernel_rfl) (by kernel_rfl) (by kernel_rfl) rfl rfl (OpV.move (.inl rfl) rfl) ?_
       refine VA.take (i := 1) rfl (by kernel_rfl) (by kernel_rfl) (by kernel_rfl) rfl rfl (OpV.move (.inl rfl) rfl) ?_
       refine VA.take (i := 2) rfl (by kernel_rfl) (by kernel_rfl) (by kernel_rfl) rfl rfl (OpV.inil rfl (by first | exact Tryz.underlying105 | kernel_rfl) rfl) ?_
       refine VA.take (i := 3) rfl (by kernel_rfl) (by kernel_rfl) (by kernel_rfl) rfl rfl (OpV.move (.inr rfl) rfl) ?_
       refine VA.take (i := 4) rfl (by kernel_rfl) (by kernel_rfl) (by kernel_rfl) rfl rfl (OpV.move (.inr rfl) rfl) ?_
       refine VA.done (by kernel_rfl) ?_
       refine VC.ret ?_
       exact Exists.intro _ (And.intro (RetN.two Tryz.results183 (ResN.v rfl) (ResN.v rfl)) (by first | (rw [numV, numE, hd, hng, hbad, h1, hn2]; rfl) | (rw [numV, numE, hd, hng, hbad, hn2]; simp [*])))
     ·replace aK5b : _ = true := aK5b
      have aK5 := aK5b
      try simp only [qqT, qqF, qqN, qqM, qqL, qqE] at aK5
      refine VO.opY rfl rfl rfl rfl aK4b ?_
      refine OpE.val (W := NoB) (OpV.pickT rfl rfl rfl rfl aK5b) rfl ?_
      refine VO.opY rfl rfl rfl rfl aK3b ?_
      refine OpE.val (W := NoB) (OpV.pickT rfl rfl rfl rfl aK4b) rfl ?_
      refine VO.val rfl rfl (OpV.pickF rfl rfl rfl rfl aK3b) ?_
      refine VO.nil ?_
      refine VC.condT rfl rfl ?_
      have hbad : badD d neg most = true := by simp [badD, *]
      refine VC.sr ?_
      refine VO.ma rfl rfl rfl rfl ?_
      refine VO.ma rfl rfl rfl rfl ?_
      refine VO.nil ?_
      refine VC.ret ?_
      exact Exists.intro _ (And.intro (RetN.two Tryz.results183 (ResN.v rfl) (ResN.v rfl)) (by rw [numV, numE, hd, hng, hbad]; rfl))
    ·replace aK4b : _ = false := aK4b
     have aK4 := aK4b
     try simp only [qqT, qqF, qqN, qqM, qqL, qqE] at aK4
     refine VO.opX rfl rfl rfl rfl aK4b ?_
     refine VO.opX rfl rfl rfl rfl aK4b ?_
     refine VO.opX rfl rfl rfl rfl aK4b ?_
     refine VO.opU rfl rfl rfl rfl ?_
     refine VO.opX rfl rfl rfl rfl aK4b ?_
     refine VO.opY rfl rfl rfl rfl aK3b ?_
     refine OpE.val (W := NoB) (OpV.pickF rfl rfl rfl rfl aK4b) rfl ?_
     refine VO.val rfl rfl (OpV.pickF rfl rfl rfl rfl aK3b) ?_
     refine VO.nil ?_
     refine VC.condF rfl rfl ?_
     have hbad : badD d neg most = false := by simp [badD, *]
     obtain ⟨n, hn1, hn2, hn3⟩ := bad_val hm hbad
     have hb3 := bad_ok hbad
     refine VC.skip ?_
     refine VC.sr ?_
     refine VO.mv rfl rfl rfl rfl ?_
     refine VO.op rfl (OpE.call rfl hB rfl Tryz.call185 rfl (SpecN.spec (strconv_Atoi_S (n := (n : Int)) (by omega) hn1)) ?_)
     rintro _ rfl
     refine VO.mv rfl rfl rfl rfl ?_
     refine VO.val rfl rfl (OpV.extract rfl rfl rfl) ?_
     refine VO.val rfl rfl (OpV.extract rfl rfl rfl) ?_
     refine VO.ma rfl rfl rfl rfl ?_
     refine VO.ma rfl rfl rfl rfl ?_
     refine VO.nil ?_
     refine VC.seq ?_
     refine VC.sr ?_
     refine VO.mv rfl rfl rfl rfl ?_
     refine VO.nil ?_
     refine VC.cond rfl (fun h1b => ?_) (fun h1b => ?_)
     ·have h1 := h1b
      try simp only [qqT, qqF, qqN, qqM, qqL, qqE] at h1
      refine VC.region ?_
      refine VO.mv rfl rfl rfl rfl ?_
      refine VO.val rfl rfl (OpV.neg rfl rfl (by unfold fits; omega)) ?_
      refine VO.ma rfl rfl rfl rfl ?_
      refine VO.nil ?_
      refine VC.seq ?_
      refine VC.draw (fun _ => NoB) hB (by kernel_rfl) ?_
      refine VA.take (i := 0) rfl (by kernel_rfl) (by kernel_rfl) (by kernel_rfl) rfl rfl (OpV.move (.inl rfl) rfl) ?_
      refine VA.take (i := 1) rfl (by kernel_rfl) (by kernel_rfl) (by kernel_rfl) rfl rfl (OpV.move (.inl rfl) rfl) ?_
      refine VA.take (i := 2) rfl (by kernel_rfl) (by kernel_rfl) (by kernel_rfl) rfl rfl (OpV.inil rfl (by first | exact Tryz.underlying105 | kernel_rfl) rfl) ?_
      refine VA.take (i := 3) rfl (by kernel_rfl) (by kernel_rfl) (by kernel_rfl) rfl rfl (OpV.move (.inr rfl) rfl) ?_
      refine VA.take (i := 4) rfl (by kernel_rfl) (by kernel_rfl) (by kernel_rfl) rfl rfl (OpV.move (.inr rfl) rfl) ?_
      refine VA.done (by kernel_rfl) ?_
      refine VC.ret ?_
      exact Exists.intro _ (And.intro (RetN.two Tryz.results183 (ResN.v rfl) (ResN.v rfl)) (by first | (rw [numV, numE, hd, hng, hbad, h1, hn2]; rfl) | (rw [numV, numE, hd, hng, hbad, hn2]; simp [*])))
     ·have h1 := h1b
      try simp only [qqT, qqF, qqN, qqM, qqL, qqE] at h1
      refine VC.skip ?_
      refine VC.seq ?_
      refine VC.draw (fun _ => NoB) hB (by kernel_rfl) ?_
      refine VA.take (i := 0) rfl (by kernel_rfl) (by kernel_rfl) (by kernel_rfl) rfl rfl (OpV.move (.inl rfl) rfl) ?_
      refine VA.take (i := 1) rfl (by kernel_rfl) (by kernel_rfl) (by kernel_rfl) rfl rfl (OpV.move (.inl rfl) rfl) ?_
      refine VA.take (i := 2) rfl (by kernel_rfl) (by kernel_rfl) (by kernel_rfl) rfl rfl (OpV.inil rfl (by first | exact Tryz.underlying105 | kernel_rfl) rfl) ?_
      refine VA.take (i := 3) rfl (by kernel_rfl) (by kernel_rfl) (by kernel_rfl) rfl rfl (OpV.move (.inr rfl) rfl) ?_
      refine VA.take (i := 4) rfl (by kernel_rfl) (by kernel_rfl) (by kernel_rfl) rfl rfl (OpV.move (.inr rfl) rfl) ?_
      refine VA.done (by kernel_rfl) ?_
      refine VC.ret ?_
      exact Exists.intro _ (And.intro (RetN.two Tryz.results183 (ResN.v rfl) (ResN.v rfl)) (by first | (rw [numV, numE, hd, hng, hbad, h1, hn2]; rfl) | (rw [numV, numE, hd, hng, hbad, hn2]; simp [*])))
   ·replace aK3b : _ = true := aK3b
    have aK3 := aK3b
    try simp only [qqT, qqF, qqN, qqM, qqL, qqE] at aK3
    refine VO.opX rfl rfl rfl rfl aK3b ?_
    refine VO.opX rfl rfl rfl rfl aK3b ?_
    refine VO.opX rfl rfl rfl rfl aK3b ?_
    refine VO.opU rfl rfl rfl rfl ?_
    refine VO.opU rfl rfl rfl rfl ?_
    refine VO.opU rfl rfl rfl rfl ?_
    refine VO.opU rfl rfl rfl rfl ?_
    refine VO.opU rfl rfl rfl rfl ?_
    refine VO.opU rfl rfl rfl rfl ?_
    refine VO.opX rfl rfl rfl rfl aK3b ?_
    refine VO.val rfl rfl (OpV.pickT rfl rfl rfl rfl aK3b) ?_
    refine VO.nil ?_
    refine VC.condT rfl rfl ?_
    have hbad : badD d neg most = true := by simp [badD, *]
    refine VC.sr ?_
    refine VO.ma rfl rfl rfl rfl ?_
    refine VO.ma rfl rfl rfl rfl ?_
    refine VO.nil ?_
    refine VC.ret ?_
    exact Exists.intro _ (And.intro (RetN.two Tryz.results183 (ResN.v rfl) (ResN.v rfl)) (by rw [numV, numE, hd, hng, hbad]; rfl))
  ·replace aK2b : _ = true := aK2b
   have aK2 := aK2b
   try simp only [qqT, qqF, qqN, qqM, qqL, qqE] at aK2
   refine VO.opX rfl rfl rfl rfl aK2b ?_
   refine VO.opX rfl rfl rfl rfl aK2b ?_
   refine VO.val rfl rfl (OpV.pickT rfl rfl rfl rfl aK2b) ?_
   refine VO.mv rfl rfl rfl rfl ?_
   refine VO.opX rfl rfl rfl rfl rfl ?_
   refine VO.opX rfl rfl rfl rfl rfl ?_
   refine VO.opX rfl rfl rfl rfl rfl ?_
   refine VO.opX rfl rfl rfl rfl rfl ?_
   refine VO.opU rfl rfl rfl rfl ?_
   refine VO.opU rfl rfl rfl rfl ?_
   refine VO.opU rfl rfl rfl rfl ?_
   refine VO.opU rfl rfl rfl rfl ?_
   refine VO.opU rfl rfl rfl rfl ?_
   refine VO.opU rfl rfl rfl rfl ?_
   refine VO.opX rfl rfl rfl rfl rfl ?_
   refine VO.val rfl rfl (OpV.pickT rfl rfl rfl rfl rfl) ?_
   refine VO.nil ?_
   refine VC.condT rfl rfl ?_
   have hbad : badD d neg most = true := by simp [badD, *]
   refine VC.sr ?_
   refine VO.ma rfl rfl rfl rfl ?_
   refine VO.ma rfl rfl rfl rfl ?_
   refine VO.nil ?_
   refine VC.ret ?_
   exact Exists.intro _ (And.intro (RetN.two Tryz.results183 (ResN.v rfl) (ResN.v rfl)) (by rw [numV, numE, hd, hng, hbad]; rfl))
 ·replace aK1b : _ = true := aK1b
  have aK1 := aK1b
  try simp only [qqT, qqF, qqN, qqM, qqL, qqE] at aK1
  refine VO.opX rfl rfl rfl rfl aK1b ?_
  refine VO.opX rfl rfl rfl rfl aK1b ?_
  refine VO.opX rfl rfl rfl rfl aK1b ?_
  refine VO.val rfl rfl (OpV.pickT rfl rfl rfl rfl aK1b) ?_
  refine VO.mv rfl rfl rfl rfl ?_
  refine VO.opX rfl rfl rfl rfl rfl ?_
  refine VO.opX rfl rfl rfl rfl rfl ?_
  refine VO.opX rfl rfl rfl rfl rfl ?_
  refine VO.val rfl rfl (OpV.pickT rfl rfl rfl rfl rfl) ?_
  refine VO.mv rfl rfl rfl rfl ?_
  refine VO.opX rfl rfl rfl rfl rfl ?_
  refine VO.opX rfl rfl rfl rfl rfl ?_
  refine VO.opX rfl rfl rfl rfl rfl ?_
  refine VO.opX rfl rfl rfl rfl rfl ?_
  refine VO.opU rfl rfl rfl rfl ?_
  refine VO.opU rfl rfl rfl rfl ?_
  refine VO.opU rfl rfl rfl rfl ?_
  refine VO.opU rfl rfl rfl rfl ?_
  refine VO.opU rfl rfl rfl rfl ?_
  refine VO.opU rfl rfl rfl rfl ?_
  refine VO.opX rfl rfl rfl rfl rfl ?_
  refine VO.val rfl rfl (OpV.pickT rfl rfl rfl rfl rfl) ?_
  refine VO.nil ?_
  refine VC.condT rfl rfl ?_
  have hbad : badD d neg most = true := by simp [badD, *]
  refine VC.sr ?_
  refine VO.ma rfl rfl rfl rfl ?_
  refine VO.ma rfl rfl rfl rfl ?_
  refine VO.nil ?_
  refine VC.ret ?_
  exact Exists.intro _ (And.intro (RetN.two Tryz.results183 (ResN.v rfl) (ResN.v rfl)) (by rw [numV, numE, hd, hng, hbad]; rfl))
end Go.Proofs.YtbbgjeiefmiblaaGreatDoor
namespace Go.Proofs.YtbbgjeiefmiblaaGreatDoor
open Go.RowKit
set_option linter.unusedVariables false
set_option linter.unusedSimpArgs false
def SpecW (g : World → Prop) (P : Program) (F : FuncId) (xs : List AV) (G : AV → Prop) : Prop :=
 ∀ (w : World) (A : Nat → Prop) (us : Array Value), g w → Args w A xs us → Calls P F us w (Ret w A NoB (fun _ => True) G)
section
variable {P : Program} {B : Bs} {W : Nat → Prop} {s : St'} {o : Oper} {K : St' → Prop}
theorem OpE.callW {g : World → Prop} {f : FuncId} {args : Array Operand} {ts : Array TypeId} {xs : List AV} {G : AV → Prop} (ho : o.op = .call { callee := .value (.func f), args := args, argTypes := ts }) (hB : B.Ok) (hd : okd B.nt o.dst = true)
  (hcall : ∀ us w, (callFunc f us).run P w = .ok (.enter f us) w) (hxs : evL s args.toList = some xs) (hspec : SpecW g P f xs G) (hG : ∀ {s a w'}, R B s a w' → g w') (hK : ∀ y, G y → K (s.put o.dst y)) : OpE P B W s o K := by
 have hK' : ∀ y, G y → K ((St'.mk s.sl s.hp s.k).put o.dst y) := hK
 refine OpE.callG (str := NoB) (T' := fun w => B.T w s.k) (k' := s.k) (A := Zo B s.hp) (xs := xs) ho hB hd hcall rfl (fun b h => h.elim) (fun w h => h) (fun a w hr => by simpa using evL_args hr hxs) (fun a w us hr ha => ?_) (fun b h => h) hK'
 refine (hspec w _ us (hG hr) ha).mono fun e w' ⟨y, v, h1, h2, h3, h4, h5⟩ => ⟨y, v, h1, h2, h3, h4, hB.keep hr.res h4 fun j _ h => h⟩
theorem SpecW.of_VC {g : World → Prop} {F : FuncId} {fn : Func} {c : Code} (hf : P.funcs[F]? = some fn) (hb : fn.body = some c) {xs : List AV} {G : AV → Prop} {nt : Nat} (hn : fn.ntmps = nt) (hle : xs.length ≤ nt)
  (h : ∀ w A, g w → (B0 w A nt).Ok → VC P (B0 w A nt) c (retQ P fn G) ⟨slots0 0 xs, [], 0⟩) : SpecW g P F xs G := fun w A us hg ha =>
 (calls_of_VC (k := 0) hf hb (B := B0 w A nt) rfl hn.symm ha (fun _ h => h.elim) trivial (by omega) (h w A hg (B0.ok _ _ _))).mono fun e w' ⟨y, v, s, a, h1, h2, h3, h4⟩ =>
  ⟨y, v, h1, h2, h3.keep fun b hb _ => ⟨rfl, hb.1, fun hl => (hb.2.2 hl).1.elim id fun h => h.elim⟩, h4.chg, trivial⟩
end
def TabW (P : Program) (w : World) : Prop := Lib.TabIs P w "internal/strconv.uint64pow10" .u64 Lib.pow10Tab
theorem TabW.keep {P : Program} {S : Nat → Prop} {w w' : World} {g : Nat} (hg : P.globalNamed "internal/strconv.uint64pow10" = some g) (h : TabW P w) (c : Chg S w w') (hS : ¬ S g) : TabW P w' := by
 unfold TabW Lib.TabIs World.var? at *
 rw [hg] at h ⊢
 simp only [Option.bind_some] at h ⊢
 have hlt : g < w.heap.size := by
  by_cases hl : g < w.heap.size
  ·exact hl
  ·rw [Array.getElem?_eq_none (by omega)] at h; cases h
 rw [c.block g hlt hS]
 exact h
theorem TabW.base {P : Program} {w : World} {A : Nat → Prop} {nt g : Nat} (hg : P.globalNamed "internal/strconv.uint64pow10" = some g) (h : TabW P w) : ∀ {s a w'}, R (B0 w A nt) s a w' → TabW P w' := fun hr => h.keep hg hr.chg fun h => h
end Go.Proofs.YtbbgjeiefmiblaaGreatDoor
namespace Go.Proofs.YtbbgjeiefmiblaaGreatDoor
open Go.RowKit
set_option linter.unusedVariables false
set_option linter.unusedSimpArgs false
theorem tab_named : ∃ g, Tryz.prog.globalNamed "internal/strconv.uint64pow10" = some g := Option.isSome_iff_exists.1 (by kernel_rfl)
theorem tab_base {w : World} {A : Nat → Prop} {nt : Nat} (h : TabW Tryz.prog w) : ∀ {s a w'}, R (B0 w A nt) s a w' → TabW Tryz.prog w' := fun hr => by
 obtain ⟨g, hg⟩ := tab_named
 exact h.keep hg hr.chg fun h => h
theorem chg_grow (w : World) (q : Nat) (os : Array Obj) : Chg NoB w (Go.Sort.grow (w.drewN q) os) :=
 ⟨rfl, rfl, rfl, by simp [Go.Sort.grow], fun b hb _ => by simp [Go.Sort.grow, Array.getElem?_append_left hb]⟩
def itoaS (n : Int) : ByteArray := bytesOf (Lib.itoa n)
theorem strconv_Itoa_S {n : Int} (hn : fits n) : SpecW (TabW Tryz.prog) Tryz.prog 97 [avI n] (fun y => y = avS (itoaS n)) := by
 intro w A us hg ha
 rw [args1 ha]
 have h := hn
 unfold fits at h
 refine (Tryz.strconv_Itoa n (by omega) (by omega) w hg).mono ?_
 rintro e w' ⟨rfl, k, os, rfl⟩
 exact ⟨_, _, rfl, rfl, .v _, chg_grow w k os, trivial⟩
end Go.Proofs.YtbbgjeiefmiblaaGreatDoor
namespace Go.Proofs.YtbbgjeiefmiblaaGreatDoor
open Go.RowKit
set_option linter.unusedVariables false
set_option linter.unusedSimpArgs false
structure StabX (TX : List Ent → World → Prop) : Prop where
 keep : ∀ {hp hp' : List Ent} {w w' : World}, TX hp w → Chg (BlkL hp) w w' → (∀ b, BlkL hp' b → b < w.heap.size → BlkL hp b) → TX hp' w'
def SpecHX (TX : List Ent → World → Prop) (P : Program) (F : FuncId) (xs : List AV) (hp : List Ent) (G : AV → List Ent → Prop) : Prop :=
 ∀ (w : World) (A : Nat → Prop) (us : Array Value), TX hp w → Args w A xs us → Apart hp → (∀ b, BlkL hp b → ¬ A b) → (∀ e ∈ hp, EntR w (fun b => b < w.heap.size ∧ A b) e) →
  Calls P F us w fun e w' => ∃ y v hp', G y hp' ∧ e = .returned v ∧ Apart hp' ∧ Rep w' (Zh w A hp hp' w') y v ∧ (∀ e ∈ hp', EntR w' (Zh w A hp hp' w') e) ∧
   (∀ b, BlkL hp' b → b < w.heap.size → BlkL hp b) ∧ Chg (BlkL hp) w w'
theorem SpecHX.of_VC {TX : List Ent → World → Prop} (hst : StabX TX) {P : Program} {F : FuncId} {fn : Func} {c : Code} (hf : P.funcs[F]? = some fn) (hb : fn.body = some c) {xs : List AV} {hp : List Ent} {G : AV → List Ent → Prop} {nt : Nat} (hn : fn.ntmps = nt) (hle : xs.length ≤ nt)
  (h : ∀ w A, (Bh w A nt hp).Ok → (∀ s a w', R (Bh w A nt hp) s a w' → TX s.hp w') → VC P (Bh w A nt hp) c (retS P fn fun y s => G y s.hp) ⟨slots0 0 xs, hp, 0⟩) : SpecHX TX P F xs hp G := fun w A us hx ha h1 h2 h3 => by
 have hus : us.size ≤ fn.ntmps := by rw [ha.1, hn]; exact hle
 refine calls_of_wp hf hb (Code.wp_mono (fun e a w' hq => ?_) (h w A (Bh.ok _ _ _ _) (fun s a w' hr => hst.keep hx hr.chg fun b ⟨p, hp1, hpb⟩ hl => (hr.own p hp1 b hpb).2 hl) _ w (by
  have := R.startH (nt := nt) ha h1 h2 h3 (by omega)
  rwa [hn])))
 obtain ⟨s, hq, hr⟩ := hq
 have key : ∀ y v, G y s.hp → Rep w' (Zn (Bh w A nt hp) s.hp w') y v → ∃ y v' hp', G y hp' ∧ Ending.returned v = .returned v' ∧ Apart hp' ∧ Rep w' (Zh w A hp hp' w') y v' ∧ (∀ e ∈ hp', EntR w' (Zh w A hp hp' w') e) ∧
   (∀ b, BlkL hp' b → b < w.heap.size → BlkL hp b) ∧ Chg (BlkL hp) w w' := fun y v hG hv => by
  have hZ : ∀ b, Zn (Bh w A nt hp) s.hp w' b → Zh w A hp s.hp w' b := fun b hb => ⟨hb.1, fun ⟨p, hp1, hp2⟩ => hb.2.1 p hp1 hp2, fun hl => (hb.2.2 hl).1⟩
  exact ⟨y, v, s.hp, hG, rfl, hr.nodup, hv.keep fun b hb _ => ⟨rfl, hZ b hb⟩, fun p hp' => (hr.blocks p hp').keep (fun b hb _ => ⟨rfl, hZ b hb⟩) fun g _ => rfl, fun b ⟨p, hp1, hp2⟩ hl => (hr.own p hp1 b hp2).2 hl, hr.chg⟩
 cases e with
 | normal =>
  obtain ⟨y, k1, k2⟩ := hq
  obtain ⟨v, k3, k4⟩ := k1 _ a w' hr
  exact ⟨hr.defs, v, k3, key y v k2 k4⟩
 | ret =>
  obtain ⟨y, k1, k2⟩ := hq
  obtain ⟨v, k3, k4⟩ := k1 _ a w' hr
  exact ⟨hr.defs, v, k3, key y v k2 k4⟩
 | exit id => exact hq.elim
 | goto l => exact hq.elim
 | panic c => exact hq.elim
 | outgrown => exact hq.elim
section
variable {P : Program} {B : Bs} {W : Nat → Prop} {s : St'} {o : Oper} {K : St' → Prop}
end
def TabX (P : Program) (hp : List Ent) (w : World) : Prop := TabW P w ∧ ∀ b, BlkL hp b → P.globalNamed "internal/strconv.uint64pow10" ≠ some b
theorem TabW.lt {P : Program} {w : World} {g : Nat} (hg : P.globalNamed "internal/strconv.uint64pow10" = some g) (h : TabW P w) : g < w.heap.size := by
 unfold TabW Lib.TabIs World.var? at h
 rw [hg] at h
 simp only [Option.bind_some] at h
 by_cases hl : g < w.heap.size
 ·exact hl
 ·rw [Array.getElem?_eq_none (by omega)] at h; cases h
theorem TabX.base {P : Program} {w : World} {A : Nat → Prop} {nt g : Nat} (hg : P.globalNamed "internal/strconv.uint64pow10" = some g) (h : TabW P w) : ∀ s a w', R (B0 w A nt) s a w' → TabX P s.hp w' := fun s a w' hr => by
 refine ⟨h.base hg hr, fun b ⟨p, hp1, hpb⟩ e => ?_⟩
 obtain rfl : g = b := Option.some.inj (hg.symm.trans e)
 exact (hr.own p hp1 g hpb).2 (h.lt hg)
end Go.Proofs.YtbbgjeiefmiblaaGreatDoor
namespace Go.Proofs.YtbbgjeiefmiblaaGreatDoor
open Go.RowKit
set_option linter.unusedVariables false
set_option linter.unusedSimpArgs false
def TabP (p : Nat) (w : World) : Prop := TabW Tryz.prog w ∧ ∀ g, Tryz.prog.globalNamed "internal/strconv.uint64pow10" = some g → g < p
theorem TabP.keep {S : Nat → Prop} {w w' : World} {p : Nat} (h : TabP p w) (c : Chg S w w') (hS : ∀ j, j < p → ¬ S j) : TabP p w' := by
 obtain ⟨g, hg⟩ := tab_named
 exact ⟨h.1.keep hg c (hS g (h.2 g hg)), h.2⟩
def TTW (p : Nat) (L : List Int) (w : World) (k : Nat) : Prop := TT p L w k ∧ TabP p w
theorem TTW.ok {p : Nat} {L : List Int} {w : World} {A : Nat → Prop} {nt k : Nat} (h : TTW p L w k) : (B1 w A nt (fun b => b = p) (fun b => b ≤ p) (TTW p L)).Ok := by
 obtain ⟨⟨k', hk, hs⟩, hb⟩ := h
 exact {
  keep := fun {S w w' k} ⟨⟨k', hk, hs⟩, hb⟩ hc hS => ⟨⟨k', hk, hs.keep hc hS⟩, hb.keep hc fun j hj => hS j (Nat.le_of_lt hj)⟩
  low := fun j hj => Nat.lt_of_le_of_lt hj hs.lt
  str := fun j hj => by cases hj; exact ⟨Nat.le_refl _, rfl⟩
  up := fun {w k k2} ⟨⟨k', h1, h2⟩, hb⟩ h3 => ⟨⟨k', Nat.le_trans h1 h3, h2⟩, hb⟩ }
theorem SpecT.liftW {P : Program} {p : Nat} {L : List Int} {F : FuncId} {xs : List AV} {c : Nat} {G : AV → Prop} (h : SpecT P (TT p L) (fun b => b = p) F xs c G) : SpecT P (TTW p L) (fun b => b = p) F xs c G := fun w A us k ha ht hd hk =>
 (h w A us k ha ht.1 hd hk).mono fun e w' ⟨y, v, h1, h2, h3, h4, h5⟩ => ⟨y, v, h1, h2, h3, h4, h5, ht.2.keep h4 fun j hj e => by
  have e' : j = p := e
  omega⟩
theorem tabT {p : Nat} {L : List Int} {w : World} {A : Nat → Prop} {nt : Nat} {str low : Nat → Prop} : ∀ {s a w'}, R (B1 w A nt str low (TTW p L)) s a w' → TabW Tryz.prog w' := fun hr => hr.res.2.1
section
variable {w : World} {A : Nat → Prop} {nt t : Nat} {x : Value} {c : Code} {s : St'}
theorem VC.streamT {a0 : Option Addr} {cap0 g tot i : Nat} {L : List Int} {sl : List (Nat × AV)} (hi : s.hp[i]? = some (.box g ⟨[.v (.slice a0 L.length cap0), .v (.int .i64 0)], 25, tot⟩)) (htot : tot = 2) (hTab : TabW Tryz.prog w) (hin : Inp w a0 L) (hsl : LeL s.sl sl) (hf : ∀ p ∈ sl, ∃ v, p.2 = .v v)
  (h : ∀ w1, w.heap.size ≤ g → (B1 w1 (fun b => b ≠ g) nt (fun b => b = g) (fun b => b ≤ g) (TTW g L)).Ok → VC Tryz.prog (B1 w1 (fun b => b ≠ g) nt (fun b => b = g) (fun b => b ≤ g) (TTW g L)) c (lawQ t x) ⟨sl, [], 0⟩) : VC Tryz.prog (B0 w A nt) c (lawQ t x) s :=
 VC.rebase fun a w1 hr => by
  have hm := List.mem_of_getElem? hi
  obtain ⟨cc, k1, k2, k3, k4⟩ := hr.blocks _ hm
  have hnew : ¬ g < w.heap.size := hr.isNew (fun b h => h) hm rfl
  have hge : w.heap.size ≤ g := by omega
  have hcc : cc = #[.slice a0 L.length cap0, .int .i64 0] := by
   obtain ⟨u0, p0, q0⟩ := k4 0 (by simp)
   obtain ⟨u1, p1, q1⟩ := k4 1 (by simp)
   have e0 := q0.eq_v
   have e1 := q1.eq_v
   have hsz : cc.size = 2 := k2.trans htot
   apply Array.ext (by simpa using hsz)
   intro i hi hi'
   simp at hi'
   match i, hi' with
   | 0, _ => have := Array.getElem?_eq_some_iff.1 p0; simp; rw [this.2, e0]
   | 1, _ => have := Array.getElem?_eq_some_iff.1 p1; simp; rw [this.2, e1]
  subst hcc
  have hT : TT g L w1 0 := ⟨0, Nat.le_refl _, a0, cap0, k1, hin.1, fun i hi => by
   obtain ⟨b, o, e1, e2⟩ := hin.2 i hi
   have hb := World.block_lt_of_cell? w _ e2
   exact ⟨b, o, e1, Nat.lt_of_lt_of_le hb hge, hr.chg.cell e2 fun h => h⟩⟩
  have htp : TabP g w1 := by
   obtain ⟨g1, hg1⟩ := tab_named
   refine ⟨hTab.keep hg1 hr.chg fun h => h, fun g2 hg2 => ?_⟩
   obtain rfl := Option.some.inj (hg1.symm.trans hg2)
   have := hTab.lt hg1
   omega
  refine ⟨_, _, rfl, rfl, fun b hb => by rw [hb]; exact hge, ?_, h w1 hge (TTW.ok ⟨hT, htp⟩)⟩
  refine ⟨fun t' y hy => ?_, hr.size, hr.defs, fun p hp => by simp at hp, List.Pairwise.nil, Chg.refl _ _, fun p hp => by simp at hp, ⟨hT, htp⟩⟩
  have hs := hr.slots t' y (LeL.look hsl t' y hy)
  have : ∃ v, y = .v v := by
   have key : ∀ (l : List (Nat × AV)), (∀ p ∈ l, ∃ v, p.2 = .v v) → look l t' = some y → ∃ v, y = .v v := by
    intro l
    induction l with
    | nil => intro _ h; cases h
    | cons p r ih =>
     intro hp hl
     obtain ⟨k, z⟩ := p
     rw [look_put] at hl
     split at hl
     ·cases hl; exact hp (k, y) (by simp)
     ·exact ih (fun q hq => hp q (by simp [hq])) hl
   exact key sl hf hy
  exact hs.flat this
end
end Go.Proofs.YtbbgjeiefmiblaaGreatDoor
namespace Go.Proofs.YtbbgjeiefmiblaaGreatDoor
open Go.RowKit
set_option linter.unusedVariables false
set_option linter.unusedSimpArgs false
theorem dig_is {b : UInt8} {d : Nat} (h : Lib.digitVal b = some d) : b = UInt8.ofNat (48 + d) ∧ d ≤ 9 ∧ (b = 48 ↔ d = 0) := by
 unfold Lib.digitVal at h
 split at h
 ·rename_i hb
  injection h with h
  have e : b = UInt8.ofNat (48 + d) := by
   apply UInt8.toNat_inj.1
   simp
   omega
  refine ⟨e, by omega, fun e => ?_, fun e' => ?_⟩
  ·subst e; simp at h; omega
  ·subst e'; rw [e]; rfl
 ·cases h
theorem decFrom_snoc : ∀ {l : List UInt8} {acc m d : Nat} {b : UInt8}, Lib.decFrom acc l = some m → Lib.digitVal b = some d → Lib.decFrom acc (l ++ [b]) = some (m * 10 + d)
 | [], acc, m, d, b, h, hb => by
  unfold Lib.decFrom at h
  injection h with h; subst h
  simp [Lib.decFrom, hb]
 | x :: l, acc, m, d, b, h, hb => by
  rw [List.cons_append]
  unfold Lib.decFrom at h ⊢
  cases hx : Lib.digitVal x with
  | none => rw [hx] at h; cases h
  | some k => rw [hx] at h; exact decFrom_snoc h hb
theorem decFrom_ge : ∀ {l : List UInt8} {acc m : Nat}, Lib.decFrom acc l = some m → acc ≤ m
 | [], acc, m, h => by
  unfold Lib.decFrom at h
  injection h with h; omega
 | x :: l, acc, m, h => by
  unfold Lib.decFrom at h
  cases hx : Lib.digitVal x with
  | none => rw [hx] at h; cases h
  | some k =>
   rw [hx] at h
   have := decFrom_ge h
   omega
theorem decFrom_pos {l : List UInt8} {n : Nat} (h : Lib.decFrom 0 l = some n) (h0 : l ≠ []) (h1 : l.getD 0 0 ≠ 48) : 1 ≤ n := by
 cases l with
 | nil => exact absurd rfl h0
 | cons x r =>
  unfold Lib.decFrom at h
  cases hx : Lib.digitVal x with
  | none => rw [hx] at h; cases h
  | some k =>
   rw [hx] at h
   have h2 := decFrom_ge h
   have h3 := (dig_is hx).2.2
   simp at h1
   have : k ≠ 0 := fun e => h1 (h3.2 e)
   omega
theorem dd_head : ∀ u, 1 ≤ u → ∃ b r, Lib.decDigits u = b :: r ∧ b ≠ 48 := fun u => by
 induction u using Nat.strongRecOn with
 | _ u ih =>
  intro hu
  by_cases h : u < 10
  ·refine ⟨_, [], Lib.decDigits_one h, fun e => ?_⟩
   have := congrArg UInt8.toNat e
   simp at this
   omega
  ·obtain ⟨b, r, e, hb⟩ := ih (u / 10) (by omega) (by omega)
   rw [Lib.decDigits, dif_neg h, e]
   exact ⟨b, _, rfl, hb⟩
theorem canon_yes : ∀ {k : Nat} {l : List UInt8} {n : Nat}, l.length = k + 1 → Lib.decFrom 0 l = some n → l.all (inB digsB) = true → (l.length = 1 ∨ l.getD 0 0 ≠ 48) → Lib.decDigits n = l
 | 0, l, n, hl, h, ha, hc => by
  match l, hl with
  | [b], _ =>
   rw [List.all_cons, Bool.and_eq_true] at ha
   obtain ⟨d, hd⟩ := dig_val ha.1
   simp [Lib.decFrom, hd] at h
   subst h
   obtain ⟨e, h9, _⟩ := dig_is hd
   rw [Lib.decDigits_one (by omega), e]
 | k + 1, l, n, hl, h, ha, hc => by
  have hne : l ≠ [] := fun e => by rw [e] at hl; simp at hl
  obtain ⟨l', b, rfl⟩ : ∃ l' b, l = l' ++ [b] := ⟨l.dropLast, l.getLast hne, (List.dropLast_concat_getLast hne).symm⟩
  have hl' : l'.length = k + 1 := by simpa using hl
  rw [List.all_append, Bool.and_eq_true] at ha
  have hb := ha.2
  rw [List.all_cons, Bool.and_eq_true] at hb
  obtain ⟨d, hd⟩ := dig_val hb.1
  obtain ⟨m, hm⟩ := decFrom_all 0 ha.1
  have h2 := decFrom_snoc hm hd
  rw [h] at h2
  injection h2 with h2
  have h0 : (l' ++ [b]).getD 0 0 ≠ 48 := hc.resolve_left (by rw [hl]; omega)
  have hn' : l' ≠ [] := fun e => by rw [e] at hl'; simp at hl'
  have h0' : l'.getD 0 0 ≠ 48 := by
   cases l' with
   | nil => exact absurd rfl hn'
   | cons x r => simpa using h0
  have hp := decFrom_pos hm hn' h0'
  obtain ⟨e, h9, _⟩ := dig_is hd
  have ih := canon_yes hl' hm ha.1 (.inr h0')
  rw [Lib.decDigits, dif_neg (by omega), show n / 10 = m by omega, show n % 10 = d by omega, ih, ← e]
theorem canon_no {l : List UInt8} {n : Nat} (h : Lib.decDigits n = l) : l.length = 1 ∨ l.getD 0 0 ≠ 48 := by
 by_cases h0 : n = 0
 ·subst h0; rw [Lib.decDigits_one (by decide)] at h; subst h; exact .inl rfl
 ·obtain ⟨b, r, e, hb⟩ := dd_head n (by omega)
  rw [e] at h; subst h; exact .inr (by simpa using hb)
theorem canon {l : List UInt8} {n : Nat} (hn : l ≠ []) (h : Lib.decFrom 0 l = some n) (ha : l.all (inB digsB) = true) : Lib.decDigits n = l ↔ (l.length = 1 ∨ l.getD 0 0 ≠ 48) :=
 ⟨canon_no, canon_yes (k := l.length - 1) (by have := List.length_pos_iff.2 hn; omega) h ha⟩
end Go.Proofs.YtbbgjeiefmiblaaGreatDoor
namespace Go.Proofs.YtbbgjeiefmiblaaGreatDoor
open Go.RowKit
set_option linter.unusedVariables false
set_option linter.unusedSimpArgs false
theorem neg_yes {s : ByteArray} (h : negOf s = true) : byL s = 45 :: byL (dOf s) := by
 have h1 : Lib.hasPrefix (byL s) [45] = true := h
 have e : byL (dOf s) = (byL s).drop 1 := by
  show (Lib.trimPrefix (byL s) [45]).toArray.toList = _
  simp [Lib.trimPrefix, h1]
 rw [e]
 unfold Lib.hasPrefix at h1
 cases hs : byL s with
 | nil => rw [hs] at h1; cases h1
 | cons b r =>
  rw [hs] at h1
  simp [List.isPrefixOf] at h1
  simp [h1]
theorem neg_no {s : ByteArray} (h : negOf s = false) : dOf s = s := by
 have h1 : Lib.hasPrefix (byL s) [45] = false := h
 rw [dOf, Lib.trimPrefix, h1]
 simp [bytesOf]
def nVal (s : ByteArray) : Int := if negOf s = true then -valD (dOf s) else valD (dOf s)
def badR (d : ByteArray) (most : Int) : Bool := sEq d ⟨#[]⟩ || (decide (most < d.size) || !(byL d).all (inB digsB))
theorem badR_ok {d : ByteArray} {most : Int} (h : badR d most = false) : sEq d ⟨#[]⟩ = false ∧ d.size ≤ most ∧ (byL d).all (inB digsB) = true ∧ byL d ≠ [] := by
 unfold badR at h
 simp only [Bool.or_eq_false_iff, decide_eq_false_iff_not, Bool.not_eq_false', Int.not_lt] at h
 refine ⟨h.1, h.2.1, h.2.2, fun e => ?_⟩
 have := byL_len d
 rw [e] at this
 have hp := pos_of_ne (p := d) h.1
 simp at this; omega
theorem nVal_atoi {s : ByteArray} {most : Int} (hm : most ≤ 17) (h : badR (dOf s) most = false) : ∃ n : Nat, Lib.decFrom 0 (byL (dOf s)) = some n ∧ valD (dOf s) = n ∧ n < 1000000000000000000 ∧ Lib.atoi (byL s) = some (nVal s) ∧ s.size ≤ 18 := by
 obtain ⟨h1, h2, h3, h4⟩ := badR_ok h
 obtain ⟨n, e⟩ := decFrom_all 0 h3
 obtain ⟨n', e1⟩ := atoi_all h3 h4
 have hlt := Lib.decFrom_lt18 e (by rw [byL_len]; omega)
 have hnat : Lib.decNat (byL (dOf s)) = some n := by
  unfold Lib.decNat
  rw [if_neg (by simpa using h4), e]
 have hat : Lib.atoi (byL (dOf s)) = some (n : Int) := by
  cases hl : byL (dOf s) with
  | nil => exact absurd hl h4
  | cons b r =>
   rw [hl] at h3 hnat
   rw [List.all_cons, Bool.and_eq_true] at h3
   have hb : b ≠ 45 ∧ b ≠ 43 := by
    have hc := inB_contains digsB b
    rw [h3.1] at hc
    constructor <;> (rintro rfl; simp at hc)
   have e1 : (b == 45) = false := by simpa using hb.1
   have e2 : (b == 43) = false := by simpa using hb.2
   simp only [Lib.atoi, e1, e2, Bool.false_eq_true, if_false, hnat]
   rfl
 have hv : valD (dOf s) = n := by rw [valD, hat]; rfl
 have hsz := byL_len s
 have hdz := byL_len (dOf s)
 refine ⟨n, e, hv, hlt, ?_, ?_⟩
 ·cases hn : negOf s with
  | true =>
   rw [nVal, if_pos hn, neg_yes hn, hv]
   simp only [Lib.atoi, hnat, BEq.rfl, if_true]
   rfl
  | false =>
   rw [nVal, if_neg (by rw [hn]; simp), hv, ← hat, neg_no hn]
 ·cases hn : negOf s with
  | true => rw [neg_yes hn, List.length_cons] at hsz; omega
  | false => rw [neg_no hn] at h2; omega
def rfE (s : ByteArray) (most : Int) : Bool := !badR (dOf s) most && sEq (itoaS (nVal s)) s
def rfV (s : ByteArray) (most : Int) : Int := if badR (dOf s) most = true then 0 else nVal s
end Go.Proofs.YtbbgjeiefmiblaaGreatDoor
namespace Go.Proofs.YtbbgjeiefmiblaaGreatDoor
open Go.RowKit
set_option linter.unusedVariables false
set_option linter.unusedSimpArgs false
def numsV (l : List ByteArray) (q : Nat) : List Int := (l.take q).map fun x => numV x 15
theorem numsV_snoc {l : List ByteArray} {q : Nat} (h : q < l.length) : numsV l (q + 1) = numsV l q ++ [numV (l.getD q ByteArray.empty) 15] := by
 rw [numsV, numsV, List.take_add_one, List.map_append, List.getD_eq_getElem?_getD, List.getElem?_eq_getElem h]; rfl
theorem numsV_len {l : List ByteArray} {q : Nat} (h : q ≤ l.length) : (numsV l q).length = q := by simp [numsV]; omega
def numsB (l : List ByteArray) : Bool := l.all fun x => numE x 15
def numsR (l : List ByteArray) : List Int := if numsB l = true then numsV l l.length else []
theorem nums_all {l : List ByteArray} (h : ∀ j, j < l.length → numE (l.getD j ByteArray.empty) 15 = true) : numsB l = true ∧ numsR l = numsV l l.length := by
 have h1 : numsB l = true := by
  unfold numsB
  rw [List.all_eq_true]
  intro x hx
  obtain ⟨j, hj, rfl⟩ := List.getElem_of_mem hx
  have := h j hj
  rw [List.getD_eq_getElem?_getD, List.getElem?_eq_getElem hj] at this
  exact this
 exact ⟨h1, if_pos h1⟩
theorem nums_none {l : List ByteArray} {q : Nat} (hq : q < l.length) (h : numE (l.getD q ByteArray.empty) 15 = false) : numsB l = false ∧ numsR l = [] := by
 have h1 : numsB l = false := by
  unfold numsB
  rw [List.all_eq_false]
  rw [List.getD_eq_getElem?_getD, List.getElem?_eq_getElem hq] at h
  exact ⟨_, List.getElem_mem hq, by simp at h; simp [h]⟩
 exact ⟨h1, if_neg (by rw [h1]; simp)⟩
set_option maxRecDepth 100000 in
set_option maxHeartbeats 2000000 in
theorem kit_Numbers {l : List ByteArray} (hl : l.length ≤ 1000000) (hb : ∀ i, (l.getD i ByteArray.empty).size ≤ 100000000) :
  SpecN Tryz.prog 147 [avStrs l] (fun y => y = .tup [avInts (numsR l), avB (numsB l)]) := by
 refine SpecN.of_VCN Tryz.func147 rfl Tryz.ntmps147 (Nle rfl) fun w A hB => ?_
 have hnew : True := trivial
 refine VC.sr ?_
 refine VO.ma rfl rfl rfl rfl ?_
 refine VO.ma rfl rfl rfl rfl ?_
 refine VO.nil ?_
 refine VC.sr ?_
 refine VO.ma rfl rfl rfl rfl ?_
 refine VO.nil ?_
 refine VC.seq ?_
 refine VC.sr ?_
 refine VO.mv rfl rfl rfl rfl ?_
 refine VO.val rfl rfl (OpV.len_im rfl Tryz.underlying29 rfl) ?_
 refine VO.mv rfl rfl rfl rfl ?_
 refine VO.nil ?_
 refine VC.block ?_
 refine VC.le _ (Le.nilRow 1 3) ?_
 refine VC.loopK [(9, _), (10, _)] ⟨rfl, rfl, trivial⟩ ({z : Value × Nat // z.2 ≤ l.length ∧ ∀ j, j < z.2 → numE (l.getD j ByteArray.empty) 15 = true}) (fun (iZ : {z : Value × Nat // z.2 ≤ l.length ∧ ∀ j, j < z.2 → numE (l.getD j ByteArray.empty) 15 = true}) => match iZ with | ⟨⟨u, q⟩, hq, hn⟩ => [(4, .v u), (11, avI (q : Int))]) (fun (iZ : {z : Value × Nat // z.2 ≤ l.length ∧ ∀ j, j < z.2 → numE (l.getD j ByteArray.empty) 15 = true}) => match iZ with | ⟨⟨u, q⟩, hq, hn⟩ => [.row u (numsV l q).length 1 (intsL (numsV l q)) 3]) (fun (iZ : {z : Value × Nat // z.2 ≤ l.length ∧ ∀ j, j < z.2 → numE (l.getD j ByteArray.empty) 15 = true}) => match iZ with | ⟨⟨u, q⟩, hq, hn⟩ => 0) (fun (iZ : {z : Value × Nat // z.2 ≤ l.length ∧ ∀ j, j < z.2 → numE (l.getD j ByteArray.empty) 15 = true}) => match iZ with | ⟨⟨u, q⟩, hq, hn⟩ => l.length - q) ⟨(.slice none 0 0, 0), Nat.zero_le _, fun j hj => absurd hj (Nat.not_lt_zero j)⟩ (Le.mk hB [0] ⟨rfl, rfl, rfl, rfl, trivial⟩ rfl rfl (Nat.le_refl _)) ?_
 rintro ⟨⟨u, q⟩, hq, hn⟩
 show VC _ _ _ _ ⟨[(4, .v u), (11, avI (q : Int))] ++ [(9, _), (10, _)], [.row u (numsV l q).length 1 (intsL (numsV l q)) 3], 0⟩
 simp only at hq hn
 have hvl := numsV_len hq
 refine VC.sr ?_
 refine VO.val rfl rfl (OpV.lss rfl rfl rfl) ?_
 refine VO.nil ?_
 refine VC.seq ?_
 refine VC.cond rfl (fun aH1b => ?_) (fun aH1b => ?_)
 ·have aH1 := aH1b
  try simp only [qqT, qqF, qqN, qqM, qqL, qqE] at aH1
  refine VC.skip ?_
  refine VC.seq ?_
  refine VC.block ?_
  refine VC.sr ?_
  refine VO.val rfl rfl (OpV.indexAddr_1 rfl Tryz.underlying29 Tryz.sizeOf9 rfl rfl rfl (by omega)) ?_
  refine VO.val rfl rfl (OpV.load_at rfl hB OutW.no Tryz.isAgg9 rfl rfl) ?_
  refine VO.ma rfl rfl rfl rfl ?_
  refine VO.nil ?_
  refine VC.sr ?_
  refine VO.mv rfl rfl rfl rfl ?_
  refine VO.op rfl (OpE.call rfl hB rfl Tryz.call183 rfl (SpecN.spec (kit_Number (hb q) (by decide) (by decide))) ?_)
  rintro _ rfl
  refine VO.mv rfl rfl rfl rfl ?_
  refine VO.val rfl rfl (OpV.extract rfl rfl rfl) ?_
  refine VO.val rfl rfl (OpV.extract rfl rfl rfl) ?_
  refine VO.ma rfl rfl rfl rfl ?_
  refine VO.ma rfl rfl rfl rfl ?_
  refine VO.nil ?_
  refine VC.seq ?_
  refine VC.sr ?_
  refine VO.mv rfl rfl rfl rfl ?_
  refine VO.val rfl rfl (OpV.not rfl rfl) ?_
  refine VO.nil ?_
  refine VC.cond rfl (fun h1b => ?_) (fun h1b => ?_)
  ·have h1 := h1b
   try simp only [qqT, qqF, qqN, qqM, qqL, qqE] at h1
   refine VC.sr ?_
   refine VO.ma rfl rfl rfl rfl ?_
   refine VO.ma rfl rfl rfl rfl ?_
   refine VO.nil ?_
   refine VC.ret ?_
   exact Exists.intro _ (And.intro (RetN.two Tryz.results147 (ResN.nilI rfl) (ResN.v rfl)) (by rw [(nums_none (by omega) h1).1, (nums_none (by omega) h1).2]))
  ·have h1 := h1b
   try simp only [qqT, qqF, qqN, qqM, qqL, qqE] at h1
   refine VC.skip ?_
   refine VC.region ?_
   refine VO.mv rfl rfl rfl rfl ?_
   refine VO.mv rfl rfl rfl rfl ?_
   refine VO.op rfl (OpE.buildSlice (zc := #[.int .i64 0]) rfl hB rfl Tryz.underlying22 Tryz.sizeOf3 Tryz.zeroValue3 (by decide) (by decide) (by kernel_rfl) rfl rfl ?_)
   refine VO.op rfl (OpE.append1 (i := 0) rfl hB rfl Tryz.underlying22 (infoOf Tryz.t3 1 (by kernel_rfl) rfl rfl) rfl (by decide) (by decide) rfl rfl rfl rfl (intsL_snoc _ _) (by omega) (fun _ _ => trivial) ?_)
   intro u25
   refine VO.ma rfl rfl rfl rfl ?_
   refine VO.nil ?_
   refine VC.region ?_
   refine VO.val rfl rfl (OpV.add rfl rfl rfl (by unfold fits; omega)) ?_
   refine VO.mv rfl rfl rfl rfl ?_
   refine VO.nil ?_
   exact Exists.intro (⟨(u25, q + 1), by show q + 1 ≤ _; omega, lt_succ_cases hn h1⟩) (And.intro (Le.mk hB [0] ⟨rfl, rfl, rfl, rfl, trivial⟩ rfl (by dsimp only; rw [numsV_snoc (by omega), List.length_append]; rfl) (Nat.le_refl _)) (by first | omega | (show _ < _; omega) | (simp only []; omega)))
 ·have aH1 := aH1b
  try simp only [qqT, qqF, qqN, qqM, qqL, qqE] at aH1
  refine VC.exit ?_
  refine VC.sr ?_
  refine VO.mv rfl rfl rfl rfl ?_
  refine VO.ma rfl rfl rfl rfl ?_
  refine VO.ma rfl rfl rfl rfl ?_
  refine VO.nil ?_
  refine VC.ret ?_
  exact Exists.intro _ (And.intro (RetN.two Tryz.results147 (ResN.rowI (i := 0) rfl rfl rfl) (ResN.v rfl)) (by rw [(nums_all (fun j hj => hn j (by omega))).1, (nums_all (fun j hj => hn j (by omega))).2, show q = l.length by omega]))
end Go.Proofs.YtbbgjeiefmiblaaGreatDoor
namespace Go.Proofs.YtbbgjeiefmiblaaGreatDoor
open Go.RowKit
set_option linter.unusedVariables false
set_option linter.unusedSimpArgs false
theorem trimD_eq (d : ByteArray) : sEq (trimD d) ⟨#[]⟩ = (byL d).all (inB digsB) := by
 cases h : (byL d).all (inB digsB) with
 | true =>
  rw [trimD, (trimS_all _ _).2 h]; exact sEq_eq.2 rfl
 | false =>
  cases h2 : sEq (trimD d) ⟨#[]⟩ with
  | false => rfl
  | true => rw [trimD_all h2] at h; cases h
theorem badD_eq (d : ByteArray) (neg : Bool) (most : Int) : badD d neg most = (badR d most || (zerD d && (decide ((1 : Int) < d.size) || neg))) := by
 unfold badD badR
 rw [trimD_eq]
 simp only [Bool.or_assoc]
theorem sEq_bytes {l : List UInt8} {s : ByteArray} : sEq (bytesOf l) s = decide (l = byL s) := by
 rw [Bool.eq_iff_iff, sEq_eq, decide_eq_true_eq]
 constructor
 ·rintro rfl; simp [bytesOf, byL]
 ·rintro rfl; exact bytesOf_byL s
theorem zerD_iff {d : ByteArray} : zerD d = true ↔ (byL d).getD 0 0 = 48 := by unfold zerD; rw [decide_eq_true_eq]
theorem num_same (s : ByteArray) (most : Int) (hm : most ≤ 17) : numE s most = rfE s most := by
  unfold numE rfE
  rw [badD_eq]
  cases hb : badR (dOf s) most with
  | true => rfl
  | false =>
    obtain ⟨n, e, hv, hlt, _, _⟩ := nVal_atoi hm hb
    obtain ⟨h1, h2, h3, h4⟩ := badR_ok hb
    have hc := canon h4 e h3
    rw [byL_len] at hc
    have hpos : 0 < (dOf s).size := pos_of_ne h1
    simp only [Bool.false_or, Bool.not_false, Bool.true_and]
    rw [itoaS, sEq_bytes]
    cases hn : negOf s with
    | false =>
      have hs : byL s = byL (dOf s) := by rw [neg_no hn]
      rw [nVal, if_neg (by rw [hn]; simp), hv, Lib.itoa_nonneg, hs]
      cases hz : zerD (dOf s) with
      | true =>
        have hz' := zerD_iff.1 hz
        simp only [Bool.true_and, Bool.or_false]
        rw [← decide_not]
        refine decide_eq_decide.2 ?_
        rw [hc]
        constructor
        · intro h; left; omega
        · rintro (h | h)
          · omega
          · exact absurd hz' h
      | false =>
        have hz' : ¬ (byL (dOf s)).getD 0 0 = 48 := fun h => by rw [zerD_iff.2 h] at hz; cases hz
        simp only [Bool.false_and, Bool.not_false]
        exact (decide_eq_true (hc.2 (.inr hz'))).symm
    | true =>
      rw [nVal, if_pos hn, hv, neg_yes hn]
      simp only [Bool.or_true, Bool.and_true]
      by_cases h0 : n = 0
      · subst h0
        have hz : zerD (dOf s) = true := by
          rw [zerD_iff]
          by_cases hh : (byL (dOf s)).getD 0 0 = 48
          · exact hh
          · have := decFrom_pos e h4 hh; omega
        rw [hz]
        symm
        refine decide_eq_false fun h => ?_
        rw [show -((0 : Nat) : Int) = ((0 : Nat) : Int) by rfl, Lib.itoa_nonneg, Lib.decDigits_one (by decide)] at h
        simp at h
      · rw [Lib.itoa_neg n (by omega)]
        cases hz : zerD (dOf s) with
        | true =>
          have hz' := zerD_iff.1 hz
          symm
          refine decide_eq_false fun h => ?_
          injection h with _ h
          rcases hc.1 h with h5 | h5
          · have hl : (byL (dOf s)).length = 1 := by rw [byL_len]; exact h5
            match hd : byL (dOf s), hl with
            | [b], _ =>
              rw [hd] at hz' e
              simp at hz'
              subst hz'
              simp [Lib.decFrom, Lib.digitVal] at e
              omega
          · exact h5 hz'
        | false =>
          have hz' : ¬ (byL (dOf s)).getD 0 0 = 48 := fun h => by rw [zerD_iff.2 h] at hz; cases hz
          symm
          refine decide_eq_true ?_
          rw [hc.2 (.inr hz')]
theorem numV_same (s : ByteArray) (most : Int) (hm : most ≤ 17) (h : numE s most = true) : numV s most = nVal s ∧ rfV s most = nVal s := by
 have h2 := h
 rw [num_same s most hm] at h2
 unfold numE at h
 unfold rfE at h2
 rw [Bool.and_eq_true] at h2
 constructor
 ·rw [numV, if_neg (by simpa using h)]; rfl
 ·rw [rfV, if_neg (by simpa using h2.1)]
end Go.Proofs.YtbbgjeiefmiblaaGreatDoor
namespace Go.Proofs.YtbbgjeiefmiblaaGreatDoor
open Go.RowKit
set_option linter.unusedVariables false
set_option linter.unusedSimpArgs false
def joinL (xs : List ByteArray) (sep : ByteArray) : List UInt8 := Lib.join (xs.map (·.data.toList)) sep.data.toList
theorem strings_Join_S {xs : List ByteArray} {sep : ByteArray} (hN : xs.length ≤ 1000000) (hlen : (joinL xs sep).length ≤ 100000000) : SpecN Tryz.prog 117 [avStrs xs, avS sep] (fun y => y = avS (bytesOf (joinL xs sep))) := by
 intro w us ha
 obtain ⟨hsz, hr⟩ := ha
 have h0 : Rep w (fun b => b < w.heap.size ∧ True) (avStrs xs) (us.getD 0 undef) := hr 0 (by simp)
 have h1 : us.getD 1 undef = .string sep := (hr 1 (by simp)).eq_v
 have hus : us = #[us.getD 0 undef, .string sep] := by
  apply Array.ext (by simpa using hsz)
  intro i hi hi'
  simp at hi'
  match i, hi' with
  | 0, _ => simp [Array.getD_eq_getD_getElem?, Array.getElem?_eq_getElem hi]
  | 1, _ =>
   rw [Array.getD_eq_getD_getElem?, Array.getElem?_eq_getElem hi] at h1
   simpa using h1
 generalize us.getD 0 undef = v at h0 hus
 subst hus
 have h2 : Rep w (fun b => b < w.heap.size ∧ True) (.im xs.length 1 fun j => avS (xs.getD j ByteArray.empty)) v := h0
 clear h0 hr hsz h1
 generalize hn : xs.length = n at h2
 cases h2 with
 | nil =>
  have hx : xs = [] := List.length_eq_zero_iff.1 hn
  subst hx
  refine (Tryz.strings_Join_none none 0 sep w).mono ?_
  rintro e w' ⟨rfl, rfl⟩
  exact ⟨_, _, rfl, rfl, .v _, Chg.refl _ _, trivial⟩
 | im n sz f b off cap c e u hZ k1 k2 hb hc hrr =>
  subst hn
  refine (Tryz.strings_Join b off cap xs sep w (fun j x hj => ?_) hZ.1 (by omega) k1 (by unfold joinL at hlen; omega)).mono ?_
  ·have hjl : j < xs.length := (List.getElem?_eq_some_iff.1 hj).1
   have hx := (hrr j (by omega)).eq_v
   have hcj := hc j (by omega)
   rw [hx] at hcj
   have e1 : xs.getD j ByteArray.empty = x := by rw [List.getD_eq_getElem?_getD, hj]; rfl
   simp only [World.cell?, hb]
   rw [← e1]
   exact hcj
  ·rintro e w' ⟨rfl, h⟩
   exact ⟨_, _, rfl, rfl, .v _, .ofBelowN h, trivial⟩
theorem bytesOf_append (l r : List UInt8) : bytesOf l ++ bytesOf r = bytesOf (l ++ r) := by
 apply ByteArray.ext
 simp [bytesOf]
theorem bytesOf_size (l : List UInt8) : (bytesOf l).size = l.length := by rw [← byL_len]; simp [bytesOf, byL]
set_option maxRecDepth 100000 in
theorem kit_Join {xs : List ByteArray} (hN : xs.length ≤ 1000000) (hlen : (joinL xs ⟨#[32]⟩).length ≤ 10000000) :
  SpecN Tryz.prog 66 [avStrs xs] (fun y => y = avS (bytesOf (joinL xs ⟨#[32]⟩ ++ [10]))) := by
 refine SpecN.of_VCN Tryz.func66 rfl Tryz.ntmps66 (Nle rfl) fun w A hB => ?_
 have hnew : True := trivial
 refine VC.seq ?_
 have hz := bytesOf_size (joinL xs ⟨#[32]⟩)
 have hz1 : (⟨#[10]⟩ : ByteArray).size = 1 := rfl
 refine VC.region ?_
 refine VO.ma rfl rfl rfl rfl ?_
 refine VO.nil ?_
 refine VC.sr ?_
 refine VO.mv rfl rfl rfl rfl ?_
 refine VO.op rfl (OpE.call rfl hB rfl Tryz.call117 rfl (SpecN.spec (strings_Join_S (sep := ⟨#[32]⟩) hN (by omega))) ?_)
 rintro _ rfl
 refine VO.val rfl rfl (OpV.sadd rfl rfl rfl (by omega)) ?_
 refine VO.ma rfl rfl rfl rfl ?_
 refine VO.nil ?_
 refine VC.ret ?_
 exact Exists.intro _ (And.intro (RetN.one Tryz.results66 (ResN.v rfl)) (by rw [← bytesOf_append]; rfl))
def itosL (l : List Int) (q : Nat) : List ByteArray := (l.take q).map itoaS
theorem itosL_len {l : List Int} {q : Nat} (h : q ≤ l.length) : (itosL l q).length = q := by simp [itosL]; omega
end Go.Proofs.YtbbgjeiefmiblaaGreatDoor
namespace Go.Proofs.YtbbgjeiefmiblaaGreatDoor
open Go.RowKit
set_option linter.unusedVariables false
set_option linter.unusedSimpArgs false
theorem nDig_le : ∀ (k u : Nat), u < 10 ^ (k + 1) → Lib.nDigits u ≤ k + 1
 | 0, u, h => by rw [Lib.nDigits_small (by simpa using h)]; exact Nat.le_refl _
 | k + 1, u, h => by
  by_cases h1 : u < 10
  ·rw [Lib.nDigits_small h1]; omega
  ·rw [Lib.nDigits_big h1]
   have := nDig_le k (u / 10) (by rw [Nat.pow_succ] at h; omega)
   omega
theorem itoa_len {n : Int} (h : fits n) : (Lib.itoa n).length ≤ 20 := by
 unfold fits at h
 unfold Lib.itoa
 split
 ·rw [List.length_cons, Lib.decDigits_length]
  have := nDig_le 18 n.natAbs (by simp; omega)
  omega
 ·rw [Lib.decDigits_length]
  have := nDig_le 18 n.toNat (by simp; omega)
  omega
theorem itoaS_size {n : Int} (h : fits n) : (itoaS n).size ≤ 20 := by rw [itoaS, bytesOf_size]; exact itoa_len h
theorem lens_le {l : List (List UInt8)} {m : Nat} (h : ∀ x ∈ l, x.length ≤ m) : Lib.lens l ≤ m * l.length := by
 induction l with
 | nil => simp [Lib.lens]
 | cons x r ih =>
  have h1 := h x (by simp)
  have h2 := ih fun y hy => h y (by simp [hy])
  unfold Lib.lens at *
  rw [List.map_cons, List.sum_cons, List.length_cons, Nat.mul_succ]
  omega
theorem joinL_len {xs : List ByteArray} {m : Nat} (h : ∀ x ∈ xs, x.size ≤ m) : (joinL xs ⟨#[32]⟩).length ≤ (m + 1) * xs.length := by
 cases xs with
 | nil => simp [joinL, Lib.join_nil]
 | cons x r =>
  unfold joinL
  rw [List.map_cons, Lib.join_length]
  have h2 := lens_le (l := x.data.toList :: r.map (·.data.toList)) (m := m) (fun y hy => by
   rcases List.mem_cons.1 hy with rfl | hy
   ·rw [show x.data.toList.length = x.size from byL_len x]; exact h x (by simp)
   ·obtain ⟨z, hz, rfl⟩ := List.mem_map.1 hy
    rw [show z.data.toList.length = z.size from byL_len z]; exact h z (by simp [hz]))
  simp only [List.length_cons, List.length_map] at h2 ⊢
  simp only [List.length_nil, Nat.zero_add, Nat.one_mul]
  rw [Nat.add_mul]
  omega
end Go.Proofs.YtbbgjeiefmiblaaGreatDoor
namespace Go.Proofs.YtbbgjeiefmiblaaGreatDoor
open Go.RowKit
set_option linter.unusedVariables false
set_option linter.unusedSimpArgs false
def headP (p : ProdS) : ByteArray := (((⟨#[112, 114, 111, 100, 117, 99, 116, 32]⟩ ++ p.key) ++ ⟨#[32]⟩) ++ bytesOf (joinL (itosL [p.wide, p.high] 2) ⟨#[32]⟩)) ++ ⟨#[10]⟩
def lineP (x : PlaceS) : ByteArray := (((((⟨#[112, 108, 97, 99, 101, 32]⟩ ++ x.name) ++ ⟨#[32]⟩) ++ x.part) ++ ⟨#[32]⟩) ++ bytesOf (joinL (itosL [x.x, x.y, x.quarter] 3) ⟨#[32]⟩)) ++ ⟨#[10]⟩
def linesP (p : ProdS) (q : Nat) : ByteArray := (p.places.take q).foldl (fun out x => out ++ lineP x) (headP p)
theorem linesP_snoc {p : ProdS} {q : Nat} (h : q < p.places.length) : linesP p (q + 1) = linesP p q ++ lineP (p.places.getD q default) := by
 rw [linesP, linesP, List.take_add_one, List.foldl_append, List.getD_eq_getElem?_getD, List.getElem?_eq_getElem h]; rfl
theorem bytes_app (a b : ByteArray) : (a ++ b).size = a.size + b.size := ByteArray.size_append
theorem itos_join {l : List Int} (h : ∀ j, j < l.length → fits (l.getD j 0)) : (joinL (itosL l l.length) ⟨#[32]⟩).length ≤ 21 * l.length := by
 have h2 := joinL_len (xs := itosL l l.length) (m := 20) (fun x hx => by
  unfold itosL at hx
  obtain ⟨n, hn, rfl⟩ := List.mem_map.1 hx
  rw [List.take_length] at hn
  obtain ⟨j, hj, rfl⟩ := List.getElem_of_mem hn
  have := h j hj
  rw [List.getD_eq_getElem?_getD, List.getElem?_eq_getElem hj] at this
  exact itoaS_size this)
 rwa [itosL_len (Nat.le_refl _)] at h2
theorem place_facts {p : ProdS} (h : prodF p = 0) {j : Nat} (hj : j < p.places.length) : (p.places.getD j default).name.size ≤ 40 ∧ (p.places.getD j default).part.size ≤ 40 ∧ fits (p.places.getD j default).x ∧ fits (p.places.getD j default).y ∧ fits (p.places.getD j default).quarter := by
 have hok := prodOk h
 have he := hok.all j hj
 have hz := placeE_zero he
 have hw := hok.wide
 have hh := hok.high
 have hk : (keyF (p.places.getD j default).name && keyF (p.places.getD j default).part) = true := by
  cases hk : (keyF (p.places.getD j default).name && keyF (p.places.getD j default).part) with
  | true => rfl
  | false => rw [placeE, if_pos hk] at he; cases he
 rw [Bool.and_eq_true] at hk
 unfold fits
 have key40 : ∀ {x : ByteArray}, keyF x = true → x.size ≤ 40 := fun {x} h => by
  unfold keyF at h
  simp only [Bool.and_eq_true, decide_eq_true_eq] at h
  exact h.1.1.2
 exact ⟨key40 hk.1, key40 hk.2, by omega, by omega, by omega⟩
end Go.Proofs.YtbbgjeiefmiblaaGreatDoor
namespace Go.Proofs.YtbbgjeiefmiblaaGreatDoor
open Go.RowKit Go.Lib
set_option linter.unusedVariables false
set_option linter.unusedSimpArgs false
def bysA (s : ByteArray) : List AV := (strCells s).map .v
theorem bysA_len (s : ByteArray) : (bysA s).length = s.size := by rw [bysA, List.length_map, strCells_length]
theorem appendS_run {P : Program} (w : World) (T U ty e : TypeId) (i : TypeInfo) (ht : P.underlying T = some (.slice e)) (hU : P.underlying U = some .string) (hi : P.info? e = some i) (hz : i.zero = some (.int .u8 0)) (hs : i.size = 1) (hb : i.bytes = 1)
  (u : Value) (n : Nat) (xs : List Value) (hown : w.ownsRow 0 e 1 u n xs) (s : ByteArray) (hlen : n + s.size ≤ 10000000000) :
  ∃ v' w', (Builtin.append_ #[T, U] ty #[u, .string s]).run P w = .ok v' w' ∧ w'.ownsRow 0 e 1 v' (n + s.size) (xs ++ strCells s) ∧ Chg (fun q => u.ownBlock = some q) w w' ∧ (v'.ownBlock = u.ownBlock ∨ ∃ g, v'.ownBlock = some g ∧ w.heap.size ≤ g) := by
 have h63 : n + s.size ≤ maxLen := by simp only [maxLen]; omega
 have hxl : xs.length = n := by simpa using hown.1
 have hll : (xs ++ strCells s).length = (n + s.size) * 1 := by rw [List.length_append, hxl, strCells_length, Nat.mul_one]
 have grown : ∀ (old : Nat), (w.drew.alloc (.cells (xs.toArray ++ (strCells s).toArray ++ Builtin.zeroCells (Value.int .u8 0).cells (grownCap w (n + s.size) old e - (n + s.size))) e)).ownsRow 0 e 1 (.slice (some ⟨w.heap.size, 0, none⟩) (n + s.size) (grownCap w (n + s.size) old e)) (n + s.size) (xs ++ strCells s) := by
  intro old
  have hge := grownCap_ge w (n + s.size) old e
  have hcm : grownCap w (n + s.size) old e ≤ maxLen := grownCap_le_maxLen w (n + s.size) old e h63
  refine ⟨hll, .inr ⟨w.heap.size, _, _, rfl, Nat.zero_le _, heap_alloc_new w.drew _, hge, hcm, ?_, ?_⟩⟩
  ·have hz1 : (Value.int IntKind.u8 0).cells.size = 1 := rfl
   simp only [Array.size_append, List.size_toArray, size_zeroCells, hz1, hxl, strCells_length]
   omega
  ·simp only [Array.toList_append, List.append_assoc]
   rw [← List.append_assoc, ← hll]
   exact List.take_left
 rcases hown.2 with ⟨rfl, rfl⟩ | ⟨g, cap, cur, rfl, hbg, hg, hnc, hcm, hcs, htake⟩
 ·have hx : xs = [] := List.eq_nil_of_length_eq_zero hxl
  subst hx
  by_cases hm : s.size = 0
  ·have hn : strCells s = [] := List.eq_nil_of_length_eq_zero (by rw [strCells_length]; exact hm)
   refine ⟨.slice none 0 0, w, ?_, by rw [hm, hn]; exact World.ownsRow_nil w 0 e 1, Chg.refl _ _, .inl rfl⟩
   have hf := run_firstCells_string (P := P) w 1 s
   rw [hm] at hf
   simp [Builtin.append_, run_underlying ht, run_underlying hU, sizeOf, typeInfo, hi, hs, Builtin.lenOf, hm, hf]
  ·have hr := run_append_nil_string (P := P) w T U ty e i (.int .u8 0) ht hU hi hz s (by omega) (by omega) (by rw [hb]; omega)
   have hgr := grown 0
   simp only [Nat.zero_add, List.nil_append, Array.empty_append] at hgr ⊢
   have e1 : (s.data.map fun b => Value.int .u8 b.toNat) = (strCells s).toArray := by
    apply Array.ext'
    simp [strCells]
   rw [e1] at hr
   exact ⟨_, _, hr, hgr, (Chg.refl _ w).drew.alloc _, .inr ⟨_, rfl, by simp⟩⟩
 ·by_cases hroom : n + s.size ≤ cap
  ·have hcs' : cur.size = cap := by simpa using hcs
   have hr := run_append_room_string (P := P) w T U ty e i ht hU hi hs g n cap cur hg s hroom (by omega)
   refine ⟨_, _, hr, ⟨hll, .inr ⟨g, cap, _, rfl, hbg, setRow_heap w g cur _ e _ hg, hroom, hcm, ?_, ?_⟩⟩, chg_setRow w g _, .inl rfl⟩
   ·simp only [List.size_toArray, List.length_append, List.length_take, List.length_drop, Array.length_toList, strCells_length]
    omega
   ·have ht' : cur.toList.take n = xs := by simpa using htake
    rw [ht', ← hll]
    exact List.take_left
  ·have holds : ∀ j u, xs[j]? = some u → w.cell? ((⟨g, 0, none⟩ : Addr).add j) = some u := hown.cells (g := g) rfl
   have hr := run_append_grow_string (P := P) w T U ty e i (.int .u8 0) ht hU hi hz ⟨g, 0, none⟩ n cap xs (by rw [hs]; simpa using hxl) holds s (by omega) (by omega) (by rw [hb]; exact growslice_fits (by omega) (by omega))
   exact ⟨_, _, hr, grown cap, (Chg.refl _ w).drew.alloc _, .inr ⟨_, rfl, by simp⟩⟩
theorem ownsRow_of {w : World} {Z : Nat → Prop} {u : Value} {t : ByteArray} {e : TypeId} (h : EntR w Z (.row u t.size 1 (bysA t) e)) : w.ownsRow 0 e 1 u t.size (strCells t) := by
 obtain ⟨h0, h⟩ := h
 refine ⟨by rw [strCells_length, Nat.mul_one], ?_⟩
 rcases h with ⟨rfl, h⟩ | ⟨g, cap, c, rfl, h1, h2, h3, h4, h5⟩
 ·exact .inl ⟨rfl, h⟩
 ·refine .inr ⟨g, cap, c, rfl, Nat.zero_le _, h3, h1, h2, h4, ?_⟩
  apply List.ext_getElem?
  intro j
  rw [List.getElem?_take]
  by_cases hj : j < t.size
  ·rw [if_pos (by omega)]
   obtain ⟨x, k1, k2⟩ := h5 j (by rw [bysA_len]; exact hj)
   have hl : j < (strCells t).length := by rw [strCells_length]; exact hj
   have k3 : (bysA t)[j]'(by rw [bysA_len]; exact hj) = .v ((strCells t)[j]) := by simp [bysA]
   rw [k3] at k2
   rw [Array.getElem?_toList, k1, k2.eq_v, List.getElem?_eq_getElem hl]
  ·rw [if_neg (by omega), List.getElem?_eq_none (by rw [strCells_length]; omega)]
theorem row_of_owns {w : World} {Z : Nat → Prop} {u : Value} {t : ByteArray} {n : Nat} {e : TypeId} (hn : n = t.size) (h : w.ownsRow 0 e 1 u n (strCells t)) : EntR w Z (.row u n 1 (bysA t) e) := by
 subst hn
 refine ⟨by rw [bysA_len, Nat.mul_one], ?_⟩
 rcases h.2 with ⟨rfl, h0⟩ | ⟨g, cap, cur, rfl, hbg, hg, hnc, hcm, hcs, htake⟩
 ·exact .inl ⟨rfl, h0⟩
 ·refine .inr ⟨g, cap, cur, rfl, hnc, hcm, hg, hcs, fun j hj => ?_⟩
  rw [bysA_len] at hj
  have hl : j < (strCells t).length := by rw [strCells_length]; exact hj
  have k3 : (bysA t)[j]'(by rw [bysA_len]; exact hj) = .v ((strCells t)[j]) := by simp [bysA]
  rw [k3]
  refine ⟨(strCells t)[j], ?_, .v _⟩
  have := congrArg (fun z => z[j]?) htake
  simp only [List.getElem?_take, List.getElem?_eq_getElem hl, Nat.mul_one] at this
  rw [if_pos hj] at this
  simpa using this
section
variable {P : Program} {B : Bs} {W : Nat → Prop} {s : St'} {a : Act} {w w' : World} {o : Oper} {K : St' → Prop}
theorem OpE.appendStr {x y : Operand} {T U e i : Nat} {u : Value} {t s0 : ByteArray} (ho : o.op = .call { callee := .builtin .append, args := #[x, y], argTypes := #[T, U] }) (hB : B.Ok) (hd : okd B.nt o.dst = true)
  (hu : P.underlying T = some (.slice e)) (hU : P.underlying U = some .string) (hinfo : (P.info? e).map (fun i => (i.zero, i.size, i.bytes)) = some (some (.int .u8 0), 1, 1))
  (hx : evO s x = some (.v u)) (hi : s.hp[i]? = some (.row u t.size 1 (bysA t) e)) (hy : evO s y = some (avS s0)) (hlen : t.size + s0.size ≤ 10000000000) (hW : ∀ g, u.ownBlock = some g → W g)
  (hK : ∀ u', K ((St'.mk s.sl (s.hp.set i (.row u' (t ++ s0).size 1 (bysA (t ++ s0)) e)) s.k).put o.dst (.v u'))) : OpE P B W s o K := by
 obtain ⟨ii, hii, hz0, hz1, hz2⟩ := info_parts hinfo
 intro a w hr next Qx hn
 have hmem := List.mem_of_getElem? hi
 have hE := hr.blocks _ hmem
 obtain ⟨v', w', hrun, hown, hch, hbl⟩ := appendS_run (P := P) w T U o.type e ii hu hU hii hz0 hz1 hz2 u t.size (strCells t) (ownsRow_of hE) s0 hlen
 have hsz : (t ++ s0).size = t.size + s0.size := ByteArray.size_append
 have hsc : strCells (t ++ s0) = strCells t ++ strCells s0 := by unfold strCells; rw [← List.map_append, ByteArray.data_append, Array.toList_append]
 have hr' := hr.set hB hi (e' := .row v' (t ++ s0).size 1 (bysA (t ++ s0)) e) hch hbl (row_of_owns rfl (by rw [hsc, hsz]; exact hown))
 unfold Oper.wp
 simp only [execOp, ho, resolve, invoke, builtin, List.map_toArray, List.map_cons, List.map_nil, hr.evv hx, hr.evv hy, Sem.run_bind, Sem.run_pure, Result.andThen_ok, hrun]
 exact hn _ _ _ (hK _) (hr'.put _ hd _ _ (.v _)) (hch.mono fun b _ h => .inr (hW b h))
end
end Go.Proofs.YtbbgjeiefmiblaaGreatDoor
namespace Go.Proofs.YtbbgjeiefmiblaaGreatDoor
open Go.RowKit
set_option linter.unusedVariables false
set_option linter.unusedSimpArgs false

theorem tab_strs (xs : List ByteArray) : tab (xs.length * 1) (fun j => avS (xs.getD j ByteArray.empty)) = strsL xs := by
 apply List.ext_getElem (by rw [tab_len, strsL_len, Nat.mul_one])
 intro i h1 h2
 rw [tab_get]
 rw [strsL_len] at h2
 simp [strsL, h2]
set_option maxRecDepth 100000 in
theorem slices_CloneS_R {xs : List ByteArray} (hl : xs.length ≤ 1000000000) :
  SpecR Tryz.prog 52 [avStrs xs] xs.length 1 (strsL xs) 9 := by
 refine SpecR.of_VC Tryz.func52 rfl Tryz.ntmps52 (Nle rfl) (by first | exact flat_ints _ | exact flat_strs _ | exact flat_bools _) fun w A hB => ?_
 have hnew : True := trivial
 refine VC.sr ?_
 refine VO.ma rfl rfl rfl rfl ?_
 refine VO.nil ?_
 refine VC.seq ?_
 refine VC.sr ?_
 refine VO.mv rfl rfl rfl rfl ?_
 refine VO.op rfl (OpE.eqNil rfl rfl Tryz.underlying29 rfl ?_)
 intro b4 hb4
 refine VO.nil ?_
 refine VC.cond rfl (fun h0b => ?_) (fun h0b => ?_)
 ·have h0 := h0b
  try simp only [qqT, qqF, qqN, qqM, qqL, qqE] at h0
  refine VC.sr ?_
  refine VO.ma rfl rfl rfl rfl ?_
  refine VO.nil ?_
  obtain rfl : xs = [] := List.eq_nil_of_length_eq_zero (hb4 h0)
  refine VC.le _ (Le.nilRow 1 9) ?_
  refine VC.ret ?_
  exact Exists.intro _ (And.intro (RetV.one Tryz.results52 (ResV.tmp rfl)) (⟨_, rfl, List.Mem.head _⟩))
 ·have h0 := h0b
  try simp only [qqT, qqF, qqN, qqM, qqL, qqE] at h0
  refine VC.skip ?_
  refine VC.sr ?_
  refine VO.op rfl (OpE.buildSlice0 rfl hB rfl Tryz.underlying29 Tryz.sizeOf9 ?_)
  intro g5
  refine VO.mv rfl rfl rfl rfl ?_
  refine VO.op rfl (OpE.appendP (i := 0) rfl hB rfl Tryz.underlying29 (infoOf Tryz.t9 1 (by kernel_rfl) rfl rfl) rfl (by decide) (by decide) rfl rfl (.im rfl) (fun _ _ => rfl) (by omega) (tab_strs xs) (fun _ _ => trivial) ?_)
  intro u7
  refine VO.ma rfl rfl rfl rfl ?_
  refine VO.nil ?_
  rw [Nat.zero_add]
  refine VC.ret ?_
  exact Exists.intro _ (And.intro (RetV.one Tryz.results52 (ResV.tmp rfl)) (⟨_, rfl, List.Mem.head _⟩))
end Go.Proofs.YtbbgjeiefmiblaaGreatDoor
namespace Go.Proofs.YtbbgjeiefmiblaaGreatDoor
open Go.RowKit
set_option linter.unusedVariables false
set_option linter.unusedSimpArgs false

abbrev pt (g : Nat) : AV := .v (.pointer (some ⟨g, 0, none⟩))
abbrev ptv (g : Nat) : Value := .pointer (some ⟨g, 0, none⟩)
theorem take_succ_getD {α : Type} {xs : List α} {q : Nat} {d : α} (h : q < xs.length) : xs.take (q + 1) = xs.take q ++ [xs.getD q d] := by
 rw [List.take_succ_eq_append_getElem h]
 simp [h]
theorem getD_set_ne {α : Type} {b : List α} {i k : Nat} {x d : α} (h : i ≠ k) : (b.set i x).getD k d = b.getD k d := by
 simp only [List.getD_eq_getElem?_getD, List.getElem?_set, if_neg h]
end Go.Proofs.YtbbgjeiefmiblaaGreatDoor
namespace Go.Proofs.YtbbgjeiefmiblaaGreatDoor
open Go.RowKit Go.Lib
set_option linter.unusedVariables false
set_option linter.unusedSimpArgs false
def bldOk (g : Nat) (p : Value) : Prop := p = .pointer none ∨ p = ptv g
theorem bldOk.none (g : Nat) : bldOk g (.pointer none) := .inl rfl
theorem bldOk.self (g : Nat) : bldOk g (ptv g) := .inr rfl
abbrev bldE (g : Nat) (p u : Value) : Ent := .box g ⟨[.v p, .v u], 103, 2⟩
abbrev bufE (u : Value) (t : ByteArray) : Ent := .row u t.size 1 (bysA t) 5
set_option maxHeartbeats 1000000 in
set_option maxRecDepth 100000 in
theorem copyCheck_used (g : Nat) (w : World) (h0 : w.cell? ⟨g, 0, none⟩ = some (.pointer (some ⟨g, 0, none⟩))) : Calls Tryz.prog 116 #[.pointer (some ⟨g, 0, none⟩)] w fun e w' => e = .returned (.tuple #[]) ∧ w' = w := by
 obtain ⟨j, hj, _⟩ := Option.map_eq_some_iff.1 (show (Tryz.prog.info? 103).map (·.size) = some 2 by kernel_rfl)
 go_enter Tryz.func116, Tryz.ntmps116
 go_wp2
 rw [Lib.run_neq_ptr_same w _ Tryz.underlying100 hj]
 go_wp2
 go_end0
 exact ⟨rfl, rfl⟩
set_option maxHeartbeats 1000000 in
set_option maxRecDepth 100000 in
theorem copyCheck_fresh (g : Nat) (w : World) (h0 : w.cell? ⟨g, 0, none⟩ = some (.pointer none)) (hsh : w.shape? g = some (103, 2)) (hfz : w.frozen? ⟨g, 0, none⟩ = false) :
  Calls Tryz.prog 116 #[.pointer (some ⟨g, 0, none⟩)] w fun e w' => e = .returned (.tuple #[]) ∧ w' = w.setCell ⟨g, 0, none⟩ (.pointer (some ⟨g, 0, none⟩)) := by
 obtain ⟨j, hj, hjs⟩ := Option.map_eq_some_iff.1 (show (Tryz.prog.info? 103).map (·.size) = some 2 by kernel_rfl)
 go_enter Tryz.func116, Tryz.ntmps116
 go_wp2
 rw [Lib.run_to_unsafe w ⟨g, 0, none⟩ Tryz.underlying100 Tryz.underlying216 hj (by rw [hjs]; decide) hsh (Nat.zero_lt_succ 1)]
 simp only [Result.andThen]
 rw [Oper.upon_value]
 go_wp2
 rw [run_callFunc_extern Tryz.func153 (by kernel_rfl) (by kernel_rfl) (by kernel_rfl) (e := Extern.AbiNoEscape.same) (by kernel_rfl)]
 rw [Lib.run_noEscape]
 simp only [Result.andThen]
 rw [Oper.upon_value]
 go_wp2
 rw [Lib.run_from_unsafe w ⟨g, 0, none⟩ Tryz.underlying216 Tryz.underlying100 hj hsh (by show liesAt _ _ _ _ 0 _ 1 = true; decide +kernel)]
 simp only [Result.andThen]
 rw [Oper.upon_value]
 go_wp2
 go_end0
 exact ⟨rfl, rfl⟩
theorem copyCheck_H {g : Nat} {p u : Value} (hp : bldOk g p) : SpecH Tryz.prog 116 [pt g] [bldE g p u] (fun y hp' => y = .tup [] ∧ hp' = [bldE g (ptv g) u]) := fun w A us ha hap hA hE => by
 obtain rfl := args1 ha
 obtain ⟨c, k1, k2, k3, k4⟩ := hE _ (List.mem_cons_self ..)
 obtain ⟨v0, p0, q0⟩ := k4 0 (by simp)
 obtain ⟨v1, p1, q1⟩ := k4 1 (by simp)
 have e0 : v0 = p := (show Rep w _ (.v p) v0 from q0).eq_v
 have e1 : v1 = u := (show Rep w _ (.v u) v1 from q1).eq_v
 subst e0; subst e1
 have hcell : w.cell? ⟨g, 0, none⟩ = some v0 := by simp [World.cell?, k1, p0]
 have hc2 : c.size = 2 := k2
 rcases hp with rfl | rfl
 ·refine (copyCheck_fresh g w hcell (by simp [World.shape?, k1, hc2]) (by simp [World.frozen?, k1])).mono fun e w' ⟨h1, h2⟩ => ?_
  subst h1; subst h2
  have hheap : (w.setCell ⟨g, 0, none⟩ (ptv g)).heap[g]? = some (.cells (c.setIfInBounds 0 (ptv g)) 103 (0, 0)) := by simp [World.setCell, Array.getElem?_modify, k1]
  refine ⟨_, .tuple #[], _, ⟨rfl, rfl⟩, rfl, List.pairwise_singleton _ _, .tup _ _ rfl (fun j hj => by simp at hj), fun e he => ?_, fun b ⟨e, he, hb⟩ _ => ?_, (Chg.setAt w g 0 _).mono fun b _ hb => ⟨_, List.mem_cons_self .., by have : b = g := hb; rw [this]; rfl⟩⟩
  ·obtain rfl := List.mem_singleton.1 he
   refine ⟨_, hheap, by simp [hc2], by simp, fun j hj => ?_⟩
   match j, hj with
   | 0, _ => exact ⟨ptv g, by simp [hc2], .v _⟩
   | 1, _ => exact ⟨v1, by rw [Array.getElem?_setIfInBounds_ne (by decide)]; exact p1, .v _⟩
  ·obtain rfl := List.mem_singleton.1 he
   exact ⟨_, List.mem_cons_self .., hb⟩
 ·refine (copyCheck_used g w hcell).mono fun e w' ⟨h1, h2⟩ => ?_
  subst h1; subst h2
  refine ⟨_, .tuple #[], _, ⟨rfl, rfl⟩, rfl, List.pairwise_singleton _ _, .tup _ _ rfl (fun j hj => by simp at hj), fun e he => ?_, fun b ⟨e, he, hb⟩ _ => ?_, Chg.refl _ _⟩
  ·obtain rfl := List.mem_singleton.1 he
   refine ⟨_, k1, k2, k3, fun j hj => ?_⟩
   match j, hj with
   | 0, _ => exact ⟨_, p0, .v _⟩
   | 1, _ => exact ⟨_, p1, .v _⟩
  ·obtain rfl := List.mem_singleton.1 he
   exact ⟨_, List.mem_cons_self .., hb⟩
set_option maxRecDepth 100000 in
theorem Builder_WriteString_H {g : Nat} {p u : Value} {t s : ByteArray} (hp : bldOk g p) (hlen : t.size + s.size ≤ 1000000000) :
  SpecH Tryz.prog 65 [pt g, avS s] [bldE g p u, bufE u t] (fun y hp' => ∃ u', y = .tup [avI s.size, .v .nilIface] ∧ hp' = [bldE g (ptv g) u', bufE u' (t ++ s)]) := by
 refine SpecH.of_VC Tryz.func65 rfl Tryz.ntmps65 (Nle rfl) fun w A hB => ?_
 have hnew : True := trivial
 refine VC.sr ?_
 refine VO.ma rfl rfl rfl rfl ?_
 refine VO.ma rfl rfl rfl rfl ?_
 refine VO.nil ?_
 refine VC.sr ?_
 refine VO.mv rfl rfl rfl rfl ?_
 refine VO.op rfl (OpE.callH (rest := [_]) rfl hB rfl Tryz.call116 rfl rfl (copyCheck_H hp) (List.Perm.refl _) (fun _ _ => trivial) ?_)
 rintro _ _ ⟨rfl, rfl⟩
 refine VO.nil ?_
 refine VC.sr ?_
 refine VO.mv rfl rfl rfl rfl ?_
 refine VO.mv rfl rfl rfl rfl ?_
 refine VO.val rfl rfl (OpV.nilCheck rfl rfl) ?_
 refine VO.val rfl rfl (OpV.fieldAddrO 1 rfl Tryz.underlying103 rfl rfl Tryz.sizeOf101 rfl) ?_
 refine VO.val rfl rfl (OpV.load_own (i := 0) rfl hB Tryz.isAgg101 rfl rfl rfl (fun h => h)) ?_
 refine VO.mv rfl rfl rfl rfl ?_
 refine VO.op rfl (OpE.appendStr (i := 1) rfl hB rfl Tryz.underlying101 Tryz.underlying9 (infoOf Tryz.t5 1 (by kernel_rfl) rfl rfl) rfl rfl rfl (by omega) (fun _ _ => trivial) ?_)
 intro u14
 refine VO.rowIs (i := 1) rfl (fun b14 c14 hu14 => ?_)
 subst hu14
 refine VO.val rfl rfl (OpV.nilCheck rfl rfl) ?_
 refine VO.val rfl rfl (OpV.fieldAddrO 1 rfl Tryz.underlying103 rfl rfl Tryz.sizeOf101 rfl) ?_
 refine VO.op rfl (OpE.store (i := 0) rfl hB rfl Tryz.sizeOf101 rfl rfl rfl rfl rfl rfl (Nle rfl) trivial ?_)
 refine VO.nil ?_
 refine VC.sr ?_
 refine VO.mv rfl rfl rfl rfl ?_
 refine VO.val rfl rfl (OpV.len_s rfl Tryz.underlying9 rfl) ?_
 refine VO.ma rfl rfl rfl rfl ?_
 refine VO.ma rfl rfl rfl rfl ?_
 refine VO.nil ?_
 refine VC.ret ?_
 exact Exists.intro _ (And.intro (RetV.two Tryz.results65 (ResV.tmp rfl) (ResV.tmp rfl)) (⟨_, rfl, rfl⟩))
set_option maxRecDepth 100000 in
theorem Builder_Len_H {g : Nat} {p u : Value} {t : ByteArray}  :
  SpecH Tryz.prog 98 [pt g] [bldE g p u, bufE u t] (fun y hp' => y = avI t.size ∧ hp' = [bldE g p u, bufE u t]) := by
 refine SpecH.of_VC Tryz.func98 rfl Tryz.ntmps98 (Nle rfl) fun w A hB => ?_
 have hnew : True := trivial
 refine VC.sr ?_
 refine VO.ma rfl rfl rfl rfl ?_
 refine VO.nil ?_
 refine VC.sr ?_
 refine VO.mv rfl rfl rfl rfl ?_
 refine VO.val rfl rfl (OpV.nilCheck rfl rfl) ?_
 refine VO.val rfl rfl (OpV.fieldAddrO 1 rfl Tryz.underlying103 rfl rfl Tryz.sizeOf101 rfl) ?_
 refine VO.val rfl rfl (OpV.load_own (i := 0) rfl hB Tryz.isAgg101 rfl rfl rfl (fun h => h)) ?_
 refine VO.val rfl rfl (OpV.len_row (i := 1) rfl Tryz.underlying101 rfl rfl) ?_
 refine VO.ma rfl rfl rfl rfl ?_
 refine VO.nil ?_
 refine VC.ret ?_
 exact Exists.intro _ (And.intro (RetV.one Tryz.results98 (ResV.tmp rfl)) (⟨rfl, rfl⟩))
theorem ownsRow_ofB {w : World} {Z : Nat → Prop} {u : Value} {t : ByteArray} {e : TypeId} {B0 : Nat} (h : EntR w Z (.row u t.size 1 (bysA t) e)) (hb : ∀ g, u.ownBlock = some g → B0 ≤ g) : w.ownsRow B0 e 1 u t.size (strCells t) := by
 obtain ⟨h0, h1⟩ := ownsRow_of h
 refine ⟨h0, ?_⟩
 rcases h1 with h1 | ⟨g, cap, cur, rfl, h2, h3⟩
 ·exact .inl h1
 ·exact .inr ⟨g, cap, cur, rfl, hb g rfl, h3⟩
section
variable {B : Bs} {s : St'} {o : Oper} {K : St' → Prop}
theorem OpE.bstr {x : Operand} {ts : Array TypeId} {g i j : Nat} {p u : Value} {d : ByteArray} (ho : o.op = .call { callee := .value (.func 68), args := #[x], argTypes := ts }) (hB : B.Ok) (hd : okd B.nt o.dst = true) (hS : ∀ b, ¬ B.S b)
  (hcall : ∀ us w, (callFunc 68 us).run Tryz.prog w = .ok (.enter 68 us) w) (hx : evO s x = some (pt g)) (hi : s.hp[i]? = some (bldE g p u)) (hp : bldOk g p) (hj : s.hp[j]? = some (bufE u d)) (hne : i ≠ j)
  (hK : K ((St'.mk [] [] s.k).put o.dst (avS d))) : OpE Tryz.prog B AllW s o K := by
 intro a w hr next Qx hn
 have hmi := List.mem_of_getElem? hi
 have hmj := List.mem_of_getElem? hj
 have hnew : ∀ q ∈ s.hp, ∀ b, q.blk = some b → B.w0.heap.size ≤ b := fun q hq b hb => by
  have := hr.isNew (fun b h => hS b h) hq hb
  omega
 have hE := hr.blocks _ hmj
 have hown := ownsRow_ofB hE (B0 := B.w0.heap.size) (fun b hb => hnew _ hmj b hb)
 obtain ⟨c, k1, k2, k3, k4⟩ := hr.blocks _ hmi
 obtain ⟨v0, p0, q0⟩ := k4 0 (by simp)
 obtain ⟨v1, p1, q1⟩ := k4 1 (by simp)
 have e0 : v0 = p := (show Rep w _ (.v p) v0 from q0).eq_v
 have e1 : v1 = u := (show Rep w _ (.v u) v1 from q1).eq_v
 subst e0; subst e1
 have hc2 : c.size = 2 := k2
 have hcc : c = #[v0, v1] := by
  apply Array.ext (by simpa using hc2)
  intro n h1 h2
  have h2' : n < 2 := by simpa using h2
  match n, h2' with
  | 0, _ => have := Array.getElem?_eq_some_iff.1 p0; simp; rw [this.2]
  | 1, _ => have := Array.getElem?_eq_some_iff.1 p1; simp; rw [this.2]
 subst hcc
 have hapart : v1.ownBlock ≠ some g := by
  intro e
  have hh := hr.nodup
  unfold Apart at hh
  have hil := (List.getElem?_eq_some_iff.1 hi).1
  have hjl := (List.getElem?_eq_some_iff.1 hj).1
  rw [List.pairwise_iff_getElem] at hh
  have ei := (List.getElem?_eq_some_iff.1 hi).2
  have ej := (List.getElem?_eq_some_iff.1 hj).2
  rcases Nat.lt_or_gt_of_ne hne with h | h
  ·have := hh i j hil hjl h g (by rw [ei]; rfl)
   rw [ej] at this; exact this e
  ·have := hh j i hjl hil h g (by rw [ej]; exact e)
   rw [ei] at this; exact this rfl
 have hbs : Lib.IsBuilder 103 5 B.w0.heap.size g (Lib.byteCells d.data.toList) w := by
  have hb0 := hnew _ hmi g rfl
  have hrow : w.ownsRow B.w0.heap.size 5 1 v1 (Lib.byteCells d.data.toList).length (Lib.byteCells d.data.toList) := by
   have e2 : (Lib.byteCells d.data.toList) = strCells d := rfl
   rw [e2, strCells_length]; exact hown
  rcases hp with rfl | rfl
  ·exact .inl ⟨hb0, v1, k1, hrow, hapart⟩
  ·exact .inr ⟨hb0, v1, k1, hrow, hapart⟩
 have h1 := Tryz.Builder_String_any B.w0.heap.size g d.data.toList w hbs hr.chg.size
 unfold Oper.wp
 have hxv := hr.evv hx
 simp only [execOp, ho, resolve, Act.eval, Deferred.ofValue, Sem.run_bind, Sem.run_pure, Result.andThen_ok, invoke, hcall, Array.empty_append, Array.append_empty]
 simp only [Oper.upon]
 have hargs : (#[x].map a.eval) = #[ptv g] := by simp [hxv]
 rw [hargs]
 refine h1.mono fun e w' ⟨h2, h3⟩ => ?_
 subst h2
 have hchg : Chg (fun b => B.w0.heap.size ≤ b) w w' := ⟨h3.os, h3.tape, h3.output, h3.size, fun k hk hn => h3.block k (Nat.lt_of_not_le hn)⟩
 have hr' : R B ⟨[], [], s.k⟩ a w' := by
  refine ⟨fun t y hy => (by cases hy), hr.size, hr.defs, fun q hq => (by cases hq), List.Pairwise.nil, ?_, fun q hq => (by cases hq), hB.keep hr.res hchg fun b hb h => ?_⟩
  ·obtain ⟨c1, c2, c3, c4, c5⟩ := hr.chg
   exact ⟨h3.os.trans c1, h3.tape.trans c2, h3.output.trans c3, Nat.le_trans c4 h3.size, fun k hk hn => (h3.block k hk).trans (c5 k hk hn)⟩
  ·have := hB.low b hb; omega
 exact hn _ _ _ hK (hr'.put _ hd _ _ (.v _)) ⟨h3.os, h3.tape, h3.output, h3.size, fun k hk hn => (hn (.inr trivial)).elim⟩
end
end Go.Proofs.YtbbgjeiefmiblaaGreatDoor
namespace Go.Proofs.YtbbgjeiefmiblaaGreatDoor
open Go.RowKit
set_option linter.unusedVariables false
set_option linter.unusedSimpArgs false
section
variable {P : Program} {ops : Array Oper} {Q : Act → World → Prop} {md : Region.Mode} {E : Nat → World → World → Prop}
theorem wpAnyE_firstT {S : Nat → Bool} {F : World → World → Prop} (htr : ∀ x y z, F x y → F y z → F x z) (hrf : ∀ x, F x x) {i : Nat} (hEr : ∀ x, E i x x)
  (hEF : ∀ j oj, ops[j]? = some oj → S j = false → ∀ w w', E j w w' → F w w') (hcl : ∀ k, S k = true → k ≠ i → ∃ ok, ops[k]? = some ok ∧ ∃ e ∈ ok.after, Region.binds md e = true ∧ S e.on = true)
  {oi : Oper} {v : Value} (hi : ops[i]? = some oi) (hsel : ∀ (j : Nat) (o : Oper) cs b, ops[j]? = some o → o.op ≠ .select cs b) :
  ∀ (fuel : Nat) (listed : Array Bool) (a : Act) (w : World), (∀ k, S k = true → listed.getD k true = false) →
   (∀ j oj, ops[j]? = some oj → j ≠ i → listed.getD j true = false → (∀ e ∈ oj.after, Region.binds md e = true → e.on ≠ i) → oi.apart ops oj = true) →
   i ∈ Region.ready md ops listed → YieldsE P ops F oi v a w →
   wpAnyE P md ops Q E fuel (listed.setIfInBounds i true) (a.put oi.dst v) w → wpAnyE P md ops Q E (fuel + 1) listed a w := by
 intro fuel
 induction fuel with
 | zero =>
  intro listed a w _ _ hr hy H
  refine ⟨fun h => (by rw [h] at hr; cases hr), fun j hj => ?_⟩
  by_cases hji : j = i
  ·subst hji; exact YieldsIf.wpOp hi hy.iff (hrf w) ⟨hEr w, H⟩
  ·have := ready_mono hj hji
   rw [H.1] at this
   cases this
 | succ fuel ih =>
  intro listed a w hS hfree hr hy H
  refine ⟨fun h => (by rw [h] at hr; cases hr), fun j hj => ?_⟩
  by_cases hji : j = i
  ·subst hji; exact YieldsIf.wpOp hi hy.iff (hrf w) ⟨hEr w, H⟩
  ·have h1 := H.2 j (ready_mono hj hji)
   obtain ⟨hjun, oj, hoj, hall⟩ := mem_ready.1 hj
   have hnot : ∀ e ∈ oj.after, Region.binds md e = true → e.on ≠ i := fun e he hb heq => by
    have h1 := hall e he hb
    have h0 := (mem_ready.1 hr).1
    rw [heq] at h1
    rcases Nat.lt_or_ge i listed.size with h' | h'
    ·simp [h'] at h0 h1; rw [h0] at h1; cases h1
    ·simp [Array.getElem?_eq_none h'] at h1
   have hjS : S j = false := by
    cases hc : S j with
    | false => rfl
    | true =>
     obtain ⟨ok, k1, e, he, hb, k2⟩ := hcl j hc hji
     obtain rfl : oj = ok := Option.some.inj (hoj.symm.trans k1)
     have h1 := hall e he hb
     have h0 := hS e.on k2
     rcases Nat.lt_or_ge e.on listed.size with h' | h'
     ·simp [h'] at h0 h1; rw [h0] at h1; cases h1
     ·simp [Array.getElem?_eq_none h'] at h1
   have h2 := wpOp_putIf (S := F w) hoj (hfree j oj hoj hji hjun hnot) (fun cs b => hsel i oi cs b hi) (fun cs b => hsel j oj cs b hoj) (fun c a w h => h.elim) hy.iff h1
   have hfree' : ∀ k ok, ops[k]? = some ok → k ≠ i → (listed.setIfInBounds j true).getD k true = false →
     (∀ e ∈ ok.after, Region.binds md e = true → e.on ≠ i) → oi.apart ops ok = true := fun k ok hk hki hun hno => by
    refine hfree k ok hk hki ?_ hno
    by_cases hjk : j = k
    ·subst hjk; exact hjun
    ·rw [Go.getD_set_ne true hjk] at hun; exact hun
   have hS' : ∀ k, S k = true → (listed.setIfInBounds j true).getD k true = false := fun k hk => by
    have hjk : j ≠ k := fun e => by rw [e, hk] at hjS; cases hjS
    rw [Go.getD_set_ne true hjk]; exact hS k hk
   refine wpOp_mono (fun a' w' h3 => ⟨h3.2.1, ih (listed.setIfInBounds j true) a' w' hS' hfree' (ready_mono hr (Ne.symm hji)) ?_ ?_⟩) h2
   ·rcases h3.1 with ⟨k1, k2⟩ | k
    ·exact .inl ⟨k1, fun w'' hw'' => k2 w'' (htr _ _ _ (hEF j oj hoj hjS _ _ h3.2.1) hw'')⟩
    ·exact .inr k
   rw [Array.setIfInBounds_comm _ _ hji]
   exact h3.2.2
end
section
variable {P : Program} {B : Bs} {V : Nat → Nat → Prop} {ops : Array Oper} {s : St'} {Q : Exit → St' → Prop} {n : Nat} {L : Array Bool}
def WS (V : Nat → Nat → Prop) (S : List Nat) : Nat → Prop := fun b => ∃ j, S.contains j = false ∧ V j b
def hangB (ops : Array Oper) (S : List Nat) (i : Nat) : Bool := S.all fun k => k == i || match ops[k]? with
 | some o => o.after.any fun e => Region.binds .any e && S.contains e.on
 | none => false
theorem VA.takeT (S : List Nat) {i : Nat} {o : Oper} {x : AV} (hS : hangB ops S i = true) (hL : (S.all fun k => !(L.getD k true)) = true) (hi : ops[i]? = some o) (hs : Region.noSelect ops = true) (hf : Region.free .any ops L i = true) (hr : (Region.ready .any ops L).contains i = true) (hg : o.guard = none) (hd : okd B.nt o.dst = true)
  (hv : OpV P B (WS V S) s o x) (h : VA P B V ops Q n (L.setIfInBounds i true) (s.put o.dst x)) : VA P B V ops Q (n + 1) L s := fun a w hR => by
 obtain ⟨v, h1, h2⟩ := hv a w hR
 refine wpAnyE_firstT (S := fun k => S.contains k) (F := Ew B (WS V S)) Ew.tr Ew.rf (fun x => Ew.rf x) (fun j oj hj hjS w w' h => h.mono fun b _ hb => hb.imp id fun hv => ⟨j, hjS, hv⟩) (fun k hk hki => ?_) hi (Region.noSelect_spec hs) n L a w (fun k hk => ?_) (Region.free_spec hi hf) (by simpa using hr) (.inl ⟨by simp [Region.wanted, hg], h1⟩) (h _ _ (hR.put _ hd _ _ h2))
 ·have hk' : k ∈ S := by simpa using hk
  have := List.all_eq_true.1 hS k hk'
  simp only [Bool.or_eq_true, beq_iff_eq] at this
  have := this.resolve_left hki
  cases ho : ops[k]? with
  | none => rw [ho] at this; cases this
  | some ok =>
   rw [ho] at this
   obtain ⟨e, he, h3⟩ := Array.any_eq_true'.1 this
   simp only [Bool.and_eq_true] at h3
   exact ⟨ok, rfl, e, he, h3.1, h3.2⟩
 ·have hk' : k ∈ S := by simpa using hk
  have := List.all_eq_true.1 hL k hk'
  simpa using this
end
end Go.Proofs.YtbbgjeiefmiblaaGreatDoor
namespace Go.Proofs.YtbbgjeiefmiblaaGreatDoor
open Go.RowKit
set_option linter.unusedVariables false
set_option linter.unusedSimpArgs false
def cmpB (a b : ByteArray) : Int := Lib.compareBytes a.data.toList b.data.toList
theorem strings_Compare_S {a b : ByteArray} : SpecN Tryz.prog 142 [avS a, avS b] (fun y => y = avI (cmpB a b)) := by
 intro w us ha
 rw [argsV2 ha]
 refine (Tryz.strings_Compare a b w).mono ?_
 rintro e w' ⟨rfl, rfl⟩
 exact ⟨_, _, rfl, rfl, .v _, Chg.refl _ _, trivial⟩
theorem cmp_lt : ∀ x y : List UInt8, decide (Lib.compareBytes x y < 0) = Op.bytesLess x y
 | [], [] => rfl
 | [], _ :: _ => rfl
 | _ :: _, [] => rfl
 | a :: x, b :: y => by
  unfold Lib.compareBytes Op.bytesLess
  have ih := cmp_lt x y
  by_cases h1 : a < b
  ·simp [h1]
  ·by_cases h2 : b < a
   ·simp [h1, h2]
    intro e; subst e; exact absurd h2 (UInt8.lt_irrefl _)
   ·have e : a = b := UInt8.le_antisymm (UInt8.not_lt.1 h2) (UInt8.not_lt.1 h1)
    subst e
    simp [UInt8.lt_irrefl]
    simpa using ih
theorem cmpB_lt (a b : ByteArray) : decide (cmpB a b < 0) = sLt a b := by
 unfold sLt
 rw [Lib.toList_data, Lib.toList_data]
 exact cmp_lt _ _
theorem cmp_eq : ∀ {x y : List UInt8}, Lib.compareBytes x y = 0 ↔ x = y
 | [], [] => by simp [Lib.compareBytes]
 | [], _ :: _ => by simp [Lib.compareBytes]
 | _ :: _, [] => by simp [Lib.compareBytes]
 | a :: x, b :: y => by
  unfold Lib.compareBytes
  by_cases h1 : a < b
  ·simp [h1]
   intro e; subst e; exact absurd h1 (UInt8.lt_irrefl _)
  ·by_cases h2 : b < a
   ·simp [h1, h2]
    intro e; subst e; exact absurd h2 (UInt8.lt_irrefl _)
   ·have e : a = b := UInt8.le_antisymm (UInt8.not_lt.1 h2) (UInt8.not_lt.1 h1)
    subst e
    simp [UInt8.lt_irrefl, cmp_eq]
theorem cmpB_eq {a b : ByteArray} : cmpB a b = 0 ↔ a = b := by
 unfold cmpB
 rw [cmp_eq]
 constructor
 ·intro h
  cases a; cases b
  simpa using h
 ·intro h; rw [h]
theorem sLt_total {a b : ByteArray} (h : sLt a b = false) (hne : a ≠ b) : sLt b a = true := by
 unfold sLt at h ⊢
 rw [Lib.toList_data, Lib.toList_data] at h ⊢
 exact bl_total h fun e => hne (by cases a; cases b; simpa using e)
section
variable {α : Type} {k : α → ByteArray}
end
end Go.Proofs.YtbbgjeiefmiblaaGreatDoor
namespace Go.Proofs.YtbbgjeiefmiblaaGreatDoor
open Go.RowKit
set_option linter.unusedVariables false
set_option linter.unusedSimpArgs false
abbrev kv2 : ByteArray × ByteArray → Value := fun k => .agg #[.string k.1, .string k.2]
theorem sEq_dec (a b : ByteArray) : sEq a b = decide (a = b) := by
 by_cases h : a = b
 ·rw [decide_eq_true h]; exact sEq_eq.2 h
 ·rw [decide_eq_false h]
  cases e : sEq a b with
  | false => rfl
  | true => exact absurd (sEq_eq.1 e) h
section
variable {P : Program} {kt : TypeId} {f1 f2 : Field} (hu : P.underlying kt = some (.struct (P.fieldsOf kt))) (hs : P.stoodInHeld kt = false) (hf : P.fieldsOf kt = #[f1, f2]) (h1 : P.underlying f1.type = some .string) (h2 : P.underlying f2.type = some .string)
 (a1 : ∀ w, (isAgg f1.type).run P w = .ok false w) (a2 : ∀ w, (isAgg f2.type).run P w = .ok false w) (o1 : f1.offset = 0) (o2 : f2.offset = 1) (n1 : f1.name ≠ "_") (n2 : f2.name ≠ "_")
include hu hs hf h1 h2 a1 a2 o1 o2 n1 n2
theorem key2_eq (k k' : ByteArray × ByteArray) (w : World) : (Op.equal kt (kv2 k) (kv2 k')).run P w = .ok (decide (k = k')) w := by
 have hE : EqFs P 0 (P.fieldsOf kt).toList [avS k.1, avS k.2] [avS k'.1, avS k'.2] (sEq k.1 k'.1 && (sEq k.2 k'.2 && true)) := by
  rw [hf]
  exact EqFs.str h1 a1 o1 n1 (EqFs.str h2 a2 o2 n2 (EqFs.nil _))
 have rep : ∀ q : ByteArray × ByteArray, Rep w (fun _ => True) (.agg [avS q.1, avS q.2]) (kv2 q) := fun q => .agg _ _ rfl fun j hj => by
  match j, hj with
  | 0, _ => exact .v _
  | 1, _ => exact .v _
 obtain ⟨us, vs, e1, e2, e3⟩ := agg_eq hu hs hE (rep k) (rep k')
 have := e3 w
 have e4 : (sEq k.1 k'.1 && (sEq k.2 k'.2 && true)) = decide (k = k') := by
  rw [sEq_dec, sEq_dec, Bool.and_true]
  obtain ⟨a, b⟩ := k
  obtain ⟨c, d⟩ := k'
  simp [Prod.mk.injEq]
 rw [e4] at this
 exact this
theorem asking2 {α : Type} : ∀ (l : List ((ByteArray × ByteArray) × α)) (c : List MapEntry) (k : ByteArray × ByteArray) (w : World) (i : Nat), c.length = l.length → (∀ j (h : j < l.length), ∃ e, c[j]? = some e ∧ e.key = kv2 (l[j]).1) →
  (Instr.findAsking kt (kv2 k) c i).run P w = .ok (if mpos l k < l.length then (c[mpos l k]?).map fun e => (i + mpos l k, e.val) else none) w
 | [], c, k, w, i, hl, h => by
  have : c = [] := List.eq_nil_of_length_eq_zero (by simpa using hl)
  subst this; rfl
 | p :: r, [], k, w, i, hl, h => by simp at hl
 | p :: r, e :: c, k, w, i, hl, h => by
  obtain ⟨e0, g1, g2⟩ := h 0 (by simp)
  simp at g1 g2
  subst g1
  have hq := key2_eq hu hs hf h1 h2 a1 a2 o1 o2 n1 n2 k p.1 w
  simp only [Instr.findAsking, Sem.run_bind, g2, hq, Result.andThen_ok]
  by_cases ek : k = p.1
  ·simp [mpos, ek]
  ·simp only [ek, decide_false, Bool.false_eq_true, if_false]
   rw [asking2 r c k w (i + 1) (by simpa using hl) (fun j hj => h (j + 1) (Nat.succ_lt_succ hj))]
   simp only [mpos, if_neg ek, List.length_cons, Nat.add_lt_add_iff_right, List.getElem?_cons_succ]
   rw [show i + 1 + mpos r k = i + (mpos r k + 1) by omega]
omit hs in
theorem check2 (e : Bool) (n : Nat) (k : ByteArray × ByteArray) (w : World) : (Instr.checkKey e (n + 1 + 1) kt (kv2 k)).run P w = .ok () w := by
 have q1 : ∀ s w, (Instr.checkKey e (n + 1) f1.type (.string s)).run P w = .ok () w := fun s w => by
  rw [Instr.checkKey]; simp only [Sem.run_bind, run_underlying h1, Result.andThen_ok, Sem.run_pure]
 have q2 : ∀ s w, (Instr.checkKey e (n + 1) f2.type (.string s)).run P w = .ok () w := fun s w => by
  rw [Instr.checkKey]; simp only [Sem.run_bind, run_underlying h2, Result.andThen_ok, Sem.run_pure]
 have hu' := hu
 rw [hf] at hu'
 rw [Instr.checkKey]
 simp only [kv2, Sem.run_bind, run_underlying hu', Result.andThen_ok]
 simp [n1, n2, o1, o2, part, a1, a2, q1, q2]
theorem KeyOk.str2 : KeyOk P kt kv2 where
 check e k w := by
  rw [show (10000 : Nat) = 9998 + 1 + 1 from rfl]
  exact check2 hu hf h1 h2 a1 a2 o1 o2 n1 n2 e 9998 k w
 find l c k w hl h := by
  have hu' := hu
  rw [hf] at hu'
  cases c with
  | nil =>
   have : l = [] := List.eq_nil_of_length_eq_zero (by simpa using hl.symm)
   subst this
   simp [Instr.findKey, run_underlying hu', Instr.findNow, mpos]
  | cons e c =>
   have := asking2 hu hs hf h1 h2 a1 a2 o1 o2 n1 n2 l (e :: c) k w 0 hl h
   simp only [Nat.zero_add] at this
   simp only [Instr.findKey, Sem.run_bind, run_underlying hu', Result.andThen_ok, Instr.findNow, Instr.sameNow]
   exact this
 stay k w := by
  have : Instr.sameBits 10000 (kv2 k) (kv2 k) = true := by
   rw [show (10000 : Nat) = 9999 + 1 from rfl]
   simp [kv2, Instr.sameBits]
  simp [Instr.keyThatStays, this]
end
end Go.Proofs.YtbbgjeiefmiblaaGreatDoor
namespace Go.Proofs.YtbbgjeiefmiblaaGreatDoor
open Go.RowKit
set_option linter.unusedVariables false
set_option linter.unusedSimpArgs false
def errsF (xs : List Int) : Int := match xs.find? (fun x => decide (x ≠ 0)) with | some x => x | none => 0
theorem errsF_at {xs : List Int} {q : Nat} (hq : q < xs.length) (hn : ∀ j, j < q → xs.getD j 0 = 0) (h : xs.getD q 0 ≠ 0) : errsF xs = xs.getD q 0 := by
 induction xs generalizing q with
 | nil => simp at hq
 | cons x r ih =>
  cases q with
  | zero => simp at h; simp [errsF, h]
  | succ q =>
   have h0 := hn 0 (by omega)
   simp at h0
   have := ih (q := q) (by simpa using hq) (fun j hj => by simpa using hn (j + 1) (by omega)) (by simpa using h)
   simpa [errsF, h0] using this
theorem errsF_none {xs : List Int} (hn : ∀ j, j < xs.length → xs.getD j 0 = 0) : errsF xs = 0 := by
 induction xs with
 | nil => rfl
 | cons x r ih =>
  have h0 := hn 0 (by simp)
  simp at h0
  have := ih (fun j hj => by simpa using hn (j + 1) (by simpa using hj))
  simpa [errsF, h0] using this
theorem Le.lits {B : Bs} {s : St'} {t n : Nat} {xs : List Int} (hn : n = xs.length) (ht : look s.sl t = some (.im n 1 fun j => (intsL xs).getD j .any)) : Le B s ⟨(t, avInts xs) :: s.sl, s.hp, s.k⟩ := Le.recast ht fun w Z u h => Rep.ints hn h
end Go.Proofs.YtbbgjeiefmiblaaGreatDoor
namespace Go.Proofs.YtbbgjeiefmiblaaGreatDoor
open Go.RowKit
set_option linter.unusedVariables false
set_option linter.unusedSimpArgs false

structure LookS where
 board : ByteArray
 name : ByteArray
 at_ : Int
 verdict : Int
 bad : Bool
 machine : ByteArray
 nozzle : ByteArray
 reel : ByteArray
instance : Inhabited LookS := ⟨⟨ByteArray.empty, ByteArray.empty, 0, 0, false, ByteArray.empty, ByteArray.empty, ByteArray.empty⟩⟩
instance : Sxc LookS where
 k := 8
 pos := by decide
 cell m j := match j with
  | 0 => avS m.board
  | 1 => avS m.name
  | 2 => avI m.at_
  | 3 => avI m.verdict
  | 4 => avB m.bad
  | 5 => avS m.machine
  | 6 => avS m.nozzle
  | 7 => avS m.reel
  | _ => .any
abbrev avLk (x : LookS) : AV := .agg [avS x.board, avS x.name, avI x.at_, avI x.verdict, avB x.bad, avS x.machine, avS x.nozzle, avS x.reel]
structure SmLk (l : List LookS) : Prop where
 len : l.length ≤ 1000000
 board : ∀ i, (l.getD i default).board.size ≤ 1000000
 name : ∀ i, (l.getD i default).name.size ≤ 1000000
 machine : ∀ i, (l.getD i default).machine.size ≤ 1000000
 nozzle : ∀ i, (l.getD i default).nozzle.size ≤ 1000000
 reel : ∀ i, (l.getD i default).reel.size ≤ 1000000
def cmpI (a b : Int) : Int := if a < b then -1 else if b < a then 1 else 0
def cmpLk (a b : LookS) : Int := errsF [cmpI a.at_ b.at_, cmpB a.board b.board, cmpB a.name b.name]
def lkStrs (x : LookS) : List ByteArray := [x.board, x.name, x.machine, x.nozzle, x.reel]
def lookE (l : List LookS) (i : Nat) : Int :=
 if (lkStrs (l.getD i default)).all keyF = false then 5
 else if outR (l.getD i default).at_ 0 345686399999 = true then 1
 else if outR (l.getD i default).verdict 1 5 = true then 4
 else if (decide (0 < i) && decide (0 ≤ cmpLk (l.getD (i - 1) default) (l.getD i default))) = true then 7
 else 0
def sameT (o x : LookS) : Bool := sEq o.board x.board && sEq o.name x.name
def twE (l : List LookS) (i : Nat) : Int := if (l.take i).any (fun o => sameT o (l.getD i default)) = true then 6 else 0
def lookF (l : List LookS) : Int :=
 if 5000 < l.length then 2
 else if firstE (lookE l) l.length ≠ 0 then firstE (lookE l) l.length
 else firstE (twE l) l.length
section
variable {l : List LookS} {i : Nat}
theorem lookE_5 (h : (lkStrs (l.getD i default)).all keyF = false) : lookE l i = 5 := by rw [lookE, if_pos h]
theorem lookE_1 (h : (lkStrs (l.getD i default)).all keyF = true) (h1 : outR (l.getD i default).at_ 0 345686399999 = true) : lookE l i = 1 := by rw [lookE, if_neg (by rw [h]; simp), if_pos h1]
theorem lookE_4 (h : (lkStrs (l.getD i default)).all keyF = true) (h1 : outR (l.getD i default).at_ 0 345686399999 = false) (h2 : outR (l.getD i default).verdict 1 5 = true) : lookE l i = 4 := by rw [lookE, if_neg (by rw [h]; simp), if_neg (by rw [h1]; simp), if_pos h2]
theorem lookE_7 (h : (lkStrs (l.getD i default)).all keyF = true) (h1 : outR (l.getD i default).at_ 0 345686399999 = false) (h2 : outR (l.getD i default).verdict 1 5 = false) (hi : 0 < i) (h3 : 0 ≤ cmpLk (l.getD (i - 1) default) (l.getD i default)) : lookE l i = 7 := by
 rw [lookE, if_neg (by rw [h]; simp), if_neg (by rw [h1]; simp), if_neg (by rw [h2]; simp), if_pos (by rw [decide_eq_true hi, decide_eq_true h3]; rfl)]
theorem lookE_0 (h : (lkStrs (l.getD i default)).all keyF = true) (h1 : outR (l.getD i default).at_ 0 345686399999 = false) (h2 : outR (l.getD i default).verdict 1 5 = false) (h3 : i = 0 ∨ cmpLk (l.getD (i - 1) default) (l.getD i default) < 0) : lookE l i = 0 := by
 rw [lookE, if_neg (by rw [h]; simp), if_neg (by rw [h1]; simp), if_neg (by rw [h2]; simp), if_neg]
 rcases h3 with rfl | h3
 ·simp
 ·rw [decide_eq_false (show ¬ 0 ≤ cmpLk (l.getD (i - 1) default) (l.getD i default) by omega)]; simp
theorem lookF_2 (h : 5000 < l.length) : lookF l = 2 := by rw [lookF, if_pos h]
theorem lookF_at (h : l.length ≤ 5000) {q : Nat} (hq : q < l.length) (hn : ∀ j, j < q → lookE l j = 0) (he : lookE l q ≠ 0) : lookF l = lookE l q := by
 have := firstE_found hn he hq
 rw [lookF, if_neg (by omega), this, if_pos he]
theorem lookF_tw (h : l.length ≤ 5000) (h0 : ∀ j, j < l.length → lookE l j = 0) {q : Nat} (hq : q < l.length) (hn : ∀ j, j < q → twE l j = 0) (he : twE l q ≠ 0) : lookF l = twE l q := by
 have := firstE_found hn he hq
 rw [lookF, if_neg (by omega), firstE_none h0, if_neg (by simp), this]
theorem lookF_ok (h : l.length ≤ 5000) (h0 : ∀ j, j < l.length → lookE l j = 0) (hn : ∀ j, j < l.length → twE l j = 0) : lookF l = 0 := by
 rw [lookF, if_neg (by omega), firstE_none h0, if_neg (by simp), firstE_none hn]
end
structure LookOk (l : List LookS) : Prop where
 len : l.length ≤ 5000
 all : ∀ j, j < l.length → lookE l j = 0
 once : ∀ j, j < l.length → twE l j = 0
theorem lookOk {l : List LookS} (h : lookF l = 0) : LookOk l := by
 unfold lookF at h
 split at h
 ·cases h
 ·split at h
  ·contradiction
  ·rename_i h1 h2
   exact ⟨by omega, firstE_zero (by simpa using h2), firstE_zero h⟩
def seenL (l : List LookS) : List ((ByteArray × ByteArray) × Bool) := l.map fun x => ((x.board, x.name), true)
theorem seenL_get (l : List LookS) (x : LookS) : mgetD (seenL l) (x.board, x.name) false = l.any fun o => sameT o x := by
 induction l with
 | nil => rfl
 | cons o l ih =>
  show mgetD (((o.board, o.name), true) :: seenL l) _ _ = _
  simp only [List.any_cons]
  rw [← ih]
  by_cases e : (x.board, x.name) = (o.board, o.name)
  ·have h1 : sameT o x = true := by
    have h2 := Prod.mk.inj e
    unfold sameT
    rw [h2.1, h2.2, sEq_eq.2 rfl, sEq_eq.2 rfl]; rfl
   rw [h1, mgetD, mget, if_pos e]; rfl
  ·have h1 : sameT o x = false := by
    cases hs : sameT o x with
    | false => rfl
    | true =>
     unfold sameT at hs
     rw [Bool.and_eq_true] at hs
     exact absurd (by rw [sEq_eq.1 hs.1, sEq_eq.1 hs.2]) e
   rw [h1, Bool.false_or, mgetD, mget, if_neg e]; rfl
theorem seenL_new {l : List LookS} {x : LookS} (h : l.any (fun o => sameT o x) = false) : mput (seenL l) (x.board, x.name) true = seenL (l ++ [x]) := by
 have hn : mpos (seenL l) (x.board, x.name) = (seenL l).length := by
  have hle := mpos_le (seenL l) (x.board, x.name)
  by_cases hlt : mpos (seenL l) (x.board, x.name) < (seenL l).length
  ·exfalso
   have hk := mpos_key (seenL l) (x.board, x.name) hlt
   have hl : mpos (seenL l) (x.board, x.name) < l.length := by simpa [seenL] using hlt
   rw [List.any_eq_false] at h
   have := h _ (List.getElem_mem hl)
   apply this
   simp only [seenL, List.getElem_map] at hk
   have h2 := Prod.mk.inj hk
   unfold sameT
   simp only [seenL] at h2 ⊢
   rw [h2.1, h2.2, sEq_eq.2 rfl, sEq_eq.2 rfl]; rfl
  ·omega
 rw [mput_new _ _ _ hn]
 simp [seenL]
def badN (l : List LookS) : Nat := (l.filter fun x => x.bad).length
theorem badN_le (l : List LookS) : badN l ≤ l.length := List.length_filter_le _ _
theorem badN_take {l : List LookS} {q : Nat} (h : q < l.length) : badN (l.take (q + 1)) = badN (l.take q) + if (l.getD q default).bad = true then 1 else 0 := by
 rw [List.take_add_one, List.getElem?_eq_getElem h]
 have : l.getD q default = l[q] := by rw [List.getD_eq_getElem?_getD, List.getElem?_eq_getElem h]; rfl
 rw [this]
 unfold badN
 rw [List.filter_append, List.length_append]
 cases hb : l[q].bad <;> simp [hb]
theorem twE_6 {l : List LookS} {i : Nat} (h : (l.take i).any (fun o => sameT o (l.getD i default)) = true) : twE l i = 6 := by rw [twE, if_pos h]
theorem twE_0 {l : List LookS} {i : Nat} (h : (l.take i).any (fun o => sameT o (l.getD i default)) = false) : twE l i = 0 := by rw [twE, if_neg (by rw [h]; simp)]
theorem lk_sz {l : List LookS} (h : SmLk l) (i q : Nat) : ((lkStrs (l.getD i default)).getD q ByteArray.empty).size ≤ 1000000 := by
 match q with
 | 0 => exact h.board i
 | 1 => exact h.name i
 | 2 => exact h.machine i
 | 3 => exact h.nozzle i
 | 4 => exact h.reel i
 | q + 5 => simp [lkStrs]
def millE (l : List LookS) : Int := if lookF l ≠ 0 then lookF l else if l.length = 0 then 8 else 0
def millN (l : List LookS) : Nat × Nat := if millE l = 0 then (badN l * 1000000 / Nat.gcd (badN l * 1000000) l.length, l.length / Nat.gcd (badN l * 1000000) l.length) else (0, 0)
theorem millE_1 {l : List LookS} (h : lookF l ≠ 0) : millE l = lookF l := by rw [millE, if_pos h]
theorem millE_8 {l : List LookS} (h : lookF l = 0) (h0 : l.length = 0) : millE l = 8 := by rw [millE, if_neg (by omega), if_pos h0]
theorem millE_0 {l : List LookS} (h : lookF l = 0) (h0 : l.length ≠ 0) : millE l = 0 := by rw [millE, if_neg (by omega), if_neg h0]
end Go.Proofs.YtbbgjeiefmiblaaGreatDoor
namespace Go.Proofs.YtbbgjeiefmiblaaGreatDoor
open Go.RowKit
set_option linter.unusedVariables false
set_option linter.unusedSimpArgs false
theorem tdiv_bd {a b M : Int} (ha : -M ≤ a ∧ a ≤ M) : -M ≤ a.tdiv b ∧ a.tdiv b ≤ M := by
 have h := Int.natAbs_tdiv_le_natAbs a b
 omega
theorem tmod_bd {a b M : Int} (ha : -M ≤ a ∧ a ≤ M) : -M ≤ a.tmod b ∧ a.tmod b ≤ M := by
 have h : (a.tmod b).natAbs ≤ a.natAbs := by rw [Int.natAbs_tmod]; exact Nat.mod_le _ _
 omega


set_option maxRecDepth 100000 in
theorem kit_Lowest {a b : Nat} (ha : a ≤ 4000000000000000000) (hb : b ≤ 4000000000000000000) (h0 : 0 < b) :
  SpecN Tryz.prog 134 [avI (a : Int), avI (b : Int)] (fun y => y = .agg [avI ((a / Nat.gcd a b : Nat) : Int), avI ((b / Nat.gcd a b : Nat) : Int)]) := by
 refine SpecN.of_VCN Tryz.func134 rfl Tryz.ntmps134 (Nle rfl) fun w A hB => ?_
 have hnew : True := trivial
 refine VC.sr ?_
 refine VO.op rfl (OpE.alloc rfl hB rfl Tryz.zeroValue132 rfl ?_)
 intro g4
 refine VO.nil ?_
 refine VC.sr ?_
 refine VO.mv rfl rfl rfl rfl ?_
 refine VO.mv rfl rfl rfl rfl ?_
 refine VO.ma rfl rfl rfl rfl ?_
 refine VO.ma rfl rfl rfl rfl ?_
 refine VO.nil ?_
 refine VC.seq ?_
 refine VC.block ?_
 refine VC.loopK [(0, _), (1, _), (4, _)] ⟨rfl, rfl, rfl, trivial⟩ ({z : Nat × Nat // Nat.gcd z.1 z.2 = Nat.gcd a b ∧ z.1 ≤ 4000000000000000000 ∧ z.2 ≤ 4000000000000000000}) (fun (iZ : {z : Nat × Nat // Nat.gcd z.1 z.2 = Nat.gcd a b ∧ z.1 ≤ 4000000000000000000 ∧ z.2 ≤ 4000000000000000000}) => match iZ with | ⟨⟨x, y⟩, hg, hx, hy⟩ => [(5, avI (x : Int)), (6, avI (y : Int))]) (fun (iZ : {z : Nat × Nat // Nat.gcd z.1 z.2 = Nat.gcd a b ∧ z.1 ≤ 4000000000000000000 ∧ z.2 ≤ 4000000000000000000}) => match iZ with | ⟨⟨x, y⟩, hg, hx, hy⟩ => [.box g4 ⟨[avI 0, avI 0], 132, 2⟩]) (fun (iZ : {z : Nat × Nat // Nat.gcd z.1 z.2 = Nat.gcd a b ∧ z.1 ≤ 4000000000000000000 ∧ z.2 ≤ 4000000000000000000}) => match iZ with | ⟨⟨x, y⟩, hg, hx, hy⟩ => 0) (fun (iZ : {z : Nat × Nat // Nat.gcd z.1 z.2 = Nat.gcd a b ∧ z.1 ≤ 4000000000000000000 ∧ z.2 ≤ 4000000000000000000}) => match iZ with | ⟨⟨x, y⟩, hg, hx, hy⟩ => y) ⟨(a, b), rfl, ha, hb⟩ (Le.mk hB [0] ⟨rfl, rfl, rfl, rfl, rfl, trivial⟩ rfl rfl (Nat.le_refl _)) ?_
 rintro ⟨⟨x, y⟩, hg, hx, hy⟩
 show VC _ _ _ _ ⟨[(5, avI (x : Int)), (6, avI (y : Int))] ++ [(0, _), (1, _), (4, _)], [.box g4 ⟨[avI 0, avI 0], 132, 2⟩], 0⟩
 simp only at hg hx hy
 refine VC.seq ?_
 refine VC.sr ?_
 refine VO.mv rfl rfl rfl rfl ?_
 refine VO.val rfl rfl (OpV.neq rfl rfl rfl) ?_
 refine VO.nil ?_
 refine VC.cond rfl (fun h1b => ?_) (fun h1b => ?_)
 ·have h1 := h1b
  try simp only [qqT, qqF, qqN, qqM, qqL, qqE] at h1
  refine VC.skip ?_
  refine VC.block ?_
  refine VC.draw (fun _ => NoB) hB (by kernel_rfl) ?_
  refine VA.take (i := 0) rfl (by kernel_rfl) (by kernel_rfl) (by kernel_rfl) rfl rfl (OpV.move (.inl rfl) rfl) ?_
  refine VA.take (i := 1) rfl (by kernel_rfl) (by kernel_rfl) (by kernel_rfl) rfl rfl (OpV.move (.inl rfl) rfl) ?_
  refine VA.take (i := 2) rfl (by kernel_rfl) (by kernel_rfl) (by kernel_rfl) rfl rfl (OpV.move (.inl rfl) rfl) ?_
  refine VA.take (i := 3) rfl (by kernel_rfl) (by kernel_rfl) (by kernel_rfl) rfl rfl (OpV.rem rfl rfl rfl (by omega) (by have h2 := tmod_bd (a := (x : Int)) (b := (y : Int)) (M := 4000000000000000000) (by omega); unfold fits; omega)) ?_
  refine VA.take (i := 4) rfl (by kernel_rfl) (by kernel_rfl) (by kernel_rfl) rfl rfl (OpV.move (.inr rfl) rfl) ?_
  refine VA.take (i := 5) rfl (by kernel_rfl) (by kernel_rfl) (by kernel_rfl) rfl rfl (OpV.move (.inr rfl) rfl) ?_
  refine VA.done (by kernel_rfl) ?_
  have hmd := Nat.mod_lt x (by omega : y > 0)
  exact Exists.intro (⟨(y, x % y), by show Nat.gcd y (x % y) = _; rw [← hg, Nat.gcd_comm y, ← Nat.gcd_rec, Nat.gcd_comm], hy, by have := Nat.mod_lt x (by omega : y > 0); show x % y ≤ _; omega⟩) (And.intro (Le.mk hB [0] ⟨rfl, rfl, rfl, rfl, rfl, trivial⟩ rfl rfl (Nat.le_refl _)) (by first | omega | (show _ < _; omega) | (simp only []; omega)))
 ·have h1 := h1b
  try simp only [qqT, qqF, qqN, qqM, qqL, qqE] at h1
  obtain rfl : y = 0 := by omega
  rw [Nat.gcd_zero_right] at hg
  have hx0 := Nat.gcd_pos_of_pos_right a h0
  subst hg
  refine VC.exit ?_
  refine VC.seq ?_
  refine VC.draw (fun j b => j = 7 ∧ b = g4) hB (by kernel_rfl) ?_
  refine VA.take (i := 0) rfl (by kernel_rfl) (by kernel_rfl) (by kernel_rfl) rfl rfl (OpV.move (.inl rfl) rfl) ?_
  refine VA.take (i := 1) rfl (by kernel_rfl) (by kernel_rfl) (by kernel_rfl) rfl rfl (OpV.move (.inl rfl) rfl) ?_
  refine VA.take (i := 2) rfl (by kernel_rfl) (by kernel_rfl) (by kernel_rfl) rfl rfl (OpV.quo rfl rfl rfl (by omega) (by have h1 := tdiv_bd (a := (a : Int)) (b := (Nat.gcd a b : Int)) (M := 4000000000000000000) (by omega); have h2 := tdiv_bd (a := (b : Int)) (b := (Nat.gcd a b : Int)) (M := 4000000000000000000) (by omega); unfold fits; omega)) ?_
  refine VA.take (i := 3) rfl (by kernel_rfl) (by kernel_rfl) (by kernel_rfl) rfl rfl (OpV.move (.inl rfl) rfl) ?_
  refine VA.take (i := 4) rfl (by kernel_rfl) (by kernel_rfl) (by kernel_rfl) rfl rfl (OpV.move (.inl rfl) rfl) ?_
  refine VA.take (i := 5) rfl (by kernel_rfl) (by kernel_rfl) (by kernel_rfl) rfl rfl (OpV.quo rfl rfl rfl (by omega) (by have h1 := tdiv_bd (a := (a : Int)) (b := (Nat.gcd a b : Int)) (M := 4000000000000000000) (by omega); have h2 := tdiv_bd (a := (b : Int)) (b := (Nat.gcd a b : Int)) (M := 4000000000000000000) (by omega); unfold fits; omega)) ?_
  refine VA.take (i := 6) rfl (by kernel_rfl) (by kernel_rfl) (by kernel_rfl) rfl rfl (OpV.build (pls := #[(0, 1), (1, 1)]) rfl Tryz.zeroValue132 Tryz.underlying132 (fun w => by kernel_rfl) rfl rfl) ?_
  refine VA.all (rs := [7]) (by kernel_rfl) (by decide) ?_
  refine ⟨⟨_, rfl, .inl rfl, ?_⟩, trivial⟩
  refine OpE.store (i := 0) rfl hB rfl Tryz.sizeOf132 rfl rfl rfl rfl rfl rfl (Nle rfl) (by first | exact ⟨rfl, rfl⟩ | exact .inl ⟨rfl, rfl⟩ | exact .inr ⟨rfl, rfl⟩ | exact ⟨rfl, trivial⟩ | exact .inl ⟨rfl, trivial⟩ | exact .inr ⟨rfl, trivial⟩ | exact ⟨by decide, rfl⟩) ?_
  refine VA.done (by kernel_rfl) ?_
  refine VC.ret ?_
  exact Exists.intro _ (And.intro (RetN.one Tryz.results134 ((by first | exact ResN.cellF (i := 0) Tryz.isAgg132 Tryz.sizeOf132 rfl rfl rfl (flat_ofB rfl)))) (rfl))


end Go.Proofs.YtbbgjeiefmiblaaGreatDoor
namespace Go.Proofs.YtbbgjeiefmiblaaGreatDoor
open Go.RowKit
set_option linter.unusedVariables false
set_option linter.unusedSimpArgs false
abbrev eBl : Bool → AV := fun b => avB b
abbrev boxLk (g : Nat) (x : LookS) (ty : TypeId) : Ent := .box g ⟨[avS x.board, avS x.name, avI x.at_, avI x.verdict, avB x.bad, avS x.machine, avS x.nozzle, avS x.reel], ty, 8⟩
theorem Le.litsS {B : Bs} {s : St'} {t n : Nat} {xs : List ByteArray} (hn : n = xs.length) (ht : look s.sl t = some (.im n 1 fun j => (strsL xs).getD j .any)) : Le B s ⟨(t, avStrs xs) :: s.sl, s.hp, s.k⟩ := Le.recast ht fun w Z u h => Rep.strs hn h
set_option maxRecDepth 100000 in
theorem cmp_isNaN_int {a : Int}  :
  SpecN Tryz.prog 259 [avI a] (fun y => y = avB false) := by
 refine SpecN.of_VCN Tryz.func259 rfl Tryz.ntmps259 (Nle rfl) fun w A hB => ?_
 have hnew : True := trivial
 refine VC.sr ?_
 refine VO.ma rfl rfl rfl rfl ?_
 refine VO.nil ?_
 refine VC.sr ?_
 refine VO.mv rfl rfl rfl rfl ?_
 refine VO.mv rfl rfl rfl rfl ?_
 refine VO.val rfl rfl (OpV.neq rfl rfl rfl) ?_
 refine VO.ma rfl rfl rfl rfl ?_
 refine VO.nil ?_
 refine VC.ret ?_
 exact Exists.intro _ (And.intro (RetN.one Tryz.results259 (ResN.v rfl)) (by simp))
set_option maxRecDepth 100000 in
theorem cmp_Compare_int {a b : Int}  :
  SpecN Tryz.prog 238 [avI a, avI b] (fun y => y = avI (cmpI a b)) := by
 refine SpecN.of_VCN Tryz.func238 rfl Tryz.ntmps238 (Nle rfl) fun w A hB => ?_
 have hnew : True := trivial
 refine VC.sr ?_
 refine VO.ma rfl rfl rfl rfl ?_
 refine VO.nil ?_
 refine VC.sr ?_
 refine VO.mv rfl rfl rfl rfl ?_
 refine VO.op rfl (OpE.call rfl hB rfl Tryz.call259 rfl (SpecN.spec (cmp_isNaN_int)) ?_)
 rintro _ rfl
 refine VO.ma rfl rfl rfl rfl ?_
 refine VO.nil ?_
 refine VC.sr ?_
 refine VO.mv rfl rfl rfl rfl ?_
 refine VO.op rfl (OpE.call rfl hB rfl Tryz.call259 rfl (SpecN.spec (cmp_isNaN_int)) ?_)
 rintro _ rfl
 refine VO.ma rfl rfl rfl rfl ?_
 refine VO.nil ?_
 refine VC.seq ?_
 refine VC.sr ?_
 refine VO.mv rfl rfl rfl rfl ?_
 refine VO.nil ?_
 refine VC.condF rfl rfl ?_
 refine VC.skip ?_
 refine VC.seq ?_
 refine VC.sr ?_
 refine VO.mv rfl rfl rfl rfl ?_
 refine VO.nil ?_
 refine VC.condF rfl rfl ?_
 refine VC.skip ?_
 refine VC.seq ?_
 refine VC.sr ?_
 refine VO.mv rfl rfl rfl rfl ?_
 refine VO.mv rfl rfl rfl rfl ?_
 refine VO.val rfl rfl (OpV.lss rfl rfl rfl) ?_
 refine VO.nil ?_
 refine VC.cond rfl (fun aH1b => ?_) (fun aH1b => ?_)
 ·have aH1 := aH1b
  try simp only [qqT, qqF, qqN, qqM, qqL, qqE] at aH1
  refine VC.sr ?_
  refine VO.ma rfl rfl rfl rfl ?_
  refine VO.nil ?_
  refine VC.ret ?_
  exact Exists.intro _ (And.intro (RetN.one Tryz.results238 (ResN.v rfl)) (by rw [cmpI, if_pos (by assumption)]))
 ·have aH1 := aH1b
  try simp only [qqT, qqF, qqN, qqM, qqL, qqE] at aH1
  refine VC.skip ?_
  refine VC.seq ?_
  refine VC.sr ?_
  refine VO.mv rfl rfl rfl rfl ?_
  refine VO.mv rfl rfl rfl rfl ?_
  refine VO.val rfl rfl (OpV.gtr rfl rfl rfl) ?_
  refine VO.nil ?_
  refine VC.cond rfl (fun aH2b => ?_) (fun aH2b => ?_)
  ·have aH2 := aH2b
   try simp only [qqT, qqF, qqN, qqM, qqL, qqE] at aH2
   refine VC.sr ?_
   refine VO.ma rfl rfl rfl rfl ?_
   refine VO.nil ?_
   refine VC.ret ?_
   exact Exists.intro _ (And.intro (RetN.one Tryz.results238 (ResN.v rfl)) (by rw [cmpI, if_neg (by omega), if_pos (by assumption)]))
  ·have aH2 := aH2b
   try simp only [qqT, qqF, qqN, qqM, qqL, qqE] at aH2
   refine VC.skip ?_
   refine VC.sr ?_
   refine VO.ma rfl rfl rfl rfl ?_
   refine VO.nil ?_
   refine VC.ret ?_
   exact Exists.intro _ (And.intro (RetN.one Tryz.results238 (ResN.v rfl)) (by rw [cmpI, if_neg (by omega), if_neg (by omega)]))
set_option maxRecDepth 100000 in
theorem cmp_Or_int {xs : List Int} (hl : xs.length ≤ 1000000000) :
  SpecN Tryz.prog 237 [avInts xs] (fun y => y = avI (errsF xs)) := by
 refine SpecN.of_VCN Tryz.func237 rfl Tryz.ntmps237 (Nle rfl) fun w A hB => ?_
 have hnew : True := trivial
 refine VC.sr ?_
 refine VO.ma rfl rfl rfl rfl ?_
 refine VO.nil ?_
 refine VC.sr ?_
 refine VO.ma rfl rfl rfl rfl ?_
 refine VO.nil ?_
 refine VC.seq ?_
 refine VC.sr ?_
 refine VO.mv rfl rfl rfl rfl ?_
 refine VO.val rfl rfl (OpV.len_im rfl Tryz.underlying22 rfl) ?_
 refine VO.mv rfl rfl rfl rfl ?_
 refine VO.nil ?_
 refine VC.block ?_
 refine VC.loopK [(3, _), (6, _), (7, _)] ⟨rfl, rfl, rfl, trivial⟩ ({q : Nat // q ≤ xs.length ∧ ∀ j, j < q → xs.getD j 0 = 0}) (fun (iZ : {q : Nat // q ≤ xs.length ∧ ∀ j, j < q → xs.getD j 0 = 0}) => match iZ with | ⟨q, hq, hn⟩ => [(8, avI (q : Int))]) (fun (iZ : {q : Nat // q ≤ xs.length ∧ ∀ j, j < q → xs.getD j 0 = 0}) => match iZ with | ⟨q, hq, hn⟩ => []) (fun (iZ : {q : Nat // q ≤ xs.length ∧ ∀ j, j < q → xs.getD j 0 = 0}) => match iZ with | ⟨q, hq, hn⟩ => 0) (fun (iZ : {q : Nat // q ≤ xs.length ∧ ∀ j, j < q → xs.getD j 0 = 0}) => match iZ with | ⟨q, hq, hn⟩ => xs.length - q) ⟨0, Nat.zero_le _, fun j hj => absurd hj (Nat.not_lt_zero j)⟩ (Le.mk hB [] ⟨rfl, rfl, rfl, rfl, trivial⟩ rfl rfl (Nat.le_refl _)) ?_
 rintro ⟨q, hq, hn⟩
 show VC _ _ _ _ ⟨[(8, avI (q : Int))] ++ [(3, _), (6, _), (7, _)], [], 0⟩
 refine VC.sr ?_
 refine VO.val rfl rfl (OpV.lss rfl rfl rfl) ?_
 refine VO.nil ?_
 refine VC.seq ?_
 refine VC.cond rfl (fun aH1b => ?_) (fun aH1b => ?_)
 ·have aH1 := aH1b
  try simp only [qqT, qqF, qqN, qqM, qqL, qqE] at aH1
  refine VC.skip ?_
  refine VC.seq ?_
  refine VC.block ?_
  refine VC.sr ?_
  refine VO.val rfl rfl (OpV.indexAddr_1 rfl Tryz.underlying22 Tryz.sizeOf3 rfl rfl rfl (by omega)) ?_
  refine VO.val rfl rfl (OpV.load_at rfl hB OutW.no Tryz.isAgg3 rfl rfl) ?_
  refine VO.ma rfl rfl rfl rfl ?_
  refine VO.nil ?_
  refine VC.sr ?_
  refine VO.mv rfl rfl rfl rfl ?_
  refine VO.mv rfl rfl rfl rfl ?_
  refine VO.val rfl rfl (OpV.neq rfl rfl rfl) ?_
  refine VO.nil ?_
  refine VC.cond rfl (fun h1b => ?_) (fun h1b => ?_)
  ·have h1 := h1b
   try simp only [qqT, qqF, qqN, qqM, qqL, qqE] at h1
   refine VC.sr ?_
   refine VO.mv rfl rfl rfl rfl ?_
   refine VO.ma rfl rfl rfl rfl ?_
   refine VO.nil ?_
   refine VC.ret ?_
   exact Exists.intro _ (And.intro (RetN.one Tryz.results237 (ResN.v rfl)) (by rw [errsF_at (q := q) (by omega) hn h1]))
  ·have h1 := h1b
   try simp only [qqT, qqF, qqN, qqM, qqL, qqE] at h1
   refine VC.skip ?_
   refine VC.region ?_
   refine VO.val rfl rfl (OpV.add rfl rfl rfl (by unfold fits; omega)) ?_
   refine VO.mv rfl rfl rfl rfl ?_
   refine VO.nil ?_
   exact Exists.intro (⟨q + 1, by omega, lt_succ_cases hn ((by omega))⟩) (And.intro (Le.mk hB [] ⟨rfl, rfl, rfl, rfl, trivial⟩ rfl rfl (Nat.le_refl _)) (by first | omega | (show _ < _; omega) | (simp only []; omega)))
 ·have aH1 := aH1b
  try simp only [qqT, qqF, qqN, qqM, qqL, qqE] at aH1
  refine VC.exit ?_
  refine VC.sr ?_
  refine VO.mv rfl rfl rfl rfl ?_
  refine VO.ma rfl rfl rfl rfl ?_
  refine VO.nil ?_
  refine VC.ret ?_
  exact Exists.intro _ (And.intro (RetN.one Tryz.results237 (ResN.v rfl)) (by rw [errsF_none (fun j hj => hn j (by omega))]))
set_option maxRecDepth 100000 in
theorem inspect_compare {a b : LookS}  :
  SpecN Tryz.prog 213 [avLk a, avLk b] (fun y => y = avI (cmpLk a b)) := by
 refine SpecN.of_VCN Tryz.func213 rfl Tryz.ntmps213 (Nle rfl) fun w A hB => ?_
 have hnew : True := trivial
 refine VC.sr ?_
 refine VO.op rfl (OpE.box rfl hB rfl rfl rfl ?_)
 intro g2
 refine VO.op rfl (OpE.box rfl hB rfl rfl rfl ?_)
 intro g3
 refine VO.ma rfl rfl rfl rfl ?_
 refine VO.nil ?_
 refine VC.seq ?_
 refine VC.draw (fun _ => NoB) hB (by kernel_rfl) ?_
 refine VA.take (i := 0) rfl (by kernel_rfl) (by kernel_rfl) (by kernel_rfl) rfl rfl (OpV.fieldAddrO 2 rfl Tryz.underlying136 rfl rfl Tryz.sizeOf3 rfl) ?_
 refine VA.take (i := 1) rfl (by kernel_rfl) (by kernel_rfl) (by kernel_rfl) rfl rfl (OpV.load_own (i := 0) rfl hB Tryz.isAgg3 rfl rfl rfl Wi.not0) ?_
 refine VA.take (i := 2) rfl (by kernel_rfl) (by kernel_rfl) (by kernel_rfl) rfl rfl (OpV.fieldAddrO 2 rfl Tryz.underlying136 rfl rfl Tryz.sizeOf3 rfl) ?_
 refine VA.take (i := 3) rfl (by kernel_rfl) (by kernel_rfl) (by kernel_rfl) rfl rfl (OpV.load_own (i := 1) rfl hB Tryz.isAgg3 rfl rfl rfl Wi.not0) ?_
 refine VA.take (i := 5) rfl (by kernel_rfl) (by kernel_rfl) (by kernel_rfl) rfl rfl (OpV.fieldAddrO 0 rfl Tryz.underlying136 rfl rfl Tryz.sizeOf9 rfl) ?_
 refine VA.take (i := 6) rfl (by kernel_rfl) (by kernel_rfl) (by kernel_rfl) rfl rfl (OpV.load_own (i := 0) rfl hB Tryz.isAgg9 rfl rfl rfl Wi.not0) ?_
 refine VA.take (i := 7) rfl (by kernel_rfl) (by kernel_rfl) (by kernel_rfl) rfl rfl (OpV.fieldAddrO 0 rfl Tryz.underlying136 rfl rfl Tryz.sizeOf9 rfl) ?_
 refine VA.take (i := 8) rfl (by kernel_rfl) (by kernel_rfl) (by kernel_rfl) rfl rfl (OpV.load_own (i := 1) rfl hB Tryz.isAgg9 rfl rfl rfl Wi.not0) ?_
 refine VA.take (i := 10) rfl (by kernel_rfl) (by kernel_rfl) (by kernel_rfl) rfl rfl (OpV.fieldAddrO 1 rfl Tryz.underlying136 rfl rfl Tryz.sizeOf9 rfl) ?_
 refine VA.take (i := 11) rfl (by kernel_rfl) (by kernel_rfl) (by kernel_rfl) rfl rfl (OpV.load_own (i := 0) rfl hB Tryz.isAgg9 rfl rfl rfl Wi.not0) ?_
 refine VA.take (i := 12) rfl (by kernel_rfl) (by kernel_rfl) (by kernel_rfl) rfl rfl (OpV.fieldAddrO 1 rfl Tryz.underlying136 rfl rfl Tryz.sizeOf9 rfl) ?_
 refine VA.take (i := 13) rfl (by kernel_rfl) (by kernel_rfl) (by kernel_rfl) rfl rfl (OpV.load_own (i := 1) rfl hB Tryz.isAgg9 rfl rfl rfl Wi.not0) ?_
 refine VA.all (rs := [4]) (by kernel_rfl) (by decide) ?_
 refine ⟨⟨_, rfl, .inl rfl, ?_⟩, trivial⟩
 refine OpE.call rfl hB rfl Tryz.call238 rfl (SpecN.spec (cmp_Compare_int)) ?_
 rintro _ rfl
 refine VA.all (rs := [9]) (by kernel_rfl) (by decide) ?_
 refine ⟨⟨_, rfl, .inl rfl, ?_⟩, trivial⟩
 refine OpE.call rfl hB rfl Tryz.call142 rfl (SpecN.spec (strings_Compare_S)) ?_
 rintro _ rfl
 refine VA.all (rs := [14]) (by kernel_rfl) (by decide) ?_
 refine ⟨⟨_, rfl, .inl rfl, ?_⟩, trivial⟩
 refine OpE.call rfl hB rfl Tryz.call142 rfl (SpecN.spec (strings_Compare_S)) ?_
 rintro _ rfl
 refine VA.all (rs := [15]) (by kernel_rfl) (by decide) ?_
 refine ⟨⟨_, rfl, .inl rfl, ?_⟩, trivial⟩
 refine OpE.buildSlice (zc := #[.int .i64 0, .int .i64 0, .int .i64 0]) rfl hB rfl Tryz.underlying22 Tryz.sizeOf3 Tryz.zeroValue3 (by decide) (by decide) (by kernel_rfl) rfl rfl ?_
 refine VA.le _ (Le.lits (t := 20) (xs := [cmpI a.at_ b.at_, cmpB a.board b.board, cmpB a.name b.name]) rfl rfl) ?_
 refine VA.all (rs := [16]) (by kernel_rfl) (by decide) ?_
 refine ⟨⟨_, rfl, .inl rfl, ?_⟩, trivial⟩
 refine OpE.call rfl hB rfl Tryz.call237 rfl (SpecN.spec (cmp_Or_int (by simp))) ?_
 rintro _ rfl
 refine VA.take (i := 17) rfl (by kernel_rfl) (by kernel_rfl) (by kernel_rfl) rfl rfl (OpV.move (.inr rfl) rfl) ?_
 refine VA.done (by kernel_rfl) ?_
 refine VC.ret ?_
 exact Exists.intro _ (And.intro (RetN.one Tryz.results213 (ResN.v rfl)) (rfl))
set_option maxRecDepth 100000 in
theorem kit_IsMoment {n : Int}  :
  SpecN Tryz.prog 212 [avI n] (fun y => y = avB (!outR n 0 345686399999)) := by
 refine SpecN.of_VCN Tryz.func212 rfl Tryz.ntmps212 (Nle rfl) fun w A hB => ?_
 have hnew : True := trivial
 refine VC.sr ?_
 refine VO.ma rfl rfl rfl rfl ?_
 refine VO.nil ?_
 refine VC.sr ?_
 refine VO.mv rfl rfl rfl rfl ?_
 refine VO.op rfl (OpE.call rfl hB rfl Tryz.call112 rfl (SpecN.spec (kit_Outside)) ?_)
 rintro _ rfl
 refine VO.val rfl rfl (OpV.not rfl rfl) ?_
 refine VO.ma rfl rfl rfl rfl ?_
 refine VO.nil ?_
 refine VC.ret ?_
 exact Exists.intro _ (And.intro (RetN.one Tryz.results212 (ResN.v rfl)) (rfl))
set_option maxRecDepth 100000 in
set_option maxHeartbeats 4000000 in
theorem inspect_lookFault {l : List LookS} {i : Nat} (hs : SmLk l) (hi : i < l.length) :
  SpecN Tryz.prog 175 [avL l, avI (i : Int)] (fun y => y = avI (lookE l i)) := by
 refine SpecN.of_VCN Tryz.func175 rfl Tryz.ntmps175 (Nle rfl) fun w A hB => ?_
 have hnew : True := trivial
 refine VC.seq ?_
 have hl := hs.len
 have h5 : (lkStrs (l.getD i default)).length = 5 := rfl
 refine VC.region ?_
 refine VO.ma rfl rfl rfl rfl ?_
 refine VO.nil ?_
 refine VC.sr ?_
 refine VO.mv rfl rfl rfl rfl ?_
 refine VO.mv rfl rfl rfl rfl ?_
 refine VO.val rfl rfl (OpV.indexAddr_E rfl Tryz.underlying137 Tryz.sizeOf136 rfl rfl rfl (by omega)) ?_
 refine VO.val rfl rfl (OpV.loadK_at rfl hB OutW.no Tryz.isAgg136 Tryz.sizeOf136 rfl rfl) ?_
 refine VO.op rfl (OpE.alloc rfl hB rfl Tryz.zeroValue136 rfl ?_)
 intro g5
 refine VO.op rfl (OpE.store (i := 0) rfl hB rfl Tryz.sizeOf136 rfl rfl rfl rfl rfl rfl (Nle rfl) trivial ?_)
 refine VO.nil ?_
 refine VC.seq ?_
 refine VC.sr ?_
 refine VO.val rfl rfl (OpV.fieldAddrO 0 rfl Tryz.underlying136 rfl rfl Tryz.sizeOf9 rfl) ?_
 refine VO.val rfl rfl (OpV.load_own (i := 0) rfl hB Tryz.isAgg9 rfl rfl rfl (fun h => h)) ?_
 refine VO.val rfl rfl (OpV.fieldAddrO 1 rfl Tryz.underlying136 rfl rfl Tryz.sizeOf9 rfl) ?_
 refine VO.val rfl rfl (OpV.load_own (i := 0) rfl hB Tryz.isAgg9 rfl rfl rfl (fun h => h)) ?_
 refine VO.val rfl rfl (OpV.fieldAddrO 5 rfl Tryz.underlying136 rfl rfl Tryz.sizeOf9 rfl) ?_
 refine VO.val rfl rfl (OpV.load_own (i := 0) rfl hB Tryz.isAgg9 rfl rfl rfl (fun h => h)) ?_
 refine VO.val rfl rfl (OpV.fieldAddrO 6 rfl Tryz.underlying136 rfl rfl Tryz.sizeOf9 rfl) ?_
 refine VO.val rfl rfl (OpV.load_own (i := 0) rfl hB Tryz.isAgg9 rfl rfl rfl (fun h => h)) ?_
 refine VO.val rfl rfl (OpV.fieldAddrO 7 rfl Tryz.underlying136 rfl rfl Tryz.sizeOf9 rfl) ?_
 refine VO.val rfl rfl (OpV.load_own (i := 0) rfl hB Tryz.isAgg9 rfl rfl rfl (fun h => h)) ?_
 refine VO.op rfl (OpE.buildSlice (zc := #[.string ⟨#[]⟩, .string ⟨#[]⟩, .string ⟨#[]⟩, .string ⟨#[]⟩, .string ⟨#[]⟩]) rfl hB rfl Tryz.underlying29 Tryz.sizeOf9 Tryz.zeroValue9 (by decide) (by decide) (by kernel_rfl) rfl rfl ?_)
 refine VO.le _ (Le.litsS (t := 22) (xs := lkStrs (l.getD i default)) rfl rfl) ?_
 refine VO.val rfl rfl (OpV.len_im rfl Tryz.underlying29 rfl) ?_
 refine VO.mv rfl rfl rfl rfl ?_
 refine VO.nil ?_
 refine VC.block ?_
 refine VC.loopK [(0, _), (1, _), (5, _), (22, _), (23, _)] ⟨rfl, rfl, rfl, rfl, rfl, trivial⟩ ({q : Nat // q ≤ 5 ∧ ∀ j, j < q → keyF ((lkStrs (l.getD i default)).getD j ByteArray.empty) = true}) (fun (iZ : {q : Nat // q ≤ 5 ∧ ∀ j, j < q → keyF ((lkStrs (l.getD i default)).getD j ByteArray.empty) = true}) => match iZ with | ⟨q, hq, hn⟩ => [(24, avI (q : Int))]) (fun (iZ : {q : Nat // q ≤ 5 ∧ ∀ j, j < q → keyF ((lkStrs (l.getD i default)).getD j ByteArray.empty) = true}) => match iZ with | ⟨q, hq, hn⟩ => [boxLk g5 (l.getD i default) 136]) (fun (iZ : {q : Nat // q ≤ 5 ∧ ∀ j, j < q → keyF ((lkStrs (l.getD i default)).getD j ByteArray.empty) = true}) => match iZ with | ⟨q, hq, hn⟩ => 0) (fun (iZ : {q : Nat // q ≤ 5 ∧ ∀ j, j < q → keyF ((lkStrs (l.getD i default)).getD j ByteArray.empty) = true}) => match iZ with | ⟨q, hq, hn⟩ => 5 - q) ⟨0, Nat.zero_le _, fun j hj => absurd hj (Nat.not_lt_zero j)⟩ (Le.mk hB [0] ⟨rfl, rfl, rfl, rfl, rfl, rfl, trivial⟩ rfl rfl (Nat.le_refl _)) ?_
 rintro ⟨q, hq, hn⟩
 show VC _ _ _ _ ⟨[(24, avI (q : Int))] ++ [(0, _), (1, _), (5, _), (22, _), (23, _)], [boxLk g5 (l.getD i default) 136], 0⟩
 refine VC.sr ?_
 refine VO.val rfl rfl (OpV.lss rfl rfl rfl) ?_
 refine VO.nil ?_
 refine VC.seq ?_
 refine VC.cond rfl (fun aH1b => ?_) (fun aH1b => ?_)
 ·have aH1 := aH1b
  try simp only [qqT, qqF, qqN, qqM, qqL, qqE] at aH1
  refine VC.skip ?_
  refine VC.seq ?_
  refine VC.block ?_
  refine VC.sr ?_
  refine VO.val rfl rfl (OpV.indexAddr_1 rfl Tryz.underlying29 Tryz.sizeOf9 rfl rfl rfl (by omega)) ?_
  refine VO.val rfl rfl (OpV.load_at rfl hB OutW.no Tryz.isAgg9 rfl rfl) ?_
  refine VO.ma rfl rfl rfl rfl ?_
  refine VO.nil ?_
  refine VC.sr ?_
  refine VO.mv rfl rfl rfl rfl ?_
  refine VO.op rfl (OpE.call rfl hB rfl Tryz.call113 rfl (SpecN.spec (kit_IsKey (by have := lk_sz hs i q; omega))) ?_)
  rintro _ rfl
  refine VO.val rfl rfl (OpV.not rfl rfl) ?_
  refine VO.nil ?_
  refine VC.cond rfl (fun h1b => ?_) (fun h1b => ?_)
  ·have h1 := h1b
   try simp only [qqT, qqF, qqN, qqM, qqL, qqE] at h1
   refine VC.sr ?_
   refine VO.ma rfl rfl rfl rfl ?_
   refine VO.nil ?_
   refine VC.ret ?_
   exact Exists.intro _ (And.intro (RetN.one Tryz.results175 (ResN.v rfl)) (by rw [lookE_5 (all_no (d := ByteArray.empty) (q := q) (by show q < 5; omega) (by assumption))]))
  ·have h1 := h1b
   try simp only [qqT, qqF, qqN, qqM, qqL, qqE] at h1
   refine VC.skip ?_
   refine VC.region ?_
   refine VO.val rfl rfl (OpV.add rfl rfl rfl (by unfold fits; omega)) ?_
   refine VO.mv rfl rfl rfl rfl ?_
   refine VO.nil ?_
   exact Exists.intro (⟨q + 1, by omega, lt_succ_cases hn ((by assumption))⟩) (And.intro (Le.mk hB [0] ⟨rfl, rfl, rfl, rfl, rfl, rfl, trivial⟩ rfl rfl (Nat.le_refl _)) (by first | omega | (show _ < _; omega) | (simp only []; omega)))
 ·have aH1 := aH1b
  try simp only [qqT, qqF, qqN, qqM, qqL, qqE] at aH1
  have hk : (lkStrs (l.getD i default)).all keyF = true := all_yes (d := ByteArray.empty) (fun j hj => hn j (by simp [lkStrs] at hj; omega))
  refine VC.exit ?_
  refine VC.seq ?_
  refine VC.block ?_
  refine VC.sr ?_
  refine VO.val rfl rfl (OpV.fieldAddrO 2 rfl Tryz.underlying136 rfl rfl Tryz.sizeOf3 rfl) ?_
  refine VO.val rfl rfl (OpV.load_own (i := 0) rfl hB Tryz.isAgg3 rfl rfl rfl (fun h => h)) ?_
  refine VO.op rfl (OpE.call rfl hB rfl Tryz.call212 rfl (SpecN.spec (kit_IsMoment)) ?_)
  rintro _ rfl
  refine VO.val rfl rfl (OpV.not rfl rfl) ?_
  refine VO.ma rfl rfl rfl rfl ?_
  refine VO.nil ?_
  refine VC.cond rfl (fun h2b => ?_) (fun h2b => ?_)
  ·have h2 := h2b
   try simp only [qqT, qqF, qqN, qqM, qqL, qqE] at h2
   refine VC.sr ?_
   refine VO.ma rfl rfl rfl rfl ?_
   refine VO.nil ?_
   refine VC.ret ?_
   exact Exists.intro _ (And.intro (RetN.one Tryz.results175 (ResN.v rfl)) (by rw [lookE_1 hk h2]))
  ·have h2 := h2b
   try simp only [qqT, qqF, qqN, qqM, qqL, qqE] at h2
   refine VC.sr ?_
   refine VO.val rfl rfl (OpV.fieldAddrO 3 rfl Tryz.underlying136 rfl rfl Tryz.sizeOf3 rfl) ?_
   refine VO.val rfl rfl (OpV.load_own (i := 0) rfl hB Tryz.isAgg3 rfl rfl rfl (fun h => h)) ?_
   refine VO.op rfl (OpE.call rfl hB rfl Tryz.call112 rfl (SpecN.spec (kit_Outside)) ?_)
   rintro _ rfl
   refine VO.ma rfl rfl rfl rfl ?_
   refine VO.nil ?_
   refine VC.cond rfl (fun h3b => ?_) (fun h3b => ?_)
   ·have h3 := h3b
    try simp only [qqT, qqF, qqN, qqM, qqL, qqE] at h3
    refine VC.sr ?_
    refine VO.ma rfl rfl rfl rfl ?_
    refine VO.nil ?_
    refine VC.ret ?_
    exact Exists.intro _ (And.intro (RetN.one Tryz.results175 (ResN.v rfl)) (by rw [lookE_4 hk h2 h3]))
   ·have h3 := h3b
    try simp only [qqT, qqF, qqN, qqM, qqL, qqE] at h3
    refine VC.seq ?_
    refine VC.draw (fun _ => NoB) hB (by kernel_rfl) ?_
    refine VA.take (i := 0) rfl (by kernel_rfl) (by kernel_rfl) (by kernel_rfl) rfl rfl (OpV.move (.inl rfl) rfl) ?_
    refine VA.take (i := 1) rfl (by kernel_rfl) (by kernel_rfl) (by kernel_rfl) rfl rfl (OpV.gtr rfl rfl rfl) ?_
    refine VA.take (i := 2) rfl (by kernel_rfl) (by kernel_rfl) (by kernel_rfl) rfl rfl (OpV.move (.inl rfl) rfl) ?_
    refine VA.split (t := 44) rfl (fun aK2b => ?_) (fun aK2b => ?_)
    ·have aK2 := aK2b
     try simp only [qqT, qqF, qqN, qqM, qqL, qqE] at aK2
     refine VA.takeY (i := 3) rfl (by kernel_rfl) (by kernel_rfl) (by kernel_rfl) rfl rfl rfl rfl aK2b (OpV.move (.inl rfl) rfl) ?_
     refine VA.takeY (i := 4) rfl (by kernel_rfl) (by kernel_rfl) (by kernel_rfl) rfl rfl rfl rfl aK2b (OpV.move (.inl rfl) rfl) ?_
     refine VA.takeY (i := 5) rfl (by kernel_rfl) (by kernel_rfl) (by kernel_rfl) rfl rfl rfl rfl aK2b (OpV.sub rfl rfl rfl (by unfold fits; omega)) ?_
     refine VA.takeY (i := 6) rfl (by kernel_rfl) (by kernel_rfl) (by kernel_rfl) rfl rfl rfl rfl aK2b (OpV.indexAddr_E rfl Tryz.underlying137 Tryz.sizeOf136 rfl rfl (show ((i : Int) - 1) = ((i - 1 : Nat) : Int) by omega) (by omega)) ?_
     refine VA.takeY (i := 7) rfl (by kernel_rfl) (by kernel_rfl) (by kernel_rfl) rfl rfl rfl rfl aK2b (OpV.loadK_at rfl hB OutW.wi0 Tryz.isAgg136 Tryz.sizeOf136 rfl rfl) ?_
     refine VA.takeY (i := 8) rfl (by kernel_rfl) (by kernel_rfl) (by kernel_rfl) rfl rfl rfl rfl aK2b (OpV.loadK_own (i := 0) rfl hB Tryz.isAgg136 Tryz.sizeOf136 rfl rfl rfl Wi.not0) ?_
     refine VA.all (rs := [9]) (by kernel_rfl) (by decide) ?_
     refine ⟨⟨_, rfl, .inr ⟨_, _, _, rfl, rfl, (look_k rfl aK2b)⟩, ?_⟩, trivial⟩
     refine OpE.call rfl hB rfl Tryz.call213 rfl (SpecN.spec (inspect_compare (a := l.getD (i - 1) default) (b := l.getD i default))) ?_
     rintro _ rfl
     refine VA.takeY (i := 10) rfl (by kernel_rfl) (by kernel_rfl) (by kernel_rfl) rfl rfl rfl rfl aK2b (OpV.geq rfl rfl rfl) ?_
     refine VA.take (i := 11) rfl (by kernel_rfl) (by kernel_rfl) (by kernel_rfl) rfl rfl (OpV.pickT rfl rfl rfl rfl aK2b) ?_
     refine VA.take (i := 12) rfl (by kernel_rfl) (by kernel_rfl) (by kernel_rfl) rfl rfl (OpV.move (.inr rfl) rfl) ?_
     refine VA.done (by kernel_rfl) ?_
     refine VC.cond rfl (fun h4b => ?_) (fun h4b => ?_)
     ·have h4 := h4b
      try simp only [qqT, qqF, qqN, qqM, qqL, qqE] at h4
      refine VC.sr ?_
      refine VO.ma rfl rfl rfl rfl ?_
      refine VO.nil ?_
      refine VC.ret ?_
      exact Exists.intro _ (And.intro (RetN.one Tryz.results175 (ResN.v rfl)) (by rw [lookE_7 hk h2 h3 (by omega) h4]))
     ·have h4 := h4b
      try simp only [qqT, qqF, qqN, qqM, qqL, qqE] at h4
      refine VC.skip ?_
      refine VC.sr ?_
      refine VO.ma rfl rfl rfl rfl ?_
      refine VO.nil ?_
      refine VC.ret ?_
      exact Exists.intro _ (And.intro (RetN.one Tryz.results175 (ResN.v rfl)) (by first | rw [lookE_0 hk h2 h3 (.inr (by omega))] | rw [lookE_0 hk h2 h3 (.inl (by omega))]))
    ·have aK2 := aK2b
     try simp only [qqT, qqF, qqN, qqM, qqL, qqE] at aK2
     refine VA.takeX (i := 3) rfl (by kernel_rfl) (by kernel_rfl) (by kernel_rfl) rfl rfl rfl rfl aK2b ?_
     refine VA.takeX (i := 4) rfl (by kernel_rfl) (by kernel_rfl) (by kernel_rfl) rfl rfl rfl rfl aK2b ?_
     refine VA.takeX (i := 5) rfl (by kernel_rfl) (by kernel_rfl) (by kernel_rfl) rfl rfl rfl rfl aK2b ?_
     refine VA.takeX (i := 6) rfl (by kernel_rfl) (by kernel_rfl) (by kernel_rfl) rfl rfl rfl rfl aK2b ?_
     refine VA.takeX (i := 7) rfl (by kernel_rfl) (by kernel_rfl) (by kernel_rfl) rfl rfl rfl rfl aK2b ?_
     refine VA.takeX (i := 8) rfl (by kernel_rfl) (by kernel_rfl) (by kernel_rfl) rfl rfl rfl rfl aK2b ?_
     refine VA.takeX (i := 9) rfl (by kernel_rfl) (by kernel_rfl) (by kernel_rfl) rfl rfl rfl rfl aK2b ?_
     refine VA.takeX (i := 10) rfl (by kernel_rfl) (by kernel_rfl) (by kernel_rfl) rfl rfl rfl rfl aK2b ?_
     refine VA.take (i := 11) rfl (by kernel_rfl) (by kernel_rfl) (by kernel_rfl) rfl rfl (OpV.pickF rfl rfl rfl rfl aK2b) ?_
     refine VA.take (i := 12) rfl (by kernel_rfl) (by kernel_rfl) (by kernel_rfl) rfl rfl (OpV.move (.inr rfl) rfl) ?_
     refine VA.done (by kernel_rfl) ?_
     refine VC.condF rfl rfl ?_
     refine VC.skip ?_
     refine VC.sr ?_
     refine VO.ma rfl rfl rfl rfl ?_
     refine VO.nil ?_
     refine VC.ret ?_
     exact Exists.intro _ (And.intro (RetN.one Tryz.results175 (ResN.v rfl)) (by first | rw [lookE_0 hk h2 h3 (.inr (by omega))] | rw [lookE_0 hk h2 h3 (.inl (by omega))]))
theorem seen_get (l : List LookS) (q : Nat) : mgetD (seenL (l.take q)) ((l.getD q default).board, (l.getD q default).name) false = (l.take q).any fun o => sameT o (l.getD q default) := seenL_get _ _
theorem seen_take {l : List LookS} {q : Nat} (h : q < l.length) (hx : (l.take q).any (fun o => sameT o (l.getD q default)) = false) : mput (seenL (l.take q)) ((l.getD q default).board, (l.getD q default).name) true = seenL (l.take (q + 1)) := by
 rw [seenL_new hx]
 rw [List.take_add_one, List.getD_eq_getElem?_getD, List.getElem?_eq_getElem h]; rfl
set_option maxRecDepth 100000 in
theorem plK : KeyOk Tryz.prog 235 kv2 := KeyOk.str2 Tryz.underlying235 (by kernel_rfl) (rfl : Tryz.prog.fieldsOf 235 = #[_, _]) Tryz.underlying9 Tryz.underlying9 Tryz.isAgg9 Tryz.isAgg9 rfl rfl (by decide) (by decide)
set_option maxRecDepth 100000 in
set_option maxHeartbeats 4000000 in
theorem inspect_CheckLooks {l : List LookS} (hs : SmLk l) :
  SpecN Tryz.prog 132 [avL l] (fun y => y = avI (lookF l)) := by
 refine SpecN.of_VCN Tryz.func132 rfl Tryz.ntmps132 (Nle rfl) fun w A hB => ?_
 have hnew : True := trivial
 refine VC.seq ?_
 have hl := hs.len
 refine VC.region ?_
 refine VO.ma rfl rfl rfl rfl ?_
 refine VO.nil ?_
 refine VC.seq ?_
 refine VC.sr ?_
 refine VO.mv rfl rfl rfl rfl ?_
 refine VO.val rfl rfl (OpV.len_im rfl Tryz.underlying137 rfl) ?_
 refine VO.val rfl rfl (OpV.gtr rfl rfl rfl) ?_
 refine VO.nil ?_
 refine VC.cond rfl (fun h0b => ?_) (fun h0b => ?_)
 ·have h0 := h0b
  try simp only [qqT, qqF, qqN, qqM, qqL, qqE] at h0
  refine VC.sr ?_
  refine VO.ma rfl rfl rfl rfl ?_
  refine VO.nil ?_
  refine VC.ret ?_
  exact Exists.intro _ (And.intro (RetN.one Tryz.results132 (ResN.v rfl)) (by rw [lookF_2 (by omega)]))
 ·have h0 := h0b
  try simp only [qqT, qqF, qqN, qqM, qqL, qqE] at h0
  refine VC.skip ?_
  refine VC.seq ?_
  refine VC.sr ?_
  refine VO.mv rfl rfl rfl rfl ?_
  refine VO.val rfl rfl (OpV.len_im rfl Tryz.underlying137 rfl) ?_
  refine VO.mv rfl rfl rfl rfl ?_
  refine VO.nil ?_
  refine VC.block ?_
  refine VC.loopK [(0, _), (13, _)] ⟨rfl, rfl, trivial⟩ ({q : Nat // q ≤ l.length ∧ ∀ j, j < q → lookE l j = 0}) (fun (iZ : {q : Nat // q ≤ l.length ∧ ∀ j, j < q → lookE l j = 0}) => match iZ with | ⟨q, hq, hn⟩ => [(14, avI (q : Int))]) (fun (iZ : {q : Nat // q ≤ l.length ∧ ∀ j, j < q → lookE l j = 0}) => match iZ with | ⟨q, hq, hn⟩ => []) (fun (iZ : {q : Nat // q ≤ l.length ∧ ∀ j, j < q → lookE l j = 0}) => match iZ with | ⟨q, hq, hn⟩ => 0) (fun (iZ : {q : Nat // q ≤ l.length ∧ ∀ j, j < q → lookE l j = 0}) => match iZ with | ⟨q, hq, hn⟩ => l.length - q) ⟨0, Nat.zero_le _, fun j hj => absurd hj (Nat.not_lt_zero j)⟩ (Le.mk hB [] ⟨rfl, rfl, rfl, trivial⟩ rfl rfl (Nat.le_refl _)) ?_
  rintro ⟨q, hq, hn⟩
  show VC _ _ _ _ ⟨[(14, avI (q : Int))] ++ [(0, _), (13, _)], [], 0⟩
  refine VC.sr ?_
  refine VO.val rfl rfl (OpV.lss rfl rfl rfl) ?_
  refine VO.nil ?_
  refine VC.seq ?_
  refine VC.cond rfl (fun aH1b => ?_) (fun aH1b => ?_)
  ·have aH1 := aH1b
   try simp only [qqT, qqF, qqN, qqM, qqL, qqE] at aH1
   refine VC.skip ?_
   refine VC.seq ?_
   refine VC.block ?_
   refine VC.sr ?_
   refine VO.mv rfl rfl rfl rfl ?_
   refine VO.ma rfl rfl rfl rfl ?_
   refine VO.nil ?_
   refine VC.sr ?_
   refine VO.mv rfl rfl rfl rfl ?_
   refine VO.mv rfl rfl rfl rfl ?_
   refine VO.op rfl (OpE.call rfl hB rfl Tryz.call175 rfl (SpecN.spec (inspect_lookFault hs (by omega))) ?_)
   rintro _ rfl
   refine VO.ma rfl rfl rfl rfl ?_
   refine VO.nil ?_
   refine VC.sr ?_
   refine VO.mv rfl rfl rfl rfl ?_
   refine VO.val rfl rfl (OpV.neq rfl rfl rfl) ?_
   refine VO.nil ?_
   refine VC.cond rfl (fun h2b => ?_) (fun h2b => ?_)
   ·have h2 := h2b
    try simp only [qqT, qqF, qqN, qqM, qqL, qqE] at h2
    refine VC.sr ?_
    refine VO.mv rfl rfl rfl rfl ?_
    refine VO.ma rfl rfl rfl rfl ?_
    refine VO.nil ?_
    refine VC.ret ?_
    exact Exists.intro _ (And.intro (RetN.one Tryz.results132 (ResN.v rfl)) (by rw [lookF_at (by omega) (by omega) hn h2]))
   ·have h2 := h2b
    try simp only [qqT, qqF, qqN, qqM, qqL, qqE] at h2
    refine VC.skip ?_
    refine VC.region ?_
    refine VO.val rfl rfl (OpV.add rfl rfl rfl (by unfold fits; omega)) ?_
    refine VO.mv rfl rfl rfl rfl ?_
    refine VO.nil ?_
    exact Exists.intro (⟨q + 1, by omega, lt_succ_cases hn ((by omega))⟩) (And.intro (Le.mk hB [] ⟨rfl, rfl, rfl, trivial⟩ rfl rfl (Nat.le_refl _)) (by first | omega | (show _ < _; omega) | (simp only []; omega)))
  ·have aH1 := aH1b
   try simp only [qqT, qqF, qqN, qqM, qqL, qqE] at aH1
   refine VC.exit ?_
   refine VC.seq ?_
   have hl0 : ∀ j, j < l.length → lookE l j = 0 := fun j hj => hn j (by omega)
   refine VC.region ?_
   refine VO.op rfl (OpE.makeMap (kv2) (eBl) rfl hB rfl ?_)
   intro g24
   refine VO.ma rfl rfl rfl rfl ?_
   refine VO.nil ?_
   refine VC.seq ?_
   refine VC.sr ?_
   refine VO.mv rfl rfl rfl rfl ?_
   refine VO.val rfl rfl (OpV.len_im rfl Tryz.underlying137 rfl) ?_
   refine VO.mv rfl rfl rfl rfl ?_
   refine VO.nil ?_
   refine VC.block ?_
   refine VC.loopK [(5, _), (25, _), (26, _)] ⟨rfl, rfl, rfl, trivial⟩ ({r : Nat // r ≤ l.length ∧ ∀ j, j < r → twE l j = 0}) (fun (iZ : {r : Nat // r ≤ l.length ∧ ∀ j, j < r → twE l j = 0}) => match iZ with | ⟨r, hq1, hn1⟩ => [(27, avI (r : Int))]) (fun (iZ : {r : Nat // r ≤ l.length ∧ ∀ j, j < r → twE l j = 0}) => match iZ with | ⟨r, hq1, hn1⟩ => [mapE kv2 g24 eBl (seenL (l.take r))]) (fun (iZ : {r : Nat // r ≤ l.length ∧ ∀ j, j < r → twE l j = 0}) => match iZ with | ⟨r, hq1, hn1⟩ => 0) (fun (iZ : {r : Nat // r ≤ l.length ∧ ∀ j, j < r → twE l j = 0}) => match iZ with | ⟨r, hq1, hn1⟩ => l.length - r) ⟨0, Nat.zero_le _, fun j hj => absurd hj (Nat.not_lt_zero j)⟩ (Le.mk hB [0] ⟨rfl, rfl, rfl, rfl, trivial⟩ rfl rfl (Nat.le_refl _)) ?_
   rintro ⟨r, hq1, hn1⟩
   show VC _ _ _ _ ⟨[(27, avI (r : Int))] ++ [(5, _), (25, _), (26, _)], [mapE kv2 g24 eBl (seenL (l.take r))], 0⟩
   refine VC.sr ?_
   refine VO.val rfl rfl (OpV.lss rfl rfl rfl) ?_
   refine VO.nil ?_
   refine VC.seq ?_
   refine VC.cond rfl (fun aH2b => ?_) (fun aH2b => ?_)
   ·have aH2 := aH2b
    try simp only [qqT, qqF, qqN, qqM, qqL, qqE] at aH2
    refine VC.skip ?_
    refine VC.seq ?_
    refine VC.block ?_
    refine VC.sr ?_
    refine VO.val rfl rfl (OpV.indexAddr_E rfl Tryz.underlying137 Tryz.sizeOf136 rfl rfl rfl (by omega)) ?_
    refine VO.val rfl rfl (OpV.loadK_at rfl hB OutW.no Tryz.isAgg136 Tryz.sizeOf136 rfl rfl) ?_
    refine VO.op rfl (OpE.alloc rfl hB rfl Tryz.zeroValue136 rfl ?_)
    intro g7
    refine VO.op rfl (OpE.store (i := 1) rfl hB rfl Tryz.sizeOf136 rfl rfl rfl rfl rfl rfl (Nle rfl) trivial ?_)
    refine VO.nil ?_
    refine VC.sr ?_
    refine VO.val rfl rfl (OpV.fieldAddrO 0 rfl Tryz.underlying136 rfl rfl Tryz.sizeOf9 rfl) ?_
    refine VO.val rfl rfl (OpV.load_own (i := 1) rfl hB Tryz.isAgg9 rfl rfl rfl (fun h => h)) ?_
    refine VO.val rfl rfl (OpV.fieldAddrO 1 rfl Tryz.underlying136 rfl rfl Tryz.sizeOf9 rfl) ?_
    refine VO.val rfl rfl (OpV.load_own (i := 1) rfl hB Tryz.isAgg9 rfl rfl rfl (fun h => h)) ?_
    refine VO.val rfl rfl (OpV.build (pls := #[(0, 1), (1, 1)]) rfl Tryz.zeroValue235 Tryz.underlying235 (fun w => by kernel_rfl) rfl rfl) ?_
    refine VO.op rfl (OpE.alloc rfl hB rfl Tryz.zeroValue235 rfl ?_)
    intro g8
    refine VO.op rfl (OpE.store (i := 2) rfl hB rfl Tryz.sizeOf235 rfl rfl rfl rfl rfl rfl (Nle rfl) trivial ?_)
    refine VO.nil ?_
    refine VC.seq ?_
    refine VC.sr ?_
    refine VO.mv rfl rfl rfl rfl ?_
    refine VO.val rfl rfl (OpV.loadK_own (i := 2) rfl hB Tryz.isAgg235 Tryz.sizeOf235 rfl rfl rfl (fun h => h)) ?_
    refine VO.val rfl rfl (OpV.lookup_own (i := 0) (k := ((l.getD r default).board, (l.getD r default).name)) rfl hB Tryz.underlying233 plK Tryz.zeroValue4 rfl (KeyE.agg2 rfl) rfl (fun h => h)) ?_
    refine VO.le _ (Le.recast (t := 38) (y := avB ((l.take r).any fun o => sameT o (l.getD r default))) rfl (fun w Z u h => by rw [← seen_get]; unfold mgetD; revert h; cases mget (seenL (l.take r)) ((l.getD r default).board, (l.getD r default).name) <;> exact id)) ?_
    refine VO.nil ?_
    refine VC.cond rfl (fun htb => ?_) (fun htb => ?_)
    ·have ht := htb
     try simp only [qqT, qqF, qqN, qqM, qqL, qqE] at ht
     refine VC.sr ?_
     refine VO.ma rfl rfl rfl rfl ?_
     refine VO.nil ?_
     refine VC.ret ?_
     exact Exists.intro _ (And.intro (RetN.one Tryz.results132 (ResN.v rfl)) (by rw [lookF_tw (by omega) hl0 (by omega) hn1 (by rw [twE_6 ht]; decide), twE_6 ht]))
    ·have ht := htb
     try simp only [qqT, qqF, qqN, qqM, qqL, qqE] at ht
     refine VC.skip ?_
     refine VC.region ?_
     refine VO.mv rfl rfl rfl rfl ?_
     refine VO.val rfl rfl (OpV.loadK_own (i := 2) rfl hB Tryz.isAgg235 Tryz.sizeOf235 rfl rfl rfl (fun h => h)) ?_
     refine VO.op rfl (OpE.mapUpdate (i := 0) (k := ((l.getD r default).board, (l.getD r default).name)) (xx := true) rfl hB rfl Tryz.underlying233 plK rfl (KeyE.agg2 rfl) rfl rfl trivial ?_)
     refine VO.nil ?_
     refine VC.region ?_
     refine VO.val rfl rfl (OpV.add rfl rfl rfl (by unfold fits; omega)) ?_
     refine VO.mv rfl rfl rfl rfl ?_
     refine VO.nil ?_
     exact Exists.intro (⟨r + 1, by omega, lt_succ_cases hn1 ((twE_0 ht))⟩) (And.intro (Le.mk hB [0] ⟨rfl, rfl, rfl, rfl, trivial⟩ rfl (by dsimp only; rw [seen_take (by omega) ht]; rfl) (Nat.le_refl _)) (by first | omega | (show _ < _; omega) | (simp only []; omega)))
   ·have aH2 := aH2b
    try simp only [qqT, qqF, qqN, qqM, qqL, qqE] at aH2
    refine VC.exit ?_
    refine VC.sr ?_
    refine VO.ma rfl rfl rfl rfl ?_
    refine VO.nil ?_
    refine VC.ret ?_
    exact Exists.intro _ (And.intro (RetN.one Tryz.results132 (ResN.v rfl)) (by rw [lookF_ok (by omega) hl0 (fun j hj => hn1 j (by omega))]))
set_option maxRecDepth 100000 in
theorem share_add {g a b : Nat} {x : LookS} (ha : a ≤ 1000000000) (hb : b ≤ 1000000000) :
  SpecH Tryz.prog 176 [.v (.pointer (some ⟨g, 0, none⟩)), avLk x] [.box g ⟨[avI (b : Int), avI (a : Int)], 198, 2⟩] (fun y hp' => y = .tup [] ∧ hp' = [.box g ⟨[avI ((b + if x.bad = true then 1 else 0 : Nat) : Int), avI ((a + 1 : Nat) : Int)], 198, 2⟩]) := by
 refine SpecH.of_VC Tryz.func176 rfl Tryz.ntmps176 (Nle rfl) fun w A hB => ?_
 have hnew : True := trivial
 refine VC.sr ?_
 refine VO.op rfl (OpE.box rfl hB rfl rfl rfl ?_)
 intro g3
 refine VO.nil ?_
 refine VC.sr ?_
 refine VO.mv rfl rfl rfl rfl ?_
 refine VO.val rfl rfl (OpV.nilCheck rfl rfl) ?_
 refine VO.val rfl rfl (OpV.fieldAddrO 1 rfl Tryz.underlying198 rfl rfl Tryz.sizeOf3 rfl) ?_
 refine VO.val rfl rfl (OpV.load_own (i := 0) rfl hB Tryz.isAgg3 rfl rfl rfl (fun h => h)) ?_
 refine VO.val rfl rfl (OpV.add rfl rfl rfl (by unfold fits; omega)) ?_
 refine VO.val rfl rfl (OpV.nilCheck rfl rfl) ?_
 refine VO.val rfl rfl (OpV.fieldAddrO 1 rfl Tryz.underlying198 rfl rfl Tryz.sizeOf3 rfl) ?_
 refine VO.op rfl (OpE.store (i := 0) rfl hB rfl Tryz.sizeOf3 rfl rfl rfl rfl rfl rfl (Nle rfl) trivial ?_)
 refine VO.nil ?_
 refine VC.sr ?_
 refine VO.val rfl rfl (OpV.fieldAddrO 4 rfl Tryz.underlying136 rfl rfl Tryz.sizeOf4 rfl) ?_
 refine VO.val rfl rfl (OpV.load_own (i := 1) rfl hB Tryz.isAgg4 rfl rfl rfl (fun h => h)) ?_
 refine VO.nil ?_
 refine VC.cond rfl (fun h0b => ?_) (fun h0b => ?_)
 ·have h0 := h0b
  try simp only [qqT, qqF, qqN, qqM, qqL, qqE] at h0
  refine VC.le _ (Le.pickH [0] rfl rfl) ?_
  refine VC.region ?_
  refine VO.mv rfl rfl rfl rfl ?_
  refine VO.val rfl rfl (OpV.nilCheck rfl rfl) ?_
  refine VO.val rfl rfl (OpV.fieldAddrO 0 rfl Tryz.underlying198 rfl rfl Tryz.sizeOf3 rfl) ?_
  refine VO.val rfl rfl (OpV.load_own (i := 0) rfl hB Tryz.isAgg3 rfl rfl rfl (fun h => h)) ?_
  refine VO.val rfl rfl (OpV.add rfl rfl rfl (by unfold fits; omega)) ?_
  refine VO.val rfl rfl (OpV.nilCheck rfl rfl) ?_
  refine VO.val rfl rfl (OpV.fieldAddrO 0 rfl Tryz.underlying198 rfl rfl Tryz.sizeOf3 rfl) ?_
  refine VO.op rfl (OpE.store (i := 0) rfl hB rfl Tryz.sizeOf3 rfl rfl rfl rfl rfl rfl (Nle rfl) trivial ?_)
  refine VO.nil ?_
  exact Exists.intro _ (And.intro (RetV.none Tryz.results176) (by first | exact ⟨rfl, by rw [if_pos h0]; rfl⟩ | exact ⟨rfl, by rw [if_neg (by rw [h0]; simp)]; rfl⟩))
 ·have h0 := h0b
  try simp only [qqT, qqF, qqN, qqM, qqL, qqE] at h0
  refine VC.le _ (Le.pickH [0] rfl rfl) ?_
  refine VC.skip ?_
  exact Exists.intro _ (And.intro (RetV.none Tryz.results176) (by first | exact ⟨rfl, by rw [if_pos h0]; rfl⟩ | exact ⟨rfl, by rw [if_neg (by rw [h0]; simp)]; rfl⟩))
set_option maxRecDepth 100000 in
theorem inspect_shareOf {l : List LookS} (hl : l.length ≤ 1000000) :
  SpecN Tryz.prog 133 [avL l] (fun y => y = .agg [avI (badN l : Int), avI (l.length : Int)]) := by
 refine SpecN.of_VCN Tryz.func133 rfl Tryz.ntmps133 (Nle rfl) fun w A hB => ?_
 have hnew : True := trivial
 refine VC.sr ?_
 refine VO.op rfl (OpE.alloc rfl hB rfl Tryz.zeroValue198 rfl ?_)
 intro g2
 refine VO.nil ?_
 refine VC.sr ?_
 refine VO.op rfl (OpE.alloc rfl hB rfl Tryz.zeroValue198 rfl ?_)
 intro g3
 refine VO.nil ?_
 refine VC.seq ?_
 refine VC.sr ?_
 refine VO.mv rfl rfl rfl rfl ?_
 refine VO.val rfl rfl (OpV.len_im rfl Tryz.underlying137 rfl) ?_
 refine VO.mv rfl rfl rfl rfl ?_
 refine VO.nil ?_
 refine VC.block ?_
 refine VC.loopK [(2, _), (3, _), (6, _), (7, _)] ⟨rfl, rfl, rfl, rfl, trivial⟩ ({q : Nat // q ≤ l.length}) (fun (iZ : {q : Nat // q ≤ l.length}) => match iZ with | ⟨q, hq⟩ => [(8, avI (q : Int))]) (fun (iZ : {q : Nat // q ≤ l.length}) => match iZ with | ⟨q, hq⟩ => [.box g2 ⟨[avI 0, avI 0], 198, 2⟩, .box g3 ⟨[avI (badN (l.take q) : Int), avI (q : Int)], 198, 2⟩]) (fun (iZ : {q : Nat // q ≤ l.length}) => match iZ with | ⟨q, hq⟩ => 0) (fun (iZ : {q : Nat // q ≤ l.length}) => match iZ with | ⟨q, hq⟩ => l.length - q) ⟨0, Nat.zero_le _⟩ (Le.mk hB [0, 1] ⟨rfl, rfl, rfl, rfl, rfl, trivial⟩ rfl rfl (Nat.le_refl _)) ?_
 rintro ⟨q, hq⟩
 show VC _ _ _ _ ⟨[(8, avI (q : Int))] ++ [(2, _), (3, _), (6, _), (7, _)], [.box g2 ⟨[avI 0, avI 0], 198, 2⟩, .box g3 ⟨[avI (badN (l.take q) : Int), avI (q : Int)], 198, 2⟩], 0⟩
 refine VC.sr ?_
 refine VO.val rfl rfl (OpV.lss rfl rfl rfl) ?_
 refine VO.nil ?_
 refine VC.seq ?_
 refine VC.cond rfl (fun aH1b => ?_) (fun aH1b => ?_)
 ·have aH1 := aH1b
  try simp only [qqT, qqF, qqN, qqM, qqL, qqE] at aH1
  refine VC.skip ?_
  refine VC.seq ?_
  refine VC.block ?_
  refine VC.sr ?_
  refine VO.val rfl rfl (OpV.indexAddr_E rfl Tryz.underlying137 Tryz.sizeOf136 rfl rfl rfl (by omega)) ?_
  refine VO.val rfl rfl (OpV.loadK_at rfl hB OutW.no Tryz.isAgg136 Tryz.sizeOf136 rfl rfl) ?_
  refine VO.op rfl (OpE.alloc rfl hB rfl Tryz.zeroValue136 rfl ?_)
  intro g5
  refine VO.op rfl (OpE.store (i := 2) rfl hB rfl Tryz.sizeOf136 rfl rfl rfl rfl rfl rfl (Nle rfl) trivial ?_)
  refine VO.nil ?_
  refine VC.region ?_
  refine VO.val rfl rfl (OpV.loadK_own (i := 2) rfl hB Tryz.isAgg136 Tryz.sizeOf136 rfl rfl rfl (fun h => h)) ?_
  have hbn := badN_le (l.take q)
  have hbl := List.length_take_le q l
  refine VO.op rfl (OpE.callH (rest := [_, _]) rfl hB rfl Tryz.call176 rfl rfl (share_add (x := l.getD q default) (a := q) (b := badN (l.take q)) (by omega) (by omega)) (List.Perm.swap _ _ _) (fun _ _ => trivial) ?_)
  rintro _ _ ⟨rfl, rfl⟩
  refine VO.nil ?_
  refine VC.region ?_
  refine VO.val rfl rfl (OpV.add rfl rfl rfl (by unfold fits; omega)) ?_
  refine VO.mv rfl rfl rfl rfl ?_
  refine VO.nil ?_
  exact Exists.intro (⟨q + 1, by omega⟩) (And.intro (Le.pick hB [1, 0] ⟨rfl, rfl, rfl, rfl, rfl, trivial⟩ rfl (by dsimp only; rw [badN_take (by omega)]; rfl) (Nat.le_refl _)) (by first | omega | (show _ < _; omega) | (simp only []; omega)))
 ·have aH1 := aH1b
  try simp only [qqT, qqF, qqN, qqM, qqL, qqE] at aH1
  refine VC.exit ?_
  refine VC.seq ?_
  have hqe : l.take q = l := List.take_of_length_le (by omega)
  have hql : q = l.length := by omega
  rw [hqe, hql]
  refine VC.region ?_
  refine VO.val rfl rfl (OpV.loadK_own (i := 1) rfl hB Tryz.isAgg198 Tryz.sizeOf198 rfl rfl rfl (fun h => h)) ?_
  refine VO.op rfl (OpE.store (i := 0) rfl hB rfl Tryz.sizeOf198 rfl rfl rfl rfl rfl rfl (Nle rfl) trivial ?_)
  refine VO.nil ?_
  refine VC.ret ?_
  exact Exists.intro _ (And.intro (RetN.one Tryz.results133 ((by first | exact ResN.cellF (i := 0) Tryz.isAgg198 Tryz.sizeOf198 rfl rfl rfl (flat_ofB rfl) | exact ResN.cellF (i := 1) Tryz.isAgg198 Tryz.sizeOf198 rfl rfl rfl (flat_ofB rfl)))) (rfl))
set_option maxRecDepth 100000 in
theorem inspect_Million {l : List LookS} (hs : SmLk l) :
  SpecN Tryz.prog 93 [avL l] (fun y => y = .tup [.agg [avI ((millN l).1 : Int), avI ((millN l).2 : Int)], avI (millE l)]) := by
 refine SpecN.of_VCN Tryz.func93 rfl Tryz.ntmps93 (Nle rfl) fun w A hB => ?_
 have hnew : True := trivial
 refine VC.sr ?_
 refine VO.op rfl (OpE.alloc rfl hB rfl Tryz.zeroValue132 rfl ?_)
 intro g2
 refine VO.ma rfl rfl rfl rfl ?_
 refine VO.nil ?_
 refine VC.seq ?_
 refine VC.sr ?_
 refine VO.mv rfl rfl rfl rfl ?_
 refine VO.op rfl (OpE.call rfl hB rfl Tryz.call132 rfl (SpecN.spec (inspect_CheckLooks hs)) ?_)
 rintro _ rfl
 refine VO.ma rfl rfl rfl rfl ?_
 refine VO.nil ?_
 refine VC.sr ?_
 refine VO.mv rfl rfl rfl rfl ?_
 refine VO.val rfl rfl (OpV.neq rfl rfl rfl) ?_
 refine VO.nil ?_
 refine VC.cond rfl (fun h0b => ?_) (fun h0b => ?_)
 ·have h0 := h0b
  try simp only [qqT, qqF, qqN, qqM, qqL, qqE] at h0
  refine VC.sr ?_
  refine VO.val rfl rfl (OpV.build (pls := #[(0, 1), (1, 1)]) rfl Tryz.zeroValue132 Tryz.underlying132 (fun w => by kernel_rfl) rfl rfl) ?_
  refine VO.mv rfl rfl rfl rfl ?_
  refine VO.op rfl (OpE.store (i := 0) rfl hB rfl Tryz.sizeOf132 rfl rfl rfl rfl rfl rfl (Nle rfl) trivial ?_)
  refine VO.ma rfl rfl rfl rfl ?_
  refine VO.nil ?_
  refine VC.ret ?_
  exact Exists.intro _ (And.intro (RetN.two Tryz.results93 ((by first | exact ResN.cellF (i := 0) Tryz.isAgg132 Tryz.sizeOf132 rfl rfl rfl (flat_ofB rfl))) (ResN.v rfl)) (by rw [millN, if_neg (by rw [millE_1 h0]; exact h0), millE_1 h0]; rfl))
 ·have h0 := h0b
  try simp only [qqT, qqF, qqN, qqM, qqL, qqE] at h0
  refine VC.skip ?_
  refine VC.seq ?_
  refine VC.sr ?_
  refine VO.mv rfl rfl rfl rfl ?_
  refine VO.val rfl rfl (OpV.len_im rfl Tryz.underlying137 rfl) ?_
  refine VO.val rfl rfl (OpV.eql rfl rfl rfl) ?_
  refine VO.nil ?_
  refine VC.cond rfl (fun h1b => ?_) (fun h1b => ?_)
  ·have h1 := h1b
   try simp only [qqT, qqF, qqN, qqM, qqL, qqE] at h1
   refine VC.sr ?_
   refine VO.val rfl rfl (OpV.build (pls := #[(0, 1), (1, 1)]) rfl Tryz.zeroValue132 Tryz.underlying132 (fun w => by kernel_rfl) rfl rfl) ?_
   refine VO.op rfl (OpE.store (i := 0) rfl hB rfl Tryz.sizeOf132 rfl rfl rfl rfl rfl rfl (Nle rfl) trivial ?_)
   refine VO.ma rfl rfl rfl rfl ?_
   refine VO.nil ?_
   refine VC.ret ?_
   exact Exists.intro _ (And.intro (RetN.two Tryz.results93 ((by first | exact ResN.cellF (i := 0) Tryz.isAgg132 Tryz.sizeOf132 rfl rfl rfl (flat_ofB rfl))) (ResN.v rfl)) (by rw [millN, if_neg (by rw [millE_8 (by omega) (by omega)]; decide), millE_8 (by omega) (by omega)]; rfl))
  ·have h1 := h1b
   try simp only [qqT, qqF, qqN, qqM, qqL, qqE] at h1
   refine VC.skip ?_
   refine VC.sr ?_
   refine VO.mv rfl rfl rfl rfl ?_
   refine VO.op rfl (OpE.call rfl hB rfl Tryz.call133 rfl (SpecN.spec (inspect_shareOf hs.len)) ?_)
   rintro _ rfl
   refine VO.op rfl (OpE.alloc rfl hB rfl Tryz.zeroValue198 rfl ?_)
   intro g5
   refine VO.op rfl (OpE.store (i := 1) rfl hB rfl Tryz.sizeOf198 rfl rfl rfl rfl rfl rfl (Nle rfl) trivial ?_)
   refine VO.nil ?_
   refine VC.sr ?_
   refine VO.val rfl rfl (OpV.fieldAddrO 0 rfl Tryz.underlying198 rfl rfl Tryz.sizeOf3 rfl) ?_
   refine VO.val rfl rfl (OpV.load_own (i := 1) rfl hB Tryz.isAgg3 rfl rfl rfl (fun h => h)) ?_
   have hbn := badN_le l
   have hll := hs.len
   refine VO.val rfl rfl (OpV.mul rfl rfl rfl (by unfold fits; omega)) ?_
   refine VO.le _ (Le.recast (t := 20) (y := avI ((badN l * 1000000 : Nat) : Int)) rfl (fun w Z u h => by rw [Int.natCast_mul]; exact h)) ?_
   refine VO.val rfl rfl (OpV.fieldAddrO 1 rfl Tryz.underlying198 rfl rfl Tryz.sizeOf3 rfl) ?_
   refine VO.val rfl rfl (OpV.load_own (i := 1) rfl hB Tryz.isAgg3 rfl rfl rfl (fun h => h)) ?_
   refine VO.op rfl (OpE.call rfl hB rfl Tryz.call134 rfl (SpecN.spec (kit_Lowest (a := badN l * 1000000) (b := l.length) (by omega) (by omega) (by omega))) ?_)
   rintro _ rfl
   refine VO.op rfl (OpE.store (i := 0) rfl hB rfl Tryz.sizeOf132 rfl rfl rfl rfl rfl rfl (Nle rfl) trivial ?_)
   refine VO.ma rfl rfl rfl rfl ?_
   refine VO.nil ?_
   refine VC.ret ?_
   exact Exists.intro _ (And.intro (RetN.two Tryz.results93 ((by first | exact ResN.cellF (i := 0) Tryz.isAgg132 Tryz.sizeOf132 rfl rfl rfl (flat_ofB rfl) | exact ResN.cellF (i := 1) Tryz.isAgg132 Tryz.sizeOf132 rfl rfl rfl (flat_ofB rfl))) (ResN.v rfl)) (by rw [millN, if_pos (millE_0 (by omega) (by omega)), millE_0 (by omega) (by omega)]; rfl))
end Go.Proofs.YtbbgjeiefmiblaaGreatDoor
namespace Go.Proofs.YtbbgjeiefmiblaaGreatDoor
open Go.RowKit
set_option linter.unusedVariables false
set_option linter.unusedSimpArgs false
def Zt (w : World) (A : Nat → Prop) (hp' : List Ent) (w' : World) : Nat → Prop := fun b => b < w'.heap.size ∧ ¬ BlkL hp' b ∧ (b < w.heap.size → A b)
def SpecTO (P : Program) (T : World → Nat → Prop) (str : Nat → Prop) (F : FuncId) (xs : List AV) (c : Nat) (G : AV → List Ent → Prop) : Prop :=
 ∀ (w : World) (A : Nat → Prop) (us : Array Value) (k : Nat), Args w A xs us → T w k → (∀ b, str b → ¬ A b) → k + c ≤ 1000000 →
  Calls P F us w fun e w' => ∃ y v hp', G y hp' ∧ e = .returned v ∧ Apart hp' ∧ Rep w' (Zt w A hp' w') y v ∧ (∀ e ∈ hp', EntR w' (Zt w A hp' w') e) ∧ (∀ b, BlkL hp' b → w.heap.size ≤ b) ∧ Chg str w w' ∧ T w' (k + c)
theorem SpecTO.mono {P : Program} {T : World → Nat → Prop} {str : Nat → Prop} {F : FuncId} {xs : List AV} {c : Nat} {G G' : AV → List Ent → Prop} (h : SpecTO P T str F xs c G) (hg : ∀ y hp', G y hp' → G' y hp') : SpecTO P T str F xs c G' := fun w A us k h1 h2 h3 h4 =>
 (h w A us k h1 h2 h3 h4).mono fun e w' ⟨y, v, hp', k1, k2⟩ => ⟨y, v, hp', hg _ _ k1, k2⟩
theorem SpecTO.of_VC {P : Program} {F : FuncId} {fn : Func} {c : Code} (hf : P.funcs[F]? = some fn) (hb : fn.body = some c) {xs : List AV} {G : AV → List Ent → Prop} {nt n : Nat} (hn : fn.ntmps = nt) (hle : xs.length ≤ nt) {T : World → Nat → Prop} {str low : Nat → Prop}
  (hok : ∀ w A k, T w k → (B1 w A nt str low T).Ok)
  (h : ∀ w A k, k + n ≤ 1000000 → (B1 w A nt str low T).Ok → VC P (B1 w A nt str low T) c (retS P fn fun y s => G y s.hp ∧ s.k ≤ k + n) ⟨slots0 0 xs, [], k⟩) : SpecTO P T str F xs n G := fun w A us k ha hT hSA hk =>
 (calls_of_VC (k := k) hf hb (B := B1 w A nt str low T) rfl hn.symm ha hSA hT (by omega) (h w A k hk (hok w A k hT))).mono fun e w' ⟨y, v, s, a, h1, h2, h3, h4⟩ => by
  have hB := hok w A k hT
  have hZ : ∀ b, Zn (B1 w A nt str low T) s.hp w' b → Zt w A s.hp w' b := fun b hb => ⟨hb.1, fun ⟨p, hp1, hp2⟩ => hb.2.1 p hp1 hp2, fun hl => (hb.2.2 hl).1.resolve_right (hb.2.2 hl).2⟩
  refine ⟨y, v, s.hp, h1.1, h2, h4.nodup, h3.keep fun b hb _ => ⟨rfl, hZ b hb⟩, fun p hp' => (h4.blocks p hp').keep (fun b hb _ => ⟨rfl, hZ b hb⟩) fun g _ => rfl, fun b ⟨p, hp1, hp2⟩ => ?_, h4.chg, hB.up h4.res h1.2⟩
  obtain ⟨q1, q2⟩ := h4.own p hp1 b hp2
  rcases Nat.lt_or_ge b w.heap.size with hl | hl
  ·exact absurd (hB.str b (q2 hl)).1 q1
  ·exact hl
section
variable {P : Program} {B : Bs} {W : Nat → Prop} {s : St'} {o : Oper} {K : St' → Prop} {a : Act} {w w' : World}
end
end Go.Proofs.YtbbgjeiefmiblaaGreatDoor
namespace Go.Proofs.YtbbgjeiefmiblaaGreatDoor
open Go.RowKit
set_option linter.unusedVariables false
set_option linter.unusedSimpArgs false
theorem encL_small (n : Int) : (Utf8.encode n).size ≤ 4 := by
 unfold Utf8.encode
 simp only
 repeat' split
 all_goals simp [ByteArray.size]
def nm3 : List ByteArray := [⟨#[99, 49]⟩, ⟨#[99, 50]⟩, ⟨#[114, 49]⟩]
def bdK (i : Nat) : ByteArray := ⟨#[98]⟩ ++ Utf8.encode (49 + (i : Int))
theorem bdK_size (i : Nat) : (bdK i).size ≤ 1000 := by
 have := encL_small (49 + (i : Int))
 show (⟨#[98]⟩ ++ Utf8.encode (49 + (i : Int)) : ByteArray).size ≤ 1000
 rw [ByteArray.size_append]; have h1 : (⟨#[98]⟩ : ByteArray).size = 1 := rfl; omega
theorem nm3_size (q : Nat) : (nm3.getD q ByteArray.empty).size ≤ 1000 := by
 match q with
 | 0 => decide
 | 1 => decide
 | 2 => decide
 | q + 3 => simp [nm3]
def BdG (m : Nat) (s : ByteArray) : Prop := s.size ≤ 1000 ∧ (keyF s = true → ∃ i, i < m ∧ s = bdK i)
def NmG (s : ByteArray) : Prop := s.size ≤ 1000 ∧ (keyF s = true → s ∈ nm3)
def SmG (s : ByteArray) : Prop := s.size ≤ 1000
def AtG (m : Nat) (v : Int) : Prop := (-1 ≤ v ∧ v ≤ 345686400000) ∧ (0 ≤ v → v ≤ 345686399999 → v ≤ 10 * (m : Int))
theorem AtG.mono {m n : Nat} {v : Int} (h : AtG m v) (hn : m ≤ n) : AtG n v := ⟨h.1, fun h1 h2 => by have := h.2 h1 h2; omega⟩
structure LkG (m : Nat) (x : LookS) : Prop where
 board : BdG m x.board
 name : NmG x.name
 at_ : AtG m x.at_
 machine : SmG x.machine
 nozzle : SmG x.nozzle
 reel : SmG x.reel
theorem BdG.mono {m n : Nat} {s : ByteArray} (h : BdG m s) (hn : m ≤ n) : BdG n s := ⟨h.1, fun hk => by obtain ⟨i, hi, e⟩ := h.2 hk; exact ⟨i, by omega, e⟩⟩
theorem LkG.mono {m n : Nat} {x : LookS} (h : LkG m x) (hn : m ≤ n) : LkG n x := ⟨h.board.mono hn, h.name, h.at_.mono hn, h.machine, h.nozzle, h.reel⟩
theorem keyF_none : keyF ⟨#[]⟩ = false := by decide +kernel
theorem keyF_A : keyF ⟨#[65]⟩ = false := by decide +kernel
theorem BdG.none (m : Nat) : BdG m ⟨#[]⟩ := ⟨by decide, fun h => by rw [keyF_none] at h; cases h⟩
theorem BdG.b1 {m : Nat} (h : 0 < m) : BdG m ⟨#[98, 49]⟩ := ⟨by decide, fun _ => ⟨0, h, by decide +kernel⟩⟩
theorem BdG.k {m i : Nat} (h : i < m) : BdG m (bdK i) := ⟨bdK_size i, fun _ => ⟨i, h, rfl⟩⟩
theorem NmG.none : NmG ⟨#[65]⟩ := ⟨by decide, fun h => by rw [keyF_A] at h; cases h⟩
theorem NmG.c1 : NmG ⟨#[99, 49]⟩ := ⟨by decide, fun _ => by simp [nm3]⟩
theorem NmG.k (q : Nat) : NmG (nm3.getD q ByteArray.empty) := ⟨nm3_size q, fun h => by
 match q with
 | 0 => simp [nm3]
 | 1 => simp [nm3]
 | 2 => simp [nm3]
 | q + 3 =>
  have e : nm3.getD (q + 3) ByteArray.empty = ⟨#[]⟩ := by simp [nm3]; rfl
  rw [e, keyF_none] at h; cases h⟩
theorem LkG.zero : LkG 0 default := ⟨BdG.none 0, ⟨by decide, fun h => by have : keyF ⟨#[]⟩ = true := h; rw [keyF_none] at this; cases this⟩, ⟨by decide, by decide⟩, by unfold SmG; decide, by unfold SmG; decide, by unfold SmG; decide⟩
theorem LkG.getD {m : Nat} {l : List LookS} (h : ∀ x ∈ l, LkG m x) (i : Nat) : LkG m (l.getD i default) := by
 rw [List.getD_eq_getElem?_getD]
 cases hi : l[i]? with
 | none => exact LkG.zero.mono (Nat.zero_le _)
 | some x => exact h x (List.mem_of_getElem? hi)
theorem LkG.snoc {m : Nat} {l : List LookS} (h : ∀ x ∈ l, LkG m x) {y : LookS} (hy : LkG m y) : ∀ x ∈ l ++ [y], LkG m x := fun x hx => by
 rcases List.mem_append.1 hx with hx | hx
 ·exact h x hx
 ·simp at hx; subst hx; exact hy
def AllG (Pr : ByteArray → Prop) : List AV → Prop
 | [] => True
 | x :: r => (∃ i : ByteArray, Pr i ∧ x = avS i) ∧ AllG Pr r
theorem AllG.nil {Pr : ByteArray → Prop} : AllG Pr [] := trivial
theorem AllG.cons {Pr : ByteArray → Prop} {i : ByteArray} {r : List AV} (h : Pr i) (hr : AllG Pr r) : AllG Pr (avS i :: r) := ⟨⟨i, h, rfl⟩, hr⟩
def AllJ (Pr : Int → Prop) : List AV → Prop
 | [] => True
 | x :: r => (∃ i : Int, Pr i ∧ x = avI i) ∧ AllJ Pr r
theorem AllJ.nil {Pr : Int → Prop} : AllJ Pr [] := trivial
theorem AllJ.cons {Pr : Int → Prop} {i : Int} {r : List AV} (h : Pr i) (hr : AllJ Pr r) : AllJ Pr (avI i :: r) := ⟨⟨i, h, rfl⟩, hr⟩
end Go.Proofs.YtbbgjeiefmiblaaGreatDoor
namespace Go.Proofs.YtbbgjeiefmiblaaGreatDoor
set_option linter.unusedVariables false
set_option linter.unusedSimpArgs false
section
variable {α : Type} (lt : α → α → Bool) (d : α)
def OrdL (l : List α) : Prop := l.Pairwise fun a b => lt b a = false
def InvO (l0 : List α) (i : Nat) (l : List α) : Prop := ∃ P R, l = P ++ R ∧ P.length = min i l.length ∧ l.Perm l0 ∧ OrdL lt P
def InvI (l0 : List α) (i j : Nat) (l : List α) : Prop := ∃ P x S R, l = P ++ x :: (S ++ R) ∧ P.length = j ∧ P.length + S.length = i ∧ l.Perm l0 ∧ OrdL lt (P ++ S) ∧ ∀ s ∈ S, lt x s = true
variable {lt d} {l0 l : List α} {i j : Nat}
theorem InvO.len (h : InvO lt l0 i l) : l.length = l0.length := h.choose_spec.choose_spec.2.2.1.length_eq
theorem InvI.len (h : InvI lt l0 i j l) : l.length = l0.length ∧ i < l.length ∧ j ≤ i := by
 obtain ⟨P, x, S, R, h1, h2, h3, h4, _⟩ := h
 refine ⟨h4.length_eq, ?_, by omega⟩
 rw [h1]; simp; omega
theorem InvO.one (l0 : List α) : InvO lt l0 1 l0 := by
 cases l0 with
 | nil => exact ⟨[], [], rfl, by simp, .refl _, .nil⟩
 | cons x r => exact ⟨[x], r, rfl, by simp, .refl _, List.pairwise_singleton _ _⟩
theorem InvO.start (h : InvO lt l0 i l) (hi : i < l.length) : InvI lt l0 i i l := by
 obtain ⟨P, R, h1, h2, h3, h4⟩ := h
 rw [Nat.min_eq_left (by omega)] at h2
 cases R with
 | nil => rw [h1] at hi; simp at hi; omega
 | cons x R => exact ⟨P, x, [], R, h1, h2, by simpa using h2, h3, by simpa using h4, by simp⟩
theorem snocOf {P : List α} (h : 0 < P.length) : ∃ Q y, P = Q ++ [y] := ⟨P.dropLast, P.getLast (by intro e; rw [e] at h; simp at h), (List.dropLast_concat_getLast _).symm⟩
theorem swap_eq {Q T : List α} {x y : α} : ((Q ++ y :: x :: T).set (Q.length + 1) y).set Q.length x = Q ++ x :: y :: T := by
 rw [List.set_append_right _ _ (by omega), show Q.length + 1 - Q.length = 1 by omega, List.set_append_right _ _ (by omega), Nat.sub_self]
 rfl
theorem at0 {Q T : List α} {y : α} : (Q ++ y :: T).getD Q.length d = y := by simp [List.getD_eq_getElem?_getD]
theorem at1 {Q T : List α} {x y : α} : (Q ++ y :: x :: T).getD (Q.length + 1) d = x := by
 simp [List.getD_eq_getElem?_getD, List.getElem?_append_right]
theorem InvI.next (ht : ∀ {a b c : α}, lt a b = true → lt b c = true → lt a c = true) (h : InvI lt l0 i j l) (hj : 0 < j) (hlt : lt (l.getD j d) (l.getD (j - 1) d) = true) :
  InvI lt l0 i (j - 1) ((l.set j (l.getD (j - 1) d)).set (j - 1) (l.getD j d)) := by
 obtain ⟨P, x, S, R, h1, h2, h3, h4, h5, h6⟩ := h
 obtain ⟨Q, y, rfl⟩ := snocOf (P := P) (by omega)
 have hl : l = Q ++ y :: x :: (S ++ R) := by rw [h1]; simp
 have hj' : j = Q.length + 1 := by rw [← h2]; simp
 subst hj'
 rw [hl] at hlt ⊢
 rw [at1, show Q.length + 1 - 1 = Q.length by omega, at0] at hlt
 rw [at1, show Q.length + 1 - 1 = Q.length by omega, at0, swap_eq]
 refine ⟨Q, x, y :: S, R, by simp, rfl, by simp at h3 ⊢; omega, ?_, by simpa using h5, ?_⟩
 ·rw [hl] at h4
  exact ((List.Perm.swap y x (S ++ R)).append_left Q).trans h4
 ·intro s hs
  rcases List.mem_cons.1 hs with rfl | hs
  ·exact hlt
  ·exact h6 s hs
theorem InvI.done (ha : ∀ {a b : α}, lt a b = true → lt b a = false) (hn : ∀ {a b c : α}, lt b a = false → lt c b = false → lt c a = false) (h : InvI lt l0 i j l) (hx : j = 0 ∨ lt (l.getD j d) (l.getD (j - 1) d) = false) : InvO lt l0 (i + 1) l := by
 obtain ⟨P, x, S, R, h1, h2, h3, h4, h5, h6⟩ := h
 refine ⟨P ++ x :: S, R, by rw [h1]; simp, by rw [h1]; simp; omega, h4, ?_⟩
 unfold OrdL at h5 ⊢
 obtain ⟨k1, k2, k3⟩ := List.pairwise_append.1 h5
 refine List.pairwise_append.2 ⟨k1, List.pairwise_cons.2 ⟨fun s hs => ha (h6 s hs), k2⟩, fun a hA b hb => ?_⟩
 rcases List.mem_cons.1 hb with rfl | hb
 ·rcases hx with hx | hx
  ·subst hx; rw [List.eq_nil_of_length_eq_zero h2] at hA; cases hA
  ·obtain ⟨Q, y, rfl⟩ := snocOf (P := P) (List.length_pos_of_mem hA)
   have hl : l = Q ++ y :: b :: (S ++ R) := by rw [h1]; simp
   have hj' : j = Q.length + 1 := by rw [← h2]; simp
   subst hj'
   rw [hl, at1, show Q.length + 1 - 1 = Q.length by omega, at0] at hx
   rcases List.mem_append.1 hA with hA | hA
   ·have := (List.pairwise_append.1 k1).2.2 a hA y (by simp)
    exact hn this hx
   ·simp at hA; subst hA; exact hx
 ·exact k3 a hA b hb
theorem InvO.all (h : InvO lt l0 i l) (hi : l.length ≤ i) : l.Perm l0 ∧ OrdL lt l := by
 obtain ⟨P, R, h1, h2, h3, h4⟩ := h
 rw [Nat.min_eq_right hi] at h2
 have : R = [] := by rw [h1] at h2; simpa using h2
 subst this
 rw [List.append_nil] at h1
 subst h1
 exact ⟨h3, h4⟩
end
end Go.Proofs.YtbbgjeiefmiblaaGreatDoor
namespace Go.Proofs.YtbbgjeiefmiblaaGreatDoor
open Go.RowKit
set_option linter.unusedVariables false
set_option linter.unusedSimpArgs false
theorem bytesOf_toList (k : ByteArray) : bytesOf k.data.toList = k := by simp [bytesOf]
theorem sKeys_perm {α : Type} (l : List (ByteArray × α)) : (sKeys l).Perm (l.map (·.1)) := by
 have h := (List.mergeSort_perm (l.map fun p => p.1.data.toList) (fun x y => decide (x ≤ y))).map bytesOf
 rw [List.map_map] at h
 have e : (l.map fun p => p.1.data.toList).map bytesOf = l.map (·.1) := by
  rw [List.map_map]; exact List.map_congr_left fun p _ => bytesOf_toList p.1
 rw [List.map_map] at e
 rw [e] at h
 exact h
theorem sKeys_nodup {α : Type} {l : List (ByteArray × α)} (h : (l.map (·.1)).Nodup) : (sKeys l).Nodup := (sKeys_perm l).nodup_iff.2 h
theorem sKeys_ord {α : Type} (l : List (ByteArray × α)) : (sKeys l).Pairwise fun a b => sLt b a = false := by
 have h : ((l.map fun p => p.1.data.toList).mergeSort (fun x y => decide (x ≤ y))).Pairwise fun x y => decide (x ≤ y) = true := by
  refine List.pairwise_mergeSort ?_ ?_ _
  ·intro a b c h1 h2
   simp only [decide_eq_true_eq] at *
   exact List.le_trans h1 h2
  ·intro a b
   simp only [Bool.or_eq_true, decide_eq_true_eq]
   exact List.le_total a b
 unfold sKeys
 rw [List.pairwise_map]
 refine h.imp fun {a b} hab => ?_
 rw [← cmpB_lt, show cmpB (bytesOf b) (bytesOf a) = Lib.compareBytes b a by simp [cmpB, bytesOf], cmp_lt, bytesLess_eq]
 simp only [decide_eq_true_eq] at hab
 exact decide_eq_false (List.not_lt.2 hab)
end Go.Proofs.YtbbgjeiefmiblaaGreatDoor
namespace Go.Proofs.YtbbgjeiefmiblaaGreatDoor
open Go.RowKit
set_option linter.unusedVariables false
set_option linter.unusedSimpArgs false
structure Srt (l : List ByteArray) : Prop where
 nd : l.Nodup
 ord : l.Pairwise fun a b => sLt b a = false
theorem sKeys_srt {α : Type} {l : List (ByteArray × α)} (h : (l.map (·.1)).Nodup) : Srt (sKeys l) := ⟨sKeys_nodup h, sKeys_ord l⟩
abbrev ShS := Nat × Nat
end Go.Proofs.YtbbgjeiefmiblaaGreatDoor
namespace Go.Proofs.YtbbgjeiefmiblaaGreatDoor
open Go.RowKit
set_option linter.unusedVariables false
set_option linter.unusedSimpArgs false
section
variable {α : Type} [Inhabited α] [Sxc α]
theorem rowL_inE {xs : List α} {q k : Nat} (hk : k = Sxc.k α) (h : q < xs.length) : 0 + q * k + k ≤ (rowL xs).length := by
 subst hk
 rw [rowL_len, Nat.zero_add]
 have : (q + 1) * Sxc.k α ≤ xs.length * Sxc.k α := Nat.mul_le_mul_right _ h
 rw [Nat.add_mul] at this; omega
theorem setAll_gt : ∀ (r cs : List AV) (off i : Nat), off + r.length ≤ cs.length → (setAll cs off r)[i]? = if off ≤ i ∧ i < off + r.length then r[i - off]? else cs[i]?
 | [], cs, off, i, h => by simp [setAll]; intro h1 h2; omega
 | x :: r, cs, off, i, h => by
  simp only [List.length_cons] at h
  rw [setAll, setAll_gt r _ (off + 1) i (by simp; omega)]
  by_cases h1 : i = off
  ·subst h1
   rw [if_neg (by omega), if_pos (by simp only [List.length_cons]; omega), Nat.sub_self, List.getElem?_set_self (by omega)]
   rfl
  ·rw [List.getElem?_set_ne (by omega)]
   by_cases h2 : off ≤ i ∧ i < off + (r.length + 1)
   ·rw [if_pos (by omega), if_pos (by simpa using h2), show i - off = (i - (off + 1)) + 1 by omega, List.getElem?_cons_succ]
   ·rw [if_neg (by omega), if_neg (by simpa using h2)]
theorem rowL_get' (xs : List α) {i : Nat} (hi : i < xs.length * Sxc.k α) : (rowL xs)[i]? = some (Sxc.cell (xs.getD (i / Sxc.k α) default) (i % Sxc.k α)) := by
 have hp := Sxc.pos (α := α)
 have h1 : i / Sxc.k α < xs.length := Nat.div_lt_of_lt_mul (by rw [Nat.mul_comm]; exact hi)
 have h2 := rowL_get xs (i / Sxc.k α) (i % Sxc.k α) h1 (Nat.mod_lt _ hp)
 rw [Nat.mul_comm, Nat.div_add_mod] at h2
 exact h2
theorem rowL_setAll {xs : List α} {q k : Nat} {x : α} (hk : k = Sxc.k α) (h : q < xs.length) : setAll (rowL xs) (0 + q * k) (tab (Sxc.k α) (Sxc.cell x)) = rowL (xs.set q x) := by
 subst hk
 have hp := Sxc.pos (α := α)
 have hle : 0 + q * Sxc.k α + Sxc.k α ≤ xs.length * Sxc.k α := by
  have : (q + 1) * Sxc.k α ≤ xs.length * Sxc.k α := Nat.mul_le_mul_right _ h
  rw [Nat.add_mul] at this; omega
 apply List.ext_getElem?
 intro i
 rw [setAll_gt _ _ _ _ (by rw [tab_len, rowL_len]; exact hle), tab_len]
 by_cases hi : i < xs.length * Sxc.k α
 ·rw [rowL_get' (xs.set q x) (by rw [List.length_set]; exact hi)]
  by_cases hr : 0 + q * Sxc.k α ≤ i ∧ i < 0 + q * Sxc.k α + Sxc.k α
  ·rw [if_pos hr]
   have e1 : i / Sxc.k α = q := Nat.div_eq_of_lt_le (by omega) (by rw [Nat.add_mul]; omega)
   have e2 : i % Sxc.k α = i - (0 + q * Sxc.k α) := by
    have := Nat.div_add_mod i (Sxc.k α); rw [e1, Nat.mul_comm] at this; omega
   rw [e1, e2, List.getElem?_eq_getElem (by rw [tab_len]; omega), tab_get]
   simp [List.getD_eq_getElem?_getD, h]
  ·rw [if_neg hr, rowL_get' xs hi]
   have e1 : i / Sxc.k α ≠ q := fun e => by
    have h1 := Nat.div_add_mod i (Sxc.k α)
    have h2 := Nat.mod_lt i hp
    rw [e, Nat.mul_comm] at h1
    exact hr ⟨by omega, by omega⟩
   simp [List.getD_eq_getElem?_getD, List.getElem?_set_ne (Ne.symm e1)]
 ·rw [if_neg (by omega), List.getElem?_eq_none (by rw [rowL_len]; omega), List.getElem?_eq_none (by rw [rowL_len, List.length_set]; omega)]
end
section
variable {P : Program} {B : Bs} {W : Nat → Prop} {s : St'} {o : Oper} {K : St' → Prop}
theorem OpE.storeE {x y : Operand} {t g j i k : Nat} {o' : Own'} {v : AV} {cs' : List AV} (ho : o.op = .store t x y) (hB : B.Ok) (hd : okd B.nt o.dst = true) (hsz : ∀ w, (sizeOf t).run P w = .ok k w) (hx : evO s x = some (.v (.pointer (some ⟨g, j, none⟩)))) (hy : evO s y = some v)
  (hk : v.known = true) (hl : (cellsOf v).length = k) (hone : (cellsOf v).all AV.one = true) (hi : s.hp[i]? = some (.box g o')) (hj : j + k ≤ o'.cs.length) (hcs : setAll o'.cs j (cellsOf v) = cs') (hW : W g)
  (hK : K ((St'.mk s.sl (s.hp.set i (.box g ⟨cs', o'.ty, o'.tot⟩)) s.k).put o.dst (.v undef))) : OpE P B W s o K := by
 subst hcs
 exact OpE.store ho hB hd hsz hx hy hk hl hone hi hj hW hK
end
end Go.Proofs.YtbbgjeiefmiblaaGreatDoor
namespace Go.Proofs.YtbbgjeiefmiblaaGreatDoor
open Go.RowKit
set_option linter.unusedVariables false
set_option linter.unusedSimpArgs false

theorem Le.erase {B : Bs} {s : St'} (i : Nat) : Le B s ⟨s.sl, s.hp.eraseIdx i, s.k⟩ := fun a w hr => hr.erase i
end Go.Proofs.YtbbgjeiefmiblaaGreatDoor
namespace Go.Proofs.YtbbgjeiefmiblaaGreatDoor
open Go.RowKit
set_option linter.unusedVariables false
set_option linter.unusedSimpArgs false
structure Ord (n : Nat) (o : List Int) : Prop where
 nd : o.Nodup
 lt : ∀ x ∈ o, 0 ≤ x ∧ x < n
theorem Ord.nil (n : Nat) : Ord n [] := ⟨List.nodup_nil, fun x h => by simp at h⟩
theorem Ord.snoc {n : Nat} {o : List Int} (h : Ord n o) {q : Nat} (hq : q < n) (hn : (q : Int) ∉ o) : Ord n (o ++ [(q : Int)]) := by
 refine ⟨?_, fun x hx => ?_⟩
 ·rw [List.nodup_append]
  exact ⟨h.nd, by simp, fun a ha b hb => by simp at hb; subst hb; exact fun e => hn (e ▸ ha)⟩
 ·rcases List.mem_append.1 hx with hx | hx
  ·exact h.lt x hx
  ·simp at hx; subst hx; omega
section
variable {τ : Type} (n : Nat) (step : τ → List Int → τ)
def ext : Nat → List Int → τ → τ
 | 0, o, s => step s o
 | d + 1, o, s => (List.range n).foldl (fun (s : τ) (i : Nat) => if (i : Int) ∈ o then s else ext d (o ++ [(i : Int)]) s) s
variable {n step}
end
def usedL (n : Nat) (o : List Int) : List AV := (List.range n).map fun (i : Nat) => avB (decide ((i : Int) ∈ o))
theorem usedL_len (n : Nat) (o : List Int) : (usedL n o).length = n := by simp [usedL]
theorem usedL_get {n : Nat} {o : List Int} {q : Nat} (h : q < n) : (usedL n o)[q]? = some (avB (decide ((q : Int) ∈ o))) := by simp [usedL, h]
theorem usedL_nil (n : Nat) : usedL n [] = List.replicate n (avB false) := by
 apply List.ext_getElem (by simp [usedL])
 intro i h1 h2
 simp [usedL]
theorem usedL_set {n : Nat} {o : List Int} {q : Nat} (h : q < n) : (usedL n o).set q (avB true) = usedL n (o ++ [(q : Int)]) := by
 apply List.ext_getElem (by simp [usedL])
 intro i h1 h2
 rw [List.getElem_set]
 by_cases e : q = i
 ·subst e; simp [usedL]
 ·rw [if_neg e]
  have : ¬ ((i : Int) = (q : Int)) := by omega
  simp [usedL, this]
theorem usedL_make {n m : Nat} (hm : m = n) : (madeCells (Value.bool false).cells (m * 1)).toList.map AV.v = usedL n [] := by
 subst hm
 rw [usedL_nil, Nat.mul_one, show (Value.bool false).cells = #[.bool false] from rfl, toList_madeCells_one]
 simp
def idO (n : Nat) : List Int := (List.range n).map fun (i : Nat) => (i : Int)
theorem idO_len (n : Nat) : (idO n).length = n := by simp [idO]
theorem perm_of_sub : ∀ {l m : List Int}, l.Nodup → (∀ x ∈ l, x ∈ m) → m.length = l.length → l.Perm m
 | [], m, _, _, hl => by rw [List.eq_nil_of_length_eq_zero hl]
 | x :: r, m, h, hs, hl => by
  have hx := hs x (by simp)
  have hp := List.perm_cons_erase hx
  have := perm_of_sub (l := r) (m := m.erase x) (List.nodup_cons.1 h).2 (fun y hy => (List.mem_erase_of_ne (fun e => by subst e; exact (List.nodup_cons.1 h).1 hy)).2 (hs y (by simp [hy]))) (by rw [List.length_erase_of_mem hx, hl]; simp)
  exact (this.cons x).trans hp.symm
theorem Ord.perm {n : Nat} {l : List Int} (h : Ord n l) (hl : l.length = n) : l.Perm (idO n) := perm_of_sub h.nd (fun x hx => by
 have := h.lt x hx
 exact List.mem_map.2 ⟨x.toNat, List.mem_range.2 (by omega), by omega⟩) (by rw [idO_len, hl])
end Go.Proofs.YtbbgjeiefmiblaaGreatDoor
namespace Go.Proofs.YtbbgjeiefmiblaaGreatDoor
open Go.RowKit
set_option linter.unusedVariables false
set_option linter.unusedSimpArgs false
structure LookR (l : List LookS) (i : Nat) : Prop where
 keys : (lkStrs (l.getD i default)).all keyF = true
 at_ : 0 ≤ (l.getD i default).at_ ∧ (l.getD i default).at_ ≤ 345686399999
 verdict : 1 ≤ (l.getD i default).verdict ∧ (l.getD i default).verdict ≤ 5
 ord : 0 < i → cmpLk (l.getD (i - 1) default) (l.getD i default) < 0
theorem outR_inL {n a b : Int} (h : ¬ outR n a b = true) : a ≤ n ∧ n ≤ b := by unfold outR at h; simp at h; omega
theorem lookE_zero {l : List LookS} {i : Nat} (h : lookE l i = 0) : LookR l i := by
 unfold lookE at h
 split at h
 ·cases h
 ·rename_i h1
  split at h
  ·cases h
  ·rename_i h2
   split at h
   ·cases h
   ·rename_i h3
    split at h
    ·cases h
    ·rename_i h4
     refine ⟨by simpa using h1, ?_, ?_, fun hi => ?_⟩
     ·exact outR_inL h2
     ·exact outR_inL h3
     ·simp at h4; exact h4 hi
section
variable {l : List LookS} {s : Int} {n q : Nat}
end
end Go.Proofs.YtbbgjeiefmiblaaGreatDoor
