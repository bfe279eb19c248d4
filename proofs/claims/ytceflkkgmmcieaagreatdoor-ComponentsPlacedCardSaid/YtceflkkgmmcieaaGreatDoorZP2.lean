/- Part 2 of a proof: the walks and laws that it needs. -/
import Derived.Test.YtceflkkgmmcieaaGreatDoorProg
import Derived.Test.YtceflkkgmmcieaaGreatDoorZP1
namespace Go.Proofs.YtceflkkgmmcieaaGreatDoor
open Go.RowKit
set_option linter.unusedVariables false
set_option linter.unusedSimpArgs false
def panL : List PlaceS := [⟨⟨#[99]⟩, ⟨#[99, 97, 112]⟩, 0, 0, 0⟩]
def panP : ProdS := ⟨⟨#[112]⟩, 5, 5, panL⟩
theorem panP_sm : SmP panP := ⟨by decide, by decide, fun i => by
 match i with
 | 0 => decide
 | i + 1 => simp [panP, panL]; decide, fun i => by
 match i with
 | 0 => decide
 | i + 1 => simp [panP, panL]; decide⟩
theorem panP_ok : prodF panP = 0 := by decide +kernel
theorem panP_cnt : cntP panL = [(⟨#[99, 97, 112]⟩, 1)] := by decide +kernel
theorem panP_keys : sKeys [((⟨#[99, 97, 112]⟩ : ByteArray), (1 : Int))] = [⟨#[99, 97, 112]⟩] := by simp [sKeys, bytesOf]
theorem panP_needs : needsR panP = [⟨⟨#[99, 97, 112]⟩, 1⟩] := by
 rw [needsR, if_pos panP_ok, needsL]
 show List.map _ (sKeys (cntP panL)) = _
 rw [panP_cnt, panP_keys]
 simp [panP, panP_cnt, mgetD, mget]
set_option maxRecDepth 100000 in
theorem rf_paneled   :
  SpecN Tryz.prog 30 [] (fun y => y = avB true) := by
 refine SpecN.of_VCN Tryz.func30 rfl Tryz.ntmps30 (Nle rfl) fun w A hB => ?_
 have hnew : True := trivial
 refine VC.sr ?_
 refine VO.ma rfl rfl rfl rfl ?_
 refine VO.nil ?_
 refine VC.sr ?_
 refine VO.val rfl rfl (OpV.build (pls := #[(0, 1), (1, 1), (2, 1), (3, 1), (4, 1)]) rfl Tryz.zeroValue50 Tryz.underlying50 (fun w => by kernel_rfl) rfl rfl) ?_
 refine VO.op rfl (OpE.buildSlice (zc := #[.string ⟨#[]⟩, .string ⟨#[]⟩, .int .i64 0, .int .i64 0, .int .i64 0]) rfl hB rfl Tryz.underlying26 Tryz.sizeOf50 Tryz.zeroValue50 (by decide) (by decide) (by kernel_rfl) rfl rfl ?_)
 refine VO.le _ (Le.recast (t := 5) (y := avL panL) rfl (fun w Z u h => Rep.rowL (xs := panL) rfl h)) ?_
 refine VO.val rfl rfl (OpV.build (pls := #[(0, 1), (1, 1), (2, 1), (3, 1)]) rfl Tryz.zeroValue28 Tryz.underlying28 (fun w => by kernel_rfl) rfl rfl) ?_
 refine VO.op rfl (OpE.call rfl hB rfl Tryz.call15 rfl (SpecN.spec (panel_Needs (p := panP) panP_sm)) ?_)
 rintro _ rfl
 refine VO.le _ (Le.recast (t := 7) (y := .tup [avL ([⟨⟨#[99, 97, 112]⟩, 1⟩] : List NeedS), avI 0]) rfl (fun w Z u h => by rw [← panP_needs, ← panP_ok]; exact h)) ?_
 refine VO.mv rfl rfl rfl rfl ?_
 refine VO.val rfl rfl (OpV.extract rfl rfl rfl) ?_
 refine VO.val rfl rfl (OpV.extract rfl rfl rfl) ?_
 refine VO.ma rfl rfl rfl rfl ?_
 refine VO.ma rfl rfl rfl rfl ?_
 refine VO.nil ?_
 refine VC.sr ?_
 refine VO.mv rfl rfl rfl rfl ?_
 refine VO.val rfl rfl (OpV.eql rfl rfl rfl) ?_
 refine VO.le _ (Le.boolT (t := 11) rfl (decide_eq_true rfl)) ?_
 refine VO.mv rfl rfl rfl rfl ?_
 refine VO.opY rfl rfl rfl rfl rfl ?_
 refine OpE.val (W := NoB) (OpV.move (.inl rfl) rfl) rfl ?_
 refine VO.opY rfl rfl rfl rfl rfl ?_
 refine OpE.val (W := NoB) (OpV.len_im rfl Tryz.underlying36 rfl) rfl ?_
 refine VO.opY rfl rfl rfl rfl rfl ?_
 refine OpE.val (W := NoB) (OpV.eql rfl rfl rfl) rfl ?_
 refine VO.le _ (Le.boolT (t := 15) rfl (decide_eq_true rfl)) ?_
 refine VO.val rfl rfl (OpV.pickT rfl rfl rfl rfl rfl) ?_
 refine VO.mv rfl rfl rfl rfl ?_
 refine VO.opY rfl rfl rfl rfl rfl ?_
 refine OpE.val (W := NoB) (OpV.move (.inl rfl) rfl) rfl ?_
 refine VO.opY rfl rfl rfl rfl rfl ?_
 refine OpE.val (W := NoB) (OpV.indexAddr_E rfl Tryz.underlying36 Tryz.sizeOf60 rfl rfl rfl (by show 0 < 1; decide)) rfl ?_
 refine VO.opY rfl rfl rfl rfl rfl ?_
 refine OpE.val (W := NoB) (OpV.fieldAddr_atO 1 rfl Tryz.underlying60 rfl rfl Tryz.sizeOf3 rfl rfl) rfl ?_
 refine VO.opY rfl rfl rfl rfl rfl ?_
 refine OpE.val (W := NoB) (OpV.load_at rfl hB OutW.no Tryz.isAgg3 rfl rfl) rfl ?_
 refine VO.opY rfl rfl rfl rfl rfl ?_
 refine OpE.val (W := NoB) (OpV.eql rfl rfl rfl) rfl ?_
 refine VO.le _ (Le.boolT (t := 22) rfl (decide_eq_true rfl)) ?_
 refine VO.val rfl rfl (OpV.pickT rfl rfl rfl rfl rfl) ?_
 refine VO.ma rfl rfl rfl rfl ?_
 refine VO.nil ?_
 refine VC.ret ?_
 exact Exists.intro _ (And.intro (RetN.one Tryz.results30 (ResN.v rfl)) (rfl))
end Go.Proofs.YtceflkkgmmcieaaGreatDoor
namespace Go.Proofs.YtceflkkgmmcieaaGreatDoor
open Go.RowKit
set_option linter.unusedVariables false
set_option linter.unusedSimpArgs false
def errsF (xs : List Int) : Int := match xs.find? (fun x => decide (x ≠ 0)) with | some x => x | none => 0
theorem errsF_at {xs : List Int} {q : Nat} (hq : q < xs.length) (hn : ∀ j, j < q → xs.getD j 0 = 0) (h : xs.getD q 0 ≠ 0) : errsF xs = xs.getD q 0 := by
 induction xs generalizing q with
 | nil => simp at hq
 | cons x r ih =>
  cases q with
  | zero => simp at h; simp [errsF, h]
  | succ q =>
   have h0 := hn 0 (by omega)
   simp at h0
   have := ih (q := q) (by simpa using hq) (fun j hj => by simpa using hn (j + 1) (by omega)) (by simpa using h)
   simpa [errsF, h0] using this
theorem errsF_none {xs : List Int} (hn : ∀ j, j < xs.length → xs.getD j 0 = 0) : errsF xs = 0 := by
 induction xs with
 | nil => rfl
 | cons x r ih =>
  have h0 := hn 0 (by simp)
  simp at h0
  have := ih (fun j hj => by simpa using hn (j + 1) (by simpa using hj))
  simpa [errsF, h0] using this
set_option maxRecDepth 100000 in
theorem rf_errs {xs : List Int} (hl : xs.length ≤ 1000000000) :
  SpecN Tryz.prog 21 [avInts xs] (fun y => y = avI (errsF xs)) := by
 refine SpecN.of_VCN Tryz.func21 rfl Tryz.ntmps21 (Nle rfl) fun w A hB => ?_
 have hnew : True := trivial
 refine VC.sr ?_
 refine VO.ma rfl rfl rfl rfl ?_
 refine VO.nil ?_
 refine VC.seq ?_
 refine VC.sr ?_
 refine VO.mv rfl rfl rfl rfl ?_
 refine VO.val rfl rfl (OpV.len_im rfl Tryz.underlying139 rfl) ?_
 refine VO.mv rfl rfl rfl rfl ?_
 refine VO.nil ?_
 refine VC.block ?_
 refine VC.loopK [] trivial ({q : Nat // q ≤ xs.length ∧ ∀ j, j < q → xs.getD j 0 = 0}) (fun (iZ : {q : Nat // q ≤ xs.length ∧ ∀ j, j < q → xs.getD j 0 = 0}) => match iZ with | ⟨q, hq, hn⟩ => [(5, avInts xs), (6, avI xs.length), (7, avI (q : Int))]) (fun (iZ : {q : Nat // q ≤ xs.length ∧ ∀ j, j < q → xs.getD j 0 = 0}) => match iZ with | ⟨q, hq, hn⟩ => []) (fun (iZ : {q : Nat // q ≤ xs.length ∧ ∀ j, j < q → xs.getD j 0 = 0}) => match iZ with | ⟨q, hq, hn⟩ => 0) (fun (iZ : {q : Nat // q ≤ xs.length ∧ ∀ j, j < q → xs.getD j 0 = 0}) => match iZ with | ⟨q, hq, hn⟩ => xs.length - q) ⟨0, Nat.zero_le _, fun j hj => absurd hj (Nat.not_lt_zero j)⟩ (Le.mk hB [] ⟨rfl, rfl, rfl, trivial⟩ rfl rfl (Nat.le_refl _)) ?_
 rintro ⟨q, hq, hn⟩
 show VC _ _ _ _ ⟨[(5, avInts xs), (6, avI xs.length), (7, avI (q : Int))] ++ [], [], 0⟩
 refine VC.sr ?_
 refine VO.val rfl rfl (OpV.lss rfl rfl rfl) ?_
 refine VO.nil ?_
 refine VC.seq ?_
 refine VC.cond rfl (fun aH1b => ?_) (fun aH1b => ?_)
 ·have aH1 := aH1b
  try simp only [qqT, qqF, qqN, qqM, qqL, qqE] at aH1
  refine VC.skip ?_
  refine VC.seq ?_
  refine VC.block ?_
  refine VC.sr ?_
  refine VO.val rfl rfl (OpV.indexAddr_1 rfl Tryz.underlying139 Tryz.sizeOf37 rfl rfl rfl (by omega)) ?_
  refine VO.val rfl rfl (OpV.load_at rfl hB OutW.no Tryz.isAgg37 rfl rfl) ?_
  refine VO.ma rfl rfl rfl rfl ?_
  refine VO.nil ?_
  refine VC.sr ?_
  refine VO.mv rfl rfl rfl rfl ?_
  refine VO.val rfl rfl (OpV.neq rfl rfl rfl) ?_
  refine VO.nil ?_
  refine VC.cond rfl (fun h1b => ?_) (fun h1b => ?_)
  ·have h1 := h1b
   try simp only [qqT, qqF, qqN, qqM, qqL, qqE] at h1
   refine VC.sr ?_
   refine VO.mv rfl rfl rfl rfl ?_
   refine VO.ma rfl rfl rfl rfl ?_
   refine VO.nil ?_
   refine VC.ret ?_
   exact Exists.intro _ (And.intro (RetN.one Tryz.results21 (ResN.v rfl)) (by rw [errsF_at (q := q) (by omega) hn h1]))
  ·have h1 := h1b
   try simp only [qqT, qqF, qqN, qqM, qqL, qqE] at h1
   refine VC.skip ?_
   refine VC.region ?_
   refine VO.val rfl rfl (OpV.add rfl rfl rfl (by unfold fits; omega)) ?_
   refine VO.mv rfl rfl rfl rfl ?_
   refine VO.nil ?_
   exact Exists.intro (⟨q + 1, by omega, lt_succ_cases hn (by omega)⟩) (And.intro (Le.mk hB [] ⟨rfl, rfl, rfl, trivial⟩ rfl rfl (Nat.le_refl _)) (by first | omega | (show _ < _; omega) | (simp only []; omega)))
 ·have aH1 := aH1b
  try simp only [qqT, qqF, qqN, qqM, qqL, qqE] at aH1
  refine VC.exit ?_
  refine VC.sr ?_
  refine VO.ma rfl rfl rfl rfl ?_
  refine VO.nil ?_
  refine VC.ret ?_
  exact Exists.intro _ (And.intro (RetN.one Tryz.results21 (ResN.v rfl)) (by rw [errsF_none (fun j hj => hn j (by omega))]))
def whenF (b : Bool) (e : Int) : Int := if b = true then e else 0
set_option maxRecDepth 100000 in
theorem rf_when {b : Bool} {e : Int}  :
  SpecN Tryz.prog 22 [avB b, avI e] (fun y => y = avI (whenF b e)) := by
 refine SpecN.of_VCN Tryz.func22 rfl Tryz.ntmps22 (Nle rfl) fun w A hB => ?_
 have hnew : True := trivial
 refine VC.sr ?_
 refine VO.ma rfl rfl rfl rfl ?_
 refine VO.nil ?_
 refine VC.seq ?_
 refine VC.sr ?_
 refine VO.mv rfl rfl rfl rfl ?_
 refine VO.nil ?_
 refine VC.cond rfl (fun aH1b => ?_) (fun aH1b => ?_)
 ·have aH1 := aH1b
  try simp only [qqT, qqF, qqN, qqM, qqL, qqE] at aH1
  refine VC.sr ?_
  refine VO.mv rfl rfl rfl rfl ?_
  refine VO.ma rfl rfl rfl rfl ?_
  refine VO.nil ?_
  refine VC.ret ?_
  exact Exists.intro _ (And.intro (RetN.one Tryz.results22 (ResN.v rfl)) (by first | rw [whenF, if_pos (by assumption)] | rw [whenF, if_neg (by simp_all)]))
 ·have aH1 := aH1b
  try simp only [qqT, qqF, qqN, qqM, qqL, qqE] at aH1
  refine VC.skip ?_
  refine VC.sr ?_
  refine VO.ma rfl rfl rfl rfl ?_
  refine VO.nil ?_
  refine VC.ret ?_
  exact Exists.intro _ (And.intro (RetN.one Tryz.results22 (ResN.v rfl)) (by first | rw [whenF, if_pos (by assumption)] | rw [whenF, if_neg (by simp_all)]))
theorem Le.lits {B : Bs} {s : St'} {t n : Nat} {xs : List Int} (hn : n = xs.length) (ht : look s.sl t = some (.im n 1 fun j => (intsL xs).getD j .any)) : Le B s ⟨(t, avInts xs) :: s.sl, s.hp, s.k⟩ := Le.recast ht fun w Z u h => Rep.ints hn h
end Go.Proofs.YtceflkkgmmcieaaGreatDoor
namespace Go.Proofs.YtceflkkgmmcieaaGreatDoor
open Go.RowKit
set_option linter.unusedVariables false
set_option linter.unusedSimpArgs false
theorem at_or1 {p : ProdS} {n : PanS} {i : Int} {k : ByteArray} {o : Bool} (h : (decide (i < 0) || (decide ((n.slots.length : Int) ≤ i) || !hasN p k)) = o) : errsF [panelF p n, whenF o 8] = atE p n i k := by
 unfold atE whenF
 rw [h]
 by_cases h1 : panelF p n = 0
 ·rw [if_neg (c := panelF p n ≠ 0) (fun h => h h1), h1]
  cases o <;> rfl
 ·rw [if_pos h1]; simp [errsF, h1]
theorem at_facts {p : ProdS} {n : PanS} {i : Int} {k : ByteArray} (h : atE p n i k = 0) : panelF p n = 0 ∧ 0 ≤ i ∧ i < n.slots.length ∧ hasN p k = true := by
 unfold atE at h
 by_cases h1 : panelF p n = 0
 ·rw [if_neg (fun h => h h1)] at h
  by_cases h2 : (decide (i < 0) || (decide ((n.slots.length : Int) ≤ i) || !hasN p k)) = true
  ·rw [if_pos h2] at h; cases h
  ·simp only [Bool.or_eq_true, decide_eq_true_eq, Bool.not_eq_true', not_or, Int.not_lt, Int.not_le, Bool.not_eq_false] at h2
   exact ⟨h1, h2.1, h2.2.1, h2.2.2⟩
 ·rw [if_pos h1] at h; exact absurd h h1
theorem placeO_get {p : ProdS} {k : ByteArray} (h : hasN p k = true) : ∃ j, j < p.places.length ∧ placeO p k = p.places.getD j default := by
 have h1 : (p.places.find? fun x => sEq x.name k).isSome = true := by
  rw [List.find?_isSome]
  unfold hasN at h
  rw [List.any_eq_true] at h
  exact h
 obtain ⟨x, hx⟩ := Option.isSome_iff_exists.1 h1
 obtain ⟨j, hj, e⟩ := List.getElem_of_mem (List.mem_of_find?_eq_some hx)
 refine ⟨j, hj, ?_⟩
 rw [placeO, hx, List.getD_eq_getElem?_getD, List.getElem?_eq_getElem hj, e]
theorem rf_SpotAt {p : ProdS} {n : PanS} {i : Int} {k : ByteArray} (h : atE p n i k = 0) : SpecN Tryz.prog 25 [avProd p, avPan n, avI i, avPl (atPl p k)] (fun y => y = avSpot (atR p n i k)) := by
 obtain ⟨h0, h1, h2, h3⟩ := at_facts h
 have hz := panelF_0 h0
 have hok := prodOk hz.1
 have hpn := panOk hz.2
 obtain ⟨m, rfl⟩ : ∃ m : Nat, i = m := ⟨i.toNat, by omega⟩
 obtain ⟨j, hj, e⟩ := placeO_get h3
 have hm : m < n.slots.length := by omega
 rw [atR_ok h, atPl, if_pos h3, e, Int.toNat_natCast]
 exact rf_SpotOf hok.wide hok.high hm (hpn.all m hm) (placeE_zero (hok.all j hj))
theorem needsR_no {p : ProdS} (h : prodF p ≠ 0) : needsR p = [] := if_neg h
theorem needsR_bd {p : ProdS} (h : p.places.length ≤ 5) : (needsR p).length ≤ 1000000000 := by
 unfold needsR
 split
 ·rw [needsL_len]; have := cntP_len p.places; omega
 ·simp
theorem spotsR_bd {p : ProdS} {n : PanS} (h : p.places.length ≤ 5) (hn : n.slots.length ≤ 5) : (spotsR p n).length ≤ 1000000000 := by
 unfold spotsR
 split
 ·have := spotQ_bd (p := p) (n := n) (q := n.slots.length) (Nat.le_refl _) (by omega) (by omega); omega
 ·simp
set_option maxRecDepth 100000 in
set_option maxHeartbeats 40000000 in
theorem componentsPlaced_any (a0 : Option Addr) (cap0 : Nat) (L : List Int) (w : World) (hin : Inp w a0 L) :
  Calls Tryz.prog 3 #[.slice a0 L.length cap0] w fun e w' => e = .returned (.bool true) ∧ Chg NoB w w' := by
 refine law_calls Tryz.func3 rfl Tryz.ntmps3 (Nle rfl) Tryz.results3 ?_
 have hB := B0.ok w (fun _ => True) 144
 have hnew : True := trivial
 refine VC.sr ?_
 refine VO.ma rfl rfl rfl rfl ?_
 refine VO.nil ?_
 refine VC.sr ?_
 refine VO.mv rfl rfl rfl rfl ?_
 refine VO.val rfl rfl (OpV.build (pls := #[(0, 1), (1, 1)]) rfl Tryz.zeroValue25 Tryz.underlying25 (fun w => by kernel_rfl) rfl rfl) ?_
 refine VO.op rfl (OpE.box rfl hB rfl rfl rfl ?_)
 intro g
 refine VO.ma rfl rfl rfl rfl ?_
 refine VO.nil ?_
 refine VC.stream (i := 0) (sl := [(3, sp g)]) (by exact rfl) (by exact rfl) hin (by exact ⟨rfl, trivial⟩) (fun p hp => by simp at hp; subst hp; exact ⟨_, rfl⟩) (fun w1 hge hB => ?_)
 refine VC.sr ?_
 refine VO.mv rfl rfl rfl rfl ?_
 refine VO.op rfl (OpE.callT' (0) rfl rfl hB rfl Tryz.call11 rfl (aProduct_T) (by omega) ?_)
 rintro _ ⟨p, hp, rfl⟩
 refine VO.op rfl (OpE.alloc rfl hB rfl Tryz.zeroValue28 rfl ?_)
 intro g4
 refine VO.op rfl (OpE.store (i := 0) rfl hB rfl Tryz.sizeOf28 rfl rfl rfl rfl rfl rfl (Nle rfl) trivial ?_)
 refine VO.nil ?_
 refine VC.sr ?_
 refine VO.mv rfl rfl rfl rfl ?_
 refine VO.val rfl rfl (OpV.loadK_own (i := 0) rfl hB Tryz.isAgg28 Tryz.sizeOf28 rfl rfl rfl (fun h => h)) ?_
 refine VO.op rfl (OpE.callT' (0 + 50) rfl rfl hB rfl Tryz.call12 rfl (aPanel_T) (by omega) ?_)
 rintro _ ⟨n, hn, rfl⟩
 refine VO.mv rfl rfl rfl rfl ?_
 refine VO.op rfl (OpE.buildSlice (zc := #[.int .i64 0, .int .i64 0, .int .i64 0, .int .i64 0, .int .i64 0]) rfl hB rfl Tryz.underlying22 Tryz.sizeOf3 Tryz.zeroValue3 (by decide) (by decide) (by kernel_rfl) rfl rfl ?_)
 refine VO.op rfl (OpE.callT' (0 + 50 + 40) rfl rfl hB rfl Tryz.call13 rfl ((pick_T (-100000000) 100000000 (by rfl) (by decide) (by decide) (by repeat (first | exact AllI.nil | refine AllI.cons (by omega) ?_)))) (by omega) ?_)
 rintro _ ⟨i, hi, rfl⟩
 refine VO.mv rfl rfl rfl rfl ?_
 refine VO.op rfl (OpE.buildSlice (zc := #[.string ⟨#[]⟩, .string ⟨#[]⟩, .string ⟨#[]⟩, .string ⟨#[]⟩]) rfl hB rfl Tryz.underlying81 Tryz.sizeOf9 Tryz.zeroValue9 (by decide) (by decide) (by kernel_rfl) rfl rfl ?_)
 refine VO.op rfl (OpE.callT' (0 + 50 + 40 + 1) rfl rfl hB rfl Tryz.call14 rfl ((some_T 1000 (by rfl) (by decide) (by decide) (by repeat (first | exact AllS.nil | refine AllS.cons (by first | decide | omega) ?_)))) (by omega) ?_)
 rintro _ ⟨k, hk, rfl⟩
 have hl1 : n.slots.length ≤ 1000000 := by omega
 have hlp : p.places.length ≤ 1000000 := by omega
 obtain ⟨e1, he1⟩ : ∃ e, prodF p = e := ⟨_, rfl⟩
 obtain ⟨e2, he2⟩ : ∃ e, panelF p n = e := ⟨_, rfl⟩
 obtain ⟨e3, he3⟩ : ∃ e, atE p n i k = e := ⟨_, rfl⟩
 obtain ⟨ks, hks⟩ : ∃ z, needsR p = z := ⟨_, rfl⟩
 obtain ⟨ys, hys⟩ : ∃ z, spotsR p n = z := ⟨_, rfl⟩
 obtain ⟨xr, hxr⟩ : ∃ z, atR p n i k = z := ⟨_, rfl⟩
 obtain ⟨c, hc⟩ : ∃ z, atPl p k = z := ⟨_, rfl⟩
 obtain ⟨b, hb⟩ : ∃ z, hasN p k = z := ⟨_, rfl⟩
 have hNeeds := panel_Needs hp.1
 rw [hks, he1] at hNeeds
 have hAt := panel_At (n := n) (i := i) (k := k) hp.1 hl1
 rw [hxr, he3] at hAt
 have hSpots := panel_Spots (n := n) hp.1 hl1
 rw [hys, he2] at hSpots
 have hCP := panel_CheckProduct hp.1
 rw [he1] at hCP
 have hCN := panel_CheckPanel (n := n) hp.1 hl1
 rw [he2] at hCN
 have hF1 := rf_ProductFault hp.1
 rw [he1] at hF1
 have hF2 := rf_PanelFault (n := n) hp.1 hl1
 rw [he2] at hF2
 have hPA := rf_PlacementAt (k := k) hlp
 rw [hc, hb] at hPA
 have hR1 : e1 = 0 → Spec Tryz.prog 23 [avProd p] (fun y => y = avL ks) := fun h => by rw [← hks, needsR, if_pos (he1.trans h)]; exact rf_NeedsOf hp.1 (by omega)
 have hR2 : e2 = 0 → SpecN Tryz.prog 24 [avProd p, avPan n] (fun y => y = avL ys) := fun h => by rw [← hys]; exact rf_SpotsOf (he2.trans h)
 have hR3 : e3 = 0 → SpecN Tryz.prog 25 [avProd p, avPan n, avI i, avPl c] (fun y => y = avSpot xr) := fun h => by rw [← hxr, ← hc]; exact rf_SpotAt (he3.trans h)
 have hz1 : e1 ≠ 0 → ks = [] := fun h => by rw [← hks]; exact needsR_no (by rw [he1]; exact h)
 have hz2 : e2 ≠ 0 → ys = [] := fun h => by rw [← hys]; exact if_neg (by rw [he2]; exact h)
 have hz3 : e3 ≠ 0 → xr = zeroSp := fun h => by rw [← hxr]; exact atR_no (by rw [he3]; exact h)
 have hl2 : ks.length ≤ 1000000000 := by rw [← hks]; exact needsR_bd hp.2
 have hl3 : ys.length ≤ 1000000000 := by rw [← hys]; exact spotsR_bd hp.2 (by omega)
 have hi12 : e2 = 0 → e1 = 0 := fun h => by rw [← he1]; exact (panelF_0 (he2.trans h)).1
 have hi23 : e3 = 0 → e2 = 0 := fun h => by rw [← he2]; exact (at_facts (he3.trans h)).1
 have hE : ∀ o, (decide (i < 0) || (decide ((n.slots.length : Int) ≤ i) || !b)) = o → errsF [e2, whenF o 8] = e3 := fun o h => by rw [← he2, ← he3]; exact at_or1 (by rw [hb]; exact h)
 clear he1 he2 he3 hks hys hxr hc hb
 refine VO.op rfl (OpE.alloc rfl hB rfl Tryz.zeroValue32 rfl ?_)
 intro g5
 refine VO.op rfl (OpE.store (i := 1) rfl hB rfl Tryz.sizeOf32 rfl rfl rfl rfl rfl rfl (Nle rfl) trivial ?_)
 refine VO.ma rfl rfl rfl rfl ?_
 refine VO.ma rfl rfl rfl rfl ?_
 refine VO.nil ?_
 refine VC.seq ?_
 refine VC.le ⟨[(4, _), (5, _), (6, _), (7, _)], [.box _ ⟨[_, _, _, _], _, _⟩, .box _ ⟨[_, _, _], _, _⟩], 0 + 50 + 40 + 1 + 1⟩ (Le.mk hB [0, 1] ⟨rfl, rfl, rfl, rfl, trivial⟩ rfl rfl (Nat.le_refl _)) ?_
 refine VC.region ?_
 refine VO.val rfl rfl (OpV.loadK_own (i := 0) rfl hB Tryz.isAgg28 Tryz.sizeOf28 rfl rfl rfl (fun h => h)) ?_
 refine VO.op rfl (OpE.call rfl hB rfl Tryz.call15 rfl (SpecN.spec (hNeeds)) ?_)
 rintro _ rfl
 refine VO.mv rfl rfl rfl rfl ?_
 refine VO.val rfl rfl (OpV.extract rfl rfl rfl) ?_
 refine VO.val rfl rfl (OpV.extract rfl rfl rfl) ?_
 refine VO.ma rfl rfl rfl rfl ?_
 refine VO.ma rfl rfl rfl rfl ?_
 refine VO.nil ?_
 refine VC.seq ?_
 refine VC.le ⟨[(4, _), (5, _), (6, _), (7, _), (8, _), (9, _)], [.box _ ⟨[_, _, _, _], _, _⟩, .box _ ⟨[_, _, _], _, _⟩], 0 + 50 + 40 + 1 + 1⟩ (Le.mk hB [0, 1] ⟨rfl, rfl, rfl, rfl, rfl, rfl, trivial⟩ rfl rfl (Nat.le_refl _)) ?_
 refine VC.region ?_
 refine VO.val rfl rfl (OpV.loadK_own (i := 0) rfl hB Tryz.isAgg28 Tryz.sizeOf28 rfl rfl rfl (fun h => h)) ?_
 refine VO.val rfl rfl (OpV.loadK_own (i := 1) rfl hB Tryz.isAgg32 Tryz.sizeOf32 rfl rfl rfl (fun h => h)) ?_
 refine VO.mv rfl rfl rfl rfl ?_
 refine VO.mv rfl rfl rfl rfl ?_
 refine VO.op rfl (OpE.call rfl hB rfl Tryz.call16 rfl (SpecN.spec (hAt)) ?_)
 rintro _ rfl
 refine VO.mv rfl rfl rfl rfl ?_
 refine VO.val rfl rfl (OpV.extract rfl rfl rfl) ?_
 refine VO.val rfl rfl (OpV.extract rfl rfl rfl) ?_
 refine VO.op rfl (OpE.alloc rfl hB rfl Tryz.zeroValue41 rfl ?_)
 intro g10
 refine VO.op rfl (OpE.store (i := 2) rfl hB rfl Tryz.sizeOf41 rfl rfl rfl rfl rfl rfl (Nle rfl) trivial ?_)
 refine VO.ma rfl rfl rfl rfl ?_
 refine VO.nil ?_
 refine VC.seq ?_
 refine VC.le ⟨[(4, _), (5, _), (6, _), (7, _), (8, _), (9, _), (10, _), (11, _)], [.box _ ⟨[_, _, _, _], _, _⟩, .box _ ⟨[_, _, _], _, _⟩, .box _ ⟨[_, _, _, _, _], _, _⟩], 0 + 50 + 40 + 1 + 1⟩ (Le.mk hB [0, 1, 2] ⟨rfl, rfl, rfl, rfl, rfl, rfl, rfl, rfl, trivial⟩ rfl rfl (Nat.le_refl _)) ?_
 refine VC.region ?_
 refine VO.val rfl rfl (OpV.loadK_own (i := 0) rfl hB Tryz.isAgg28 Tryz.sizeOf28 rfl rfl rfl (fun h => h)) ?_
 refine VO.val rfl rfl (OpV.loadK_own (i := 1) rfl hB Tryz.isAgg32 Tryz.sizeOf32 rfl rfl rfl (fun h => h)) ?_
 refine VO.op rfl (OpE.call rfl hB rfl Tryz.call17 rfl (SpecN.spec (hSpots)) ?_)
 rintro _ rfl
 refine VO.mv rfl rfl rfl rfl ?_
 refine VO.val rfl rfl (OpV.extract rfl rfl rfl) ?_
 refine VO.val rfl rfl (OpV.extract rfl rfl rfl) ?_
 refine VO.ma rfl rfl rfl rfl ?_
 refine VO.ma rfl rfl rfl rfl ?_
 refine VO.nil ?_
 refine VC.seq ?_
 refine VC.le ⟨[(4, _), (5, _), (6, _), (7, _), (8, _), (9, _), (10, _), (11, _), (12, _), (13, _)], [.box _ ⟨[_, _, _, _], _, _⟩, .box _ ⟨[_, _, _], _, _⟩, .box _ ⟨[_, _, _, _, _], _, _⟩], 0 + 50 + 40 + 1 + 1⟩ (Le.mk hB [0, 1, 2] ⟨rfl, rfl, rfl, rfl, rfl, rfl, rfl, rfl, rfl, rfl, trivial⟩ rfl rfl (Nat.le_refl _)) ?_
 refine VC.draw (fun _ => NoB) hB (by kernel_rfl) ?_
 refine VA.take (i := 0) rfl (by kernel_rfl) (by kernel_rfl) (by kernel_rfl) rfl rfl (OpV.loadK_own (i := 0) rfl hB Tryz.isAgg28 Tryz.sizeOf28 rfl rfl rfl Wi.not0) ?_
 refine VA.take (i := 2) rfl (by kernel_rfl) (by kernel_rfl) (by kernel_rfl) rfl rfl (OpV.loadK_own (i := 0) rfl hB Tryz.isAgg28 Tryz.sizeOf28 rfl rfl rfl Wi.not0) ?_
 refine VA.take (i := 3) rfl (by kernel_rfl) (by kernel_rfl) (by kernel_rfl) rfl rfl (OpV.loadK_own (i := 1) rfl hB Tryz.isAgg32 Tryz.sizeOf32 rfl rfl rfl Wi.not0) ?_
 refine VA.all (rs := [1]) (by kernel_rfl) (by decide) ?_
 refine ⟨⟨_, rfl, .inl rfl, ?_⟩, trivial⟩
 refine OpE.call rfl hB rfl Tryz.call18 rfl (SpecN.spec (hF1)) ?_
 rintro _ rfl
 refine VA.all (rs := [4]) (by kernel_rfl) (by decide) ?_
 refine ⟨⟨_, rfl, .inl rfl, ?_⟩, trivial⟩
 refine OpE.call rfl hB rfl Tryz.call19 rfl (SpecN.spec (hF2)) ?_
 rintro _ rfl
 refine VA.take (i := 5) rfl (by kernel_rfl) (by kernel_rfl) (by kernel_rfl) rfl rfl (OpV.move (.inr rfl) rfl) ?_
 refine VA.take (i := 6) rfl (by kernel_rfl) (by kernel_rfl) (by kernel_rfl) rfl rfl (OpV.move (.inr rfl) rfl) ?_
 refine VA.done (by kernel_rfl) ?_
 refine VC.seq ?_
 refine VC.le ⟨[(4, _), (5, _), (6, _), (7, _), (8, _), (9, _), (10, _), (11, _), (12, _), (13, _), (14, _), (15, _)], [.box _ ⟨[_, _, _, _], _, _⟩, .box _ ⟨[_, _, _], _, _⟩, .box _ ⟨[_, _, _, _, _], _, _⟩], 0 + 50 + 40 + 1 + 1⟩ (Le.mk hB [0, 1, 2] ⟨rfl, rfl, rfl, rfl, rfl, rfl, rfl, rfl, rfl, rfl, rfl, rfl, trivial⟩ rfl rfl (Nat.le_refl _)) ?_
 refine VC.region ?_
 refine VO.val rfl rfl (OpV.loadK_own (i := 0) rfl hB Tryz.isAgg28 Tryz.sizeOf28 rfl rfl rfl (fun h => h)) ?_
 refine VO.mv rfl rfl rfl rfl ?_
 refine VO.op rfl (OpE.call rfl hB rfl Tryz.call20 rfl (SpecN.spec (hPA)) ?_)
 rintro _ rfl
 refine VO.mv rfl rfl rfl rfl ?_
 refine VO.val rfl rfl (OpV.extract rfl rfl rfl) ?_
 refine VO.val rfl rfl (OpV.extract rfl rfl rfl) ?_
 refine VO.op rfl (OpE.alloc rfl hB rfl Tryz.zeroValue50 rfl ?_)
 intro g16
 refine VO.op rfl (OpE.store (i := 3) rfl hB rfl Tryz.sizeOf50 rfl rfl rfl rfl rfl rfl (Nle rfl) trivial ?_)
 refine VO.ma rfl rfl rfl rfl ?_
 refine VO.nil ?_
 refine VC.seq ?_
 refine VC.le ⟨[(4, _), (5, _), (6, _), (8, _), (9, _), (10, _), (11, _), (12, _), (13, _), (14, _), (15, _), (16, _), (17, _)], [.box _ ⟨[_, _, _, _], _, _⟩, .box _ ⟨[_, _, _], _, _⟩, .box _ ⟨[_, _, _, _, _], _, _⟩, .box _ ⟨[_, _, _, _, _], _, _⟩], 0 + 50 + 40 + 1 + 1⟩ (Le.mk hB [0, 1, 2, 3] ⟨rfl, rfl, rfl, rfl, rfl, rfl, rfl, rfl, rfl, rfl, rfl, rfl, rfl, trivial⟩ rfl rfl (Nat.le_refl _)) ?_
 refine VC.region ?_
 refine VO.mv rfl rfl rfl rfl ?_
 refine VO.mv rfl rfl rfl rfl ?_
 refine VO.val rfl rfl (OpV.lss rfl rfl rfl) ?_
 refine VO.mv rfl rfl rfl rfl ?_
 refine VO.opG rfl rfl rfl rfl (fun aK1b => ?_) (fun aK1b => ?_)
 ·replace aK1b : _ = false := aK1b
  have aK1 := aK1b
  try simp only [qqT, qqF, qqN, qqM, qqL, qqE] at aK1
  refine OpE.val (W := NoB) (OpV.move (.inl rfl) rfl) rfl ?_
  refine VO.opY rfl rfl rfl rfl aK1b ?_
  refine OpE.val (W := NoB) (OpV.fieldAddrO 2 rfl Tryz.underlying32 rfl rfl Tryz.sizeOf30 rfl) rfl ?_
  refine VO.opY rfl rfl rfl rfl aK1b ?_
  refine OpE.val (W := NoB) (OpV.load_own (i := 1) rfl hB Tryz.isAgg30 rfl rfl rfl (fun h => h)) rfl ?_
  refine VO.opY rfl rfl rfl rfl aK1b ?_
  refine OpE.val (W := NoB) (OpV.len_im rfl Tryz.underlying30 rfl) rfl ?_
  refine VO.opY rfl rfl rfl rfl aK1b ?_
  refine OpE.val (W := NoB) (OpV.geq rfl rfl rfl) rfl ?_
  refine VO.val rfl rfl (OpV.pickF rfl rfl rfl rfl aK1b) ?_
  refine VO.mv rfl rfl rfl rfl ?_
  refine VO.opG rfl rfl rfl rfl (fun aK2b => ?_) (fun aK2b => ?_)
  ·replace aK2b : _ = false := aK2b
   have aK2 := aK2b
   try simp only [qqT, qqF, qqN, qqM, qqL, qqE] at aK2
   refine OpE.val (W := NoB) (OpV.move (.inl rfl) rfl) rfl ?_
   refine VO.opY rfl rfl rfl rfl aK2b ?_
   refine OpE.val (W := NoB) (OpV.not rfl rfl) rfl ?_
   refine VO.val rfl rfl (OpV.pickF rfl rfl rfl rfl aK2b) ?_
   refine VO.op rfl (OpE.call rfl hB rfl Tryz.call22 rfl (SpecN.spec (rf_when)) ?_)
   rintro _ rfl
   obtain ⟨w8, hw8⟩ : ∃ z, errsF [e2, z] = e3 ∧ ∀ W0 Z u, Rep W0 Z (avI (whenF _ 8)) u → Rep W0 Z (avI z) u := ⟨_, hE _ (by first | exact or3a (by assumption) | exact or3b (by assumption) | exact or3f (by assumption) (by assumption) rfl | (rw [show decide (i < 0) = false by assumption, show decide ((n.slots.length : Int) ≤ i) = false by assumption])), fun _ _ _ h => h⟩
   refine VO.le _ (Le.recast (t := 80) (y := avI w8) rfl (fun w Z u h => hw8.2 _ _ _ h)) ?_
   refine VO.op rfl (OpE.buildSlice (zc := #[.int .i64 0, .int .i64 0]) rfl hB rfl Tryz.underlying139 Tryz.sizeOf37 Tryz.zeroValue37 (by decide) (by decide) (by kernel_rfl) rfl rfl ?_)
   refine VO.le _ (Le.lits (t := 81) (xs := [e2, w8]) rfl rfl) ?_
   refine VO.op rfl (OpE.call rfl hB rfl Tryz.call21 rfl (SpecN.spec (rf_errs (xs := [e2, w8]) (by simp))) ?_)
   rintro _ rfl
   refine VO.le _ (Le.recast (t := 82) (y := avI e3) rfl (fun w Z u h => by rw [← hw8.1]; exact h)) ?_
   refine VO.ma rfl rfl rfl rfl ?_
   refine VO.nil ?_
   refine VC.seq ?_
   refine VC.le ⟨[(4, _), (5, _), (6, _), (8, _), (9, _), (10, _), (11, _), (12, _), (13, _), (14, _), (15, _), (16, _), (18, _)], [.box _ ⟨[_, _, _, _], _, _⟩, .box _ ⟨[_, _, _], _, _⟩, .box _ ⟨[_, _, _, _, _], _, _⟩, .box _ ⟨[_, _, _, _, _], _, _⟩], 0 + 50 + 40 + 1 + 1⟩ (Le.mk hB [0, 1, 2, 3] ⟨rfl, rfl, rfl, rfl, rfl, rfl, rfl, rfl, rfl, rfl, rfl, rfl, rfl, trivial⟩ rfl rfl (Nat.le_refl _)) ?_
   refine VC.region ?_
   refine VO.ma rfl rfl rfl rfl ?_
   first | refine VO.le _ (Le.recast (t := 19) (y := avL ([] : List NeedS)) rfl (fun w Z u h => by rw [h.eq_v]; exact .nil _ _)) ?_ | skip
   refine VO.nil ?_
   refine VC.seq ?_
   refine VC.sr ?_
   refine VO.mv rfl rfl rfl rfl ?_
   refine VO.val rfl rfl (OpV.eql rfl rfl rfl) ?_
   refine VO.nil ?_
   refine VC.cond rfl (fun h0b => ?_) (fun h0b => ?_)
   ·have h0 := h0b
    try simp only [qqT, qqF, qqN, qqM, qqL, qqE] at h0
    refine VC.region ?_
    refine VO.val rfl rfl (OpV.loadK_own (i := 0) rfl hB Tryz.isAgg28 Tryz.sizeOf28 rfl rfl rfl (fun h => h)) ?_
    refine VO.op rfl (OpE.call rfl hB rfl Tryz.call23 rfl (hR1 h0) ?_)
    rintro _ rfl
    refine VO.ma rfl rfl rfl rfl ?_
    first | refine VO.le _ (Le.recast (t := 19) (y := avL ([] : List NeedS)) rfl (fun w Z u h => by rw [h.eq_v]; exact .nil _ _)) ?_ | skip
    refine VO.nil ?_
    refine VC.seq ?_
    refine VC.le ⟨[(4, _), (5, _), (6, _), (8, _), (9, _), (10, _), (11, _), (12, _), (13, _), (14, _), (15, _), (16, _), (18, _), (19, _)], [.box _ ⟨[_, _, _, _], _, _⟩, .box _ ⟨[_, _, _], _, _⟩, .box _ ⟨[_, _, _, _, _], _, _⟩, .box _ ⟨[_, _, _, _, _], _, _⟩], 0 + 50 + 40 + 1 + 1⟩ (Le.mk hB [0, 1, 2, 3] ⟨rfl, rfl, rfl, rfl, rfl, rfl, rfl, rfl, rfl, rfl, rfl, rfl, rfl, rfl, trivial⟩ rfl rfl (Nat.le_refl _)) ?_
    refine VC.region ?_
    refine VO.ma rfl rfl rfl rfl ?_
    first | refine VO.le _ (Le.recast (t := 20) (y := avL ([] : List SpotS)) rfl (fun w Z u h => by rw [h.eq_v]; exact .nil _ _)) ?_ | skip
    refine VO.nil ?_
    refine VC.seq ?_
    refine VC.sr ?_
    refine VO.mv rfl rfl rfl rfl ?_
    refine VO.val rfl rfl (OpV.eql rfl rfl rfl) ?_
    refine VO.nil ?_
    refine VC.cond rfl (fun h1b => ?_) (fun h1b => ?_)
    ·have h1 := h1b
     try simp only [qqT, qqF, qqN, qqM, qqL, qqE] at h1
     refine VC.region ?_
     refine VO.val rfl rfl (OpV.loadK_own (i := 0) rfl hB Tryz.isAgg28 Tryz.sizeOf28 rfl rfl rfl (fun h => h)) ?_
     refine VO.val rfl rfl (OpV.loadK_own (i := 1) rfl hB Tryz.isAgg32 Tryz.sizeOf32 rfl rfl rfl (fun h => h)) ?_
     refine VO.op rfl (OpE.call rfl hB rfl Tryz.call24 rfl (SpecN.spec (hR2 h1)) ?_)
     rintro _ rfl
     refine VO.ma rfl rfl rfl rfl ?_
     first | refine VO.le _ (Le.recast (t := 20) (y := avL ([] : List SpotS)) rfl (fun w Z u h => by rw [h.eq_v]; exact .nil _ _)) ?_ | skip
     refine VO.nil ?_
     refine VC.seq ?_
     refine VC.le ⟨[(4, _), (5, _), (6, _), (8, _), (9, _), (10, _), (11, _), (12, _), (13, _), (14, _), (15, _), (16, _), (18, _), (19, _), (20, _)], [.box _ ⟨[_, _, _, _], _, _⟩, .box _ ⟨[_, _, _], _, _⟩, .box _ ⟨[_, _, _, _, _], _, _⟩, .box _ ⟨[_, _, _, _, _], _, _⟩], 0 + 50 + 40 + 1 + 1⟩ (Le.mk hB [0, 1, 2, 3] ⟨rfl, rfl, rfl, rfl, rfl, rfl, rfl, rfl, rfl, rfl, rfl, rfl, rfl, rfl, rfl, trivial⟩ rfl rfl (Nat.le_refl _)) ?_
     refine VC.region ?_
     refine VO.val rfl rfl (OpV.build (pls := #[(0, 1), (1, 1), (2, 1), (3, 1), (4, 1)]) rfl Tryz.zeroValue41 Tryz.underlying41 (fun w => by kernel_rfl) rfl rfl) ?_
     refine VO.op rfl (OpE.alloc rfl hB rfl Tryz.zeroValue41 rfl ?_)
     intro g21
     refine VO.op rfl (OpE.store (i := 4) rfl hB rfl Tryz.sizeOf41 rfl rfl rfl rfl rfl rfl (Nle rfl) trivial ?_)
     refine VO.nil ?_
     refine VC.seq ?_
     refine VC.sr ?_
     refine VO.mv rfl rfl rfl rfl ?_
     refine VO.val rfl rfl (OpV.eql rfl rfl rfl) ?_
     refine VO.nil ?_
     refine VC.cond rfl (fun h2b => ?_) (fun h2b => ?_)
     ·have h2 := h2b
      try simp only [qqT, qqF, qqN, qqM, qqL, qqE] at h2
      refine VC.region ?_
      refine VO.val rfl rfl (OpV.loadK_own (i := 0) rfl hB Tryz.isAgg28 Tryz.sizeOf28 rfl rfl rfl (fun h => h)) ?_
      refine VO.val rfl rfl (OpV.loadK_own (i := 1) rfl hB Tryz.isAgg32 Tryz.sizeOf32 rfl rfl rfl (fun h => h)) ?_
      refine VO.mv rfl rfl rfl rfl ?_
      refine VO.val rfl rfl (OpV.loadK_own (i := 3) rfl hB Tryz.isAgg50 Tryz.sizeOf50 rfl rfl rfl (fun h => h)) ?_
      refine VO.op rfl (OpE.call rfl hB rfl Tryz.call25 rfl (SpecN.spec (hR3 h2)) ?_)
      rintro _ rfl
      refine VO.op rfl (OpE.store (i := 4) rfl hB rfl Tryz.sizeOf41 rfl rfl rfl rfl rfl rfl (Nle rfl) trivial ?_)
      refine VO.nil ?_
      refine VC.seq ?_
      refine VC.le ⟨[(4, _), (5, _), (8, _), (9, _), (10, _), (11, _), (12, _), (13, _), (14, _), (15, _), (18, _), (19, _), (20, _), (21, _)], [.box _ ⟨[_, _, _, _], _, _⟩, .box _ ⟨[_, _, _], _, _⟩, .box _ ⟨[_, _, _, _, _], _, _⟩, .box _ ⟨[_, _, _, _, _], _, _⟩, .box _ ⟨[_, _, _, _, _], _, _⟩], 0 + 50 + 40 + 1 + 1⟩ (Le.mk hB [0, 1, 2, 3, 4] ⟨rfl, rfl, rfl, rfl, rfl, rfl, rfl, rfl, rfl, rfl, rfl, rfl, rfl, rfl, trivial⟩ rfl rfl (Nat.le_refl _)) ?_
      refine VC.region ?_
      refine VO.val rfl rfl (OpV.loadK_own (i := 0) rfl hB Tryz.isAgg28 Tryz.sizeOf28 rfl rfl rfl (fun h => h)) ?_
      refine VO.op rfl (OpE.call rfl hB rfl Tryz.call26 rfl (SpecN.spec (hCP)) ?_)
      rintro _ rfl
      refine VO.mv rfl rfl rfl rfl ?_
      refine VO.val rfl rfl (OpV.eql rfl rfl rfl) ?_
      refine VO.le _ (Le.boolT (t := 103) rfl (decide_eq_true rfl)) ?_
      refine VO.mv rfl rfl rfl rfl ?_
      refine VO.opY rfl rfl rfl rfl rfl ?_
      refine OpE.val (W := NoB) (OpV.loadK_own (i := 0) rfl hB Tryz.isAgg28 Tryz.sizeOf28 rfl rfl rfl (fun h => h)) rfl ?_
      refine VO.opY rfl rfl rfl rfl rfl ?_
      refine OpE.val (W := NoB) (OpV.loadK_own (i := 1) rfl hB Tryz.isAgg32 Tryz.sizeOf32 rfl rfl rfl (fun h => h)) rfl ?_
      refine VO.opY rfl rfl rfl rfl rfl ?_
      refine OpE.call rfl hB rfl Tryz.call27 rfl (SpecN.spec (hCN)) ?_
      rintro _ rfl
      refine VO.opY rfl rfl rfl rfl rfl ?_
      refine OpE.val (W := NoB) (OpV.move (.inl rfl) rfl) rfl ?_
      refine VO.opY rfl rfl rfl rfl rfl ?_
      refine OpE.val (W := NoB) (OpV.eql rfl rfl rfl) rfl ?_
      refine VO.le _ (Le.boolT (t := 109) rfl (decide_eq_true rfl)) ?_
      refine VO.val rfl rfl (OpV.pickT rfl rfl rfl rfl rfl) ?_
      refine VO.mv rfl rfl rfl rfl ?_
      refine VO.opY rfl rfl rfl rfl rfl ?_
      refine OpE.val (W := NoB) (OpV.move (.inl rfl) rfl) rfl ?_
      refine VO.opY rfl rfl rfl rfl rfl ?_
      refine OpE.val (W := NoB) (OpV.move (.inl rfl) rfl) rfl ?_
      refine VO.opY rfl rfl rfl rfl rfl ?_
      refine OpE.val (W := NoB) (OpV.eql rfl rfl rfl) rfl ?_
      refine VO.le _ (Le.boolT (t := 114) rfl (decide_eq_true rfl)) ?_
      refine VO.val rfl rfl (OpV.pickT rfl rfl rfl rfl rfl) ?_
      refine VO.mv rfl rfl rfl rfl ?_
      refine VO.opY rfl rfl rfl rfl rfl ?_
      refine OpE.val (W := NoB) (OpV.move (.inl rfl) rfl) rfl ?_
      refine VO.opY rfl rfl rfl rfl rfl ?_
      refine OpE.val (W := NoB) (OpV.move (.inl rfl) rfl) rfl ?_
      refine VO.opY rfl rfl rfl rfl rfl ?_
      refine OpE.call rfl hB rfl Tryz.call28 rfl (SpecN.spec (slices_Equal_need hl2 (by first | exact hl2 | decide))) ?_
      rintro _ rfl
      refine VO.le _ (Le.boolT (t := 119) rfl (by first | exact eqLs_self eqNd_self _ | (rw [hz1 h0]; rfl))) ?_
      refine VO.val rfl rfl (OpV.pickT rfl rfl rfl rfl rfl) ?_
      refine VO.mv rfl rfl rfl rfl ?_
      refine VO.opY rfl rfl rfl rfl rfl ?_
      refine OpE.val (W := NoB) (OpV.move (.inl rfl) rfl) rfl ?_
      refine VO.opY rfl rfl rfl rfl rfl ?_
      refine OpE.val (W := NoB) (OpV.move (.inl rfl) rfl) rfl ?_
      refine VO.opY rfl rfl rfl rfl rfl ?_
      refine OpE.val (W := NoB) (OpV.eql rfl rfl rfl) rfl ?_
      refine VO.le _ (Le.boolT (t := 124) rfl (decide_eq_true rfl)) ?_
      refine VO.val rfl rfl (OpV.pickT rfl rfl rfl rfl rfl) ?_
      refine VO.mv rfl rfl rfl rfl ?_
      refine VO.opY rfl rfl rfl rfl rfl ?_
      refine OpE.val (W := NoB) (OpV.loadK_own (i := 2) rfl hB Tryz.isAgg41 Tryz.sizeOf41 rfl rfl rfl (fun h => h)) rfl ?_
      refine VO.opY rfl rfl rfl rfl rfl ?_
      refine OpE.val (W := NoB) (OpV.loadK_own (i := 4) rfl hB Tryz.isAgg41 Tryz.sizeOf41 rfl rfl rfl (fun h => h)) rfl ?_
      refine VO.opY rfl rfl rfl rfl rfl ?_
      refine OpE.val (W := NoB) (OpV.aeql rfl Tryz.underlying41 (by kernel_rfl) (by kernel_rfl) rfl rfl (EqFs.int Tryz.underlying3 Tryz.isAgg3 rfl (by decide) (EqFs.str Tryz.underlying9 Tryz.isAgg9 rfl (by decide) (EqFs.int Tryz.underlying3 Tryz.isAgg3 rfl (by decide) (EqFs.int Tryz.underlying3 Tryz.isAgg3 rfl (by decide) (EqFs.int Tryz.underlying3 Tryz.isAgg3 rfl (by decide) (EqFs.nil _))))))) rfl ?_
      refine VO.le _ (Le.boolT (t := 129) rfl (by first | exact eqSp_self _ | (rw [hz3 h2]; exact eqSp_self zeroSp))) ?_
      refine VO.val rfl rfl (OpV.pickT rfl rfl rfl rfl rfl) ?_
      refine VO.mv rfl rfl rfl rfl ?_
      refine VO.opY rfl rfl rfl rfl rfl ?_
      refine OpE.val (W := NoB) (OpV.move (.inl rfl) rfl) rfl ?_
      refine VO.opY rfl rfl rfl rfl rfl ?_
      refine OpE.val (W := NoB) (OpV.move (.inl rfl) rfl) rfl ?_
      refine VO.opY rfl rfl rfl rfl rfl ?_
      refine OpE.val (W := NoB) (OpV.eql rfl rfl rfl) rfl ?_
      refine VO.le _ (Le.boolT (t := 134) rfl (decide_eq_true rfl)) ?_
      refine VO.val rfl rfl (OpV.pickT rfl rfl rfl rfl rfl) ?_
      refine VO.mv rfl rfl rfl rfl ?_
      refine VO.opY rfl rfl rfl rfl rfl ?_
      refine OpE.val (W := NoB) (OpV.move (.inl rfl) rfl) rfl ?_
      refine VO.opY rfl rfl rfl rfl rfl ?_
      refine OpE.val (W := NoB) (OpV.move (.inl rfl) rfl) rfl ?_
      refine VO.opY rfl rfl rfl rfl rfl ?_
      refine OpE.call rfl hB rfl Tryz.call29 rfl (SpecN.spec (slices_Equal_spot hl3 (by first | exact hl3 | decide))) ?_
      rintro _ rfl
      refine VO.le _ (Le.boolT (t := 139) rfl (by first | exact eqLs_self eqSp_self _ | (rw [hz2 h1]; rfl))) ?_
      refine VO.val rfl rfl (OpV.pickT rfl rfl rfl rfl rfl) ?_
      refine VO.mv rfl rfl rfl rfl ?_
      refine VO.opY rfl rfl rfl rfl rfl ?_
      refine OpE.call rfl hB rfl Tryz.call30 rfl (SpecN.spec (rf_paneled)) ?_
      rintro _ rfl
      refine VO.val rfl rfl (OpV.pickT rfl rfl rfl rfl rfl) ?_
      refine VO.ma rfl rfl rfl rfl ?_
      refine VO.nil ?_
      refine VC.ret ?_
      exact And.intro rfl rfl
     ·have h2 := h2b
      try simp only [qqT, qqF, qqN, qqM, qqL, qqE] at h2
      refine VC.skip ?_
      refine VC.seq ?_
      refine VC.le ⟨[(4, _), (5, _), (8, _), (9, _), (10, _), (11, _), (12, _), (13, _), (14, _), (15, _), (18, _), (19, _), (20, _), (21, _)], [.box _ ⟨[_, _, _, _], _, _⟩, .box _ ⟨[_, _, _], _, _⟩, .box _ ⟨[_, _, _, _, _], _, _⟩, .box _ ⟨[_, _, _, _, _], _, _⟩, .box _ ⟨[_, _, _, _, _], _, _⟩], 0 + 50 + 40 + 1 + 1⟩ (Le.mk hB [0, 1, 2, 3, 4] ⟨rfl, rfl, rfl, rfl, rfl, rfl, rfl, rfl, rfl, rfl, rfl, rfl, rfl, rfl, trivial⟩ rfl rfl (Nat.le_refl _)) ?_
      refine VC.region ?_
      refine VO.val rfl rfl (OpV.loadK_own (i := 0) rfl hB Tryz.isAgg28 Tryz.sizeOf28 rfl rfl rfl (fun h => h)) ?_
      refine VO.op rfl (OpE.call rfl hB rfl Tryz.call26 rfl (SpecN.spec (hCP)) ?_)
      rintro _ rfl
      refine VO.mv rfl rfl rfl rfl ?_
      refine VO.val rfl rfl (OpV.eql rfl rfl rfl) ?_
      refine VO.le _ (Le.boolT (t := 103) rfl (decide_eq_true rfl)) ?_
      refine VO.mv rfl rfl rfl rfl ?_
      refine VO.opY rfl rfl rfl rfl rfl ?_
      refine OpE.val (W := NoB) (OpV.loadK_own (i := 0) rfl hB Tryz.isAgg28 Tryz.sizeOf28 rfl rfl rfl (fun h => h)) rfl ?_
      refine VO.opY rfl rfl rfl rfl rfl ?_
      refine OpE.val (W := NoB) (OpV.loadK_own (i := 1) rfl hB Tryz.isAgg32 Tryz.sizeOf32 rfl rfl rfl (fun h => h)) rfl ?_
      refine VO.opY rfl rfl rfl rfl rfl ?_
      refine OpE.call rfl hB rfl Tryz.call27 rfl (SpecN.spec (hCN)) ?_
      rintro _ rfl
      refine VO.opY rfl rfl rfl rfl rfl ?_
      refine OpE.val (W := NoB) (OpV.move (.inl rfl) rfl) rfl ?_
      refine VO.opY rfl rfl rfl rfl rfl ?_
      refine OpE.val (W := NoB) (OpV.eql rfl rfl rfl) rfl ?_
      refine VO.le _ (Le.boolT (t := 109) rfl (decide_eq_true rfl)) ?_
      refine VO.val rfl rfl (OpV.pickT rfl rfl rfl rfl rfl) ?_
      refine VO.mv rfl rfl rfl rfl ?_
      refine VO.opY rfl rfl rfl rfl rfl ?_
      refine OpE.val (W := NoB) (OpV.move (.inl rfl) rfl) rfl ?_
      refine VO.opY rfl rfl rfl rfl rfl ?_
      refine OpE.val (W := NoB) (OpV.move (.inl rfl) rfl) rfl ?_
      refine VO.opY rfl rfl rfl rfl rfl ?_
      refine OpE.val (W := NoB) (OpV.eql rfl rfl rfl) rfl ?_
      refine VO.le _ (Le.boolT (t := 114) rfl (decide_eq_true rfl)) ?_
      refine VO.val rfl rfl (OpV.pickT rfl rfl rfl rfl rfl) ?_
      refine VO.mv rfl rfl rfl rfl ?_
      refine VO.opY rfl rfl rfl rfl rfl ?_
      refine OpE.val (W := NoB) (OpV.move (.inl rfl) rfl) rfl ?_
      refine VO.opY rfl rfl rfl rfl rfl ?_
      refine OpE.val (W := NoB) (OpV.move (.inl rfl) rfl) rfl ?_
      refine VO.opY rfl rfl rfl rfl rfl ?_
      refine OpE.call rfl hB rfl Tryz.call28 rfl (SpecN.spec (slices_Equal_need hl2 (by first | exact hl2 | decide))) ?_
      rintro _ rfl
      refine VO.le _ (Le.boolT (t := 119) rfl (by first | exact eqLs_self eqNd_self _ | (rw [hz1 h0]; rfl))) ?_
      refine VO.val rfl rfl (OpV.pickT rfl rfl rfl rfl rfl) ?_
      refine VO.mv rfl rfl rfl rfl ?_
      refine VO.opY rfl rfl rfl rfl rfl ?_
      refine OpE.val (W := NoB) (OpV.move (.inl rfl) rfl) rfl ?_
      refine VO.opY rfl rfl rfl rfl rfl ?_
      refine OpE.val (W := NoB) (OpV.move (.inl rfl) rfl) rfl ?_
      refine VO.opY rfl rfl rfl rfl rfl ?_
      refine OpE.val (W := NoB) (OpV.eql rfl rfl rfl) rfl ?_
      refine VO.le _ (Le.boolT (t := 124) rfl (decide_eq_true rfl)) ?_
      refine VO.val rfl rfl (OpV.pickT rfl rfl rfl rfl rfl) ?_
      refine VO.mv rfl rfl rfl rfl ?_
      refine VO.opY rfl rfl rfl rfl rfl ?_
      refine OpE.val (W := NoB) (OpV.loadK_own (i := 2) rfl hB Tryz.isAgg41 Tryz.sizeOf41 rfl rfl rfl (fun h => h)) rfl ?_
      refine VO.opY rfl rfl rfl rfl rfl ?_
      refine OpE.val (W := NoB) (OpV.loadK_own (i := 4) rfl hB Tryz.isAgg41 Tryz.sizeOf41 rfl rfl rfl (fun h => h)) rfl ?_
      refine VO.opY rfl rfl rfl rfl rfl ?_
      refine OpE.val (W := NoB) (OpV.aeql rfl Tryz.underlying41 (by kernel_rfl) (by kernel_rfl) rfl rfl (EqFs.int Tryz.underlying3 Tryz.isAgg3 rfl (by decide) (EqFs.str Tryz.underlying9 Tryz.isAgg9 rfl (by decide) (EqFs.int Tryz.underlying3 Tryz.isAgg3 rfl (by decide) (EqFs.int Tryz.underlying3 Tryz.isAgg3 rfl (by decide) (EqFs.int Tryz.underlying3 Tryz.isAgg3 rfl (by decide) (EqFs.nil _))))))) rfl ?_
      refine VO.le _ (Le.boolT (t := 129) rfl (by first | exact eqSp_self _ | (rw [hz3 h2]; exact eqSp_self zeroSp))) ?_
      refine VO.val rfl rfl (OpV.pickT rfl rfl rfl rfl rfl) ?_
      refine VO.mv rfl rfl rfl rfl ?_
      refine VO.opY rfl rfl rfl rfl rfl ?_
      refine OpE.val (W := NoB) (OpV.move (.inl rfl) rfl) rfl ?_
      refine VO.opY rfl rfl rfl rfl rfl ?_
      refine OpE.val (W := NoB) (OpV.move (.inl rfl) rfl) rfl ?_
      refine VO.opY rfl rfl rfl rfl rfl ?_
      refine OpE.val (W := NoB) (OpV.eql rfl rfl rfl) rfl ?_
      refine VO.le _ (Le.boolT (t := 134) rfl (decide_eq_true rfl)) ?_
      refine VO.val rfl rfl (OpV.pickT rfl rfl rfl rfl rfl) ?_
      refine VO.mv rfl rfl rfl rfl ?_
      refine VO.opY rfl rfl rfl rfl rfl ?_
      refine OpE.val (W := NoB) (OpV.move (.inl rfl) rfl) rfl ?_
      refine VO.opY rfl rfl rfl rfl rfl ?_
      refine OpE.val (W := NoB) (OpV.move (.inl rfl) rfl) rfl ?_
      refine VO.opY rfl rfl rfl rfl rfl ?_
      refine OpE.call rfl hB rfl Tryz.call29 rfl (SpecN.spec (slices_Equal_spot hl3 (by first | exact hl3 | decide))) ?_
      rintro _ rfl
      refine VO.le _ (Le.boolT (t := 139) rfl (by first | exact eqLs_self eqSp_self _ | (rw [hz2 h1]; rfl))) ?_
      refine VO.val rfl rfl (OpV.pickT rfl rfl rfl rfl rfl) ?_
      refine VO.mv rfl rfl rfl rfl ?_
      refine VO.opY rfl rfl rfl rfl rfl ?_
      refine OpE.call rfl hB rfl Tryz.call30 rfl (SpecN.spec (rf_paneled)) ?_
      rintro _ rfl
      refine VO.val rfl rfl (OpV.pickT rfl rfl rfl rfl rfl) ?_
      refine VO.ma rfl rfl rfl rfl ?_
      refine VO.nil ?_
      refine VC.ret ?_
      exact And.intro rfl rfl
    ·have h1 := h1b
     try simp only [qqT, qqF, qqN, qqM, qqL, qqE] at h1
     refine VC.skip ?_
     refine VC.seq ?_
     refine VC.le ⟨[(4, _), (5, _), (6, _), (8, _), (9, _), (10, _), (11, _), (12, _), (13, _), (14, _), (15, _), (16, _), (18, _), (19, _), (20, _)], [.box _ ⟨[_, _, _, _], _, _⟩, .box _ ⟨[_, _, _], _, _⟩, .box _ ⟨[_, _, _, _, _], _, _⟩, .box _ ⟨[_, _, _, _, _], _, _⟩], 0 + 50 + 40 + 1 + 1⟩ (Le.mk hB [0, 1, 2, 3] ⟨rfl, rfl, rfl, rfl, rfl, rfl, rfl, rfl, rfl, rfl, rfl, rfl, rfl, rfl, rfl, trivial⟩ rfl rfl (Nat.le_refl _)) ?_
     refine VC.region ?_
     refine VO.val rfl rfl (OpV.build (pls := #[(0, 1), (1, 1), (2, 1), (3, 1), (4, 1)]) rfl Tryz.zeroValue41 Tryz.underlying41 (fun w => by kernel_rfl) rfl rfl) ?_
     refine VO.op rfl (OpE.alloc rfl hB rfl Tryz.zeroValue41 rfl ?_)
     intro g21
     refine VO.op rfl (OpE.store (i := 4) rfl hB rfl Tryz.sizeOf41 rfl rfl rfl rfl rfl rfl (Nle rfl) trivial ?_)
     refine VO.nil ?_
     refine VC.seq ?_
     refine VC.sr ?_
     refine VO.mv rfl rfl rfl rfl ?_
     refine VO.val rfl rfl (OpV.eql rfl rfl rfl) ?_
     refine VO.nil ?_
     refine VC.cond rfl (fun h2b => ?_) (fun h2b => ?_)
     ·have h2 := h2b
      try simp only [qqT, qqF, qqN, qqM, qqL, qqE] at h2
      exact VC.absurd (by omega)
     ·have h2 := h2b
      try simp only [qqT, qqF, qqN, qqM, qqL, qqE] at h2
      refine VC.skip ?_
      refine VC.seq ?_
      refine VC.le ⟨[(4, _), (5, _), (8, _), (9, _), (10, _), (11, _), (12, _), (13, _), (14, _), (15, _), (18, _), (19, _), (20, _), (21, _)], [.box _ ⟨[_, _, _, _], _, _⟩, .box _ ⟨[_, _, _], _, _⟩, .box _ ⟨[_, _, _, _, _], _, _⟩, .box _ ⟨[_, _, _, _, _], _, _⟩, .box _ ⟨[_, _, _, _, _], _, _⟩], 0 + 50 + 40 + 1 + 1⟩ (Le.mk hB [0, 1, 2, 3, 4] ⟨rfl, rfl, rfl, rfl, rfl, rfl, rfl, rfl, rfl, rfl, rfl, rfl, rfl, rfl, trivial⟩ rfl rfl (Nat.le_refl _)) ?_
      refine VC.region ?_
      refine VO.val rfl rfl (OpV.loadK_own (i := 0) rfl hB Tryz.isAgg28 Tryz.sizeOf28 rfl rfl rfl (fun h => h)) ?_
      refine VO.op rfl (OpE.call rfl hB rfl Tryz.call26 rfl (SpecN.spec (hCP)) ?_)
      rintro _ rfl
      refine VO.mv rfl rfl rfl rfl ?_
      refine VO.val rfl rfl (OpV.eql rfl rfl rfl) ?_
      refine VO.le _ (Le.boolT (t := 103) rfl (decide_eq_true rfl)) ?_
      refine VO.mv rfl rfl rfl rfl ?_
      refine VO.opY rfl rfl rfl rfl rfl ?_
      refine OpE.val (W := NoB) (OpV.loadK_own (i := 0) rfl hB Tryz.isAgg28 Tryz.sizeOf28 rfl rfl rfl (fun h => h)) rfl ?_
      refine VO.opY rfl rfl rfl rfl rfl ?_
      refine OpE.val (W := NoB) (OpV.loadK_own (i := 1) rfl hB Tryz.isAgg32 Tryz.sizeOf32 rfl rfl rfl (fun h => h)) rfl ?_
      refine VO.opY rfl rfl rfl rfl rfl ?_
      refine OpE.call rfl hB rfl Tryz.call27 rfl (SpecN.spec (hCN)) ?_
      rintro _ rfl
      refine VO.opY rfl rfl rfl rfl rfl ?_
      refine OpE.val (W := NoB) (OpV.move (.inl rfl) rfl) rfl ?_
      refine VO.opY rfl rfl rfl rfl rfl ?_
      refine OpE.val (W := NoB) (OpV.eql rfl rfl rfl) rfl ?_
      refine VO.le _ (Le.boolT (t := 109) rfl (decide_eq_true rfl)) ?_
      refine VO.val rfl rfl (OpV.pickT rfl rfl rfl rfl rfl) ?_
      refine VO.mv rfl rfl rfl rfl ?_
      refine VO.opY rfl rfl rfl rfl rfl ?_
      refine OpE.val (W := NoB) (OpV.move (.inl rfl) rfl) rfl ?_
      refine VO.opY rfl rfl rfl rfl rfl ?_
      refine OpE.val (W := NoB) (OpV.move (.inl rfl) rfl) rfl ?_
      refine VO.opY rfl rfl rfl rfl rfl ?_
      refine OpE.val (W := NoB) (OpV.eql rfl rfl rfl) rfl ?_
      refine VO.le _ (Le.boolT (t := 114) rfl (decide_eq_true rfl)) ?_
      refine VO.val rfl rfl (OpV.pickT rfl rfl rfl rfl rfl) ?_
      refine VO.mv rfl rfl rfl rfl ?_
      refine VO.opY rfl rfl rfl rfl rfl ?_
      refine OpE.val (W := NoB) (OpV.move (.inl rfl) rfl) rfl ?_
      refine VO.opY rfl rfl rfl rfl rfl ?_
      refine OpE.val (W := NoB) (OpV.move (.inl rfl) rfl) rfl ?_
      refine VO.opY rfl rfl rfl rfl rfl ?_
      refine OpE.call rfl hB rfl Tryz.call28 rfl (SpecN.spec (slices_Equal_need hl2 (by first | exact hl2 | decide))) ?_
      rintro _ rfl
      refine VO.le _ (Le.boolT (t := 119) rfl (by first | exact eqLs_self eqNd_self _ | (rw [hz1 h0]; rfl))) ?_
      refine VO.val rfl rfl (OpV.pickT rfl rfl rfl rfl rfl) ?_
      refine VO.mv rfl rfl rfl rfl ?_
      refine VO.opY rfl rfl rfl rfl rfl ?_
      refine OpE.val (W := NoB) (OpV.move (.inl rfl) rfl) rfl ?_
      refine VO.opY rfl rfl rfl rfl rfl ?_
      refine OpE.val (W := NoB) (OpV.move (.inl rfl) rfl) rfl ?_
      refine VO.opY rfl rfl rfl rfl rfl ?_
      refine OpE.val (W := NoB) (OpV.eql rfl rfl rfl) rfl ?_
      refine VO.le _ (Le.boolT (t := 124) rfl (decide_eq_true rfl)) ?_
      refine VO.val rfl rfl (OpV.pickT rfl rfl rfl rfl rfl) ?_
      refine VO.mv rfl rfl rfl rfl ?_
      refine VO.opY rfl rfl rfl rfl rfl ?_
      refine OpE.val (W := NoB) (OpV.loadK_own (i := 2) rfl hB Tryz.isAgg41 Tryz.sizeOf41 rfl rfl rfl (fun h => h)) rfl ?_
      refine VO.opY rfl rfl rfl rfl rfl ?_
      refine OpE.val (W := NoB) (OpV.loadK_own (i := 4) rfl hB Tryz.isAgg41 Tryz.sizeOf41 rfl rfl rfl (fun h => h)) rfl ?_
      refine VO.opY rfl rfl rfl rfl rfl ?_
      refine OpE.val (W := NoB) (OpV.aeql rfl Tryz.underlying41 (by kernel_rfl) (by kernel_rfl) rfl rfl (EqFs.int Tryz.underlying3 Tryz.isAgg3 rfl (by decide) (EqFs.str Tryz.underlying9 Tryz.isAgg9 rfl (by decide) (EqFs.int Tryz.underlying3 Tryz.isAgg3 rfl (by decide) (EqFs.int Tryz.underlying3 Tryz.isAgg3 rfl (by decide) (EqFs.int Tryz.underlying3 Tryz.isAgg3 rfl (by decide) (EqFs.nil _))))))) rfl ?_
      refine VO.le _ (Le.boolT (t := 129) rfl (by first | exact eqSp_self _ | (rw [hz3 h2]; exact eqSp_self zeroSp))) ?_
      refine VO.val rfl rfl (OpV.pickT rfl rfl rfl rfl rfl) ?_
      refine VO.mv rfl rfl rfl rfl ?_
      refine VO.opY rfl rfl rfl rfl rfl ?_
      refine OpE.val (W := NoB) (OpV.move (.inl rfl) rfl) rfl ?_
      refine VO.opY rfl rfl rfl rfl rfl ?_
      refine OpE.val (W := NoB) (OpV.move (.inl rfl) rfl) rfl ?_
      refine VO.opY rfl rfl rfl rfl rfl ?_
      refine OpE.val (W := NoB) (OpV.eql rfl rfl rfl) rfl ?_
      refine VO.le _ (Le.boolT (t := 134) rfl (decide_eq_true rfl)) ?_
      refine VO.val rfl rfl (OpV.pickT rfl rfl rfl rfl rfl) ?_
      refine VO.mv rfl rfl rfl rfl ?_
      refine VO.opY rfl rfl rfl rfl rfl ?_
      refine OpE.val (W := NoB) (OpV.move (.inl rfl) rfl) rfl ?_
      refine VO.opY rfl rfl rfl rfl rfl ?_
      refine OpE.val (W := NoB) (OpV.move (.inl rfl) rfl) rfl ?_
      refine VO.opY rfl rfl rfl rfl rfl ?_
      refine OpE.call rfl hB rfl Tryz.call29 rfl (SpecN.spec (slices_Equal_spot hl3 (by first | exact hl3 | decide))) ?_
      rintro _ rfl
      refine VO.le _ (Le.boolT (t := 139) rfl (by first | exact eqLs_self eqSp_self _ | (rw [hz2 h1]; rfl))) ?_
      refine VO.val rfl rfl (OpV.pickT rfl rfl rfl rfl rfl) ?_
      refine VO.mv rfl rfl rfl rfl ?_
      refine VO.opY rfl rfl rfl rfl rfl ?_
      refine OpE.call rfl hB rfl Tryz.call30 rfl (SpecN.spec (rf_paneled)) ?_
      rintro _ rfl
      refine VO.val rfl rfl (OpV.pickT rfl rfl rfl rfl rfl) ?_
      refine VO.ma rfl rfl rfl rfl ?_
      refine VO.nil ?_
      refine VC.ret ?_
      exact And.intro rfl rfl
   ·have h0 := h0b
    try simp only [qqT, qqF, qqN, qqM, qqL, qqE] at h0
    refine VC.skip ?_
    refine VC.seq ?_
    refine VC.le ⟨[(4, _), (5, _), (6, _), (8, _), (9, _), (10, _), (11, _), (12, _), (13, _), (14, _), (15, _), (16, _), (18, _), (19, _)], [.box _ ⟨[_, _, _, _], _, _⟩, .box _ ⟨[_, _, _], _, _⟩, .box _ ⟨[_, _, _, _, _], _, _⟩, .box _ ⟨[_, _, _, _, _], _, _⟩], 0 + 50 + 40 + 1 + 1⟩ (Le.mk hB [0, 1, 2, 3] ⟨rfl, rfl, rfl, rfl, rfl, rfl, rfl, rfl, rfl, rfl, rfl, rfl, rfl, rfl, trivial⟩ rfl rfl (Nat.le_refl _)) ?_
    refine VC.region ?_
    refine VO.ma rfl rfl rfl rfl ?_
    first | refine VO.le _ (Le.recast (t := 20) (y := avL ([] : List SpotS)) rfl (fun w Z u h => by rw [h.eq_v]; exact .nil _ _)) ?_ | skip
    refine VO.nil ?_
    refine VC.seq ?_
    refine VC.sr ?_
    refine VO.mv rfl rfl rfl rfl ?_
    refine VO.val rfl rfl (OpV.eql rfl rfl rfl) ?_
    refine VO.nil ?_
    refine VC.cond rfl (fun h1b => ?_) (fun h1b => ?_)
    ·have h1 := h1b
     try simp only [qqT, qqF, qqN, qqM, qqL, qqE] at h1
     exact VC.absurd (by omega)
    ·have h1 := h1b
     try simp only [qqT, qqF, qqN, qqM, qqL, qqE] at h1
     refine VC.skip ?_
     refine VC.seq ?_
     refine VC.le ⟨[(4, _), (5, _), (6, _), (8, _), (9, _), (10, _), (11, _), (12, _), (13, _), (14, _), (15, _), (16, _), (18, _), (19, _), (20, _)], [.box _ ⟨[_, _, _, _], _, _⟩, .box _ ⟨[_, _, _], _, _⟩, .box _ ⟨[_, _, _, _, _], _, _⟩, .box _ ⟨[_, _, _, _, _], _, _⟩], 0 + 50 + 40 + 1 + 1⟩ (Le.mk hB [0, 1, 2, 3] ⟨rfl, rfl, rfl, rfl, rfl, rfl, rfl, rfl, rfl, rfl, rfl, rfl, rfl, rfl, rfl, trivial⟩ rfl rfl (Nat.le_refl _)) ?_
     refine VC.region ?_
     refine VO.val rfl rfl (OpV.build (pls := #[(0, 1), (1, 1), (2, 1), (3, 1), (4, 1)]) rfl Tryz.zeroValue41 Tryz.underlying41 (fun w => by kernel_rfl) rfl rfl) ?_
     refine VO.op rfl (OpE.alloc rfl hB rfl Tryz.zeroValue41 rfl ?_)
     intro g21
     refine VO.op rfl (OpE.store (i := 4) rfl hB rfl Tryz.sizeOf41 rfl rfl rfl rfl rfl rfl (Nle rfl) trivial ?_)
     refine VO.nil ?_
     refine VC.seq ?_
     refine VC.sr ?_
     refine VO.mv rfl rfl rfl rfl ?_
     refine VO.val rfl rfl (OpV.eql rfl rfl rfl) ?_
     refine VO.nil ?_
     refine VC.cond rfl (fun h2b => ?_) (fun h2b => ?_)
     ·have h2 := h2b
      try simp only [qqT, qqF, qqN, qqM, qqL, qqE] at h2
      exact VC.absurd (by omega)
     ·have h2 := h2b
      try simp only [qqT, qqF, qqN, qqM, qqL, qqE] at h2
      refine VC.skip ?_
      refine VC.seq ?_
      refine VC.le ⟨[(4, _), (5, _), (8, _), (9, _), (10, _), (11, _), (12, _), (13, _), (14, _), (15, _), (18, _), (19, _), (20, _), (21, _)], [.box _ ⟨[_, _, _, _], _, _⟩, .box _ ⟨[_, _, _], _, _⟩, .box _ ⟨[_, _, _, _, _], _, _⟩, .box _ ⟨[_, _, _, _, _], _, _⟩, .box _ ⟨[_, _, _, _, _], _, _⟩], 0 + 50 + 40 + 1 + 1⟩ (Le.mk hB [0, 1, 2, 3, 4] ⟨rfl, rfl, rfl, rfl, rfl, rfl, rfl, rfl, rfl, rfl, rfl, rfl, rfl, rfl, trivial⟩ rfl rfl (Nat.le_refl _)) ?_
      refine VC.region ?_
      refine VO.val rfl rfl (OpV.loadK_own (i := 0) rfl hB Tryz.isAgg28 Tryz.sizeOf28 rfl rfl rfl (fun h => h)) ?_
      refine VO.op rfl (OpE.call rfl hB rfl Tryz.call26 rfl (SpecN.spec (hCP)) ?_)
      rintro _ rfl
      refine VO.mv rfl rfl rfl rfl ?_
      refine VO.val rfl rfl (OpV.eql rfl rfl rfl) ?_
      refine VO.le _ (Le.boolT (t := 103) rfl (decide_eq_true rfl)) ?_
      refine VO.mv rfl rfl rfl rfl ?_
      refine VO.opY rfl rfl rfl rfl rfl ?_
      refine OpE.val (W := NoB) (OpV.loadK_own (i := 0) rfl hB Tryz.isAgg28 Tryz.sizeOf28 rfl rfl rfl (fun h => h)) rfl ?_
      refine VO.opY rfl rfl rfl rfl rfl ?_
      refine OpE.val (W := NoB) (OpV.loadK_own (i := 1) rfl hB Tryz.isAgg32 Tryz.sizeOf32 rfl rfl rfl (fun h => h)) rfl ?_
      refine VO.opY rfl rfl rfl rfl rfl ?_
      refine OpE.call rfl hB rfl Tryz.call27 rfl (SpecN.spec (hCN)) ?_
      rintro _ rfl
      refine VO.opY rfl rfl rfl rfl rfl ?_
      refine OpE.val (W := NoB) (OpV.move (.inl rfl) rfl) rfl ?_
      refine VO.opY rfl rfl rfl rfl rfl ?_
      refine OpE.val (W := NoB) (OpV.eql rfl rfl rfl) rfl ?_
      refine VO.le _ (Le.boolT (t := 109) rfl (decide_eq_true rfl)) ?_
      refine VO.val rfl rfl (OpV.pickT rfl rfl rfl rfl rfl) ?_
      refine VO.mv rfl rfl rfl rfl ?_
      refine VO.opY rfl rfl rfl rfl rfl ?_
      refine OpE.val (W := NoB) (OpV.move (.inl rfl) rfl) rfl ?_
      refine VO.opY rfl rfl rfl rfl rfl ?_
      refine OpE.val (W := NoB) (OpV.move (.inl rfl) rfl) rfl ?_
      refine VO.opY rfl rfl rfl rfl rfl ?_
      refine OpE.val (W := NoB) (OpV.eql rfl rfl rfl) rfl ?_
      refine VO.le _ (Le.boolT (t := 114) rfl (decide_eq_true rfl)) ?_
      refine VO.val rfl rfl (OpV.pickT rfl rfl rfl rfl rfl) ?_
      refine VO.mv rfl rfl rfl rfl ?_
      refine VO.opY rfl rfl rfl rfl rfl ?_
      refine OpE.val (W := NoB) (OpV.move (.inl rfl) rfl) rfl ?_
      refine VO.opY rfl rfl rfl rfl rfl ?_
      refine OpE.val (W := NoB) (OpV.move (.inl rfl) rfl) rfl ?_
      refine VO.opY rfl rfl rfl rfl rfl ?_
      refine OpE.call rfl hB rfl Tryz.call28 rfl (SpecN.spec (slices_Equal_need hl2 (by first | exact hl2 | decide))) ?_
      rintro _ rfl
      refine VO.le _ (Le.boolT (t := 119) rfl (by first | exact eqLs_self eqNd_self _ | (rw [hz1 h0]; rfl))) ?_
      refine VO.val rfl rfl (OpV.pickT rfl rfl rfl rfl rfl) ?_
      refine VO.mv rfl rfl rfl rfl ?_
      refine VO.opY rfl rfl rfl rfl rfl ?_
      refine OpE.val (W := NoB) (OpV.move (.inl rfl) rfl) rfl ?_
      refine VO.opY rfl rfl rfl rfl rfl ?_
      refine OpE.val (W := NoB) (OpV.move (.inl rfl) rfl) rfl ?_
      refine VO.opY rfl rfl rfl rfl rfl ?_
      refine OpE.val (W := NoB) (OpV.eql rfl rfl rfl) rfl ?_
      refine VO.le _ (Le.boolT (t := 124) rfl (decide_eq_true rfl)) ?_
      refine VO.val rfl rfl (OpV.pickT rfl rfl rfl rfl rfl) ?_
      refine VO.mv rfl rfl rfl rfl ?_
      refine VO.opY rfl rfl rfl rfl rfl ?_
      refine OpE.val (W := NoB) (OpV.loadK_own (i := 2) rfl hB Tryz.isAgg41 Tryz.sizeOf41 rfl rfl rfl (fun h => h)) rfl ?_
      refine VO.opY rfl rfl rfl rfl rfl ?_
      refine OpE.val (W := NoB) (OpV.loadK_own (i := 4) rfl hB Tryz.isAgg41 Tryz.sizeOf41 rfl rfl rfl (fun h => h)) rfl ?_
      refine VO.opY rfl rfl rfl rfl rfl ?_
      refine OpE.val (W := NoB) (OpV.aeql rfl Tryz.underlying41 (by kernel_rfl) (by kernel_rfl) rfl rfl (EqFs.int Tryz.underlying3 Tryz.isAgg3 rfl (by decide) (EqFs.str Tryz.underlying9 Tryz.isAgg9 rfl (by decide) (EqFs.int Tryz.underlying3 Tryz.isAgg3 rfl (by decide) (EqFs.int Tryz.underlying3 Tryz.isAgg3 rfl (by decide) (EqFs.int Tryz.underlying3 Tryz.isAgg3 rfl (by decide) (EqFs.nil _))))))) rfl ?_
      refine VO.le _ (Le.boolT (t := 129) rfl (by first | exact eqSp_self _ | (rw [hz3 h2]; exact eqSp_self zeroSp))) ?_
      refine VO.val rfl rfl (OpV.pickT rfl rfl rfl rfl rfl) ?_
      refine VO.mv rfl rfl rfl rfl ?_
      refine VO.opY rfl rfl rfl rfl rfl ?_
      refine OpE.val (W := NoB) (OpV.move (.inl rfl) rfl) rfl ?_
      refine VO.opY rfl rfl rfl rfl rfl ?_
      refine OpE.val (W := NoB) (OpV.move (.inl rfl) rfl) rfl ?_
      refine VO.opY rfl rfl rfl rfl rfl ?_
      refine OpE.val (W := NoB) (OpV.eql rfl rfl rfl) rfl ?_
      refine VO.le _ (Le.boolT (t := 134) rfl (decide_eq_true rfl)) ?_
      refine VO.val rfl rfl (OpV.pickT rfl rfl rfl rfl rfl) ?_
      refine VO.mv rfl rfl rfl rfl ?_
      refine VO.opY rfl rfl rfl rfl rfl ?_
      refine OpE.val (W := NoB) (OpV.move (.inl rfl) rfl) rfl ?_
      refine VO.opY rfl rfl rfl rfl rfl ?_
      refine OpE.val (W := NoB) (OpV.move (.inl rfl) rfl) rfl ?_
      refine VO.opY rfl rfl rfl rfl rfl ?_
      refine OpE.call rfl hB rfl Tryz.call29 rfl (SpecN.spec (slices_Equal_spot hl3 (by first | exact hl3 | decide))) ?_
      rintro _ rfl
      refine VO.le _ (Le.boolT (t := 139) rfl (by first | exact eqLs_self eqSp_self _ | (rw [hz2 h1]; rfl))) ?_
      refine VO.val rfl rfl (OpV.pickT rfl rfl rfl rfl rfl) ?_
      refine VO.mv rfl rfl rfl rfl ?_
      refine VO.opY rfl rfl rfl rfl rfl ?_
      refine OpE.call rfl hB rfl Tryz.call30 rfl (SpecN.spec (rf_paneled)) ?_
      rintro _ rfl
      refine VO.val rfl rfl (OpV.pickT rfl rfl rfl rfl rfl) ?_
      refine VO.ma rfl rfl rfl rfl ?_
      refine VO.nil ?_
      refine VC.ret ?_
      exact And.intro rfl rfl
  ·replace aK2b : _ = true := aK2b
   have aK2 := aK2b
   try simp only [qqT, qqF, qqN, qqM, qqL, qqE] at aK2
   refine VO.opX rfl rfl rfl rfl aK2b ?_
   refine VO.val rfl rfl (OpV.pickT rfl rfl rfl rfl aK2b) ?_
   refine VO.op rfl (OpE.call rfl hB rfl Tryz.call22 rfl (SpecN.spec (rf_when)) ?_)
   rintro _ rfl
   obtain ⟨w8, hw8⟩ : ∃ z, errsF [e2, z] = e3 ∧ ∀ W0 Z u, Rep W0 Z (avI (whenF _ 8)) u → Rep W0 Z (avI z) u := ⟨_, hE _ (by first | exact or3a (by assumption) | exact or3b (by assumption) | exact or3f (by assumption) (by assumption) rfl | (rw [show decide (i < 0) = false by assumption, show decide ((n.slots.length : Int) ≤ i) = false by assumption])), fun _ _ _ h => h⟩
   refine VO.le _ (Le.recast (t := 80) (y := avI w8) rfl (fun w Z u h => hw8.2 _ _ _ h)) ?_
   refine VO.op rfl (OpE.buildSlice (zc := #[.int .i64 0, .int .i64 0]) rfl hB rfl Tryz.underlying139 Tryz.sizeOf37 Tryz.zeroValue37 (by decide) (by decide) (by kernel_rfl) rfl rfl ?_)
   refine VO.le _ (Le.lits (t := 81) (xs := [e2, w8]) rfl rfl) ?_
   refine VO.op rfl (OpE.call rfl hB rfl Tryz.call21 rfl (SpecN.spec (rf_errs (xs := [e2, w8]) (by simp))) ?_)
   rintro _ rfl
   refine VO.le _ (Le.recast (t := 82) (y := avI e3) rfl (fun w Z u h => by rw [← hw8.1]; exact h)) ?_
   refine VO.ma rfl rfl rfl rfl ?_
   refine VO.nil ?_
   refine VC.seq ?_
   refine VC.le ⟨[(4, _), (5, _), (6, _), (8, _), (9, _), (10, _), (11, _), (12, _), (13, _), (14, _), (15, _), (16, _), (18, _)], [.box _ ⟨[_, _, _, _], _, _⟩, .box _ ⟨[_, _, _], _, _⟩, .box _ ⟨[_, _, _, _, _], _, _⟩, .box _ ⟨[_, _, _, _, _], _, _⟩], 0 + 50 + 40 + 1 + 1⟩ (Le.mk hB [0, 1, 2, 3] ⟨rfl, rfl, rfl, rfl, rfl, rfl, rfl, rfl, rfl, rfl, rfl, rfl, rfl, trivial⟩ rfl rfl (Nat.le_refl _)) ?_
   refine VC.region ?_
   refine VO.ma rfl rfl rfl rfl ?_
   first | refine VO.le _ (Le.recast (t := 19) (y := avL ([] : List NeedS)) rfl (fun w Z u h => by rw [h.eq_v]; exact .nil _ _)) ?_ | skip
   refine VO.nil ?_
   refine VC.seq ?_
   refine VC.sr ?_
   refine VO.mv rfl rfl rfl rfl ?_
   refine VO.val rfl rfl (OpV.eql rfl rfl rfl) ?_
   refine VO.nil ?_
   refine VC.cond rfl (fun h0b => ?_) (fun h0b => ?_)
   ·have h0 := h0b
    try simp only [qqT, qqF, qqN, qqM, qqL, qqE] at h0
    refine VC.region ?_
    refine VO.val rfl rfl (OpV.loadK_own (i := 0) rfl hB Tryz.isAgg28 Tryz.sizeOf28 rfl rfl rfl (fun h => h)) ?_
    refine VO.op rfl (OpE.call rfl hB rfl Tryz.call23 rfl (hR1 h0) ?_)
    rintro _ rfl
    refine VO.ma rfl rfl rfl rfl ?_
    first | refine VO.le _ (Le.recast (t := 19) (y := avL ([] : List NeedS)) rfl (fun w Z u h => by rw [h.eq_v]; exact .nil _ _)) ?_ | skip
    refine VO.nil ?_
    refine VC.seq ?_
    refine VC.le ⟨[(4, _), (5, _), (6, _), (8, _), (9, _), (10, _), (11, _), (12, _), (13, _), (14, _), (15, _), (16, _), (18, _), (19, _)], [.box _ ⟨[_, _, _, _], _, _⟩, .box _ ⟨[_, _, _], _, _⟩, .box _ ⟨[_, _, _, _, _], _, _⟩, .box _ ⟨[_, _, _, _, _], _, _⟩], 0 + 50 + 40 + 1 + 1⟩ (Le.mk hB [0, 1, 2, 3] ⟨rfl, rfl, rfl, rfl, rfl, rfl, rfl, rfl, rfl, rfl, rfl, rfl, rfl, rfl, trivial⟩ rfl rfl (Nat.le_refl _)) ?_
    refine VC.region ?_
    refine VO.ma rfl rfl rfl rfl ?_
    first | refine VO.le _ (Le.recast (t := 20) (y := avL ([] : List SpotS)) rfl (fun w Z u h => by rw [h.eq_v]; exact .nil _ _)) ?_ | skip
    refine VO.nil ?_
    refine VC.seq ?_
    refine VC.sr ?_
    refine VO.mv rfl rfl rfl rfl ?_
    refine VO.val rfl rfl (OpV.eql rfl rfl rfl) ?_
    refine VO.nil ?_
    refine VC.cond rfl (fun h1b => ?_) (fun h1b => ?_)
    ·have h1 := h1b
     try simp only [qqT, qqF, qqN, qqM, qqL, qqE] at h1
     refine VC.region ?_
     refine VO.val rfl rfl (OpV.loadK_own (i := 0) rfl hB Tryz.isAgg28 Tryz.sizeOf28 rfl rfl rfl (fun h => h)) ?_
     refine VO.val rfl rfl (OpV.loadK_own (i := 1) rfl hB Tryz.isAgg32 Tryz.sizeOf32 rfl rfl rfl (fun h => h)) ?_
     refine VO.op rfl (OpE.call rfl hB rfl Tryz.call24 rfl (SpecN.spec (hR2 h1)) ?_)
     rintro _ rfl
     refine VO.ma rfl rfl rfl rfl ?_
     first | refine VO.le _ (Le.recast (t := 20) (y := avL ([] : List SpotS)) rfl (fun w Z u h => by rw [h.eq_v]; exact .nil _ _)) ?_ | skip
     refine VO.nil ?_
     refine VC.seq ?_
     refine VC.le ⟨[(4, _), (5, _), (6, _), (8, _), (9, _), (10, _), (11, _), (12, _), (13, _), (14, _), (15, _), (16, _), (18, _), (19, _), (20, _)], [.box _ ⟨[_, _, _, _], _, _⟩, .box _ ⟨[_, _, _], _, _⟩, .box _ ⟨[_, _, _, _, _], _, _⟩, .box _ ⟨[_, _, _, _, _], _, _⟩], 0 + 50 + 40 + 1 + 1⟩ (Le.mk hB [0, 1, 2, 3] ⟨rfl, rfl, rfl, rfl, rfl, rfl, rfl, rfl, rfl, rfl, rfl, rfl, rfl, rfl, rfl, trivial⟩ rfl rfl (Nat.le_refl _)) ?_
     refine VC.region ?_
     refine VO.val rfl rfl (OpV.build (pls := #[(0, 1), (1, 1), (2, 1), (3, 1), (4, 1)]) rfl Tryz.zeroValue41 Tryz.underlying41 (fun w => by kernel_rfl) rfl rfl) ?_
     refine VO.op rfl (OpE.alloc rfl hB rfl Tryz.zeroValue41 rfl ?_)
     intro g21
     refine VO.op rfl (OpE.store (i := 4) rfl hB rfl Tryz.sizeOf41 rfl rfl rfl rfl rfl rfl (Nle rfl) trivial ?_)
     refine VO.nil ?_
     refine VC.seq ?_
     refine VC.sr ?_
     refine VO.mv rfl rfl rfl rfl ?_
     refine VO.val rfl rfl (OpV.eql rfl rfl rfl) ?_
     refine VO.nil ?_
     refine VC.cond rfl (fun h2b => ?_) (fun h2b => ?_)
     ·have h2 := h2b
      try simp only [qqT, qqF, qqN, qqM, qqL, qqE] at h2
      refine VC.region ?_
      refine VO.val rfl rfl (OpV.loadK_own (i := 0) rfl hB Tryz.isAgg28 Tryz.sizeOf28 rfl rfl rfl (fun h => h)) ?_
      refine VO.val rfl rfl (OpV.loadK_own (i := 1) rfl hB Tryz.isAgg32 Tryz.sizeOf32 rfl rfl rfl (fun h => h)) ?_
      refine VO.mv rfl rfl rfl rfl ?_
      refine VO.val rfl rfl (OpV.loadK_own (i := 3) rfl hB Tryz.isAgg50 Tryz.sizeOf50 rfl rfl rfl (fun h => h)) ?_
      refine VO.op rfl (OpE.call rfl hB rfl Tryz.call25 rfl (SpecN.spec (hR3 h2)) ?_)
      rintro _ rfl
      refine VO.op rfl (OpE.store (i := 4) rfl hB rfl Tryz.sizeOf41 rfl rfl rfl rfl rfl rfl (Nle rfl) trivial ?_)
      refine VO.nil ?_
      refine VC.seq ?_
      refine VC.le ⟨[(4, _), (5, _), (8, _), (9, _), (10, _), (11, _), (12, _), (13, _), (14, _), (15, _), (18, _), (19, _), (20, _), (21, _)], [.box _ ⟨[_, _, _, _], _, _⟩, .box _ ⟨[_, _, _], _, _⟩, .box _ ⟨[_, _, _, _, _], _, _⟩, .box _ ⟨[_, _, _, _, _], _, _⟩, .box _ ⟨[_, _, _, _, _], _, _⟩], 0 + 50 + 40 + 1 + 1⟩ (Le.mk hB [0, 1, 2, 3, 4] ⟨rfl, rfl, rfl, rfl, rfl, rfl, rfl, rfl, rfl, rfl, rfl, rfl, rfl, rfl, trivial⟩ rfl rfl (Nat.le_refl _)) ?_
      refine VC.region ?_
      refine VO.val rfl rfl (OpV.loadK_own (i := 0) rfl hB Tryz.isAgg28 Tryz.sizeOf28 rfl rfl rfl (fun h => h)) ?_
      refine VO.op rfl (OpE.call rfl hB rfl Tryz.call26 rfl (SpecN.spec (hCP)) ?_)
      rintro _ rfl
      refine VO.mv rfl rfl rfl rfl ?_
      refine VO.val rfl rfl (OpV.eql rfl rfl rfl) ?_
      refine VO.le _ (Le.boolT (t := 103) rfl (decide_eq_true rfl)) ?_
      refine VO.mv rfl rfl rfl rfl ?_
      refine VO.opY rfl rfl rfl rfl rfl ?_
      refine OpE.val (W := NoB) (OpV.loadK_own (i := 0) rfl hB Tryz.isAgg28 Tryz.sizeOf28 rfl rfl rfl (fun h => h)) rfl ?_
      refine VO.opY rfl rfl rfl rfl rfl ?_
      refine OpE.val (W := NoB) (OpV.loadK_own (i := 1) rfl hB Tryz.isAgg32 Tryz.sizeOf32 rfl rfl rfl (fun h => h)) rfl ?_
      refine VO.opY rfl rfl rfl rfl rfl ?_
      refine OpE.call rfl hB rfl Tryz.call27 rfl (SpecN.spec (hCN)) ?_
      rintro _ rfl
      refine VO.opY rfl rfl rfl rfl rfl ?_
      refine OpE.val (W := NoB) (OpV.move (.inl rfl) rfl) rfl ?_
      refine VO.opY rfl rfl rfl rfl rfl ?_
      refine OpE.val (W := NoB) (OpV.eql rfl rfl rfl) rfl ?_
      refine VO.le _ (Le.boolT (t := 109) rfl (decide_eq_true rfl)) ?_
      refine VO.val rfl rfl (OpV.pickT rfl rfl rfl rfl rfl) ?_
      refine VO.mv rfl rfl rfl rfl ?_
      refine VO.opY rfl rfl rfl rfl rfl ?_
      refine OpE.val (W := NoB) (OpV.move (.inl rfl) rfl) rfl ?_
      refine VO.opY rfl rfl rfl rfl rfl ?_
      refine OpE.val (W := NoB) (OpV.move (.inl rfl) rfl) rfl ?_
      refine VO.opY rfl rfl rfl rfl rfl ?_
      refine OpE.val (W := NoB) (OpV.eql rfl rfl rfl) rfl ?_
      refine VO.le _ (Le.boolT (t := 114) rfl (decide_eq_true rfl)) ?_
      refine VO.val rfl rfl (OpV.pickT rfl rfl rfl rfl rfl) ?_
      refine VO.mv rfl rfl rfl rfl ?_
      refine VO.opY rfl rfl rfl rfl rfl ?_
      refine OpE.val (W := NoB) (OpV.move (.inl rfl) rfl) rfl ?_
      refine VO.opY rfl rfl rfl rfl rfl ?_
      refine OpE.val (W := NoB) (OpV.move (.inl rfl) rfl) rfl ?_
      refine VO.opY rfl rfl rfl rfl rfl ?_
      refine OpE.call rfl hB rfl Tryz.call28 rfl (SpecN.spec (slices_Equal_need hl2 (by first | exact hl2 | decide))) ?_
      rintro _ rfl
      refine VO.le _ (Le.boolT (t := 119) rfl (by first | exact eqLs_self eqNd_self _ | (rw [hz1 h0]; rfl))) ?_
      refine VO.val rfl rfl (OpV.pickT rfl rfl rfl rfl rfl) ?_
      refine VO.mv rfl rfl rfl rfl ?_
      refine VO.opY rfl rfl rfl rfl rfl ?_
      refine OpE.val (W := NoB) (OpV.move (.inl rfl) rfl) rfl ?_
      refine VO.opY rfl rfl rfl rfl rfl ?_
      refine OpE.val (W := NoB) (OpV.move (.inl rfl) rfl) rfl ?_
      refine VO.opY rfl rfl rfl rfl rfl ?_
      refine OpE.val (W := NoB) (OpV.eql rfl rfl rfl) rfl ?_
      refine VO.le _ (Le.boolT (t := 124) rfl (decide_eq_true rfl)) ?_
      refine VO.val rfl rfl (OpV.pickT rfl rfl rfl rfl rfl) ?_
      refine VO.mv rfl rfl rfl rfl ?_
      refine VO.opY rfl rfl rfl rfl rfl ?_
      refine OpE.val (W := NoB) (OpV.loadK_own (i := 2) rfl hB Tryz.isAgg41 Tryz.sizeOf41 rfl rfl rfl (fun h => h)) rfl ?_
      refine VO.opY rfl rfl rfl rfl rfl ?_
      refine OpE.val (W := NoB) (OpV.loadK_own (i := 4) rfl hB Tryz.isAgg41 Tryz.sizeOf41 rfl rfl rfl (fun h => h)) rfl ?_
      refine VO.opY rfl rfl rfl rfl rfl ?_
      refine OpE.val (W := NoB) (OpV.aeql rfl Tryz.underlying41 (by kernel_rfl) (by kernel_rfl) rfl rfl (EqFs.int Tryz.underlying3 Tryz.isAgg3 rfl (by decide) (EqFs.str Tryz.underlying9 Tryz.isAgg9 rfl (by decide) (EqFs.int Tryz.underlying3 Tryz.isAgg3 rfl (by decide) (EqFs.int Tryz.underlying3 Tryz.isAgg3 rfl (by decide) (EqFs.int Tryz.underlying3 Tryz.isAgg3 rfl (by decide) (EqFs.nil _))))))) rfl ?_
      refine VO.le _ (Le.boolT (t := 129) rfl (by first | exact eqSp_self _ | (rw [hz3 h2]; exact eqSp_self zeroSp))) ?_
      refine VO.val rfl rfl (OpV.pickT rfl rfl rfl rfl rfl) ?_
      refine VO.mv rfl rfl rfl rfl ?_
      refine VO.opY rfl rfl rfl rfl rfl ?_
      refine OpE.val (W := NoB) (OpV.move (.inl rfl) rfl) rfl ?_
      refine VO.opY rfl rfl rfl rfl rfl ?_
      refine OpE.val (W := NoB) (OpV.move (.inl rfl) rfl) rfl ?_
      refine VO.opY rfl rfl rfl rfl rfl ?_
      refine OpE.val (W := NoB) (OpV.eql rfl rfl rfl) rfl ?_
      refine VO.le _ (Le.boolT (t := 134) rfl (decide_eq_true rfl)) ?_
      refine VO.val rfl rfl (OpV.pickT rfl rfl rfl rfl rfl) ?_
      refine VO.mv rfl rfl rfl rfl ?_
      refine VO.opY rfl rfl rfl rfl rfl ?_
      refine OpE.val (W := NoB) (OpV.move (.inl rfl) rfl) rfl ?_
      refine VO.opY rfl rfl rfl rfl rfl ?_
      refine OpE.val (W := NoB) (OpV.move (.inl rfl) rfl) rfl ?_
      refine VO.opY rfl rfl rfl rfl rfl ?_
      refine OpE.call rfl hB rfl Tryz.call29 rfl (SpecN.spec (slices_Equal_spot hl3 (by first | exact hl3 | decide))) ?_
      rintro _ rfl
      refine VO.le _ (Le.boolT (t := 139) rfl (by first | exact eqLs_self eqSp_self _ | (rw [hz2 h1]; rfl))) ?_
      refine VO.val rfl rfl (OpV.pickT rfl rfl rfl rfl rfl) ?_
      refine VO.mv rfl rfl rfl rfl ?_
      refine VO.opY rfl rfl rfl rfl rfl ?_
      refine OpE.call rfl hB rfl Tryz.call30 rfl (SpecN.spec (rf_paneled)) ?_
      rintro _ rfl
      refine VO.val rfl rfl (OpV.pickT rfl rfl rfl rfl rfl) ?_
      refine VO.ma rfl rfl rfl rfl ?_
      refine VO.nil ?_
      refine VC.ret ?_
      exact And.intro rfl rfl
     ·have h2 := h2b
      try simp only [qqT, qqF, qqN, qqM, qqL, qqE] at h2
      refine VC.skip ?_
      refine VC.seq ?_
      refine VC.le ⟨[(4, _), (5, _), (8, _), (9, _), (10, _), (11, _), (12, _), (13, _), (14, _), (15, _), (18, _), (19, _), (20, _), (21, _)], [.box _ ⟨[_, _, _, _], _, _⟩, .box _ ⟨[_, _, _], _, _⟩, .box _ ⟨[_, _, _, _, _], _, _⟩, .box _ ⟨[_, _, _, _, _], _, _⟩, .box _ ⟨[_, _, _, _, _], _, _⟩], 0 + 50 + 40 + 1 + 1⟩ (Le.mk hB [0, 1, 2, 3, 4] ⟨rfl, rfl, rfl, rfl, rfl, rfl, rfl, rfl, rfl, rfl, rfl, rfl, rfl, rfl, trivial⟩ rfl rfl (Nat.le_refl _)) ?_
      refine VC.region ?_
      refine VO.val rfl rfl (OpV.loadK_own (i := 0) rfl hB Tryz.isAgg28 Tryz.sizeOf28 rfl rfl rfl (fun h => h)) ?_
      refine VO.op rfl (OpE.call rfl hB rfl Tryz.call26 rfl (SpecN.spec (hCP)) ?_)
      rintro _ rfl
      refine VO.mv rfl rfl rfl rfl ?_
      refine VO.val rfl rfl (OpV.eql rfl rfl rfl) ?_
      refine VO.le _ (Le.boolT (t := 103) rfl (decide_eq_true rfl)) ?_
      refine VO.mv rfl rfl rfl rfl ?_
      refine VO.opY rfl rfl rfl rfl rfl ?_
      refine OpE.val (W := NoB) (OpV.loadK_own (i := 0) rfl hB Tryz.isAgg28 Tryz.sizeOf28 rfl rfl rfl (fun h => h)) rfl ?_
      refine VO.opY rfl rfl rfl rfl rfl ?_
      refine OpE.val (W := NoB) (OpV.loadK_own (i := 1) rfl hB Tryz.isAgg32 Tryz.sizeOf32 rfl rfl rfl (fun h => h)) rfl ?_
      refine VO.opY rfl rfl rfl rfl rfl ?_
      refine OpE.call rfl hB rfl Tryz.call27 rfl (SpecN.spec (hCN)) ?_
      rintro _ rfl
      refine VO.opY rfl rfl rfl rfl rfl ?_
      refine OpE.val (W := NoB) (OpV.move (.inl rfl) rfl) rfl ?_
      refine VO.opY rfl rfl rfl rfl rfl ?_
      refine OpE.val (W := NoB) (OpV.eql rfl rfl rfl) rfl ?_
      refine VO.le _ (Le.boolT (t := 109) rfl (decide_eq_true rfl)) ?_
      refine VO.val rfl rfl (OpV.pickT rfl rfl rfl rfl rfl) ?_
      refine VO.mv rfl rfl rfl rfl ?_
      refine VO.opY rfl rfl rfl rfl rfl ?_
      refine OpE.val (W := NoB) (OpV.move (.inl rfl) rfl) rfl ?_
      refine VO.opY rfl rfl rfl rfl rfl ?_
      refine OpE.val (W := NoB) (OpV.move (.inl rfl) rfl) rfl ?_
      refine VO.opY rfl rfl rfl rfl rfl ?_
      refine OpE.val (W := NoB) (OpV.eql rfl rfl rfl) rfl ?_
      refine VO.le _ (Le.boolT (t := 114) rfl (decide_eq_true rfl)) ?_
      refine VO.val rfl rfl (OpV.pickT rfl rfl rfl rfl rfl) ?_
      refine VO.mv rfl rfl rfl rfl ?_
      refine VO.opY rfl rfl rfl rfl rfl ?_
      refine OpE.val (W := NoB) (OpV.move (.inl rfl) rfl) rfl ?_
      refine VO.opY rfl rfl rfl rfl rfl ?_
      refine OpE.val (W := NoB) (OpV.move (.inl rfl) rfl) rfl ?_
      refine VO.opY rfl rfl rfl rfl rfl ?_
      refine OpE.call rfl hB rfl Tryz.call28 rfl (SpecN.spec (slices_Equal_need hl2 (by first | exact hl2 | decide))) ?_
      rintro _ rfl
      refine VO.le _ (Le.boolT (t := 119) rfl (by first | exact eqLs_self eqNd_self _ | (rw [hz1 h0]; rfl))) ?_
      refine VO.val rfl rfl (OpV.pickT rfl rfl rfl rfl rfl) ?_
      refine VO.mv rfl rfl rfl rfl ?_
      refine VO.opY rfl rfl rfl rfl rfl ?_
      refine OpE.val (W := NoB) (OpV.move (.inl rfl) rfl) rfl ?_
      refine VO.opY rfl rfl rfl rfl rfl ?_
      refine OpE.val (W := NoB) (OpV.move (.inl rfl) rfl) rfl ?_
      refine VO.opY rfl rfl rfl rfl rfl ?_
      refine OpE.val (W := NoB) (OpV.eql rfl rfl rfl) rfl ?_
      refine VO.le _ (Le.boolT (t := 124) rfl (decide_eq_true rfl)) ?_
      refine VO.val rfl rfl (OpV.pickT rfl rfl rfl rfl rfl) ?_
      refine VO.mv rfl rfl rfl rfl ?_
      refine VO.opY rfl rfl rfl rfl rfl ?_
      refine OpE.val (W := NoB) (OpV.loadK_own (i := 2) rfl hB Tryz.isAgg41 Tryz.sizeOf41 rfl rfl rfl (fun h => h)) rfl ?_
      refine VO.opY rfl rfl rfl rfl rfl ?_
      refine OpE.val (W := NoB) (OpV.loadK_own (i := 4) rfl hB Tryz.isAgg41 Tryz.sizeOf41 rfl rfl rfl (fun h => h)) rfl ?_
      refine VO.opY rfl rfl rfl rfl rfl ?_
      refine OpE.val (W := NoB) (OpV.aeql rfl Tryz.underlying41 (by kernel_rfl) (by kernel_rfl) rfl rfl (EqFs.int Tryz.underlying3 Tryz.isAgg3 rfl (by decide) (EqFs.str Tryz.underlying9 Tryz.isAgg9 rfl (by decide) (EqFs.int Tryz.underlying3 Tryz.isAgg3 rfl (by decide) (EqFs.int Tryz.underlying3 Tryz.isAgg3 rfl (by decide) (EqFs.int Tryz.underlying3 Tryz.isAgg3 rfl (by decide) (EqFs.nil _))))))) rfl ?_
      refine VO.le _ (Le.boolT (t := 129) rfl (by first | exact eqSp_self _ | (rw [hz3 h2]; exact eqSp_self zeroSp))) ?_
      refine VO.val rfl rfl (OpV.pickT rfl rfl rfl rfl rfl) ?_
      refine VO.mv rfl rfl rfl rfl ?_
      refine VO.opY rfl rfl rfl rfl rfl ?_
      refine OpE.val (W := NoB) (OpV.move (.inl rfl) rfl) rfl ?_
      refine VO.opY rfl rfl rfl rfl rfl ?_
      refine OpE.val (W := NoB) (OpV.move (.inl rfl) rfl) rfl ?_
      refine VO.opY rfl rfl rfl rfl rfl ?_
      refine OpE.val (W := NoB) (OpV.eql rfl rfl rfl) rfl ?_
      refine VO.le _ (Le.boolT (t := 134) rfl (decide_eq_true rfl)) ?_
      refine VO.val rfl rfl (OpV.pickT rfl rfl rfl rfl rfl) ?_
      refine VO.mv rfl rfl rfl rfl ?_
      refine VO.opY rfl rfl rfl rfl rfl ?_
      refine OpE.val (W := NoB) (OpV.move (.inl rfl) rfl) rfl ?_
      refine VO.opY rfl rfl rfl rfl rfl ?_
      refine OpE.val (W := NoB) (OpV.move (.inl rfl) rfl) rfl ?_
      refine VO.opY rfl rfl rfl rfl rfl ?_
      refine OpE.call rfl hB rfl Tryz.call29 rfl (SpecN.spec (slices_Equal_spot hl3 (by first | exact hl3 | decide))) ?_
      rintro _ rfl
      refine VO.le _ (Le.boolT (t := 139) rfl (by first | exact eqLs_self eqSp_self _ | (rw [hz2 h1]; rfl))) ?_
      refine VO.val rfl rfl (OpV.pickT rfl rfl rfl rfl rfl) ?_
      refine VO.mv rfl rfl rfl rfl ?_
      refine VO.opY rfl rfl rfl rfl rfl ?_
      refine OpE.call rfl hB rfl Tryz.call30 rfl (SpecN.spec (rf_paneled)) ?_
      rintro _ rfl
      refine VO.val rfl rfl (OpV.pickT rfl rfl rfl rfl rfl) ?_
      refine VO.ma rfl rfl rfl rfl ?_
      refine VO.nil ?_
      refine VC.ret ?_
      exact And.intro rfl rfl
    ·have h1 := h1b
     try simp only [qqT, qqF, qqN, qqM, qqL, qqE] at h1
     refine VC.skip ?_
     refine VC.seq ?_
     refine VC.le ⟨[(4, _), (5, _), (6, _), (8, _), (9, _), (10, _), (11, _), (12, _), (13, _), (14, _), (15, _), (16, _), (18, _), (19, _), (20, _)], [.box _ ⟨[_, _, _, _], _, _⟩, .box _ ⟨[_, _, _], _, _⟩, .box _ ⟨[_, _, _, _, _], _, _⟩, .box _ ⟨[_, _, _, _, _], _, _⟩], 0 + 50 + 40 + 1 + 1⟩ (Le.mk hB [0, 1, 2, 3] ⟨rfl, rfl, rfl, rfl, rfl, rfl, rfl, rfl, rfl, rfl, rfl, rfl, rfl, rfl, rfl, trivial⟩ rfl rfl (Nat.le_refl _)) ?_
     refine VC.region ?_
     refine VO.val rfl rfl (OpV.build (pls := #[(0, 1), (1, 1), (2, 1), (3, 1), (4, 1)]) rfl Tryz.zeroValue41 Tryz.underlying41 (fun w => by kernel_rfl) rfl rfl) ?_
     refine VO.op rfl (OpE.alloc rfl hB rfl Tryz.zeroValue41 rfl ?_)
     intro g21
     refine VO.op rfl (OpE.store (i := 4) rfl hB rfl Tryz.sizeOf41 rfl rfl rfl rfl rfl rfl (Nle rfl) trivial ?_)
     refine VO.nil ?_
     refine VC.seq ?_
     refine VC.sr ?_
     refine VO.mv rfl rfl rfl rfl ?_
     refine VO.val rfl rfl (OpV.eql rfl rfl rfl) ?_
     refine VO.nil ?_
     refine VC.cond rfl (fun h2b => ?_) (fun h2b => ?_)
     ·have h2 := h2b
      try simp only [qqT, qqF, qqN, qqM, qqL, qqE] at h2
      exact VC.absurd (by omega)
     ·have h2 := h2b
      try simp only [qqT, qqF, qqN, qqM, qqL, qqE] at h2
      refine VC.skip ?_
      refine VC.seq ?_
      refine VC.le ⟨[(4, _), (5, _), (8, _), (9, _), (10, _), (11, _), (12, _), (13, _), (14, _), (15, _), (18, _), (19, _), (20, _), (21, _)], [.box _ ⟨[_, _, _, _], _, _⟩, .box _ ⟨[_, _, _], _, _⟩, .box _ ⟨[_, _, _, _, _], _, _⟩, .box _ ⟨[_, _, _, _, _], _, _⟩, .box _ ⟨[_, _, _, _, _], _, _⟩], 0 + 50 + 40 + 1 + 1⟩ (Le.mk hB [0, 1, 2, 3, 4] ⟨rfl, rfl, rfl, rfl, rfl, rfl, rfl, rfl, rfl, rfl, rfl, rfl, rfl, rfl, trivial⟩ rfl rfl (Nat.le_refl _)) ?_
      refine VC.region ?_
      refine VO.val rfl rfl (OpV.loadK_own (i := 0) rfl hB Tryz.isAgg28 Tryz.sizeOf28 rfl rfl rfl (fun h => h)) ?_
      refine VO.op rfl (OpE.call rfl hB rfl Tryz.call26 rfl (SpecN.spec (hCP)) ?_)
      rintro _ rfl
      refine VO.mv rfl rfl rfl rfl ?_
      refine VO.val rfl rfl (OpV.eql rfl rfl rfl) ?_
      refine VO.le _ (Le.boolT (t := 103) rfl (decide_eq_true rfl)) ?_
      refine VO.mv rfl rfl rfl rfl ?_
      refine VO.opY rfl rfl rfl rfl rfl ?_
      refine OpE.val (W := NoB) (OpV.loadK_own (i := 0) rfl hB Tryz.isAgg28 Tryz.sizeOf28 rfl rfl rfl (fun h => h)) rfl ?_
      refine VO.opY rfl rfl rfl rfl rfl ?_
      refine OpE.val (W := NoB) (OpV.loadK_own (i := 1) rfl hB Tryz.isAgg32 Tryz.sizeOf32 rfl rfl rfl (fun h => h)) rfl ?_
      refine VO.opY rfl rfl rfl rfl rfl ?_
      refine OpE.call rfl hB rfl Tryz.call27 rfl (SpecN.spec (hCN)) ?_
      rintro _ rfl
      refine VO.opY rfl rfl rfl rfl rfl ?_
      refine OpE.val (W := NoB) (OpV.move (.inl rfl) rfl) rfl ?_
      refine VO.opY rfl rfl rfl rfl rfl ?_
      refine OpE.val (W := NoB) (OpV.eql rfl rfl rfl) rfl ?_
      refine VO.le _ (Le.boolT (t := 109) rfl (decide_eq_true rfl)) ?_
      refine VO.val rfl rfl (OpV.pickT rfl rfl rfl rfl rfl) ?_
      refine VO.mv rfl rfl rfl rfl ?_
      refine VO.opY rfl rfl rfl rfl rfl ?_
      refine OpE.val (W := NoB) (OpV.move (.inl rfl) rfl) rfl ?_
      refine VO.opY rfl rfl rfl rfl rfl ?_
      refine OpE.val (W := NoB) (OpV.move (.inl rfl) rfl) rfl ?_
      refine VO.opY rfl rfl rfl rfl rfl ?_
      refine OpE.val (W := NoB) (OpV.eql rfl rfl rfl) rfl ?_
      refine VO.le _ (Le.boolT (t := 114) rfl (decide_eq_true rfl)) ?_
      refine VO.val rfl rfl (OpV.pickT rfl rfl rfl rfl rfl) ?_
      refine VO.mv rfl rfl rfl rfl ?_
      refine VO.opY rfl rfl rfl rfl rfl ?_
      refine OpE.val (W := NoB) (OpV.move (.inl rfl) rfl) rfl ?_
      refine VO.opY rfl rfl rfl rfl rfl ?_
      refine OpE.val (W := NoB) (OpV.move (.inl rfl) rfl) rfl ?_
      refine VO.opY rfl rfl rfl rfl rfl ?_
      refine OpE.call rfl hB rfl Tryz.call28 rfl (SpecN.spec (slices_Equal_need hl2 (by first | exact hl2 | decide))) ?_
      rintro _ rfl
      refine VO.le _ (Le.boolT (t := 119) rfl (by first | exact eqLs_self eqNd_self _ | (rw [hz1 h0]; rfl))) ?_
      refine VO.val rfl rfl (OpV.pickT rfl rfl rfl rfl rfl) ?_
      refine VO.mv rfl rfl rfl rfl ?_
      refine VO.opY rfl rfl rfl rfl rfl ?_
      refine OpE.val (W := NoB) (OpV.move (.inl rfl) rfl) rfl ?_
      refine VO.opY rfl rfl rfl rfl rfl ?_
      refine OpE.val (W := NoB) (OpV.move (.inl rfl) rfl) rfl ?_
      refine VO.opY rfl rfl rfl rfl rfl ?_
      refine OpE.val (W := NoB) (OpV.eql rfl rfl rfl) rfl ?_
      refine VO.le _ (Le.boolT (t := 124) rfl (decide_eq_true rfl)) ?_
      refine VO.val rfl rfl (OpV.pickT rfl rfl rfl rfl rfl) ?_
      refine VO.mv rfl rfl rfl rfl ?_
      refine VO.opY rfl rfl rfl rfl rfl ?_
      refine OpE.val (W := NoB) (OpV.loadK_own (i := 2) rfl hB Tryz.isAgg41 Tryz.sizeOf41 rfl rfl rfl (fun h => h)) rfl ?_
      refine VO.opY rfl rfl rfl rfl rfl ?_
      refine OpE.val (W := NoB) (OpV.loadK_own (i := 4) rfl hB Tryz.isAgg41 Tryz.sizeOf41 rfl rfl rfl (fun h => h)) rfl ?_
      refine VO.opY rfl rfl rfl rfl rfl ?_
      refine OpE.val (W := NoB) (OpV.aeql rfl Tryz.underlying41 (by kernel_rfl) (by kernel_rfl) rfl rfl (EqFs.int Tryz.underlying3 Tryz.isAgg3 rfl (by decide) (EqFs.str Tryz.underlying9 Tryz.isAgg9 rfl (by decide) (EqFs.int Tryz.underlying3 Tryz.isAgg3 rfl (by decide) (EqFs.int Tryz.underlying3 Tryz.isAgg3 rfl (by decide) (EqFs.int Tryz.underlying3 Tryz.isAgg3 rfl (by decide) (EqFs.nil _))))))) rfl ?_
      refine VO.le _ (Le.boolT (t := 129) rfl (by first | exact eqSp_self _ | (rw [hz3 h2]; exact eqSp_self zeroSp))) ?_
      refine VO.val rfl rfl (OpV.pickT rfl rfl rfl rfl rfl) ?_
      refine VO.mv rfl rfl rfl rfl ?_
      refine VO.opY rfl rfl rfl rfl rfl ?_
      refine OpE.val (W := NoB) (OpV.move (.inl rfl) rfl) rfl ?_
      refine VO.opY rfl rfl rfl rfl rfl ?_
      refine OpE.val (W := NoB) (OpV.move (.inl rfl) rfl) rfl ?_
      refine VO.opY rfl rfl rfl rfl rfl ?_
      refine OpE.val (W := NoB) (OpV.eql rfl rfl rfl) rfl ?_
      refine VO.le _ (Le.boolT (t := 134) rfl (decide_eq_true rfl)) ?_
      refine VO.val rfl rfl (OpV.pickT rfl rfl rfl rfl rfl) ?_
      refine VO.mv rfl rfl rfl rfl ?_
      refine VO.opY rfl rfl rfl rfl rfl ?_
      refine OpE.val (W := NoB) (OpV.move (.inl rfl) rfl) rfl ?_
      refine VO.opY rfl rfl rfl rfl rfl ?_
      refine OpE.val (W := NoB) (OpV.move (.inl rfl) rfl) rfl ?_
      refine VO.opY rfl rfl rfl rfl rfl ?_
      refine OpE.call rfl hB rfl Tryz.call29 rfl (SpecN.spec (slices_Equal_spot hl3 (by first | exact hl3 | decide))) ?_
      rintro _ rfl
      refine VO.le _ (Le.boolT (t := 139) rfl (by first | exact eqLs_self eqSp_self _ | (rw [hz2 h1]; rfl))) ?_
      refine VO.val rfl rfl (OpV.pickT rfl rfl rfl rfl rfl) ?_
      refine VO.mv rfl rfl rfl rfl ?_
      refine VO.opY rfl rfl rfl rfl rfl ?_
      refine OpE.call rfl hB rfl Tryz.call30 rfl (SpecN.spec (rf_paneled)) ?_
      rintro _ rfl
      refine VO.val rfl rfl (OpV.pickT rfl rfl rfl rfl rfl) ?_
      refine VO.ma rfl rfl rfl rfl ?_
      refine VO.nil ?_
      refine VC.ret ?_
      exact And.intro rfl rfl
   ·have h0 := h0b
    try simp only [qqT, qqF, qqN, qqM, qqL, qqE] at h0
    refine VC.skip ?_
    refine VC.seq ?_
    refine VC.le ⟨[(4, _), (5, _), (6, _), (8, _), (9, _), (10, _), (11, _), (12, _), (13, _), (14, _), (15, _), (16, _), (18, _), (19, _)], [.box _ ⟨[_, _, _, _], _, _⟩, .box _ ⟨[_, _, _], _, _⟩, .box _ ⟨[_, _, _, _, _], _, _⟩, .box _ ⟨[_, _, _, _, _], _, _⟩], 0 + 50 + 40 + 1 + 1⟩ (Le.mk hB [0, 1, 2, 3] ⟨rfl, rfl, rfl, rfl, rfl, rfl, rfl, rfl, rfl, rfl, rfl, rfl, rfl, rfl, trivial⟩ rfl rfl (Nat.le_refl _)) ?_
    refine VC.region ?_
    refine VO.ma rfl rfl rfl rfl ?_
    first | refine VO.le _ (Le.recast (t := 20) (y := avL ([] : List SpotS)) rfl (fun w Z u h => by rw [h.eq_v]; exact .nil _ _)) ?_ | skip
    refine VO.nil ?_
    refine VC.seq ?_
    refine VC.sr ?_
    refine VO.mv rfl rfl rfl rfl ?_
    refine VO.val rfl rfl (OpV.eql rfl rfl rfl) ?_
    refine VO.nil ?_
    refine VC.cond rfl (fun h1b => ?_) (fun h1b => ?_)
    ·have h1 := h1b
     try simp only [qqT, qqF, qqN, qqM, qqL, qqE] at h1
     exact VC.absurd (by omega)
    ·have h1 := h1b
     try simp only [qqT, qqF, qqN, qqM, qqL, qqE] at h1
     refine VC.skip ?_
     refine VC.seq ?_
     refine VC.le ⟨[(4, _), (5, _), (6, _), (8, _), (9, _), (10, _), (11, _), (12, _), (13, _), (14, _), (15, _), (16, _), (18, _), (19, _), (20, _)], [.box _ ⟨[_, _, _, _], _, _⟩, .box _ ⟨[_, _, _], _, _⟩, .box _ ⟨[_, _, _, _, _], _, _⟩, .box _ ⟨[_, _, _, _, _], _, _⟩], 0 + 50 + 40 + 1 + 1⟩ (Le.mk hB [0, 1, 2, 3] ⟨rfl, rfl, rfl, rfl, rfl, rfl, rfl, rfl, rfl, rfl, rfl, rfl, rfl, rfl, rfl, trivial⟩ rfl rfl (Nat.le_refl _)) ?_
     refine VC.region ?_
     refine VO.val rfl rfl (OpV.build (pls := #[(0, 1), (1, 1), (2, 1), (3, 1), (4, 1)]) rfl Tryz.zeroValue41 Tryz.underlying41 (fun w => by kernel_rfl) rfl rfl) ?_
     refine VO.op rfl (OpE.alloc rfl hB rfl Tryz.zeroValue41 rfl ?_)
     intro g21
     refine VO.op rfl (OpE.store (i := 4) rfl hB rfl Tryz.sizeOf41 rfl rfl rfl rfl rfl rfl (Nle rfl) trivial ?_)
     refine VO.nil ?_
     refine VC.seq ?_
     refine VC.sr ?_
     refine VO.mv rfl rfl rfl rfl ?_
     refine VO.val rfl rfl (OpV.eql rfl rfl rfl) ?_
     refine VO.nil ?_
     refine VC.cond rfl (fun h2b => ?_) (fun h2b => ?_)
     ·have h2 := h2b
      try simp only [qqT, qqF, qqN, qqM, qqL, qqE] at h2
      exact VC.absurd (by omega)
     ·have h2 := h2b
      try simp only [qqT, qqF, qqN, qqM, qqL, qqE] at h2
      refine VC.skip ?_
      refine VC.seq ?_
      refine VC.le ⟨[(4, _), (5, _), (8, _), (9, _), (10, _), (11, _), (12, _), (13, _), (14, _), (15, _), (18, _), (19, _), (20, _), (21, _)], [.box _ ⟨[_, _, _, _], _, _⟩, .box _ ⟨[_, _, _], _, _⟩, .box _ ⟨[_, _, _, _, _], _, _⟩, .box _ ⟨[_, _, _, _, _], _, _⟩, .box _ ⟨[_, _, _, _, _], _, _⟩], 0 + 50 + 40 + 1 + 1⟩ (Le.mk hB [0, 1, 2, 3, 4] ⟨rfl, rfl, rfl, rfl, rfl, rfl, rfl, rfl, rfl, rfl, rfl, rfl, rfl, rfl, trivial⟩ rfl rfl (Nat.le_refl _)) ?_
      refine VC.region ?_
      refine VO.val rfl rfl (OpV.loadK_own (i := 0) rfl hB Tryz.isAgg28 Tryz.sizeOf28 rfl rfl rfl (fun h => h)) ?_
      refine VO.op rfl (OpE.call rfl hB rfl Tryz.call26 rfl (SpecN.spec (hCP)) ?_)
      rintro _ rfl
      refine VO.mv rfl rfl rfl rfl ?_
      refine VO.val rfl rfl (OpV.eql rfl rfl rfl) ?_
      refine VO.le _ (Le.boolT (t := 103) rfl (decide_eq_true rfl)) ?_
      refine VO.mv rfl rfl rfl rfl ?_
      refine VO.opY rfl rfl rfl rfl rfl ?_
      refine OpE.val (W := NoB) (OpV.loadK_own (i := 0) rfl hB Tryz.isAgg28 Tryz.sizeOf28 rfl rfl rfl (fun h => h)) rfl ?_
      refine VO.opY rfl rfl rfl rfl rfl ?_
      refine OpE.val (W := NoB) (OpV.loadK_own (i := 1) rfl hB Tryz.isAgg32 Tryz.sizeOf32 rfl rfl rfl (fun h => h)) rfl ?_
      refine VO.opY rfl rfl rfl rfl rfl ?_
      refine OpE.call rfl hB rfl Tryz.call27 rfl (SpecN.spec (hCN)) ?_
      rintro _ rfl
      refine VO.opY rfl rfl rfl rfl rfl ?_
      refine OpE.val (W := NoB) (OpV.move (.inl rfl) rfl) rfl ?_
      refine VO.opY rfl rfl rfl rfl rfl ?_
      refine OpE.val (W := NoB) (OpV.eql rfl rfl rfl) rfl ?_
      refine VO.le _ (Le.boolT (t := 109) rfl (decide_eq_true rfl)) ?_
      refine VO.val rfl rfl (OpV.pickT rfl rfl rfl rfl rfl) ?_
      refine VO.mv rfl rfl rfl rfl ?_
      refine VO.opY rfl rfl rfl rfl rfl ?_
      refine OpE.val (W := NoB) (OpV.move (.inl rfl) rfl) rfl ?_
      refine VO.opY rfl rfl rfl rfl rfl ?_
      refine OpE.val (W := NoB) (OpV.move (.inl rfl) rfl) rfl ?_
      refine VO.opY rfl rfl rfl rfl rfl ?_
      refine OpE.val (W := NoB) (OpV.eql rfl rfl rfl) rfl ?_
      refine VO.le _ (Le.boolT (t := 114) rfl (decide_eq_true rfl)) ?_
      refine VO.val rfl rfl (OpV.pickT rfl rfl rfl rfl rfl) ?_
      refine VO.mv rfl rfl rfl rfl ?_
      refine VO.opY rfl rfl rfl rfl rfl ?_
      refine OpE.val (W := NoB) (OpV.move (.inl rfl) rfl) rfl ?_
      refine VO.opY rfl rfl rfl rfl rfl ?_
      refine OpE.val (W := NoB) (OpV.move (.inl rfl) rfl) rfl ?_
      refine VO.opY rfl rfl rfl rfl rfl ?_
      refine OpE.call rfl hB rfl Tryz.call28 rfl (SpecN.spec (slices_Equal_need hl2 (by first | exact hl2 | decide))) ?_
      rintro _ rfl
      refine VO.le _ (Le.boolT (t := 119) rfl (by first | exact eqLs_self eqNd_self _ | (rw [hz1 h0]; rfl))) ?_
      refine VO.val rfl rfl (OpV.pickT rfl rfl rfl rfl rfl) ?_
      refine VO.mv rfl rfl rfl rfl ?_
      refine VO.opY rfl rfl rfl rfl rfl ?_
      refine OpE.val (W := NoB) (OpV.move (.inl rfl) rfl) rfl ?_
      refine VO.opY rfl rfl rfl rfl rfl ?_
      refine OpE.val (W := NoB) (OpV.move (.inl rfl) rfl) rfl ?_
      refine VO.opY rfl rfl rfl rfl rfl ?_
      refine OpE.val (W := NoB) (OpV.eql rfl rfl rfl) rfl ?_
      refine VO.le _ (Le.boolT (t := 124) rfl (decide_eq_true rfl)) ?_
      refine VO.val rfl rfl (OpV.pickT rfl rfl rfl rfl rfl) ?_
      refine VO.mv rfl rfl rfl rfl ?_
      refine VO.opY rfl rfl rfl rfl rfl ?_
      refine OpE.val (W := NoB) (OpV.loadK_own (i := 2) rfl hB Tryz.isAgg41 Tryz.sizeOf41 rfl rfl rfl (fun h => h)) rfl ?_
      refine VO.opY rfl rfl rfl rfl rfl ?_
      refine OpE.val (W := NoB) (OpV.loadK_own (i := 4) rfl hB Tryz.isAgg41 Tryz.sizeOf41 rfl rfl rfl (fun h => h)) rfl ?_
      refine VO.opY rfl rfl rfl rfl rfl ?_
      refine OpE.val (W := NoB) (OpV.aeql rfl Tryz.underlying41 (by kernel_rfl) (by kernel_rfl) rfl rfl (EqFs.int Tryz.underlying3 Tryz.isAgg3 rfl (by decide) (EqFs.str Tryz.underlying9 Tryz.isAgg9 rfl (by decide) (EqFs.int Tryz.underlying3 Tryz.isAgg3 rfl (by decide) (EqFs.int Tryz.underlying3 Tryz.isAgg3 rfl (by decide) (EqFs.int Tryz.underlying3 Tryz.isAgg3 rfl (by decide) (EqFs.nil _))))))) rfl ?_
      refine VO.le _ (Le.boolT (t := 129) rfl (by first | exact eqSp_self _ | (rw [hz3 h2]; exact eqSp_self zeroSp))) ?_
      refine VO.val rfl rfl (OpV.pickT rfl rfl rfl rfl rfl) ?_
      refine VO.mv rfl rfl rfl rfl ?_
      refine VO.opY rfl rfl rfl rfl rfl ?_
      refine OpE.val (W := NoB) (OpV.move (.inl rfl) rfl) rfl ?_
      refine VO.opY rfl rfl rfl rfl rfl ?_
      refine OpE.val (W := NoB) (OpV.move (.inl rfl) rfl) rfl ?_
      refine VO.opY rfl rfl rfl rfl rfl ?_
      refine OpE.val (W := NoB) (OpV.eql rfl rfl rfl) rfl ?_
      refine VO.le _ (Le.boolT (t := 134) rfl (decide_eq_true rfl)) ?_
      refine VO.val rfl rfl (OpV.pickT rfl rfl rfl rfl rfl) ?_
      refine VO.mv rfl rfl rfl rfl ?_
      refine VO.opY rfl rfl rfl rfl rfl ?_
      refine OpE.val (W := NoB) (OpV.move (.inl rfl) rfl) rfl ?_
      refine VO.opY rfl rfl rfl rfl rfl ?_
      refine OpE.val (W := NoB) (OpV.move (.inl rfl) rfl) rfl ?_
      refine VO.opY rfl rfl rfl rfl rfl ?_
      refine OpE.call rfl hB rfl Tryz.call29 rfl (SpecN.spec (slices_Equal_spot hl3 (by first | exact hl3 | decide))) ?_
      rintro _ rfl
      refine VO.le _ (Le.boolT (t := 139) rfl (by first | exact eqLs_self eqSp_self _ | (rw [hz2 h1]; rfl))) ?_
      refine VO.val rfl rfl (OpV.pickT rfl rfl rfl rfl rfl) ?_
      refine VO.mv rfl rfl rfl rfl ?_
      refine VO.opY rfl rfl rfl rfl rfl ?_
      refine OpE.call rfl hB rfl Tryz.call30 rfl (SpecN.spec (rf_paneled)) ?_
      rintro _ rfl
      refine VO.val rfl rfl (OpV.pickT rfl rfl rfl rfl rfl) ?_
      refine VO.ma rfl rfl rfl rfl ?_
      refine VO.nil ?_
      refine VC.ret ?_
      exact And.intro rfl rfl
 ·replace aK1b : _ = true := aK1b
  have aK1 := aK1b
  try simp only [qqT, qqF, qqN, qqM, qqL, qqE] at aK1
  refine VO.opX rfl rfl rfl rfl aK1b ?_
  refine VO.opX rfl rfl rfl rfl aK1b ?_
  refine VO.opX rfl rfl rfl rfl aK1b ?_
  refine VO.opX rfl rfl rfl rfl aK1b ?_
  refine VO.val rfl rfl (OpV.pickT rfl rfl rfl rfl aK1b) ?_
  refine VO.mv rfl rfl rfl rfl ?_
  refine VO.opX rfl rfl rfl rfl rfl ?_
  refine VO.opX rfl rfl rfl rfl rfl ?_
  refine VO.val rfl rfl (OpV.pickT rfl rfl rfl rfl rfl) ?_
  refine VO.op rfl (OpE.call rfl hB rfl Tryz.call22 rfl (SpecN.spec (rf_when)) ?_)
  rintro _ rfl
  obtain ⟨w8, hw8⟩ : ∃ z, errsF [e2, z] = e3 ∧ ∀ W0 Z u, Rep W0 Z (avI (whenF _ 8)) u → Rep W0 Z (avI z) u := ⟨_, hE _ (by first | exact or3a (by assumption) | exact or3b (by assumption) | exact or3f (by assumption) (by assumption) rfl | (rw [show decide (i < 0) = false by assumption, show decide ((n.slots.length : Int) ≤ i) = false by assumption])), fun _ _ _ h => h⟩
  refine VO.le _ (Le.recast (t := 80) (y := avI w8) rfl (fun w Z u h => hw8.2 _ _ _ h)) ?_
  refine VO.op rfl (OpE.buildSlice (zc := #[.int .i64 0, .int .i64 0]) rfl hB rfl Tryz.underlying139 Tryz.sizeOf37 Tryz.zeroValue37 (by decide) (by decide) (by kernel_rfl) rfl rfl ?_)
  refine VO.le _ (Le.lits (t := 81) (xs := [e2, w8]) rfl rfl) ?_
  refine VO.op rfl (OpE.call rfl hB rfl Tryz.call21 rfl (SpecN.spec (rf_errs (xs := [e2, w8]) (by simp))) ?_)
  rintro _ rfl
  refine VO.le _ (Le.recast (t := 82) (y := avI e3) rfl (fun w Z u h => by rw [← hw8.1]; exact h)) ?_
  refine VO.ma rfl rfl rfl rfl ?_
  refine VO.nil ?_
  refine VC.seq ?_
  refine VC.le ⟨[(4, _), (5, _), (6, _), (8, _), (9, _), (10, _), (11, _), (12, _), (13, _), (14, _), (15, _), (16, _), (18, _)], [.box _ ⟨[_, _, _, _], _, _⟩, .box _ ⟨[_, _, _], _, _⟩, .box _ ⟨[_, _, _, _, _], _, _⟩, .box _ ⟨[_, _, _, _, _], _, _⟩], 0 + 50 + 40 + 1 + 1⟩ (Le.mk hB [0, 1, 2, 3] ⟨rfl, rfl, rfl, rfl, rfl, rfl, rfl, rfl, rfl, rfl, rfl, rfl, rfl, trivial⟩ rfl rfl (Nat.le_refl _)) ?_
  refine VC.region ?_
  refine VO.ma rfl rfl rfl rfl ?_
  first | refine VO.le _ (Le.recast (t := 19) (y := avL ([] : List NeedS)) rfl (fun w Z u h => by rw [h.eq_v]; exact .nil _ _)) ?_ | skip
  refine VO.nil ?_
  refine VC.seq ?_
  refine VC.sr ?_
  refine VO.mv rfl rfl rfl rfl ?_
  refine VO.val rfl rfl (OpV.eql rfl rfl rfl) ?_
  refine VO.nil ?_
  refine VC.cond rfl (fun h0b => ?_) (fun h0b => ?_)
  ·have h0 := h0b
   try simp only [qqT, qqF, qqN, qqM, qqL, qqE] at h0
   refine VC.region ?_
   refine VO.val rfl rfl (OpV.loadK_own (i := 0) rfl hB Tryz.isAgg28 Tryz.sizeOf28 rfl rfl rfl (fun h => h)) ?_
   refine VO.op rfl (OpE.call rfl hB rfl Tryz.call23 rfl (hR1 h0) ?_)
   rintro _ rfl
   refine VO.ma rfl rfl rfl rfl ?_
   first | refine VO.le _ (Le.recast (t := 19) (y := avL ([] : List NeedS)) rfl (fun w Z u h => by rw [h.eq_v]; exact .nil _ _)) ?_ | skip
   refine VO.nil ?_
   refine VC.seq ?_
   refine VC.le ⟨[(4, _), (5, _), (6, _), (8, _), (9, _), (10, _), (11, _), (12, _), (13, _), (14, _), (15, _), (16, _), (18, _), (19, _)], [.box _ ⟨[_, _, _, _], _, _⟩, .box _ ⟨[_, _, _], _, _⟩, .box _ ⟨[_, _, _, _, _], _, _⟩, .box _ ⟨[_, _, _, _, _], _, _⟩], 0 + 50 + 40 + 1 + 1⟩ (Le.mk hB [0, 1, 2, 3] ⟨rfl, rfl, rfl, rfl, rfl, rfl, rfl, rfl, rfl, rfl, rfl, rfl, rfl, rfl, trivial⟩ rfl rfl (Nat.le_refl _)) ?_
   refine VC.region ?_
   refine VO.ma rfl rfl rfl rfl ?_
   first | refine VO.le _ (Le.recast (t := 20) (y := avL ([] : List SpotS)) rfl (fun w Z u h => by rw [h.eq_v]; exact .nil _ _)) ?_ | skip
   refine VO.nil ?_
   refine VC.seq ?_
   refine VC.sr ?_
   refine VO.mv rfl rfl rfl rfl ?_
   refine VO.val rfl rfl (OpV.eql rfl rfl rfl) ?_
   refine VO.nil ?_
   refine VC.cond rfl (fun h1b => ?_) (fun h1b => ?_)
   ·have h1 := h1b
    try simp only [qqT, qqF, qqN, qqM, qqL, qqE] at h1
    refine VC.region ?_
    refine VO.val rfl rfl (OpV.loadK_own (i := 0) rfl hB Tryz.isAgg28 Tryz.sizeOf28 rfl rfl rfl (fun h => h)) ?_
    refine VO.val rfl rfl (OpV.loadK_own (i := 1) rfl hB Tryz.isAgg32 Tryz.sizeOf32 rfl rfl rfl (fun h => h)) ?_
    refine VO.op rfl (OpE.call rfl hB rfl Tryz.call24 rfl (SpecN.spec (hR2 h1)) ?_)
    rintro _ rfl
    refine VO.ma rfl rfl rfl rfl ?_
    first | refine VO.le _ (Le.recast (t := 20) (y := avL ([] : List SpotS)) rfl (fun w Z u h => by rw [h.eq_v]; exact .nil _ _)) ?_ | skip
    refine VO.nil ?_
    refine VC.seq ?_
    refine VC.le ⟨[(4, _), (5, _), (6, _), (8, _), (9, _), (10, _), (11, _), (12, _), (13, _), (14, _), (15, _), (16, _), (18, _), (19, _), (20, _)], [.box _ ⟨[_, _, _, _], _, _⟩, .box _ ⟨[_, _, _], _, _⟩, .box _ ⟨[_, _, _, _, _], _, _⟩, .box _ ⟨[_, _, _, _, _], _, _⟩], 0 + 50 + 40 + 1 + 1⟩ (Le.mk hB [0, 1, 2, 3] ⟨rfl, rfl, rfl, rfl, rfl, rfl, rfl, rfl, rfl, rfl, rfl, rfl, rfl, rfl, rfl, trivial⟩ rfl rfl (Nat.le_refl _)) ?_
    refine VC.region ?_
    refine VO.val rfl rfl (OpV.build (pls := #[(0, 1), (1, 1), (2, 1), (3, 1), (4, 1)]) rfl Tryz.zeroValue41 Tryz.underlying41 (fun w => by kernel_rfl) rfl rfl) ?_
    refine VO.op rfl (OpE.alloc rfl hB rfl Tryz.zeroValue41 rfl ?_)
    intro g21
    refine VO.op rfl (OpE.store (i := 4) rfl hB rfl Tryz.sizeOf41 rfl rfl rfl rfl rfl rfl (Nle rfl) trivial ?_)
    refine VO.nil ?_
    refine VC.seq ?_
    refine VC.sr ?_
    refine VO.mv rfl rfl rfl rfl ?_
    refine VO.val rfl rfl (OpV.eql rfl rfl rfl) ?_
    refine VO.nil ?_
    refine VC.cond rfl (fun h2b => ?_) (fun h2b => ?_)
    ·have h2 := h2b
     try simp only [qqT, qqF, qqN, qqM, qqL, qqE] at h2
     refine VC.region ?_
     refine VO.val rfl rfl (OpV.loadK_own (i := 0) rfl hB Tryz.isAgg28 Tryz.sizeOf28 rfl rfl rfl (fun h => h)) ?_
     refine VO.val rfl rfl (OpV.loadK_own (i := 1) rfl hB Tryz.isAgg32 Tryz.sizeOf32 rfl rfl rfl (fun h => h)) ?_
     refine VO.mv rfl rfl rfl rfl ?_
     refine VO.val rfl rfl (OpV.loadK_own (i := 3) rfl hB Tryz.isAgg50 Tryz.sizeOf50 rfl rfl rfl (fun h => h)) ?_
     refine VO.op rfl (OpE.call rfl hB rfl Tryz.call25 rfl (SpecN.spec (hR3 h2)) ?_)
     rintro _ rfl
     refine VO.op rfl (OpE.store (i := 4) rfl hB rfl Tryz.sizeOf41 rfl rfl rfl rfl rfl rfl (Nle rfl) trivial ?_)
     refine VO.nil ?_
     refine VC.seq ?_
     refine VC.le ⟨[(4, _), (5, _), (8, _), (9, _), (10, _), (11, _), (12, _), (13, _), (14, _), (15, _), (18, _), (19, _), (20, _), (21, _)], [.box _ ⟨[_, _, _, _], _, _⟩, .box _ ⟨[_, _, _], _, _⟩, .box _ ⟨[_, _, _, _, _], _, _⟩, .box _ ⟨[_, _, _, _, _], _, _⟩, .box _ ⟨[_, _, _, _, _], _, _⟩], 0 + 50 + 40 + 1 + 1⟩ (Le.mk hB [0, 1, 2, 3, 4] ⟨rfl, rfl, rfl, rfl, rfl, rfl, rfl, rfl, rfl, rfl, rfl, rfl, rfl, rfl, trivial⟩ rfl rfl (Nat.le_refl _)) ?_
     refine VC.region ?_
     refine VO.val rfl rfl (OpV.loadK_own (i := 0) rfl hB Tryz.isAgg28 Tryz.sizeOf28 rfl rfl rfl (fun h => h)) ?_
     refine VO.op rfl (OpE.call rfl hB rfl Tryz.call26 rfl (SpecN.spec (hCP)) ?_)
     rintro _ rfl
     refine VO.mv rfl rfl rfl rfl ?_
     refine VO.val rfl rfl (OpV.eql rfl rfl rfl) ?_
     refine VO.le _ (Le.boolT (t := 103) rfl (decide_eq_true rfl)) ?_
     refine VO.mv rfl rfl rfl rfl ?_
     refine VO.opY rfl rfl rfl rfl rfl ?_
     refine OpE.val (W := NoB) (OpV.loadK_own (i := 0) rfl hB Tryz.isAgg28 Tryz.sizeOf28 rfl rfl rfl (fun h => h)) rfl ?_
     refine VO.opY rfl rfl rfl rfl rfl ?_
     refine OpE.val (W := NoB) (OpV.loadK_own (i := 1) rfl hB Tryz.isAgg32 Tryz.sizeOf32 rfl rfl rfl (fun h => h)) rfl ?_
     refine VO.opY rfl rfl rfl rfl rfl ?_
     refine OpE.call rfl hB rfl Tryz.call27 rfl (SpecN.spec (hCN)) ?_
     rintro _ rfl
     refine VO.opY rfl rfl rfl rfl rfl ?_
     refine OpE.val (W := NoB) (OpV.move (.inl rfl) rfl) rfl ?_
     refine VO.opY rfl rfl rfl rfl rfl ?_
     refine OpE.val (W := NoB) (OpV.eql rfl rfl rfl) rfl ?_
     refine VO.le _ (Le.boolT (t := 109) rfl (decide_eq_true rfl)) ?_
     refine VO.val rfl rfl (OpV.pickT rfl rfl rfl rfl rfl) ?_
     refine VO.mv rfl rfl rfl rfl ?_
     refine VO.opY rfl rfl rfl rfl rfl ?_
     refine OpE.val (W := NoB) (OpV.move (.inl rfl) rfl) rfl ?_
     refine VO.opY rfl rfl rfl rfl rfl ?_
     refine OpE.val (W := NoB) (OpV.move (.inl rfl) rfl) rfl ?_
     refine VO.opY rfl rfl rfl rfl rfl ?_
     refine OpE.val (W := NoB) (OpV.eql rfl rfl rfl) rfl ?_
     refine VO.le _ (Le.boolT (t := 114) rfl (decide_eq_true rfl)) ?_
     refine VO.val rfl rfl (OpV.pickT rfl rfl rfl rfl rfl) ?_
     refine VO.mv rfl rfl rfl rfl ?_
     refine VO.opY rfl rfl rfl rfl rfl ?_
     refine OpE.val (W := NoB) (OpV.move (.inl rfl) rfl) rfl ?_
     refine VO.opY rfl rfl rfl rfl rfl ?_
     refine OpE.val (W := NoB) (OpV.move (.inl rfl) rfl) rfl ?_
     refine VO.opY rfl rfl rfl rfl rfl ?_
     refine OpE.call rfl hB rfl Tryz.call28 rfl (SpecN.spec (slices_Equal_need hl2 (by first | exact hl2 | decide))) ?_
     rintro _ rfl
     refine VO.le _ (Le.boolT (t := 119) rfl (by first | exact eqLs_self eqNd_self _ | (rw [hz1 h0]; rfl))) ?_
     refine VO.val rfl rfl (OpV.pickT rfl rfl rfl rfl rfl) ?_
     refine VO.mv rfl rfl rfl rfl ?_
     refine VO.opY rfl rfl rfl rfl rfl ?_
     refine OpE.val (W := NoB) (OpV.move (.inl rfl) rfl) rfl ?_
     refine VO.opY rfl rfl rfl rfl rfl ?_
     refine OpE.val (W := NoB) (OpV.move (.inl rfl) rfl) rfl ?_
     refine VO.opY rfl rfl rfl rfl rfl ?_
     refine OpE.val (W := NoB) (OpV.eql rfl rfl rfl) rfl ?_
     refine VO.le _ (Le.boolT (t := 124) rfl (decide_eq_true rfl)) ?_
     refine VO.val rfl rfl (OpV.pickT rfl rfl rfl rfl rfl) ?_
     refine VO.mv rfl rfl rfl rfl ?_
     refine VO.opY rfl rfl rfl rfl rfl ?_
     refine OpE.val (W := NoB) (OpV.loadK_own (i := 2) rfl hB Tryz.isAgg41 Tryz.sizeOf41 rfl rfl rfl (fun h => h)) rfl ?_
     refine VO.opY rfl rfl rfl rfl rfl ?_
     refine OpE.val (W := NoB) (OpV.loadK_own (i := 4) rfl hB Tryz.isAgg41 Tryz.sizeOf41 rfl rfl rfl (fun h => h)) rfl ?_
     refine VO.opY rfl rfl rfl rfl rfl ?_
     refine OpE.val (W := NoB) (OpV.aeql rfl Tryz.underlying41 (by kernel_rfl) (by kernel_rfl) rfl rfl (EqFs.int Tryz.underlying3 Tryz.isAgg3 rfl (by decide) (EqFs.str Tryz.underlying9 Tryz.isAgg9 rfl (by decide) (EqFs.int Tryz.underlying3 Tryz.isAgg3 rfl (by decide) (EqFs.int Tryz.underlying3 Tryz.isAgg3 rfl (by decide) (EqFs.int Tryz.underlying3 Tryz.isAgg3 rfl (by decide) (EqFs.nil _))))))) rfl ?_
     refine VO.le _ (Le.boolT (t := 129) rfl (by first | exact eqSp_self _ | (rw [hz3 h2]; exact eqSp_self zeroSp))) ?_
     refine VO.val rfl rfl (OpV.pickT rfl rfl rfl rfl rfl) ?_
     refine VO.mv rfl rfl rfl rfl ?_
     refine VO.opY rfl rfl rfl rfl rfl ?_
     refine OpE.val (W := NoB) (OpV.move (.inl rfl) rfl) rfl ?_
     refine VO.opY rfl rfl rfl rfl rfl ?_
     refine OpE.val (W := NoB) (OpV.move (.inl rfl) rfl) rfl ?_
     refine VO.opY rfl rfl rfl rfl rfl ?_
     refine OpE.val (W := NoB) (OpV.eql rfl rfl rfl) rfl ?_
     refine VO.le _ (Le.boolT (t := 134) rfl (decide_eq_true rfl)) ?_
     refine VO.val rfl rfl (OpV.pickT rfl rfl rfl rfl rfl) ?_
     refine VO.mv rfl rfl rfl rfl ?_
     refine VO.opY rfl rfl rfl rfl rfl ?_
     refine OpE.val (W := NoB) (OpV.move (.inl rfl) rfl) rfl ?_
     refine VO.opY rfl rfl rfl rfl rfl ?_
     refine OpE.val (W := NoB) (OpV.move (.inl rfl) rfl) rfl ?_
     refine VO.opY rfl rfl rfl rfl rfl ?_
     refine OpE.call rfl hB rfl Tryz.call29 rfl (SpecN.spec (slices_Equal_spot hl3 (by first | exact hl3 | decide))) ?_
     rintro _ rfl
     refine VO.le _ (Le.boolT (t := 139) rfl (by first | exact eqLs_self eqSp_self _ | (rw [hz2 h1]; rfl))) ?_
     refine VO.val rfl rfl (OpV.pickT rfl rfl rfl rfl rfl) ?_
     refine VO.mv rfl rfl rfl rfl ?_
     refine VO.opY rfl rfl rfl rfl rfl ?_
     refine OpE.call rfl hB rfl Tryz.call30 rfl (SpecN.spec (rf_paneled)) ?_
     rintro _ rfl
     refine VO.val rfl rfl (OpV.pickT rfl rfl rfl rfl rfl) ?_
     refine VO.ma rfl rfl rfl rfl ?_
     refine VO.nil ?_
     refine VC.ret ?_
     exact And.intro rfl rfl
    ·have h2 := h2b
     try simp only [qqT, qqF, qqN, qqM, qqL, qqE] at h2
     refine VC.skip ?_
     refine VC.seq ?_
     refine VC.le ⟨[(4, _), (5, _), (8, _), (9, _), (10, _), (11, _), (12, _), (13, _), (14, _), (15, _), (18, _), (19, _), (20, _), (21, _)], [.box _ ⟨[_, _, _, _], _, _⟩, .box _ ⟨[_, _, _], _, _⟩, .box _ ⟨[_, _, _, _, _], _, _⟩, .box _ ⟨[_, _, _, _, _], _, _⟩, .box _ ⟨[_, _, _, _, _], _, _⟩], 0 + 50 + 40 + 1 + 1⟩ (Le.mk hB [0, 1, 2, 3, 4] ⟨rfl, rfl, rfl, rfl, rfl, rfl, rfl, rfl, rfl, rfl, rfl, rfl, rfl, rfl, trivial⟩ rfl rfl (Nat.le_refl _)) ?_
     refine VC.region ?_
     refine VO.val rfl rfl (OpV.loadK_own (i := 0) rfl hB Tryz.isAgg28 Tryz.sizeOf28 rfl rfl rfl (fun h => h)) ?_
     refine VO.op rfl (OpE.call rfl hB rfl Tryz.call26 rfl (SpecN.spec (hCP)) ?_)
     rintro _ rfl
     refine VO.mv rfl rfl rfl rfl ?_
     refine VO.val rfl rfl (OpV.eql rfl rfl rfl) ?_
     refine VO.le _ (Le.boolT (t := 103) rfl (decide_eq_true rfl)) ?_
     refine VO.mv rfl rfl rfl rfl ?_
     refine VO.opY rfl rfl rfl rfl rfl ?_
     refine OpE.val (W := NoB) (OpV.loadK_own (i := 0) rfl hB Tryz.isAgg28 Tryz.sizeOf28 rfl rfl rfl (fun h => h)) rfl ?_
     refine VO.opY rfl rfl rfl rfl rfl ?_
     refine OpE.val (W := NoB) (OpV.loadK_own (i := 1) rfl hB Tryz.isAgg32 Tryz.sizeOf32 rfl rfl rfl (fun h => h)) rfl ?_
     refine VO.opY rfl rfl rfl rfl rfl ?_
     refine OpE.call rfl hB rfl Tryz.call27 rfl (SpecN.spec (hCN)) ?_
     rintro _ rfl
     refine VO.opY rfl rfl rfl rfl rfl ?_
     refine OpE.val (W := NoB) (OpV.move (.inl rfl) rfl) rfl ?_
     refine VO.opY rfl rfl rfl rfl rfl ?_
     refine OpE.val (W := NoB) (OpV.eql rfl rfl rfl) rfl ?_
     refine VO.le _ (Le.boolT (t := 109) rfl (decide_eq_true rfl)) ?_
     refine VO.val rfl rfl (OpV.pickT rfl rfl rfl rfl rfl) ?_
     refine VO.mv rfl rfl rfl rfl ?_
     refine VO.opY rfl rfl rfl rfl rfl ?_
     refine OpE.val (W := NoB) (OpV.move (.inl rfl) rfl) rfl ?_
     refine VO.opY rfl rfl rfl rfl rfl ?_
     refine OpE.val (W := NoB) (OpV.move (.inl rfl) rfl) rfl ?_
     refine VO.opY rfl rfl rfl rfl rfl ?_
     refine OpE.val (W := NoB) (OpV.eql rfl rfl rfl) rfl ?_
     refine VO.le _ (Le.boolT (t := 114) rfl (decide_eq_true rfl)) ?_
     refine VO.val rfl rfl (OpV.pickT rfl rfl rfl rfl rfl) ?_
     refine VO.mv rfl rfl rfl rfl ?_
     refine VO.opY rfl rfl rfl rfl rfl ?_
     refine OpE.val (W := NoB) (OpV.move (.inl rfl) rfl) rfl ?_
     refine VO.opY rfl rfl rfl rfl rfl ?_
     refine OpE.val (W := NoB) (OpV.move (.inl rfl) rfl) rfl ?_
     refine VO.opY rfl rfl rfl rfl rfl ?_
     refine OpE.call rfl hB rfl Tryz.call28 rfl (SpecN.spec (slices_Equal_need hl2 (by first | exact hl2 | decide))) ?_
     rintro _ rfl
     refine VO.le _ (Le.boolT (t := 119) rfl (by first | exact eqLs_self eqNd_self _ | (rw [hz1 h0]; rfl))) ?_
     refine VO.val rfl rfl (OpV.pickT rfl rfl rfl rfl rfl) ?_
     refine VO.mv rfl rfl rfl rfl ?_
     refine VO.opY rfl rfl rfl rfl rfl ?_
     refine OpE.val (W := NoB) (OpV.move (.inl rfl) rfl) rfl ?_
     refine VO.opY rfl rfl rfl rfl rfl ?_
     refine OpE.val (W := NoB) (OpV.move (.inl rfl) rfl) rfl ?_
     refine VO.opY rfl rfl rfl rfl rfl ?_
     refine OpE.val (W := NoB) (OpV.eql rfl rfl rfl) rfl ?_
     refine VO.le _ (Le.boolT (t := 124) rfl (decide_eq_true rfl)) ?_
     refine VO.val rfl rfl (OpV.pickT rfl rfl rfl rfl rfl) ?_
     refine VO.mv rfl rfl rfl rfl ?_
     refine VO.opY rfl rfl rfl rfl rfl ?_
     refine OpE.val (W := NoB) (OpV.loadK_own (i := 2) rfl hB Tryz.isAgg41 Tryz.sizeOf41 rfl rfl rfl (fun h => h)) rfl ?_
     refine VO.opY rfl rfl rfl rfl rfl ?_
     refine OpE.val (W := NoB) (OpV.loadK_own (i := 4) rfl hB Tryz.isAgg41 Tryz.sizeOf41 rfl rfl rfl (fun h => h)) rfl ?_
     refine VO.opY rfl rfl rfl rfl rfl ?_
     refine OpE.val (W := NoB) (OpV.aeql rfl Tryz.underlying41 (by kernel_rfl) (by kernel_rfl) rfl rfl (EqFs.int Tryz.underlying3 Tryz.isAgg3 rfl (by decide) (EqFs.str Tryz.underlying9 Tryz.isAgg9 rfl (by decide) (EqFs.int Tryz.underlying3 Tryz.isAgg3 rfl (by decide) (EqFs.int Tryz.underlying3 Tryz.isAgg3 rfl (by decide) (EqFs.int Tryz.underlying3 Tryz.isAgg3 rfl (by decide) (EqFs.nil _))))))) rfl ?_
     refine VO.le _ (Le.boolT (t := 129) rfl (by first | exact eqSp_self _ | (rw [hz3 h2]; exact eqSp_self zeroSp))) ?_
     refine VO.val rfl rfl (OpV.pickT rfl rfl rfl rfl rfl) ?_
     refine VO.mv rfl rfl rfl rfl ?_
     refine VO.opY rfl rfl rfl rfl rfl ?_
     refine OpE.val (W := NoB) (OpV.move (.inl rfl) rfl) rfl ?_
     refine VO.opY rfl rfl rfl rfl rfl ?_
     refine OpE.val (W := NoB) (OpV.move (.inl rfl) rfl) rfl ?_
     refine VO.opY rfl rfl rfl rfl rfl ?_
     refine OpE.val (W := NoB) (OpV.eql rfl rfl rfl) rfl ?_
     refine VO.le _ (Le.boolT (t := 134) rfl (decide_eq_true rfl)) ?_
     refine VO.val rfl rfl (OpV.pickT rfl rfl rfl rfl rfl) ?_
     refine VO.mv rfl rfl rfl rfl ?_
     refine VO.opY rfl rfl rfl rfl rfl ?_
     refine OpE.val (W := NoB) (OpV.move (.inl rfl) rfl) rfl ?_
     refine VO.opY rfl rfl rfl rfl rfl ?_
     refine OpE.val (W := NoB) (OpV.move (.inl rfl) rfl) rfl ?_
     refine VO.opY rfl rfl rfl rfl rfl ?_
     refine OpE.call rfl hB rfl Tryz.call29 rfl (SpecN.spec (slices_Equal_spot hl3 (by first | exact hl3 | decide))) ?_
     rintro _ rfl
     refine VO.le _ (Le.boolT (t := 139) rfl (by first | exact eqLs_self eqSp_self _ | (rw [hz2 h1]; rfl))) ?_
     refine VO.val rfl rfl (OpV.pickT rfl rfl rfl rfl rfl) ?_
     refine VO.mv rfl rfl rfl rfl ?_
     refine VO.opY rfl rfl rfl rfl rfl ?_
     refine OpE.call rfl hB rfl Tryz.call30 rfl (SpecN.spec (rf_paneled)) ?_
     rintro _ rfl
     refine VO.val rfl rfl (OpV.pickT rfl rfl rfl rfl rfl) ?_
     refine VO.ma rfl rfl rfl rfl ?_
     refine VO.nil ?_
     refine VC.ret ?_
     exact And.intro rfl rfl
   ·have h1 := h1b
    try simp only [qqT, qqF, qqN, qqM, qqL, qqE] at h1
    refine VC.skip ?_
    refine VC.seq ?_
    refine VC.le ⟨[(4, _), (5, _), (6, _), (8, _), (9, _), (10, _), (11, _), (12, _), (13, _), (14, _), (15, _), (16, _), (18, _), (19, _), (20, _)], [.box _ ⟨[_, _, _, _], _, _⟩, .box _ ⟨[_, _, _], _, _⟩, .box _ ⟨[_, _, _, _, _], _, _⟩, .box _ ⟨[_, _, _, _, _], _, _⟩], 0 + 50 + 40 + 1 + 1⟩ (Le.mk hB [0, 1, 2, 3] ⟨rfl, rfl, rfl, rfl, rfl, rfl, rfl, rfl, rfl, rfl, rfl, rfl, rfl, rfl, rfl, trivial⟩ rfl rfl (Nat.le_refl _)) ?_
    refine VC.region ?_
    refine VO.val rfl rfl (OpV.build (pls := #[(0, 1), (1, 1), (2, 1), (3, 1), (4, 1)]) rfl Tryz.zeroValue41 Tryz.underlying41 (fun w => by kernel_rfl) rfl rfl) ?_
    refine VO.op rfl (OpE.alloc rfl hB rfl Tryz.zeroValue41 rfl ?_)
    intro g21
    refine VO.op rfl (OpE.store (i := 4) rfl hB rfl Tryz.sizeOf41 rfl rfl rfl rfl rfl rfl (Nle rfl) trivial ?_)
    refine VO.nil ?_
    refine VC.seq ?_
    refine VC.sr ?_
    refine VO.mv rfl rfl rfl rfl ?_
    refine VO.val rfl rfl (OpV.eql rfl rfl rfl) ?_
    refine VO.nil ?_
    refine VC.cond rfl (fun h2b => ?_) (fun h2b => ?_)
    ·have h2 := h2b
     try simp only [qqT, qqF, qqN, qqM, qqL, qqE] at h2
     exact VC.absurd (by omega)
    ·have h2 := h2b
     try simp only [qqT, qqF, qqN, qqM, qqL, qqE] at h2
     refine VC.skip ?_
     refine VC.seq ?_
     refine VC.le ⟨[(4, _), (5, _), (8, _), (9, _), (10, _), (11, _), (12, _), (13, _), (14, _), (15, _), (18, _), (19, _), (20, _), (21, _)], [.box _ ⟨[_, _, _, _], _, _⟩, .box _ ⟨[_, _, _], _, _⟩, .box _ ⟨[_, _, _, _, _], _, _⟩, .box _ ⟨[_, _, _, _, _], _, _⟩, .box _ ⟨[_, _, _, _, _], _, _⟩], 0 + 50 + 40 + 1 + 1⟩ (Le.mk hB [0, 1, 2, 3, 4] ⟨rfl, rfl, rfl, rfl, rfl, rfl, rfl, rfl, rfl, rfl, rfl, rfl, rfl, rfl, trivial⟩ rfl rfl (Nat.le_refl _)) ?_
     refine VC.region ?_
     refine VO.val rfl rfl (OpV.loadK_own (i := 0) rfl hB Tryz.isAgg28 Tryz.sizeOf28 rfl rfl rfl (fun h => h)) ?_
     refine VO.op rfl (OpE.call rfl hB rfl Tryz.call26 rfl (SpecN.spec (hCP)) ?_)
     rintro _ rfl
     refine VO.mv rfl rfl rfl rfl ?_
     refine VO.val rfl rfl (OpV.eql rfl rfl rfl) ?_
     refine VO.le _ (Le.boolT (t := 103) rfl (decide_eq_true rfl)) ?_
     refine VO.mv rfl rfl rfl rfl ?_
     refine VO.opY rfl rfl rfl rfl rfl ?_
     refine OpE.val (W := NoB) (OpV.loadK_own (i := 0) rfl hB Tryz.isAgg28 Tryz.sizeOf28 rfl rfl rfl (fun h => h)) rfl ?_
     refine VO.opY rfl rfl rfl rfl rfl ?_
     refine OpE.val (W := NoB) (OpV.loadK_own (i := 1) rfl hB Tryz.isAgg32 Tryz.sizeOf32 rfl rfl rfl (fun h => h)) rfl ?_
     refine VO.opY rfl rfl rfl rfl rfl ?_
     refine OpE.call rfl hB rfl Tryz.call27 rfl (SpecN.spec (hCN)) ?_
     rintro _ rfl
     refine VO.opY rfl rfl rfl rfl rfl ?_
     refine OpE.val (W := NoB) (OpV.move (.inl rfl) rfl) rfl ?_
     refine VO.opY rfl rfl rfl rfl rfl ?_
     refine OpE.val (W := NoB) (OpV.eql rfl rfl rfl) rfl ?_
     refine VO.le _ (Le.boolT (t := 109) rfl (decide_eq_true rfl)) ?_
     refine VO.val rfl rfl (OpV.pickT rfl rfl rfl rfl rfl) ?_
     refine VO.mv rfl rfl rfl rfl ?_
     refine VO.opY rfl rfl rfl rfl rfl ?_
     refine OpE.val (W := NoB) (OpV.move (.inl rfl) rfl) rfl ?_
     refine VO.opY rfl rfl rfl rfl rfl ?_
     refine OpE.val (W := NoB) (OpV.move (.inl rfl) rfl) rfl ?_
     refine VO.opY rfl rfl rfl rfl rfl ?_
     refine OpE.val (W := NoB) (OpV.eql rfl rfl rfl) rfl ?_
     refine VO.le _ (Le.boolT (t := 114) rfl (decide_eq_true rfl)) ?_
     refine VO.val rfl rfl (OpV.pickT rfl rfl rfl rfl rfl) ?_
     refine VO.mv rfl rfl rfl rfl ?_
     refine VO.opY rfl rfl rfl rfl rfl ?_
     refine OpE.val (W := NoB) (OpV.move (.inl rfl) rfl) rfl ?_
     refine VO.opY rfl rfl rfl rfl rfl ?_
     refine OpE.val (W := NoB) (OpV.move (.inl rfl) rfl) rfl ?_
     refine VO.opY rfl rfl rfl rfl rfl ?_
     refine OpE.call rfl hB rfl Tryz.call28 rfl (SpecN.spec (slices_Equal_need hl2 (by first | exact hl2 | decide))) ?_
     rintro _ rfl
     refine VO.le _ (Le.boolT (t := 119) rfl (by first | exact eqLs_self eqNd_self _ | (rw [hz1 h0]; rfl))) ?_
     refine VO.val rfl rfl (OpV.pickT rfl rfl rfl rfl rfl) ?_
     refine VO.mv rfl rfl rfl rfl ?_
     refine VO.opY rfl rfl rfl rfl rfl ?_
     refine OpE.val (W := NoB) (OpV.move (.inl rfl) rfl) rfl ?_
     refine VO.opY rfl rfl rfl rfl rfl ?_
     refine OpE.val (W := NoB) (OpV.move (.inl rfl) rfl) rfl ?_
     refine VO.opY rfl rfl rfl rfl rfl ?_
     refine OpE.val (W := NoB) (OpV.eql rfl rfl rfl) rfl ?_
     refine VO.le _ (Le.boolT (t := 124) rfl (decide_eq_true rfl)) ?_
     refine VO.val rfl rfl (OpV.pickT rfl rfl rfl rfl rfl) ?_
     refine VO.mv rfl rfl rfl rfl ?_
     refine VO.opY rfl rfl rfl rfl rfl ?_
     refine OpE.val (W := NoB) (OpV.loadK_own (i := 2) rfl hB Tryz.isAgg41 Tryz.sizeOf41 rfl rfl rfl (fun h => h)) rfl ?_
     refine VO.opY rfl rfl rfl rfl rfl ?_
     refine OpE.val (W := NoB) (OpV.loadK_own (i := 4) rfl hB Tryz.isAgg41 Tryz.sizeOf41 rfl rfl rfl (fun h => h)) rfl ?_
     refine VO.opY rfl rfl rfl rfl rfl ?_
     refine OpE.val (W := NoB) (OpV.aeql rfl Tryz.underlying41 (by kernel_rfl) (by kernel_rfl) rfl rfl (EqFs.int Tryz.underlying3 Tryz.isAgg3 rfl (by decide) (EqFs.str Tryz.underlying9 Tryz.isAgg9 rfl (by decide) (EqFs.int Tryz.underlying3 Tryz.isAgg3 rfl (by decide) (EqFs.int Tryz.underlying3 Tryz.isAgg3 rfl (by decide) (EqFs.int Tryz.underlying3 Tryz.isAgg3 rfl (by decide) (EqFs.nil _))))))) rfl ?_
     refine VO.le _ (Le.boolT (t := 129) rfl (by first | exact eqSp_self _ | (rw [hz3 h2]; exact eqSp_self zeroSp))) ?_
     refine VO.val rfl rfl (OpV.pickT rfl rfl rfl rfl rfl) ?_
     refine VO.mv rfl rfl rfl rfl ?_
     refine VO.opY rfl rfl rfl rfl rfl ?_
     refine OpE.val (W := NoB) (OpV.move (.inl rfl) rfl) rfl ?_
     refine VO.opY rfl rfl rfl rfl rfl ?_
     refine OpE.val (W := NoB) (OpV.move (.inl rfl) rfl) rfl ?_
     refine VO.opY rfl rfl rfl rfl rfl ?_
     refine OpE.val (W := NoB) (OpV.eql rfl rfl rfl) rfl ?_
     refine VO.le _ (Le.boolT (t := 134) rfl (decide_eq_true rfl)) ?_
     refine VO.val rfl rfl (OpV.pickT rfl rfl rfl rfl rfl) ?_
     refine VO.mv rfl rfl rfl rfl ?_
     refine VO.opY rfl rfl rfl rfl rfl ?_
     refine OpE.val (W := NoB) (OpV.move (.inl rfl) rfl) rfl ?_
     refine VO.opY rfl rfl rfl rfl rfl ?_
     refine OpE.val (W := NoB) (OpV.move (.inl rfl) rfl) rfl ?_
     refine VO.opY rfl rfl rfl rfl rfl ?_
     refine OpE.call rfl hB rfl Tryz.call29 rfl (SpecN.spec (slices_Equal_spot hl3 (by first | exact hl3 | decide))) ?_
     rintro _ rfl
     refine VO.le _ (Le.boolT (t := 139) rfl (by first | exact eqLs_self eqSp_self _ | (rw [hz2 h1]; rfl))) ?_
     refine VO.val rfl rfl (OpV.pickT rfl rfl rfl rfl rfl) ?_
     refine VO.mv rfl rfl rfl rfl ?_
     refine VO.opY rfl rfl rfl rfl rfl ?_
     refine OpE.call rfl hB rfl Tryz.call30 rfl (SpecN.spec (rf_paneled)) ?_
     rintro _ rfl
     refine VO.val rfl rfl (OpV.pickT rfl rfl rfl rfl rfl) ?_
     refine VO.ma rfl rfl rfl rfl ?_
     refine VO.nil ?_
     refine VC.ret ?_
     exact And.intro rfl rfl
  ·have h0 := h0b
   try simp only [qqT, qqF, qqN, qqM, qqL, qqE] at h0
   refine VC.skip ?_
   refine VC.seq ?_
   refine VC.le ⟨[(4, _), (5, _), (6, _), (8, _), (9, _), (10, _), (11, _), (12, _), (13, _), (14, _), (15, _), (16, _), (18, _), (19, _)], [.box _ ⟨[_, _, _, _], _, _⟩, .box _ ⟨[_, _, _], _, _⟩, .box _ ⟨[_, _, _, _, _], _, _⟩, .box _ ⟨[_, _, _, _, _], _, _⟩], 0 + 50 + 40 + 1 + 1⟩ (Le.mk hB [0, 1, 2, 3] ⟨rfl, rfl, rfl, rfl, rfl, rfl, rfl, rfl, rfl, rfl, rfl, rfl, rfl, rfl, trivial⟩ rfl rfl (Nat.le_refl _)) ?_
   refine VC.region ?_
   refine VO.ma rfl rfl rfl rfl ?_
   first | refine VO.le _ (Le.recast (t := 20) (y := avL ([] : List SpotS)) rfl (fun w Z u h => by rw [h.eq_v]; exact .nil _ _)) ?_ | skip
   refine VO.nil ?_
   refine VC.seq ?_
   refine VC.sr ?_
   refine VO.mv rfl rfl rfl rfl ?_
   refine VO.val rfl rfl (OpV.eql rfl rfl rfl) ?_
   refine VO.nil ?_
   refine VC.cond rfl (fun h1b => ?_) (fun h1b => ?_)
   ·have h1 := h1b
    try simp only [qqT, qqF, qqN, qqM, qqL, qqE] at h1
    exact VC.absurd (by omega)
   ·have h1 := h1b
    try simp only [qqT, qqF, qqN, qqM, qqL, qqE] at h1
    refine VC.skip ?_
    refine VC.seq ?_
    refine VC.le ⟨[(4, _), (5, _), (6, _), (8, _), (9, _), (10, _), (11, _), (12, _), (13, _), (14, _), (15, _), (16, _), (18, _), (19, _), (20, _)], [.box _ ⟨[_, _, _, _], _, _⟩, .box _ ⟨[_, _, _], _, _⟩, .box _ ⟨[_, _, _, _, _], _, _⟩, .box _ ⟨[_, _, _, _, _], _, _⟩], 0 + 50 + 40 + 1 + 1⟩ (Le.mk hB [0, 1, 2, 3] ⟨rfl, rfl, rfl, rfl, rfl, rfl, rfl, rfl, rfl, rfl, rfl, rfl, rfl, rfl, rfl, trivial⟩ rfl rfl (Nat.le_refl _)) ?_
    refine VC.region ?_
    refine VO.val rfl rfl (OpV.build (pls := #[(0, 1), (1, 1), (2, 1), (3, 1), (4, 1)]) rfl Tryz.zeroValue41 Tryz.underlying41 (fun w => by kernel_rfl) rfl rfl) ?_
    refine VO.op rfl (OpE.alloc rfl hB rfl Tryz.zeroValue41 rfl ?_)
    intro g21
    refine VO.op rfl (OpE.store (i := 4) rfl hB rfl Tryz.sizeOf41 rfl rfl rfl rfl rfl rfl (Nle rfl) trivial ?_)
    refine VO.nil ?_
    refine VC.seq ?_
    refine VC.sr ?_
    refine VO.mv rfl rfl rfl rfl ?_
    refine VO.val rfl rfl (OpV.eql rfl rfl rfl) ?_
    refine VO.nil ?_
    refine VC.cond rfl (fun h2b => ?_) (fun h2b => ?_)
    ·have h2 := h2b
     try simp only [qqT, qqF, qqN, qqM, qqL, qqE] at h2
     exact VC.absurd (by omega)
    ·have h2 := h2b
     try simp only [qqT, qqF, qqN, qqM, qqL, qqE] at h2
     refine VC.skip ?_
     refine VC.seq ?_
     refine VC.le ⟨[(4, _), (5, _), (8, _), (9, _), (10, _), (11, _), (12, _), (13, _), (14, _), (15, _), (18, _), (19, _), (20, _), (21, _)], [.box _ ⟨[_, _, _, _], _, _⟩, .box _ ⟨[_, _, _], _, _⟩, .box _ ⟨[_, _, _, _, _], _, _⟩, .box _ ⟨[_, _, _, _, _], _, _⟩, .box _ ⟨[_, _, _, _, _], _, _⟩], 0 + 50 + 40 + 1 + 1⟩ (Le.mk hB [0, 1, 2, 3, 4] ⟨rfl, rfl, rfl, rfl, rfl, rfl, rfl, rfl, rfl, rfl, rfl, rfl, rfl, rfl, trivial⟩ rfl rfl (Nat.le_refl _)) ?_
     refine VC.region ?_
     refine VO.val rfl rfl (OpV.loadK_own (i := 0) rfl hB Tryz.isAgg28 Tryz.sizeOf28 rfl rfl rfl (fun h => h)) ?_
     refine VO.op rfl (OpE.call rfl hB rfl Tryz.call26 rfl (SpecN.spec (hCP)) ?_)
     rintro _ rfl
     refine VO.mv rfl rfl rfl rfl ?_
     refine VO.val rfl rfl (OpV.eql rfl rfl rfl) ?_
     refine VO.le _ (Le.boolT (t := 103) rfl (decide_eq_true rfl)) ?_
     refine VO.mv rfl rfl rfl rfl ?_
     refine VO.opY rfl rfl rfl rfl rfl ?_
     refine OpE.val (W := NoB) (OpV.loadK_own (i := 0) rfl hB Tryz.isAgg28 Tryz.sizeOf28 rfl rfl rfl (fun h => h)) rfl ?_
     refine VO.opY rfl rfl rfl rfl rfl ?_
     refine OpE.val (W := NoB) (OpV.loadK_own (i := 1) rfl hB Tryz.isAgg32 Tryz.sizeOf32 rfl rfl rfl (fun h => h)) rfl ?_
     refine VO.opY rfl rfl rfl rfl rfl ?_
     refine OpE.call rfl hB rfl Tryz.call27 rfl (SpecN.spec (hCN)) ?_
     rintro _ rfl
     refine VO.opY rfl rfl rfl rfl rfl ?_
     refine OpE.val (W := NoB) (OpV.move (.inl rfl) rfl) rfl ?_
     refine VO.opY rfl rfl rfl rfl rfl ?_
     refine OpE.val (W := NoB) (OpV.eql rfl rfl rfl) rfl ?_
     refine VO.le _ (Le.boolT (t := 109) rfl (decide_eq_true rfl)) ?_
     refine VO.val rfl rfl (OpV.pickT rfl rfl rfl rfl rfl) ?_
     refine VO.mv rfl rfl rfl rfl ?_
     refine VO.opY rfl rfl rfl rfl rfl ?_
     refine OpE.val (W := NoB) (OpV.move (.inl rfl) rfl) rfl ?_
     refine VO.opY rfl rfl rfl rfl rfl ?_
     refine OpE.val (W := NoB) (OpV.move (.inl rfl) rfl) rfl ?_
     refine VO.opY rfl rfl rfl rfl rfl ?_
     refine OpE.val (W := NoB) (OpV.eql rfl rfl rfl) rfl ?_
     refine VO.le _ (Le.boolT (t := 114) rfl (decide_eq_true rfl)) ?_
     refine VO.val rfl rfl (OpV.pickT rfl rfl rfl rfl rfl) ?_
     refine VO.mv rfl rfl rfl rfl ?_
     refine VO.opY rfl rfl rfl rfl rfl ?_
     refine OpE.val (W := NoB) (OpV.move (.inl rfl) rfl) rfl ?_
     refine VO.opY rfl rfl rfl rfl rfl ?_
     refine OpE.val (W := NoB) (OpV.move (.inl rfl) rfl) rfl ?_
     refine VO.opY rfl rfl rfl rfl rfl ?_
     refine OpE.call rfl hB rfl Tryz.call28 rfl (SpecN.spec (slices_Equal_need hl2 (by first | exact hl2 | decide))) ?_
     rintro _ rfl
     refine VO.le _ (Le.boolT (t := 119) rfl (by first | exact eqLs_self eqNd_self _ | (rw [hz1 h0]; rfl))) ?_
     refine VO.val rfl rfl (OpV.pickT rfl rfl rfl rfl rfl) ?_
     refine VO.mv rfl rfl rfl rfl ?_
     refine VO.opY rfl rfl rfl rfl rfl ?_
     refine OpE.val (W := NoB) (OpV.move (.inl rfl) rfl) rfl ?_
     refine VO.opY rfl rfl rfl rfl rfl ?_
     refine OpE.val (W := NoB) (OpV.move (.inl rfl) rfl) rfl ?_
     refine VO.opY rfl rfl rfl rfl rfl ?_
     refine OpE.val (W := NoB) (OpV.eql rfl rfl rfl) rfl ?_
     refine VO.le _ (Le.boolT (t := 124) rfl (decide_eq_true rfl)) ?_
     refine VO.val rfl rfl (OpV.pickT rfl rfl rfl rfl rfl) ?_
     refine VO.mv rfl rfl rfl rfl ?_
     refine VO.opY rfl rfl rfl rfl rfl ?_
     refine OpE.val (W := NoB) (OpV.loadK_own (i := 2) rfl hB Tryz.isAgg41 Tryz.sizeOf41 rfl rfl rfl (fun h => h)) rfl ?_
     refine VO.opY rfl rfl rfl rfl rfl ?_
     refine OpE.val (W := NoB) (OpV.loadK_own (i := 4) rfl hB Tryz.isAgg41 Tryz.sizeOf41 rfl rfl rfl (fun h => h)) rfl ?_
     refine VO.opY rfl rfl rfl rfl rfl ?_
     refine OpE.val (W := NoB) (OpV.aeql rfl Tryz.underlying41 (by kernel_rfl) (by kernel_rfl) rfl rfl (EqFs.int Tryz.underlying3 Tryz.isAgg3 rfl (by decide) (EqFs.str Tryz.underlying9 Tryz.isAgg9 rfl (by decide) (EqFs.int Tryz.underlying3 Tryz.isAgg3 rfl (by decide) (EqFs.int Tryz.underlying3 Tryz.isAgg3 rfl (by decide) (EqFs.int Tryz.underlying3 Tryz.isAgg3 rfl (by decide) (EqFs.nil _))))))) rfl ?_
     refine VO.le _ (Le.boolT (t := 129) rfl (by first | exact eqSp_self _ | (rw [hz3 h2]; exact eqSp_self zeroSp))) ?_
     refine VO.val rfl rfl (OpV.pickT rfl rfl rfl rfl rfl) ?_
     refine VO.mv rfl rfl rfl rfl ?_
     refine VO.opY rfl rfl rfl rfl rfl ?_
     refine OpE.val (W := NoB) (OpV.move (.inl rfl) rfl) rfl ?_
     refine VO.opY rfl rfl rfl rfl rfl ?_
     refine OpE.val (W := NoB) (OpV.move (.inl rfl) rfl) rfl ?_
     refine VO.opY rfl rfl rfl rfl rfl ?_
     refine OpE.val (W := NoB) (OpV.eql rfl rfl rfl) rfl ?_
     refine VO.le _ (Le.boolT (t := 134) rfl (decide_eq_true rfl)) ?_
     refine VO.val rfl rfl (OpV.pickT rfl rfl rfl rfl rfl) ?_
     refine VO.mv rfl rfl rfl rfl ?_
     refine VO.opY rfl rfl rfl rfl rfl ?_
     refine OpE.val (W := NoB) (OpV.move (.inl rfl) rfl) rfl ?_
     refine VO.opY rfl rfl rfl rfl rfl ?_
     refine OpE.val (W := NoB) (OpV.move (.inl rfl) rfl) rfl ?_
     refine VO.opY rfl rfl rfl rfl rfl ?_
     refine OpE.call rfl hB rfl Tryz.call29 rfl (SpecN.spec (slices_Equal_spot hl3 (by first | exact hl3 | decide))) ?_
     rintro _ rfl
     refine VO.le _ (Le.boolT (t := 139) rfl (by first | exact eqLs_self eqSp_self _ | (rw [hz2 h1]; rfl))) ?_
     refine VO.val rfl rfl (OpV.pickT rfl rfl rfl rfl rfl) ?_
     refine VO.mv rfl rfl rfl rfl ?_
     refine VO.opY rfl rfl rfl rfl rfl ?_
     refine OpE.call rfl hB rfl Tryz.call30 rfl (SpecN.spec (rf_paneled)) ?_
     rintro _ rfl
     refine VO.val rfl rfl (OpV.pickT rfl rfl rfl rfl rfl) ?_
     refine VO.ma rfl rfl rfl rfl ?_
     refine VO.nil ?_
     refine VC.ret ?_
     exact And.intro rfl rfl
end Go.Proofs.YtceflkkgmmcieaaGreatDoor
