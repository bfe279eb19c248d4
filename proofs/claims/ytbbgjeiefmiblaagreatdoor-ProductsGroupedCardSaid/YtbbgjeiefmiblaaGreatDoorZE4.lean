/- Part 4 of a proof: the walks and laws that it needs. -/
import Derived.Test.YtbbgjeiefmiblaaGreatDoorZE3
namespace Go.Proofs.YtbbgjeiefmiblaaGreatDoor
open Go.RowKit
set_option linter.unusedVariables false
set_option linter.unusedSimpArgs false

theorem bits_Mul_S {x y : Nat} (hx : x < 18446744073709551616) (hy : y < 18446744073709551616) (hxy : x * y < 18446744073709551616) : SpecN Tryz.prog 57 [.v (.int .u64 x), .v (.int .u64 y)] (fun z => z = .tup [.v (.int .u64 0), .v (.int .u64 ((x * y : Nat) : Int))]) := by
 intro w us ha
 rw [argsV2 ha]
 refine (Tryz.bits_Mul x y hx hy w).mono ?_
 rintro e w' ⟨rfl, rfl⟩
 rw [Nat.div_eq_of_lt hxy, Nat.mod_eq_of_lt hxy]
 refine ⟨_, _, rfl, rfl, .tup _ _ rfl fun j hj => ?_, Chg.refl _ _, trivial⟩
 match j, hj with
 | 0, _ => exact .v _
 | 1, _ => exact .v _

def repC (X Z : AV) (k n : Nat) : List AV := List.replicate k X ++ List.replicate (n - k) Z
theorem repC_len {X Z : AV} {k n : Nat} (h : k ≤ n) : (repC X Z k n).length = n := by simp [repC]; omega
theorem repC_get {X Z : AV} {k n j : Nat} (h : k ≤ n) (hj : j < n) : (repC X Z k n)[j]? = some (if j < k then X else Z) := by
 unfold repC
 split
 ·rename_i h1; rw [List.getElem?_append_left (by simpa using h1)]; simp [h1]
 ·rename_i h1
  rw [List.getElem?_append_right (by simpa using h1), List.length_replicate, List.getElem?_replicate, if_pos (by omega)]
theorem repC_step {X Z : AV} {F : Nat → AV} {k c n o q : Nat} (h : k + c ≤ n) (hF : ∀ j, j < c → F j = X) (ho : o = k) (hq : q = c) : (repC X Z k n).take o ++ tab q F ++ (repC X Z k n).drop (o + q) = repC X Z (k + c) n := by
 subst ho; subst hq
 apply List.ext_getElem?
 intro i
 by_cases hi : i < n
 ·rw [repC_get h hi]
  by_cases h1 : i < o
  ·rw [List.append_assoc, List.getElem?_append_left (by rw [List.length_take, repC_len (by omega)]; omega), List.getElem?_take, if_pos h1, repC_get (by omega) hi, if_pos h1, if_pos (by omega)]
  ·by_cases h2 : i < o + q
   ·rw [List.append_assoc, List.getElem?_append_right (by rw [List.length_take, repC_len (by omega)]; omega), List.getElem?_append_left (by rw [List.length_take, repC_len (by omega), tab_len]; omega), if_pos h2]
    rw [List.getElem?_eq_getElem (by rw [List.length_take, repC_len (by omega), tab_len]; omega), tab_get, hF _ (by rw [List.length_take, repC_len (by omega)]; omega)]
   ·rw [List.getElem?_append_right (by rw [List.length_append, List.length_take, repC_len (by omega), tab_len]; omega), List.getElem?_drop, List.length_append, List.length_take, repC_len (by omega), tab_len, repC_get (by omega) (by omega), if_neg (by omega), if_neg h2]
 ·have l1 : ((repC X Z o n).take o ++ tab q F ++ (repC X Z o n).drop (o + q)).length ≤ i := by
   rw [List.length_append, List.length_append, List.length_take, List.length_drop, repC_len (by omega), tab_len]; omega
  have l2 : (repC X Z (o + q) n).length ≤ i := by rw [repC_len h]; omega
  rw [List.getElem?_eq_none l1, List.getElem?_eq_none l2]
theorem repC_0 {z : Value} {n m : Nat} (hz : z.cells = #[z]) (hm : m = n) : (madeCells z.cells (m * 1)).toList.map AV.v = repC (.v z) (.v z) 0 n := by
 subst hm
 rw [hz, Nat.mul_one, toList_madeCells_one]
 simp [repC]
theorem repC_full {X Z : AV} {n : Nat} : repC X Z n n = List.replicate n X := by simp [repC]
theorem repC_zero {X Y Z : AV} {n : Nat} : repC X Z 0 n = repC Y Z 0 n := by simp [repC]
theorem repC_first {X Z : AV} {F : Nat → AV} {n c : Nat} (hc : c = min 1 n) (hF : F 0 = X) : (repC Z Z 0 n).take 0 ++ tab (c * 1) F ++ (repC Z Z 0 n).drop (0 + c * 1) = repC X Z c n := by
 rw [repC_zero (X := Z) (Y := X)]
 have h0 : 0 + c = c := Nat.zero_add c
 rw [← h0]
 rw [h0]
 conv => rhs; rw [← h0]
 exact repC_step (c := c) (by omega) (fun j hj => by rw [show j = 0 by omega]; exact hF) rfl (Nat.mul_one _)
set_option maxRecDepth 100000 in
theorem slices_Repeat_str {x : ByteArray} {n : Nat} (hn : n ≤ 100000) :
  Spec Tryz.prog 55 [avStrs [x], avI (n : Int)] (fun y => y = avStrs (List.replicate n x)) := by
 refine Spec.of_VC Tryz.func55 rfl Tryz.ntmps55 (Nle rfl) fun w A hB => ?_
 have hnew : True := trivial
 refine VC.sr ?_
 refine VO.ma rfl rfl rfl rfl ?_
 refine VO.nil ?_
 refine VC.seq ?_
 refine VC.sr ?_
 refine VO.mv rfl rfl rfl rfl ?_
 refine VO.val rfl rfl (OpV.lss rfl rfl rfl) ?_
 refine VO.nil ?_
 refine VC.cond rfl (fun aH1b => ?_) (fun aH1b => ?_)
 ·have aH1 := aH1b
  try simp only [qqT, qqF, qqN, qqM, qqL, qqE] at aH1
  exact VC.absurd (by omega)
 ·have aH1 := aH1b
  try simp only [qqT, qqF, qqN, qqM, qqL, qqE] at aH1
  refine VC.skip ?_
  refine VC.sr ?_
  refine VO.mv rfl rfl rfl rfl ?_
  refine VO.val rfl rfl (OpV.len_im rfl Tryz.underlying29 rfl) ?_
  refine VO.val rfl rfl (OpV.conv rfl Tryz.underlying3 Tryz.underlying90 rfl (IntWalk.u64_in _ (by simp))) ?_
  refine VO.mv rfl rfl rfl rfl ?_
  refine VO.val rfl rfl (OpV.conv rfl Tryz.underlying3 Tryz.underlying90 rfl (IntWalk.u64_in _ (by omega))) ?_
  refine VO.op rfl (OpE.call rfl hB rfl Tryz.call57 rfl (SpecN.spec (bits_Mul_S (x := 1) (y := n) (by omega) (by omega) (by omega))) ?_)
  rintro _ rfl
  refine VO.mv rfl rfl rfl rfl ?_
  refine VO.val rfl rfl (OpV.extract rfl rfl rfl) ?_
  refine VO.val rfl rfl (OpV.extract rfl rfl rfl) ?_
  refine VO.ma rfl rfl rfl rfl ?_
  refine VO.ma rfl rfl rfl rfl ?_
  refine VO.nil ?_
  refine VC.seq ?_
  refine VC.sr ?_
  refine VO.mv rfl rfl rfl rfl ?_
  refine VO.val rfl rfl (OpV.gtr rfl rfl rfl) ?_
  refine VO.mv rfl rfl rfl rfl ?_
  refine VO.opY rfl rfl rfl rfl rfl ?_
  refine OpE.val (W := NoB) (OpV.move (.inl rfl) rfl) rfl ?_
  refine VO.opY rfl rfl rfl rfl rfl ?_
  refine OpE.val (W := NoB) (OpV.gtr rfl rfl rfl) rfl ?_
  refine VO.val rfl rfl (OpV.pickF rfl rfl rfl rfl rfl) ?_
  refine VO.nil ?_
  refine VC.cond rfl (fun aH2b => ?_) (fun aH2b => ?_)
  ·have aH2 := aH2b
   try simp only [qqT, qqF, qqN, qqM, qqL, qqE] at aH2
   exact VC.absurd (by omega)
  ·have aH2 := aH2b
   try simp only [qqT, qqF, qqN, qqM, qqL, qqE] at aH2
   refine VC.skip ?_
   refine VC.sr ?_
   refine VO.mv rfl rfl rfl rfl ?_
   refine VO.val rfl rfl (OpV.conv rfl Tryz.underlying90 Tryz.underlying3 rfl (IntWalk.i64_in _ (by omega))) ?_
   refine VO.op rfl (OpE.make rfl hB rfl Tryz.underlying29 (infoOf Tryz.t9 1 (by kernel_rfl) rfl rfl) (by decide) rfl rfl (n := n) (by omega) (by omega) (by omega) (repC_0 (n := n) rfl rfl) ?_)
   intro g30
   refine VO.ma rfl rfl rfl rfl ?_
   refine VO.nil ?_
   refine VC.sr ?_
   refine VO.mv rfl rfl rfl rfl ?_
   refine VO.mv rfl rfl rfl rfl ?_
   refine VO.op rfl (OpE.copy (i := 0) rfl hB rfl Tryz.underlying29 Tryz.sizeOf9 rfl rfl (SrcP.im rfl) (c := min 1 n) rfl (fun _ _ => rfl) (by rw [repC_len (by omega)]; omega) (repC_first rfl rfl) trivial ?_)
   refine VO.ma rfl rfl rfl rfl ?_
   refine VO.nil ?_
   refine VC.seq ?_
   refine VC.block ?_
   refine VC.loopK [(7, _)] ⟨rfl, trivial⟩ ({k : Nat // k ≤ n ∧ (k = 0 → n = 0)}) (fun (iZ : {k : Nat // k ≤ n ∧ (k = 0 → n = 0)}) => match iZ with | ⟨k, hk, hk0⟩ => [(8, avI (k : Int))]) (fun (iZ : {k : Nat // k ≤ n ∧ (k = 0 → n = 0)}) => match iZ with | ⟨k, hk, hk0⟩ => [.box g30 ⟨repC (avS x) (.v (.string ⟨#[]⟩)) k n, 9, (repC (.v (.string ⟨#[]⟩)) (.v (.string ⟨#[]⟩)) 0 n).length⟩]) (fun (iZ : {k : Nat // k ≤ n ∧ (k = 0 → n = 0)}) => match iZ with | ⟨k, hk, hk0⟩ => 0) (fun (iZ : {k : Nat // k ≤ n ∧ (k = 0 → n = 0)}) => match iZ with | ⟨k, hk, hk0⟩ => n - k) ⟨min 1 n, by omega, by omega⟩ (Le.mk hB [0] ⟨rfl, rfl, trivial⟩ rfl rfl (Nat.le_refl _)) ?_
   rintro ⟨k, hk, hk0⟩
   show VC _ _ _ _ ⟨[(8, avI (k : Int))] ++ [(7, _)], [.box g30 ⟨repC (avS x) (.v (.string ⟨#[]⟩)) k n, 9, (repC (.v (.string ⟨#[]⟩)) (.v (.string ⟨#[]⟩)) 0 n).length⟩], 0⟩
   refine VC.seq ?_
   refine VC.sr ?_
   refine VO.mv rfl rfl rfl rfl ?_
   refine VO.mv rfl rfl rfl rfl ?_
   refine VO.val rfl rfl (OpV.len_v rfl Tryz.underlying29 rfl) ?_
   refine VO.val rfl rfl (OpV.lss rfl rfl rfl) ?_
   refine VO.nil ?_
   refine VC.cond rfl (fun aH3b => ?_) (fun aH3b => ?_)
   ·have aH3 := aH3b
    try simp only [qqT, qqF, qqN, qqM, qqL, qqE] at aH3
    refine VC.skip ?_
    refine VC.block ?_
    refine VC.draw (fun j b => j = 7 ∧ b = g30) hB (by kernel_rfl) ?_
    refine VA.take (i := 0) rfl (by kernel_rfl) (by kernel_rfl) (by kernel_rfl) rfl rfl (OpV.move (.inl rfl) rfl) ?_
    refine VA.take (i := 1) rfl (by kernel_rfl) (by kernel_rfl) (by kernel_rfl) rfl rfl (OpV.move (.inl rfl) rfl) ?_
    refine VA.take (i := 2) rfl (by kernel_rfl) (by kernel_rfl) (by kernel_rfl) rfl rfl (OpV.move (.inl rfl) rfl) ?_
    refine VA.take (i := 3) rfl (by kernel_rfl) (by kernel_rfl) (by kernel_rfl) rfl rfl (OpV.slice_own (l := k) rfl Tryz.underlying29 Tryz.sizeOf9 rfl ⟨_, _, rfl, rfl⟩ rfl (by omega) (by omega) (by omega)) ?_
    refine VA.take (i := 4) rfl (by kernel_rfl) (by kernel_rfl) (by kernel_rfl) rfl rfl (OpV.move (.inl rfl) rfl) ?_
    refine VA.take (i := 5) rfl (by kernel_rfl) (by kernel_rfl) (by kernel_rfl) rfl rfl (OpV.move (.inl rfl) rfl) ?_
    refine VA.take (i := 6) rfl (by kernel_rfl) (by kernel_rfl) (by kernel_rfl) rfl rfl (OpV.slice_own (h := k) rfl Tryz.underlying29 Tryz.sizeOf9 rfl rfl ⟨_, _, rfl, rfl⟩ (by omega) (by omega) (by omega)) ?_
    refine VA.all (rs := [7]) (by kernel_rfl) (by decide) ?_
    refine ⟨⟨_, rfl, .inl rfl, ?_⟩, trivial⟩
    refine OpE.copy (i := 0) rfl hB rfl Tryz.underlying29 Tryz.sizeOf9 rfl rfl (SrcP.box (i := 0) rfl rfl (by show 0 + 0 * 1 + (k - 0) * 1 ≤ (repC _ _ k n).length; rw [repC_len (by omega)]; omega)) (c := min k (n - k)) (by omega) (fun j hj => by dsimp only; rw [List.getD_eq_getElem?_getD, repC_get (by omega) (by omega), if_pos (by omega)]; rfl) (by show 0 + k * 1 + _ ≤ (repC _ _ k n).length; rw [repC_len (by omega)]; omega) (repC_step (c := min k (n - k)) (by omega) (fun j hj => by dsimp only; rw [List.getD_eq_getElem?_getD, repC_get (by omega) (by omega), if_pos (by omega)]; rfl) (by omega) (by omega)) (by first | exact ⟨rfl, rfl⟩ | exact .inl ⟨rfl, rfl⟩ | exact .inr ⟨rfl, rfl⟩ | exact ⟨rfl, trivial⟩ | exact .inl ⟨rfl, trivial⟩ | exact .inr ⟨rfl, trivial⟩ | exact ⟨by decide, rfl⟩) ?_
    refine VA.take (i := 8) rfl (by kernel_rfl) (by kernel_rfl) (by kernel_rfl) rfl rfl (OpV.add rfl rfl rfl (by unfold fits; omega)) ?_
    refine VA.take (i := 9) rfl (by kernel_rfl) (by kernel_rfl) (by kernel_rfl) rfl rfl (OpV.move (.inr rfl) rfl) ?_
    refine VA.done (by kernel_rfl) ?_
    exact Exists.intro (⟨k + min k (n - k), by omega, by omega⟩) (And.intro (Le.mk hB [0] ⟨rfl, rfl, trivial⟩ rfl rfl (Nat.le_refl _)) (by first | omega | (show _ < _; omega) | (simp only []; omega)))
   ·have aH3 := aH3b
    try simp only [qqT, qqF, qqN, qqM, qqL, qqE] at aH3
    refine VC.exit ?_
    refine VC.sr ?_
    refine VO.mv rfl rfl rfl rfl ?_
    refine VO.ma rfl rfl rfl rfl ?_
    refine VO.nil ?_
    obtain rfl : k = n := by omega
    refine VC.le _ (Le.box (t := 4) (i := 0) (n := k) (sz := 1) (y := avStrs (List.replicate k x)) hB hnew rfl rfl (by show 0 + k * 1 ≤ (repC _ _ k k).length; rw [repC_len (by omega)]; omega) (Nat.le_refl _) (capM (by omega)) (fun w Z u h => Rep.strs (by simp) (h.im_congr fun j hj => by rw [repC_full, strsL, List.map_replicate, Nat.zero_add]))) ?_
    refine VC.ret ?_
    exact Exists.intro _ (And.intro (RetV.one Tryz.results55 (ResV.tmp rfl)) (rfl))
end Go.Proofs.YtbbgjeiefmiblaaGreatDoor
namespace Go.Proofs.YtbbgjeiefmiblaaGreatDoor
open Go.RowKit
set_option linter.unusedVariables false
set_option linter.unusedSimpArgs false
theorem encL_small (n : Int) : (Utf8.encode n).size ≤ 4 := by
 unfold Utf8.encode
 simp only
 repeat' split
 all_goals simp [ByteArray.size]
def nm3 : List ByteArray := [⟨#[99, 49]⟩, ⟨#[99, 50]⟩, ⟨#[114, 49]⟩]
def bdK (i : Nat) : ByteArray := ⟨#[98]⟩ ++ Utf8.encode (49 + (i : Int))
theorem bdK_size (i : Nat) : (bdK i).size ≤ 1000 := by
 have := encL_small (49 + (i : Int))
 show (⟨#[98]⟩ ++ Utf8.encode (49 + (i : Int)) : ByteArray).size ≤ 1000
 rw [ByteArray.size_append]; have h1 : (⟨#[98]⟩ : ByteArray).size = 1 := rfl; omega
theorem nm3_size (q : Nat) : (nm3.getD q ByteArray.empty).size ≤ 1000 := by
 match q with
 | 0 => decide
 | 1 => decide
 | 2 => decide
 | q + 3 => simp [nm3]
def BdG (m : Nat) (s : ByteArray) : Prop := s.size ≤ 1000 ∧ (keyF s = true → ∃ i, i < m ∧ s = bdK i)
def NmG (s : ByteArray) : Prop := s.size ≤ 1000 ∧ (keyF s = true → s ∈ nm3)
def SmG (s : ByteArray) : Prop := s.size ≤ 1000
def AtG (m : Nat) (v : Int) : Prop := (-1 ≤ v ∧ v ≤ 345686400000) ∧ (0 ≤ v → v ≤ 345686399999 → v ≤ 10 * (m : Int))
theorem AtG.mono {m n : Nat} {v : Int} (h : AtG m v) (hn : m ≤ n) : AtG n v := ⟨h.1, fun h1 h2 => by have := h.2 h1 h2; omega⟩
structure LkG (m : Nat) (x : LookS) : Prop where
 board : BdG m x.board
 name : NmG x.name
 at_ : AtG m x.at_
 machine : SmG x.machine
 nozzle : SmG x.nozzle
 reel : SmG x.reel
theorem BdG.mono {m n : Nat} {s : ByteArray} (h : BdG m s) (hn : m ≤ n) : BdG n s := ⟨h.1, fun hk => by obtain ⟨i, hi, e⟩ := h.2 hk; exact ⟨i, by omega, e⟩⟩
theorem LkG.mono {m n : Nat} {x : LookS} (h : LkG m x) (hn : m ≤ n) : LkG n x := ⟨h.board.mono hn, h.name, h.at_.mono hn, h.machine, h.nozzle, h.reel⟩
theorem keyF_none : keyF ⟨#[]⟩ = false := by decide +kernel
theorem keyF_A : keyF ⟨#[65]⟩ = false := by decide +kernel
theorem BdG.none (m : Nat) : BdG m ⟨#[]⟩ := ⟨by decide, fun h => by rw [keyF_none] at h; cases h⟩
theorem BdG.k {m i : Nat} (h : i < m) : BdG m (bdK i) := ⟨bdK_size i, fun _ => ⟨i, h, rfl⟩⟩
theorem NmG.none : NmG ⟨#[65]⟩ := ⟨by decide, fun h => by rw [keyF_A] at h; cases h⟩
theorem NmG.k (q : Nat) : NmG (nm3.getD q ByteArray.empty) := ⟨nm3_size q, fun h => by
 match q with
 | 0 => simp [nm3]
 | 1 => simp [nm3]
 | 2 => simp [nm3]
 | q + 3 =>
  have e : nm3.getD (q + 3) ByteArray.empty = ⟨#[]⟩ := by simp [nm3]; rfl
  rw [e, keyF_none] at h; cases h⟩
theorem LkG.zero : LkG 0 default := ⟨BdG.none 0, ⟨by decide, fun h => by have : keyF ⟨#[]⟩ = true := h; rw [keyF_none] at this; cases this⟩, ⟨by decide, by decide⟩, by unfold SmG; decide, by unfold SmG; decide, by unfold SmG; decide⟩
theorem LkG.getD {m : Nat} {l : List LookS} (h : ∀ x ∈ l, LkG m x) (i : Nat) : LkG m (l.getD i default) := by
 rw [List.getD_eq_getElem?_getD]
 cases hi : l[i]? with
 | none => exact LkG.zero.mono (Nat.zero_le _)
 | some x => exact h x (List.mem_of_getElem? hi)
theorem LkG.snoc {m : Nat} {l : List LookS} (h : ∀ x ∈ l, LkG m x) {y : LookS} (hy : LkG m y) : ∀ x ∈ l ++ [y], LkG m x := fun x hx => by
 rcases List.mem_append.1 hx with hx | hx
 ·exact h x hx
 ·simp at hx; subst hx; exact hy
def AllG (Pr : ByteArray → Prop) : List AV → Prop
 | [] => True
 | x :: r => (∃ i : ByteArray, Pr i ∧ x = avS i) ∧ AllG Pr r
theorem AllG.nil {Pr : ByteArray → Prop} : AllG Pr [] := trivial
theorem AllG.cons {Pr : ByteArray → Prop} {i : ByteArray} {r : List AV} (h : Pr i) (hr : AllG Pr r) : AllG Pr (avS i :: r) := ⟨⟨i, h, rfl⟩, hr⟩
def AllJ (Pr : Int → Prop) : List AV → Prop
 | [] => True
 | x :: r => (∃ i : Int, Pr i ∧ x = avI i) ∧ AllJ Pr r
theorem AllJ.nil {Pr : Int → Prop} : AllJ Pr [] := trivial
theorem AllJ.cons {Pr : Int → Prop} {i : Int} {r : List AV} (h : Pr i) (hr : AllJ Pr r) : AllJ Pr (avI i :: r) := ⟨⟨i, h, rfl⟩, hr⟩
end Go.Proofs.YtbbgjeiefmiblaaGreatDoor
namespace Go.Proofs.YtbbgjeiefmiblaaGreatDoor
open Go.RowKit
set_option linter.unusedVariables false
set_option linter.unusedSimpArgs false
theorem cg_app (a b : ByteArray) : (a ++ b).size = a.size + b.size := ByteArray.size_append
theorem cg_ext (s : ByteArray) (a b : Nat) : (s.extract a b).size = min b s.size - a := ByteArray.size_extract
theorem cg_pos {p : ByteArray} (h : sEq p ⟨#[]⟩ = false) : 0 < p.size := by
 by_cases h0 : p.size = 0
 ·exfalso
  have : p = ⟨#[]⟩ := by
   apply ByteArray.ext
   apply Array.eq_empty_of_size_eq_zero
   exact h0
  rw [this, sEq_eq.2 rfl] at h; cases h
 ·omega
set_option maxRecDepth 100000 in
set_option maxHeartbeats 4000000 in
theorem changed_T {p : Nat} {L : List Int} {t s : ByteArray} (ht : t.size ≤ 1000000) (hs : 0 < s.size ∧ s.size ≤ 100) :
  SpecT Tryz.prog (TT p L) (fun b => b = p) 56 [sp p, avS t, avS s] 3 (fun y => ∃ r : ByteArray, r.size ≤ t.size + 100 ∧ y = avS r) := by
 refine SpecT.of_VC Tryz.func56 rfl Tryz.ntmps56 (Nle rfl) (low := (fun b => b ≤ p)) (fun w A k h => h.ok) fun w A k hk hB => ?_
 have hnew : True := trivial
 refine VC.sr ?_
 refine VO.ma rfl rfl rfl rfl ?_
 refine VO.nil ?_
 refine VC.seq ?_
 refine VC.sr ?_
 refine VO.mv rfl rfl rfl rfl ?_
 refine VO.val rfl rfl (OpV.seql rfl rfl rfl) ?_
 refine VO.mv rfl rfl rfl rfl ?_
 refine VO.opG rfl rfl rfl rfl (fun aK1b => ?_) (fun aK1b => ?_)
 ·replace aK1b : _ = false := aK1b
  have aK1 := aK1b
  try simp only [qqT, qqF, qqN, qqM, qqL, qqE] at aK1
  refine OpE.val (W := NoB) (OpV.move (.inl rfl) rfl) rfl ?_
  refine VO.opY rfl rfl rfl rfl aK1b ?_
  refine OpE.val (W := NoB) (OpV.seql rfl rfl rfl) rfl ?_
  refine VO.val rfl rfl (OpV.pickF rfl rfl rfl rfl aK1b) ?_
  refine VO.nil ?_
  refine VC.cond rfl (fun h0b => ?_) (fun h0b => ?_)
  ·have h0 := h0b
   try simp only [qqT, qqF, qqN, qqM, qqL, qqE] at h0
   refine VC.sr ?_
   refine VO.mv rfl rfl rfl rfl ?_
   refine VO.ma rfl rfl rfl rfl ?_
   refine VO.nil ?_
   refine VC.ret ?_
   exact Exists.intro _ (And.intro (RetV.one Tryz.results56 (ResV.tmp rfl)) (And.intro (⟨_, by omega, rfl⟩) ((show k ≤ k + 3 by omega))))
  ·have h0 := h0b
   try simp only [qqT, qqF, qqN, qqM, qqL, qqE] at h0
   refine VC.skip ?_
   refine VC.seq ?_
   have htp : 0 < t.size := cg_pos (by simp_all)
   have hsp := hs.1
   refine VC.region ?_
   refine VO.mv rfl rfl rfl rfl ?_
   refine VO.mv rfl rfl rfl rfl ?_
   refine VO.val rfl rfl (OpV.len_s rfl Tryz.underlying9 rfl) ?_
   refine VO.op rfl (OpE.callT' (k) rfl rfl hB rfl Tryz.call51 rfl ((next_T (by omega))) (by omega) ?_)
   rintro _ ⟨r19, hr19, rfl⟩
   obtain ⟨i, rfl⟩ : ∃ i : Nat, r19 = i := ⟨r19.toNat, by omega⟩
   refine VO.ma rfl rfl rfl rfl ?_
   refine VO.nil ?_
   refine VC.sr ?_
   refine VO.mv rfl rfl rfl rfl ?_
   refine VO.mv rfl rfl rfl rfl ?_
   refine VO.mv rfl rfl rfl rfl ?_
   refine VO.val rfl rfl (OpV.len_s rfl Tryz.underlying9 rfl) ?_
   refine VO.op rfl (OpE.callT' (k + 1) rfl rfl hB rfl Tryz.call51 rfl ((next_T (by omega))) (by omega) ?_)
   rintro _ ⟨r24, hr24, rfl⟩
   obtain ⟨j, rfl⟩ : ∃ j : Nat, r24 = j := ⟨r24.toNat, by omega⟩
   refine VO.val rfl rfl (OpV.index_s rfl Tryz.underlying9 rfl rfl (by omega) (by omega)) ?_
   obtain ⟨cv, hcv, hcb⟩ : ∃ cv : Nat, cv = s[(j : Int).toNat].toNat ∧ cv < 256 := ⟨_, rfl, UInt8.toNat_lt _⟩
   refine VO.le _ (Le.recast (t := 25) (y := .v (.int .u8 (cv : Int))) rfl (fun w Z u h => by rw [hcv]; exact h)) ?_
   refine VO.ma rfl rfl rfl rfl ?_
   refine VO.nil ?_
   refine VC.seq ?_
   refine VC.seq ?_
   have hen := encL_small (cv : Int)
   have hx1 := cg_ext t 0 i
   have hx2 := cg_ext t (i + 1) t.size
   have hx3 := cg_ext t i t.size
   refine VC.region ?_
   refine VO.mv rfl rfl rfl rfl ?_
   refine VO.op rfl (OpE.callT' (k + 1 + 1) rfl rfl hB rfl Tryz.call51 rfl ((next_T (by omega))) (by omega) ?_)
   rintro _ ⟨r27, hr27, rfl⟩
   refine VO.nil ?_
   refine VC.block ?_
   refine VC.sr ?_
   refine VO.val rfl rfl (OpV.eql rfl rfl rfl) ?_
   refine VO.ma rfl rfl rfl rfl ?_
   refine VO.nil ?_
   refine VC.cond rfl (fun aH2b => ?_) (fun aH2b => ?_)
   ·have aH2 := aH2b
    try simp only [qqT, qqF, qqN, qqM, qqL, qqE] at aH2
    refine VC.seq ?_
    refine VC.draw (fun _ => NoB) hB (by kernel_rfl) ?_
    refine VA.take (i := 0) rfl (by kernel_rfl) (by kernel_rfl) (by kernel_rfl) rfl rfl (OpV.move (.inl rfl) rfl) ?_
    refine VA.take (i := 1) rfl (by kernel_rfl) (by kernel_rfl) (by kernel_rfl) rfl rfl (OpV.move (.inl rfl) rfl) ?_
    refine VA.take (i := 2) rfl (by kernel_rfl) (by kernel_rfl) (by kernel_rfl) rfl rfl (OpV.slice_s (h := i) rfl Tryz.underlying9 rfl rfl ⟨_, _, rfl, by omega⟩ (by omega) (by omega)) ?_
    refine VA.take (i := 3) rfl (by kernel_rfl) (by kernel_rfl) (by kernel_rfl) rfl rfl (OpV.move (.inl rfl) rfl) ?_
    refine VA.take (i := 4) rfl (by kernel_rfl) (by kernel_rfl) (by kernel_rfl) rfl rfl (OpV.conv rfl Tryz.underlying5 Tryz.underlying21 rfl (IntWalk.i32_in _ (by omega))) ?_
    refine VA.take (i := 5) rfl (by kernel_rfl) (by kernel_rfl) (by kernel_rfl) rfl rfl (OpV.convStr rfl Tryz.underlying21 Tryz.underlying9 rfl) ?_
    refine VA.take (i := 6) rfl (by kernel_rfl) (by kernel_rfl) (by kernel_rfl) rfl rfl (OpV.sadd rfl rfl rfl (by omega)) ?_
    refine VA.take (i := 7) rfl (by kernel_rfl) (by kernel_rfl) (by kernel_rfl) rfl rfl (OpV.move (.inl rfl) rfl) ?_
    refine VA.take (i := 8) rfl (by kernel_rfl) (by kernel_rfl) (by kernel_rfl) rfl rfl (OpV.move (.inl rfl) rfl) ?_
    refine VA.take (i := 9) rfl (by kernel_rfl) (by kernel_rfl) (by kernel_rfl) rfl rfl (OpV.add rfl rfl rfl (by unfold fits; omega)) ?_
    refine VA.take (i := 10) rfl (by kernel_rfl) (by kernel_rfl) (by kernel_rfl) rfl rfl (OpV.slice_s (l := i + 1) rfl Tryz.underlying9 rfl ⟨_, _, rfl, by omega⟩ rfl (by omega) (by omega)) ?_
    refine VA.take (i := 11) rfl (by kernel_rfl) (by kernel_rfl) (by kernel_rfl) rfl rfl (OpV.sadd rfl rfl rfl (by simp only [cg_app]; omega)) ?_
    refine VA.take (i := 12) rfl (by kernel_rfl) (by kernel_rfl) (by kernel_rfl) rfl rfl (OpV.move (.inr rfl) rfl) ?_
    refine VA.done (by kernel_rfl) ?_
    refine VC.ret ?_
    exact Exists.intro _ (And.intro (RetV.one Tryz.results56 (ResV.tmp rfl)) (And.intro (⟨_, by simp only [cg_app]; omega, rfl⟩) ((show k + 1 + 1 + 1 ≤ k + 3 by omega))))
   ·have aH2 := aH2b
    try simp only [qqT, qqF, qqN, qqM, qqL, qqE] at aH2
    refine VC.sr ?_
    refine VO.val rfl rfl (OpV.eql rfl rfl rfl) ?_
    refine VO.ma rfl rfl rfl rfl ?_
    refine VO.nil ?_
    refine VC.cond rfl (fun aH3b => ?_) (fun aH3b => ?_)
    ·have aH3 := aH3b
     try simp only [qqT, qqF, qqN, qqM, qqL, qqE] at aH3
     refine VC.seq ?_
     refine VC.draw (fun _ => NoB) hB (by kernel_rfl) ?_
     refine VA.take (i := 0) rfl (by kernel_rfl) (by kernel_rfl) (by kernel_rfl) rfl rfl (OpV.move (.inl rfl) rfl) ?_
     refine VA.take (i := 1) rfl (by kernel_rfl) (by kernel_rfl) (by kernel_rfl) rfl rfl (OpV.move (.inl rfl) rfl) ?_
     refine VA.take (i := 2) rfl (by kernel_rfl) (by kernel_rfl) (by kernel_rfl) rfl rfl (OpV.slice_s (h := i) rfl Tryz.underlying9 rfl rfl ⟨_, _, rfl, by omega⟩ (by omega) (by omega)) ?_
     refine VA.take (i := 3) rfl (by kernel_rfl) (by kernel_rfl) (by kernel_rfl) rfl rfl (OpV.move (.inl rfl) rfl) ?_
     refine VA.take (i := 4) rfl (by kernel_rfl) (by kernel_rfl) (by kernel_rfl) rfl rfl (OpV.conv rfl Tryz.underlying5 Tryz.underlying21 rfl (IntWalk.i32_in _ (by omega))) ?_
     refine VA.take (i := 5) rfl (by kernel_rfl) (by kernel_rfl) (by kernel_rfl) rfl rfl (OpV.convStr rfl Tryz.underlying21 Tryz.underlying9 rfl) ?_
     refine VA.take (i := 6) rfl (by kernel_rfl) (by kernel_rfl) (by kernel_rfl) rfl rfl (OpV.sadd rfl rfl rfl (by omega)) ?_
     refine VA.take (i := 7) rfl (by kernel_rfl) (by kernel_rfl) (by kernel_rfl) rfl rfl (OpV.move (.inl rfl) rfl) ?_
     refine VA.take (i := 8) rfl (by kernel_rfl) (by kernel_rfl) (by kernel_rfl) rfl rfl (OpV.move (.inl rfl) rfl) ?_
     refine VA.take (i := 9) rfl (by kernel_rfl) (by kernel_rfl) (by kernel_rfl) rfl rfl (OpV.slice_s (l := i) rfl Tryz.underlying9 rfl ⟨_, _, rfl, by omega⟩ rfl (by omega) (by omega)) ?_
     refine VA.take (i := 10) rfl (by kernel_rfl) (by kernel_rfl) (by kernel_rfl) rfl rfl (OpV.sadd rfl rfl rfl (by simp only [cg_app]; omega)) ?_
     refine VA.take (i := 11) rfl (by kernel_rfl) (by kernel_rfl) (by kernel_rfl) rfl rfl (OpV.move (.inr rfl) rfl) ?_
     refine VA.done (by kernel_rfl) ?_
     refine VC.ret ?_
     exact Exists.intro _ (And.intro (RetV.one Tryz.results56 (ResV.tmp rfl)) (And.intro (⟨_, by simp only [cg_app]; omega, rfl⟩) ((show k + 1 + 1 + 1 ≤ k + 3 by omega))))
    ·have aH3 := aH3b
     try simp only [qqT, qqF, qqN, qqM, qqL, qqE] at aH3
     refine VC.skip ?_
     refine VC.seq ?_
     refine VC.draw (fun _ => NoB) hB (by kernel_rfl) ?_
     refine VA.take (i := 0) rfl (by kernel_rfl) (by kernel_rfl) (by kernel_rfl) rfl rfl (OpV.move (.inl rfl) rfl) ?_
     refine VA.take (i := 1) rfl (by kernel_rfl) (by kernel_rfl) (by kernel_rfl) rfl rfl (OpV.move (.inl rfl) rfl) ?_
     refine VA.take (i := 2) rfl (by kernel_rfl) (by kernel_rfl) (by kernel_rfl) rfl rfl (OpV.slice_s (h := i) rfl Tryz.underlying9 rfl rfl ⟨_, _, rfl, by omega⟩ (by omega) (by omega)) ?_
     refine VA.take (i := 3) rfl (by kernel_rfl) (by kernel_rfl) (by kernel_rfl) rfl rfl (OpV.move (.inl rfl) rfl) ?_
     refine VA.take (i := 4) rfl (by kernel_rfl) (by kernel_rfl) (by kernel_rfl) rfl rfl (OpV.move (.inl rfl) rfl) ?_
     refine VA.take (i := 5) rfl (by kernel_rfl) (by kernel_rfl) (by kernel_rfl) rfl rfl (OpV.add rfl rfl rfl (by unfold fits; omega)) ?_
     refine VA.take (i := 6) rfl (by kernel_rfl) (by kernel_rfl) (by kernel_rfl) rfl rfl (OpV.slice_s (l := i + 1) rfl Tryz.underlying9 rfl ⟨_, _, rfl, by omega⟩ rfl (by omega) (by omega)) ?_
     refine VA.take (i := 7) rfl (by kernel_rfl) (by kernel_rfl) (by kernel_rfl) rfl rfl (OpV.sadd rfl rfl rfl (by omega)) ?_
     refine VA.take (i := 8) rfl (by kernel_rfl) (by kernel_rfl) (by kernel_rfl) rfl rfl (OpV.move (.inr rfl) rfl) ?_
     refine VA.done (by kernel_rfl) ?_
     refine VC.ret ?_
     exact Exists.intro _ (And.intro (RetV.one Tryz.results56 (ResV.tmp rfl)) (And.intro (⟨_, by simp only [cg_app]; omega, rfl⟩) ((show k + 1 + 1 + 1 ≤ k + 3 by omega))))
 ·replace aK1b : _ = true := aK1b
  have aK1 := aK1b
  try simp only [qqT, qqF, qqN, qqM, qqL, qqE] at aK1
  refine VO.opX rfl rfl rfl rfl aK1b ?_
  refine VO.val rfl rfl (OpV.pickT rfl rfl rfl rfl aK1b) ?_
  refine VO.nil ?_
  refine VC.condT rfl rfl ?_
  refine VC.sr ?_
  refine VO.mv rfl rfl rfl rfl ?_
  refine VO.ma rfl rfl rfl rfl ?_
  refine VO.nil ?_
  refine VC.ret ?_
  exact Exists.intro _ (And.intro (RetV.one Tryz.results56 (ResV.tmp rfl)) (And.intro (⟨_, by omega, rfl⟩) ((show k ≤ k + 3 by omega))))
end Go.Proofs.YtbbgjeiefmiblaaGreatDoor
namespace Go.Proofs.YtbbgjeiefmiblaaGreatDoor
open Go.RowKit
set_option linter.unusedVariables false
set_option linter.unusedSimpArgs false

def ShP (m : Nat) (l : List ByteArray) : Prop := l.length ≤ m ∧ ∀ x ∈ l, x.size ≤ 1000
theorem ShP.sms {m : Nat} {l : List ByteArray} (h : ShP m l) (hm : m ≤ 1000) : SmS l := ⟨by have := h.1; omega, fun i => by
 by_cases hi : i < l.length
 ·have := h.2 _ (List.getElem_mem hi)
  simp only [List.getD_eq_getElem?_getD, List.getElem?_eq_getElem hi, Option.getD_some]; omega
 ·simp [List.getD_eq_getElem?_getD, List.getElem?_eq_none (by omega : l.length ≤ i)]⟩
theorem ShP.snoc {m : Nat} {l : List ByteArray} (h : ShP m l) {x : ByteArray} (hx : x.size ≤ 1000) : ShP (m + 1) (l ++ [x]) := ⟨by have := h.1; simp; omega, fun y hy => by
 rcases List.mem_append.1 hy with hy | hy
 ·exact h.2 y hy
 ·simp at hy; subst hy; exact hx⟩
theorem ShP.mono {m n : Nat} {l : List ByteArray} (h : ShP m l) (hn : m ≤ n) : ShP n l := ⟨Nat.le_trans h.1 hn, h.2⟩
def ShSS (p : List (List ByteArray)) : Prop := p.length ≤ 20 ∧ ∀ l ∈ p, ShP 20 l
theorem ShSS.smss {p : List (List ByteArray)} (h : ShSS p) : SmSS p := ⟨by have := h.1; omega, fun i => by
 by_cases hi : i < p.length
 ·have := (h.2 _ (List.getElem_mem hi)).sms (by omega)
  simpa only [List.getD_eq_getElem?_getD, List.getElem?_eq_getElem hi, Option.getD_some] using this
 ·simp only [List.getD_eq_getElem?_getD, List.getElem?_eq_none (by omega : p.length ≤ i), Option.getD_none]
  exact ⟨by decide, fun i => by show (([] : List ByteArray).getD i ByteArray.empty).size ≤ _; simp⟩⟩
theorem size_sixF (q : Nat) : (([⟨#[97]⟩, ⟨#[98]⟩, ⟨#[99]⟩, ⟨#[100]⟩, ⟨#[101]⟩, ⟨#[102]⟩] : List ByteArray).getD q ByteArray.empty).size ≤ 1000 := by
 match q with
 | 0 => decide
 | 1 => decide
 | 2 => decide
 | 3 => decide
 | 4 => decide
 | 5 => decide
 | q + 6 => simp
theorem getD_shs {m : Nat} {p : List (List ByteArray)} (h : ∀ l ∈ p, ShP m l) (i : Nat) : ShP m (p.getD i default) := by
 by_cases hi : i < p.length
 ·have := h _ (List.getElem_mem hi)
  simpa only [List.getD_eq_getElem?_getD, List.getElem?_eq_getElem hi, Option.getD_some] using this
 ·simp only [List.getD_eq_getElem?_getD, List.getElem?_eq_none (by omega : p.length ≤ i), Option.getD_none]
  exact ⟨Nat.zero_le _, fun x h => by cases h⟩
set_option maxRecDepth 100000 in
theorem aSetup_T {p : Nat} {L : List Int} {n : Nat} (hn : n ≤ 20) :
  SpecT Tryz.prog (TT p L) (fun b => b = p) 9 [sp p, avI (n : Int)] 30 (fun y => ∃ l : List ByteArray, ShP 200 l ∧ y = avStrs l) := by
 refine SpecT.of_VC Tryz.func9 rfl Tryz.ntmps9 (Nle rfl) (low := (fun b => b ≤ p)) (fun w A k h => h.ok) fun w A k hk hB => ?_
 have hnew : True := trivial
 refine VC.sr ?_
 refine VO.ma rfl rfl rfl rfl ?_
 refine VO.nil ?_
 refine VC.sr ?_
 refine VO.ma rfl rfl rfl rfl ?_
 refine VO.nil ?_
 refine VC.seq ?_
 refine VC.sr ?_
 refine VO.mv rfl rfl rfl rfl ?_
 refine VO.mv rfl rfl rfl rfl ?_
 refine VO.nil ?_
 refine VC.block ?_
 refine VC.le _ (Le.nilRow 1 9) ?_
 refine VC.loopK [(0, _), (7, _)] ⟨rfl, rfl, trivial⟩ ({t : Value × List ByteArray × Nat // t.2.2 ≤ n ∧ ShP t.2.2 t.2.1}) (fun (iZ : {t : Value × List ByteArray × Nat // t.2.2 ≤ n ∧ ShP t.2.2 t.2.1}) => match iZ with | ⟨⟨u, l, q⟩, hq, hl⟩ => [(5, .v u), (8, avI (q : Int))]) (fun (iZ : {t : Value × List ByteArray × Nat // t.2.2 ≤ n ∧ ShP t.2.2 t.2.1}) => match iZ with | ⟨⟨u, l, q⟩, hq, hl⟩ => [.row u l.length 1 (strsL l) 9]) (fun (iZ : {t : Value × List ByteArray × Nat // t.2.2 ≤ n ∧ ShP t.2.2 t.2.1}) => match iZ with | ⟨⟨u, l, q⟩, hq, hl⟩ => k + q) (fun (iZ : {t : Value × List ByteArray × Nat // t.2.2 ≤ n ∧ ShP t.2.2 t.2.1}) => match iZ with | ⟨⟨u, l, q⟩, hq, hl⟩ => n - q) ⟨(.slice none 0 0, [], 0), Nat.zero_le _, by decide, fun x h => by simp at h⟩ (Le.mk hB [0] ⟨rfl, rfl, rfl, rfl, trivial⟩ rfl rfl (show k ≤ k + 0 by omega)) ?_
 rintro ⟨⟨u, l, q⟩, hq, hl⟩
 show VC _ _ _ _ ⟨[(5, .v u), (8, avI (q : Int))] ++ [(0, _), (7, _)], [.row u l.length 1 (strsL l) 9], k + q⟩
 simp only at hq hl
 have hll := hl.1
 refine VC.sr ?_
 refine VO.val rfl rfl (OpV.lss rfl rfl rfl) ?_
 refine VO.nil ?_
 refine VC.seq ?_
 refine VC.cond rfl (fun aH1b => ?_) (fun aH1b => ?_)
 ·have aH1 := aH1b
  try simp only [qqT, qqF, qqN, qqM, qqL, qqE] at aH1
  refine VC.skip ?_
  refine VC.seq ?_
  refine VC.block ?_
  refine VC.sr ?_
  refine VO.mv rfl rfl rfl rfl ?_
  refine VO.op rfl (OpE.buildSlice (zc := #[.string ⟨#[]⟩, .string ⟨#[]⟩, .string ⟨#[]⟩, .string ⟨#[]⟩, .string ⟨#[]⟩, .string ⟨#[]⟩]) rfl hB rfl Tryz.underlying29 Tryz.sizeOf9 Tryz.zeroValue9 (by decide) (by decide) (by kernel_rfl) rfl rfl ?_)
  refine VO.op rfl (OpE.callT' (k + q) rfl rfl hB rfl Tryz.call53 rfl ((some_T 1000 (by rfl) (by decide) (by decide) (by repeat (first | exact AllS.nil | refine AllS.cons (by first | decide | omega) ?_)))) (by omega) ?_)
  rintro _ ⟨r12, hr12, rfl⟩
  refine VO.ma rfl rfl rfl rfl ?_
  refine VO.nil ?_
  refine VC.seq ?_
  refine VC.sr ?_
  refine VO.mv rfl rfl rfl rfl ?_
  refine VO.mv rfl rfl rfl rfl ?_
  refine VO.op rfl (OpE.callL rfl hB rfl Tryz.call54 (slices_Contains_str (by omega)) (ArgsP.cons (ArgP.rowS (i := 0) rfl rfl rfl) (ArgsP.cons (ArgP.ev rfl) (ArgsP.nil))) ?_)
  rintro _ rfl
  refine VO.nil ?_
  refine VC.cond rfl (fun aH2b => ?_) (fun aH2b => ?_)
  ·have aH2 := aH2b
   try simp only [qqT, qqF, qqN, qqM, qqL, qqE] at aH2
   refine VC.region ?_
   refine VO.ma rfl rfl rfl rfl ?_
   refine VO.nil ?_
   refine VC.region ?_
   refine VO.mv rfl rfl rfl rfl ?_
   refine VO.mv rfl rfl rfl rfl ?_
   refine VO.op rfl (OpE.buildSlice (zc := #[.string ⟨#[]⟩]) rfl hB rfl Tryz.underlying29 Tryz.sizeOf9 Tryz.zeroValue9 (by decide) (by decide) (by kernel_rfl) rfl rfl ?_)
   refine VO.op rfl (OpE.append1 (i := 0) rfl hB rfl Tryz.underlying29 (infoOf Tryz.t9 1 (by kernel_rfl) rfl rfl) rfl (by decide) (by decide) rfl rfl rfl rfl (strsL_snoc _ _) (by omega) (fun _ _ => trivial) ?_)
   intro u2
   refine VO.ma rfl rfl rfl rfl ?_
   refine VO.nil ?_
   refine VC.region ?_
   refine VO.val rfl rfl (OpV.add rfl rfl rfl (by unfold fits; omega)) ?_
   refine VO.mv rfl rfl rfl rfl ?_
   refine VO.nil ?_
   exact Exists.intro (⟨(u2, l ++ [⟨#[]⟩], q + 1), by show q + 1 ≤ n; omega, hl.snoc (by decide)⟩) (And.intro (Le.mk hB [0] ⟨rfl, rfl, rfl, rfl, trivial⟩ rfl (by dsimp only; rw [List.length_append]; rfl) (show k + q + 1 ≤ k + (q + 1) by omega)) (by first | omega | (show _ < _; omega) | (simp only []; omega)))
  ·have aH2 := aH2b
   try simp only [qqT, qqF, qqN, qqM, qqL, qqE] at aH2
   refine VC.skip ?_
   refine VC.region ?_
   refine VO.mv rfl rfl rfl rfl ?_
   refine VO.mv rfl rfl rfl rfl ?_
   refine VO.op rfl (OpE.buildSlice (zc := #[.string ⟨#[]⟩]) rfl hB rfl Tryz.underlying29 Tryz.sizeOf9 Tryz.zeroValue9 (by decide) (by decide) (by kernel_rfl) rfl rfl ?_)
   refine VO.op rfl (OpE.append1 (i := 0) rfl hB rfl Tryz.underlying29 (infoOf Tryz.t9 1 (by kernel_rfl) rfl rfl) rfl (by decide) (by decide) rfl rfl rfl rfl (strsL_snoc _ _) (by omega) (fun _ _ => trivial) ?_)
   intro u2
   refine VO.ma rfl rfl rfl rfl ?_
   refine VO.nil ?_
   refine VC.region ?_
   refine VO.val rfl rfl (OpV.add rfl rfl rfl (by unfold fits; omega)) ?_
   refine VO.mv rfl rfl rfl rfl ?_
   refine VO.nil ?_
   exact Exists.intro (⟨(u2, l ++ [r12], q + 1), by show q + 1 ≤ n; omega, hl.snoc hr12⟩) (And.intro (Le.mk hB [0] ⟨rfl, rfl, rfl, rfl, trivial⟩ rfl (by dsimp only; rw [List.length_append]; rfl) (show k + q + 1 ≤ k + (q + 1) by omega)) (by first | omega | (show _ < _; omega) | (simp only []; omega)))
 ·have aH1 := aH1b
  try simp only [qqT, qqF, qqN, qqM, qqL, qqE] at aH1
  refine VC.exit ?_
  refine VC.seq ?_
  refine VC.sr ?_
  refine VO.mv rfl rfl rfl rfl ?_
  refine VO.op rfl (OpE.callT' (k + q) rfl rfl hB rfl Tryz.call12 rfl ((flip_T (by omega))) (by omega) ?_)
  rintro _ ⟨r22, rfl⟩
  refine VO.nil ?_
  refine VC.cond rfl (fun aH3b => ?_) (fun aH3b => ?_)
  ·have aH3 := aH3b
   try simp only [qqT, qqF, qqN, qqM, qqL, qqE] at aH3
   refine VC.sr ?_
   refine VO.mv rfl rfl rfl rfl ?_
   refine VO.op rfl (OpE.callT' (k + q + 1) rfl rfl hB rfl Tryz.call51 rfl ((next_T (by omega))) (by omega) ?_)
   rintro _ ⟨r24, hr24, rfl⟩
   refine VO.nil ?_
   refine VC.block ?_
   refine VC.sr ?_
   refine VO.val rfl rfl (OpV.eql rfl rfl rfl) ?_
   refine VO.ma rfl rfl rfl rfl ?_
   refine VO.nil ?_
   refine VC.cond rfl (fun aH4b => ?_) (fun aH4b => ?_)
   ·have aH4 := aH4b
    try simp only [qqT, qqF, qqN, qqM, qqL, qqE] at aH4
    refine VC.sr ?_
    refine VO.ma rfl rfl rfl rfl ?_
    refine VO.nil ?_
    refine VC.le _ (Le.recast (t := 4) (y := avStrs []) rfl (fun w Z u h => by rw [h.eq_v]; exact .nil _ _)) ?_
    refine VC.ret ?_
    exact Exists.intro _ (And.intro (RetV.one Tryz.results9 (ResV.tmp rfl)) (And.intro (⟨[], ⟨by decide, fun x h => by simp at h⟩, rfl⟩) ((show k + q + 1 + 1 ≤ k + 30 by omega))))
   ·have aH4 := aH4b
    try simp only [qqT, qqF, qqN, qqM, qqL, qqE] at aH4
    refine VC.sr ?_
    refine VO.val rfl rfl (OpV.eql rfl rfl rfl) ?_
    refine VO.ma rfl rfl rfl rfl ?_
    refine VO.nil ?_
    refine VC.cond rfl (fun aH5b => ?_) (fun aH5b => ?_)
    ·have aH5 := aH5b
     try simp only [qqT, qqF, qqN, qqM, qqL, qqE] at aH5
     refine VC.sr ?_
     refine VO.mv rfl rfl rfl rfl ?_
     refine VO.mv rfl rfl rfl rfl ?_
     refine VO.op rfl (OpE.buildSlice (zc := #[.string ⟨#[]⟩, .string ⟨#[]⟩, .string ⟨#[]⟩]) rfl hB rfl Tryz.underlying29 Tryz.sizeOf9 Tryz.zeroValue9 (by decide) (by decide) (by kernel_rfl) rfl rfl ?_)
     refine VO.op rfl (OpE.callT' (k + q + 1 + 1) rfl rfl hB rfl Tryz.call53 rfl ((some_T 1000 (by rfl) (by decide) (by decide) (by repeat (first | exact AllS.nil | refine AllS.cons (by first | decide | omega) ?_)))) (by omega) ?_)
     rintro _ ⟨r37, hr37, rfl⟩
     refine VO.op rfl (OpE.buildSlice (zc := #[.string ⟨#[]⟩]) rfl hB rfl Tryz.underlying29 Tryz.sizeOf9 Tryz.zeroValue9 (by decide) (by decide) (by kernel_rfl) rfl rfl ?_)
     refine VO.op rfl (OpE.append1 (i := 0) rfl hB rfl Tryz.underlying29 (infoOf Tryz.t9 1 (by kernel_rfl) rfl rfl) rfl (by decide) (by decide) rfl rfl rfl rfl (strsL_snoc _ _) (by omega) (fun _ _ => trivial) ?_)
     intro u3
     refine VO.ma rfl rfl rfl rfl ?_
     refine VO.nil ?_
     refine VC.le _ (Le.rowS (t := 4) (i := 0) hB hnew rfl rfl (by simp)) ?_
     refine VC.ret ?_
     exact Exists.intro _ (And.intro (RetV.one Tryz.results9 (ResV.tmp rfl)) (And.intro (⟨l ++ [r37], (hl.snoc hr37).mono (by omega), rfl⟩) ((show k + q + 1 + 1 + 1 ≤ k + 30 by omega))))
    ·have aH5 := aH5b
     try simp only [qqT, qqF, qqN, qqM, qqL, qqE] at aH5
     refine VC.sr ?_
     refine VO.op rfl (OpE.buildSlice (zc := #[.string ⟨#[]⟩]) rfl hB rfl Tryz.underlying29 Tryz.sizeOf9 Tryz.zeroValue9 (by decide) (by decide) (by kernel_rfl) rfl rfl ?_)
     refine VO.le _ (Le.recast (t := 25) (y := avStrs [⟨#[]⟩]) rfl (fun w Z u h => Rep.strs (xs := [⟨#[]⟩]) rfl h)) ?_
     refine VO.mv rfl rfl rfl rfl ?_
     refine VO.op rfl (OpE.callT' (k + q + 1 + 1) rfl rfl hB rfl Tryz.call7 rfl ((range_T (by omega) (by omega) (by omega))) (by omega) ?_)
     rintro _ ⟨r27, hr27, rfl⟩
     obtain ⟨m, rfl⟩ : ∃ m : Nat, r27 = m := ⟨r27.toNat, by omega⟩
     refine VO.val rfl rfl (OpV.add rfl rfl rfl (by unfold fits; omega)) ?_
     refine VO.op rfl (OpE.call rfl hB rfl Tryz.call55 rfl (slices_Repeat_str (x := ⟨#[]⟩) (n := 100 + m) (by omega)) ?_)
     rintro _ rfl
     refine VO.ma rfl rfl rfl rfl ?_
     refine VO.nil ?_
     refine VC.ret ?_
     exact Exists.intro _ (And.intro (RetV.one Tryz.results9 (ResV.tmp rfl)) (And.intro (⟨List.replicate (100 + m) ⟨#[]⟩, ⟨by simp; omega, fun x h => by rw [List.eq_of_mem_replicate h]; decide⟩, rfl⟩) ((show k + q + 1 + 1 + 1 ≤ k + 30 by omega))))
  ·have aH3 := aH3b
   try simp only [qqT, qqF, qqN, qqM, qqL, qqE] at aH3
   refine VC.skip ?_
   refine VC.sr ?_
   refine VO.mv rfl rfl rfl rfl ?_
   refine VO.ma rfl rfl rfl rfl ?_
   refine VO.nil ?_
   refine VC.le _ (Le.rowS (t := 4) (i := 0) hB hnew rfl rfl rfl) ?_
   refine VC.ret ?_
   exact Exists.intro _ (And.intro (RetV.one Tryz.results9 (ResV.tmp rfl)) (And.intro (⟨l, hl.mono (by omega), rfl⟩) ((show k + q + 1 ≤ k + 30 by omega))))
def sixF : List ByteArray := [⟨#[97]⟩, ⟨#[98]⟩, ⟨#[99]⟩, ⟨#[100]⟩, ⟨#[101]⟩, ⟨#[102]⟩]
theorem sixF_size (q : Nat) : (sixF.getD q ByteArray.empty).size ≤ 1000 := size_sixF q
set_option maxRecDepth 100000 in
theorem partLists_M {p : Nat} {L : List Int} {n m : Int} (hn : 0 ≤ n ∧ n ≤ 1000) (hm : 0 ≤ m ∧ m ≤ 10) :
  SpecT Tryz.prog (TT p L) (fun b => b = p) 8 [sp p, avI n, avI m] 100 (fun y => ∃ l : List (List ByteArray), (ShSS l ∧ (l.length : Int) ≤ m) ∧ y = avM l) := by
 have h6 : sixF.length = 6 := rfl
 refine SpecT.of_VC Tryz.func8 rfl Tryz.ntmps8 (Nle rfl) (low := (fun b => b ≤ p)) (fun w A k h => h.ok) fun w A k hk hB => ?_
 have hnew : True := trivial
 refine VC.sr ?_
 refine VO.ma rfl rfl rfl rfl ?_
 refine VO.nil ?_
 refine VC.sr ?_
 refine VO.ma rfl rfl rfl rfl ?_
 refine VO.nil ?_
 refine VC.seq ?_
 refine VC.sr ?_
 refine VO.mv rfl rfl rfl rfl ?_
 refine VO.mv rfl rfl rfl rfl ?_
 refine VO.op rfl (OpE.callT' (k) rfl rfl hB rfl Tryz.call7 rfl ((range_T (by omega) (by omega) (by omega))) (by omega) ?_)
 rintro _ ⟨r14, hr14, rfl⟩
 obtain ⟨N, rfl⟩ : ∃ N : Nat, r14 = N := ⟨r14.toNat, by omega⟩
 refine VO.mv rfl rfl rfl rfl ?_
 refine VO.nil ?_
 refine VC.block ?_
 refine VC.le _ (Le.nilRow 1 29) ?_
 refine VC.loopK [(0, _), (1, _), (14, _)] ⟨rfl, rfl, rfl, trivial⟩ ({t : Value × List (List ByteArray) × Nat // t.2.2 ≤ N ∧ t.2.1.length = t.2.2 ∧ ∀ l ∈ t.2.1, ShP 10 l}) (fun (iZ : {t : Value × List (List ByteArray) × Nat // t.2.2 ≤ N ∧ t.2.1.length = t.2.2 ∧ ∀ l ∈ t.2.1, ShP 10 l}) => match iZ with | ⟨⟨uo, out, q⟩, hq, hol, hos⟩ => [(7, .v uo), (15, avI (q : Int))]) (fun (iZ : {t : Value × List (List ByteArray) × Nat // t.2.2 ≤ N ∧ t.2.1.length = t.2.2 ∧ ∀ l ∈ t.2.1, ShP 10 l}) => match iZ with | ⟨⟨uo, out, q⟩, hq, hol, hos⟩ => [.row uo out.length 1 (listM out) 29]) (fun (iZ : {t : Value × List (List ByteArray) × Nat // t.2.2 ≤ N ∧ t.2.1.length = t.2.2 ∧ ∀ l ∈ t.2.1, ShP 10 l}) => match iZ with | ⟨⟨uo, out, q⟩, hq, hol, hos⟩ => k + 1 + 6 * q) (fun (iZ : {t : Value × List (List ByteArray) × Nat // t.2.2 ≤ N ∧ t.2.1.length = t.2.2 ∧ ∀ l ∈ t.2.1, ShP 10 l}) => match iZ with | ⟨⟨uo, out, q⟩, hq, hol, hos⟩ => N - q) ⟨(.slice none 0 0, [], 0), Nat.zero_le _, rfl, fun x h => by simp at h⟩ (Le.mk hB [0] ⟨rfl, rfl, rfl, rfl, rfl, trivial⟩ rfl rfl (show k + 1 ≤ k + 1 + 6 * 0 by omega)) ?_
 rintro ⟨⟨uo, out, q⟩, hq, hol, hos⟩
 show VC _ _ _ _ ⟨[(7, .v uo), (15, avI (q : Int))] ++ [(0, _), (1, _), (14, _)], [.row uo out.length 1 (listM out) 29], k + 1 + 6 * q⟩
 simp only at hq hol hos
 refine VC.sr ?_
 refine VO.val rfl rfl (OpV.lss rfl rfl rfl) ?_
 refine VO.nil ?_
 refine VC.seq ?_
 refine VC.cond rfl (fun aH1b => ?_) (fun aH1b => ?_)
 ·have aH1 := aH1b
  try simp only [qqT, qqF, qqN, qqM, qqL, qqE] at aH1
  refine VC.skip ?_
  refine VC.seq ?_
  refine VC.block ?_
  refine VC.sr ?_
  refine VO.ma rfl rfl rfl rfl ?_
  refine VO.nil ?_
  refine VC.seq ?_
  refine VC.sr ?_
  refine VO.op rfl (OpE.buildSlice (zc := #[.string ⟨#[]⟩, .string ⟨#[]⟩, .string ⟨#[]⟩, .string ⟨#[]⟩, .string ⟨#[]⟩, .string ⟨#[]⟩]) rfl hB rfl Tryz.underlying29 Tryz.sizeOf9 Tryz.zeroValue9 (by decide) (by decide) (by kernel_rfl) rfl rfl ?_)
  refine VO.le _ (Le.recast (t := 17) (y := avStrs sixF) rfl (fun w Z u h => Rep.strs (xs := sixF) rfl h)) ?_
  refine VO.val rfl rfl (OpV.len_im rfl Tryz.underlying29 rfl) ?_
  refine VO.mv rfl rfl rfl rfl ?_
  refine VO.nil ?_
  refine VC.block ?_
  refine VC.le _ (Le.nilRow 1 9) ?_
  refine VC.loopK [(0, _), (1, _), (7, _), (14, _), (15, _), (17, _), (18, _)] ⟨rfl, rfl, rfl, rfl, rfl, rfl, rfl, trivial⟩ ({t : Value × List ByteArray × Nat // t.2.2 ≤ 6 ∧ ShP t.2.2 t.2.1}) (fun (iZ : {t : Value × List ByteArray × Nat // t.2.2 ≤ 6 ∧ ShP t.2.2 t.2.1}) => match iZ with | ⟨⟨u, l, r⟩, hr, hl⟩ => [(8, .v u), (19, avI (r : Int))]) (fun (iZ : {t : Value × List ByteArray × Nat // t.2.2 ≤ 6 ∧ ShP t.2.2 t.2.1}) => match iZ with | ⟨⟨u, l, r⟩, hr, hl⟩ => [.row uo out.length 1 (listM out) 29, .row u l.length 1 (strsL l) 9]) (fun (iZ : {t : Value × List ByteArray × Nat // t.2.2 ≤ 6 ∧ ShP t.2.2 t.2.1}) => match iZ with | ⟨⟨u, l, r⟩, hr, hl⟩ => k + 1 + 6 * q + r) (fun (iZ : {t : Value × List ByteArray × Nat // t.2.2 ≤ 6 ∧ ShP t.2.2 t.2.1}) => match iZ with | ⟨⟨u, l, r⟩, hr, hl⟩ => 6 - r) ⟨(.slice none 0 0, [], 0), Nat.zero_le _, by decide, fun x h => by simp at h⟩ (Le.mk hB [0, 1] ⟨rfl, rfl, rfl, rfl, rfl, rfl, rfl, rfl, rfl, trivial⟩ rfl rfl (show k + 1 + 6 * q ≤ k + 1 + 6 * q + 0 by omega)) ?_
  rintro ⟨⟨u, l, r⟩, hr, hl⟩
  show VC _ _ _ _ ⟨[(8, .v u), (19, avI (r : Int))] ++ [(0, _), (1, _), (7, _), (14, _), (15, _), (17, _), (18, _)], [.row uo out.length 1 (listM out) 29, .row u l.length 1 (strsL l) 9], k + 1 + 6 * q + r⟩
  simp only at hr hl
  have hll := hl.1
  refine VC.sr ?_
  refine VO.val rfl rfl (OpV.lss rfl rfl rfl) ?_
  refine VO.nil ?_
  refine VC.seq ?_
  refine VC.cond rfl (fun aH2b => ?_) (fun aH2b => ?_)
  ·have aH2 := aH2b
   try simp only [qqT, qqF, qqN, qqM, qqL, qqE] at aH2
   refine VC.skip ?_
   refine VC.seq ?_
   refine VC.block ?_
   refine VC.sr ?_
   refine VO.val rfl rfl (OpV.indexAddr_1 rfl Tryz.underlying29 Tryz.sizeOf9 rfl rfl rfl (by show _ < sixF.length; omega)) ?_
   refine VO.val rfl rfl (OpV.load_at rfl hB OutW.no Tryz.isAgg9 rfl rfl) ?_
   refine VO.ma rfl rfl rfl rfl ?_
   refine VO.nil ?_
   refine VC.sr ?_
   refine VO.mv rfl rfl rfl rfl ?_
   refine VO.op rfl (OpE.callT' (k + 1 + 6 * q + r) rfl rfl hB rfl Tryz.call12 rfl ((flip_T (by omega))) (by omega) ?_)
   rintro _ ⟨r24, rfl⟩
   refine VO.mv rfl rfl rfl rfl ?_
   refine VO.opG rfl rfl rfl rfl (fun aK3b => ?_) (fun aK3b => ?_)
   ·replace aK3b : _ = true := aK3b
    have aK3 := aK3b
    try simp only [qqT, qqF, qqN, qqM, qqL, qqE] at aK3
    refine OpE.val (W := NoB) (OpV.move (.inl rfl) rfl) rfl ?_
    refine VO.opY rfl rfl rfl rfl aK3b ?_
    refine OpE.val (W := NoB) (OpV.len_row (i := 1) rfl Tryz.underlying29 rfl rfl) rfl ?_
    refine VO.opY rfl rfl rfl rfl aK3b ?_
    refine OpE.val (W := NoB) (OpV.move (.inl rfl) rfl) rfl ?_
    refine VO.opY rfl rfl rfl rfl aK3b ?_
    refine OpE.val (W := NoB) (OpV.lss rfl rfl rfl) rfl ?_
    refine VO.val rfl rfl (OpV.pickT rfl rfl rfl rfl aK3b) ?_
    refine VO.nil ?_
    refine VC.cond rfl (fun aH4b => ?_) (fun aH4b => ?_)
    ·have aH4 := aH4b
     try simp only [qqT, qqF, qqN, qqM, qqL, qqE] at aH4
     refine VC.region ?_
     refine VO.mv rfl rfl rfl rfl ?_
     refine VO.mv rfl rfl rfl rfl ?_
     refine VO.op rfl (OpE.buildSlice (zc := #[.string ⟨#[]⟩]) rfl hB rfl Tryz.underlying29 Tryz.sizeOf9 Tryz.zeroValue9 (by decide) (by decide) (by kernel_rfl) rfl rfl ?_)
     refine VO.op rfl (OpE.append1 (i := 1) rfl hB rfl Tryz.underlying29 (infoOf Tryz.t9 1 (by kernel_rfl) rfl rfl) rfl (by decide) (by decide) rfl rfl rfl rfl (strsL_snoc _ _) (by omega) (fun _ _ => trivial) ?_)
     intro u2
     refine VO.ma rfl rfl rfl rfl ?_
     refine VO.nil ?_
     refine VC.region ?_
     refine VO.val rfl rfl (OpV.add rfl rfl rfl (by unfold fits; omega)) ?_
     refine VO.mv rfl rfl rfl rfl ?_
     refine VO.nil ?_
     exact Exists.intro (⟨(u2, l ++ [sixF.getD r ByteArray.empty], r + 1), by show r + 1 ≤ 6; omega, hl.snoc (sixF_size r)⟩) (And.intro (Le.mk hB [0, 1] ⟨rfl, rfl, rfl, rfl, rfl, rfl, rfl, rfl, rfl, trivial⟩ rfl (by dsimp only; first | rfl | (rw [List.length_append]; rfl)) (show k + 1 + 6 * q + r + 1 ≤ k + 1 + 6 * q + (r + 1) by omega)) (by first | omega | (show _ < _; omega) | (simp only []; omega)))
    ·have aH4 := aH4b
     try simp only [qqT, qqF, qqN, qqM, qqL, qqE] at aH4
     refine VC.skip ?_
     refine VC.region ?_
     refine VO.val rfl rfl (OpV.add rfl rfl rfl (by unfold fits; omega)) ?_
     refine VO.mv rfl rfl rfl rfl ?_
     refine VO.nil ?_
     exact Exists.intro (⟨(u, l, r + 1), by show r + 1 ≤ 6; omega, hl.mono (by show r ≤ r + 1; omega)⟩) (And.intro (Le.mk hB [0, 1] ⟨rfl, rfl, rfl, rfl, rfl, rfl, rfl, rfl, rfl, trivial⟩ rfl (by dsimp only; first | rfl | (rw [List.length_append]; rfl)) (show k + 1 + 6 * q + r + 1 ≤ k + 1 + 6 * q + (r + 1) by omega)) (by first | omega | (show _ < _; omega) | (simp only []; omega)))
   ·replace aK3b : _ = false := aK3b
    have aK3 := aK3b
    try simp only [qqT, qqF, qqN, qqM, qqL, qqE] at aK3
    refine VO.opX rfl rfl rfl rfl aK3b ?_
    refine VO.opX rfl rfl rfl rfl aK3b ?_
    refine VO.opX rfl rfl rfl rfl aK3b ?_
    refine VO.val rfl rfl (OpV.pickF rfl rfl rfl rfl aK3b) ?_
    refine VO.nil ?_
    refine VC.condF rfl rfl ?_
    refine VC.skip ?_
    refine VC.region ?_
    refine VO.val rfl rfl (OpV.add rfl rfl rfl (by unfold fits; omega)) ?_
    refine VO.mv rfl rfl rfl rfl ?_
    refine VO.nil ?_
    exact Exists.intro (⟨(u, l, r + 1), by show r + 1 ≤ 6; omega, hl.mono (by show r ≤ r + 1; omega)⟩) (And.intro (Le.mk hB [0, 1] ⟨rfl, rfl, rfl, rfl, rfl, rfl, rfl, rfl, rfl, trivial⟩ rfl (by dsimp only; first | rfl | (rw [List.length_append]; rfl)) (show k + 1 + 6 * q + r + 1 ≤ k + 1 + 6 * q + (r + 1) by omega)) (by first | omega | (show _ < _; omega) | (simp only []; omega)))
  ·have aH2 := aH2b
   try simp only [qqT, qqF, qqN, qqM, qqL, qqE] at aH2
   refine VC.exit ?_
   refine VC.region ?_
   refine VO.mv rfl rfl rfl rfl ?_
   refine VO.le _ (Le.recast (t := 36) (y := .v uo) rfl (fun w Z u h => h)) ?_
   refine VO.mv rfl rfl rfl rfl ?_
   refine VO.le _ (Le.rowS (t := 37) (i := 1) hB hnew rfl rfl (by first | rfl | simp)) ?_
   refine VO.op rfl (OpE.buildSlice (zc := #[.slice none 0 0]) rfl hB rfl Tryz.underlying27 Tryz.sizeOf29 Tryz.zeroValue29 (by decide) (by decide) (by kernel_rfl) rfl rfl ?_)
   refine VO.op rfl (OpE.append1 (i := 0) rfl hB rfl Tryz.underlying27 (infoOf Tryz.t29 1 (by kernel_rfl) rfl rfl) rfl (by decide) (by decide) rfl rfl rfl rfl (listM_snoc out _) (by omega) (fun _ _ => trivial) ?_)
   intro uo2
   refine VO.ma rfl rfl rfl rfl ?_
   refine VO.nil ?_
   refine VC.region ?_
   refine VO.val rfl rfl (OpV.add rfl rfl rfl (by unfold fits; omega)) ?_
   refine VO.mv rfl rfl rfl rfl ?_
   refine VO.nil ?_
   exact Exists.intro (⟨(uo2, out ++ [l], q + 1), by show q + 1 ≤ N; omega, by show (out ++ [l]).length = q + 1; simp; omega, fun x hx => by rcases List.mem_append.1 hx with hx | hx; exact hos x hx; (simp at hx; subst hx; exact hl.mono (by omega))⟩) (And.intro (Le.mk hB [0] ⟨rfl, rfl, rfl, rfl, rfl, trivial⟩ rfl (by dsimp only; rw [List.length_append]; rfl) (show k + 1 + 6 * q + r ≤ k + 1 + 6 * (q + 1) by omega)) (by first | omega | (show _ < _; omega) | (simp only []; omega)))
 ·have aH1 := aH1b
  try simp only [qqT, qqF, qqN, qqM, qqL, qqE] at aH1
  refine VC.exit ?_
  refine VC.seq ?_
  refine VC.sr ?_
  refine VO.mv rfl rfl rfl rfl ?_
  refine VO.val rfl rfl (OpV.len_row (i := 0) rfl Tryz.underlying27 rfl rfl) ?_
  refine VO.val rfl rfl (OpV.gtr rfl rfl rfl) ?_
  refine VO.mv rfl rfl rfl rfl ?_
  refine VO.opG rfl rfl rfl rfl (fun aK5b => ?_) (fun aK5b => ?_)
  ·replace aK5b : _ = true := aK5b
   have aK5 := aK5b
   try simp only [qqT, qqF, qqN, qqM, qqL, qqE] at aK5
   refine OpE.val (W := NoB) (OpV.move (.inl rfl) rfl) rfl ?_
   refine VO.opY rfl rfl rfl rfl aK5b ?_
   refine OpE.callT' (k + 1 + 6 * q) rfl rfl hB rfl Tryz.call12 rfl ((flip_T (by omega))) (by omega) ?_
   rintro _ ⟨r46, rfl⟩
   refine VO.val rfl rfl (OpV.pickT rfl rfl rfl rfl aK5b) ?_
   refine VO.nil ?_
   refine VC.cond rfl (fun aH6b => ?_) (fun aH6b => ?_)
   ·have aH6 := aH6b
    try simp only [qqT, qqF, qqN, qqM, qqL, qqE] at aH6
    refine VC.seq ?_
    refine VC.asBox (i := 0) rfl (by omega) (fun g cap hu hcap hmx => ?_)
    subst hu
    refine VC.region ?_
    refine VO.mv rfl rfl rfl rfl ?_
    refine VO.mv rfl rfl rfl rfl ?_
    refine VO.mv rfl rfl rfl rfl ?_
    refine VO.val rfl rfl (OpV.len_v rfl Tryz.underlying27 rfl) ?_
    refine VO.op rfl (OpE.callT' (k + 1 + 6 * q + 1) rfl rfl hB rfl Tryz.call51 rfl ((next_T (by omega))) (by omega) ?_)
    rintro _ ⟨r52, hr52, rfl⟩
    obtain ⟨mm, rfl⟩ : ∃ mm : Nat, r52 = mm := ⟨r52.toNat, by omega⟩
    refine VO.val rfl rfl (OpV.indexAddr_o rfl Tryz.underlying27 Tryz.sizeOf29 rfl rfl rfl (by omega)) ?_
    refine VO.ma rfl rfl rfl rfl ?_
    refine VO.nil ?_
    refine VC.region ?_
    refine VO.mv rfl rfl rfl rfl ?_
    refine VO.mv rfl rfl rfl rfl ?_
    refine VO.val rfl rfl (OpV.nilCheck rfl rfl) ?_
    refine VO.val rfl rfl (OpV.load_own (i := 0) rfl hB Tryz.isAgg29 rfl rfl (listM_get (by omega)) (fun h => h)) ?_
    refine VO.op rfl (OpE.callR rfl hB rfl Tryz.call52 (slices_CloneS_R (by have := (getD_shs hos mm).1; omega)) (ArgsP.cons (ArgP.ev rfl) (ArgsP.nil)) ?_)
    intro u58
    refine VO.mv rfl rfl rfl rfl ?_
    refine VO.op rfl (OpE.buildSlice (zc := #[.string ⟨#[]⟩, .string ⟨#[]⟩, .string ⟨#[]⟩, .string ⟨#[]⟩]) rfl hB rfl Tryz.underlying29 Tryz.sizeOf9 Tryz.zeroValue9 (by decide) (by decide) (by kernel_rfl) rfl rfl ?_)
    refine VO.op rfl (OpE.callT' (k + 1 + 6 * q + 1 + 1) rfl rfl hB rfl Tryz.call53 rfl ((some_T 1000 (by rfl) (by decide) (by decide) (by repeat (first | exact AllS.nil | refine AllS.cons (by first | decide | omega) ?_)))) (by omega) ?_)
    rintro _ ⟨r61, hr61, rfl⟩
    refine VO.op rfl (OpE.buildSlice (zc := #[.string ⟨#[]⟩]) rfl hB rfl Tryz.underlying29 Tryz.sizeOf9 Tryz.zeroValue9 (by decide) (by decide) (by kernel_rfl) rfl rfl ?_)
    refine VO.op rfl (OpE.append1 (i := 1) rfl hB rfl Tryz.underlying29 (infoOf Tryz.t9 1 (by kernel_rfl) rfl rfl) rfl (by decide) (by decide) rfl rfl rfl rfl (strsL_snoc _ _) (by have := (getD_shs hos mm).1; omega) (fun _ _ => trivial) ?_)
    intro u63
    refine VO.le _ (Le.rowS (t := 63) (i := 1) hB hnew rfl rfl (by first | rfl | simp)) ?_
    refine VO.val rfl rfl (OpV.nilCheck rfl rfl) ?_
    refine VO.op rfl (OpE.store1 (i := 0) rfl hB rfl Tryz.sizeOf29 rfl rfl rfl rfl rfl rfl (by rw [listM_len]; omega) (listM_set _ _ _) trivial ?_)
    refine VO.nil ?_
    refine VC.sr ?_
    refine VO.mv rfl rfl rfl rfl ?_
    refine VO.ma rfl rfl rfl rfl ?_
    refine VO.nil ?_
    refine VC.le _ (Le.boxM (t := 6) (i := 0) (n := out.length) hB hnew rfl rfl (by simp) hcap hmx) ?_
    refine VC.ret ?_
    exact Exists.intro _ (And.intro (RetV.one Tryz.results8 (ResV.tmp rfl)) (And.intro (by first | exact ⟨out, ⟨⟨by omega, fun l hl => (hos l hl).mono (by omega)⟩, by omega⟩, rfl⟩ | exact ⟨out.set mm (out.getD mm default ++ [r61]), ⟨⟨by simp; omega, fun l hl => by rcases List.mem_or_eq_of_mem_set hl with h' | rfl; exact (hos l h').mono (by omega); exact ((getD_shs hos mm).snoc hr61).mono (by omega)⟩, by rw [List.length_set]; omega⟩, rfl⟩) ((show k + 1 + 6 * q + 1 + 1 + 1 ≤ k + 100 by omega))))
   ·have aH6 := aH6b
    try simp only [qqT, qqF, qqN, qqM, qqL, qqE] at aH6
    refine VC.skip ?_
    refine VC.sr ?_
    refine VO.mv rfl rfl rfl rfl ?_
    refine VO.ma rfl rfl rfl rfl ?_
    refine VO.nil ?_
    refine VC.le _ (Le.rowsM (t := 6) (i := 0) hB hnew rfl rfl rfl) ?_
    refine VC.ret ?_
    exact Exists.intro _ (And.intro (RetV.one Tryz.results8 (ResV.tmp rfl)) (And.intro (by first | exact ⟨out, ⟨⟨by omega, fun l hl => (hos l hl).mono (by omega)⟩, by omega⟩, rfl⟩ | exact ⟨out.set mm (out.getD mm default ++ [r61]), ⟨⟨by simp; omega, fun l hl => by rcases List.mem_or_eq_of_mem_set hl with h' | rfl; exact (hos l h').mono (by omega); exact ((getD_shs hos mm).snoc hr61).mono (by omega)⟩, by rw [List.length_set]; omega⟩, rfl⟩) ((show k + 1 + 6 * q + 1 ≤ k + 100 by omega))))
  ·replace aK5b : _ = false := aK5b
   have aK5 := aK5b
   try simp only [qqT, qqF, qqN, qqM, qqL, qqE] at aK5
   refine VO.opX rfl rfl rfl rfl aK5b ?_
   refine VO.val rfl rfl (OpV.pickF rfl rfl rfl rfl aK5b) ?_
   refine VO.nil ?_
   refine VC.condF rfl rfl ?_
   refine VC.skip ?_
   refine VC.sr ?_
   refine VO.mv rfl rfl rfl rfl ?_
   refine VO.ma rfl rfl rfl rfl ?_
   refine VO.nil ?_
   refine VC.le _ (Le.rowsM (t := 6) (i := 0) hB hnew rfl rfl rfl) ?_
   refine VC.ret ?_
   exact Exists.intro _ (And.intro (RetV.one Tryz.results8 (ResV.tmp rfl)) (And.intro (by first | exact ⟨out, ⟨⟨by omega, fun l hl => (hos l hl).mono (by omega)⟩, by omega⟩, rfl⟩ | exact ⟨out.set mm (out.getD mm default ++ [r61]), ⟨⟨by simp; omega, fun l hl => by rcases List.mem_or_eq_of_mem_set hl with h' | rfl; exact (hos l h').mono (by omega); exact ((getD_shs hos mm).snoc hr61).mono (by omega)⟩, by rw [List.length_set]; omega⟩, rfl⟩) ((show k + 1 + 6 * q ≤ k + 100 by omega))))
theorem partLists_T {p : Nat} {L : List Int} {n m : Int} (hn : 0 ≤ n ∧ n ≤ 1000) (hm : 0 ≤ m ∧ m ≤ 10) : SpecT Tryz.prog (TT p L) (fun b => b = p) 8 [sp p, avI n, avI m] 100 (fun y => ∃ l : List (List ByteArray), ShSS l ∧ y = avM l) :=
 lift2 (partLists_M hn hm) fun y ⟨l, h, e⟩ => ⟨l, h.1, e⟩
end Go.Proofs.YtbbgjeiefmiblaaGreatDoor
namespace Go.Proofs.YtbbgjeiefmiblaaGreatDoor
open Go.RowKit
set_option linter.unusedVariables false
set_option linter.unusedSimpArgs false
theorem splitL_none {c : UInt8} : ∀ {a : List UInt8}, (∀ x ∈ a, x ≠ c) → splitL c a = [a]
 | [], _ => rfl
 | b :: a, h => by rw [splitL, if_neg (h b (List.mem_cons_self ..)), splitL_none fun x hx => h x (List.mem_cons_of_mem _ hx)]
theorem splitL_cut {c : UInt8} {r : List UInt8} : ∀ {a : List UInt8}, (∀ x ∈ a, x ≠ c) → splitL c (a ++ c :: r) = a :: splitL c r
 | [], _ => by rw [List.nil_append, splitL, if_pos rfl]
 | b :: a, h => by rw [List.cons_append, splitL, if_neg (h b (List.mem_cons_self ..)), splitL_cut fun x hx => h x (List.mem_cons_of_mem _ hx)]
theorem index_cut {c : UInt8} : ∀ {l : List UInt8} {m : Nat}, Lib.indexByte l c = m → l = l.take m ++ c :: l.drop (m + 1) ∧ ∀ x ∈ l.take m, x ≠ c
 | [], m, h => by simp [Lib.indexByte] at h
 | b :: l, m, h => by
  unfold Lib.indexByte at h
  by_cases hb : b = c
  ·subst hb
   simp at h
   obtain rfl : m = 0 := by omega
   exact ⟨rfl, fun x hx => by simp at hx⟩
  ·have hb' : (b == c) = false := by simpa using hb
   rw [hb'] at h
   simp only [Bool.false_eq_true, if_false] at h
   split at h
   ·omega
   ·rename_i e
    have hge := Lib.indexByte_ge l c
    have e' : ¬ Lib.indexByte l c = -1 := by simpa using e
    obtain ⟨k, rfl⟩ : ∃ k, m = k + 1 := ⟨m - 1, by omega⟩
    obtain ⟨h1, h2⟩ := index_cut (c := c) (l := l) (m := k) (by omega)
    refine ⟨by rw [List.take_succ_cons, List.drop_succ_cons, List.cons_append, ← h1], fun x hx => ?_⟩
    rw [List.take_succ_cons] at hx
    rcases List.mem_cons.1 hx with rfl | hx
    ·exact hb
    ·exact h2 x hx
theorem index_no {c : UInt8} : ∀ {l : List UInt8}, Lib.indexByte l c < 0 → ∀ x ∈ l, x ≠ c
 | [], _ => fun x hx => by simp at hx
 | b :: l, h => by
  unfold Lib.indexByte at h
  by_cases hb : b = c
  ·subst hb; simp at h
  ·have hb' : (b == c) = false := by simpa using hb
   rw [hb'] at h
   simp only [Bool.false_eq_true, if_false] at h
   have h1 : Lib.indexByte l c < 0 := by
    have := Lib.indexByte_ge l c
    split at h
    ·rename_i e; have e' : Lib.indexByte l c = -1 := by simpa using e
     omega
    ·omega
   intro x hx
   rcases List.mem_cons.1 hx with rfl | hx
   ·exact hb
   ·exact index_no h1 x hx
theorem suff_iff {l : List UInt8} {c : UInt8} : Lib.hasSuffix l [c] = true ↔ l.getLast? = some c := by
 unfold Lib.hasSuffix
 rw [List.isSuffixOf_iff_suffix]
 constructor
 ·rintro ⟨t, rfl⟩; simp
 ·intro h
  obtain ⟨t, rfl⟩ := List.getLast?_eq_some_iff.1 h
  exact ⟨t, rfl⟩
def linesL (l : List UInt8) : List (List UInt8) := if l = [] then [] else splitL 10 (Lib.trimSuffix l [10])
def endL (l : List UInt8) : Bool := if l = [] then true else Lib.hasSuffix l [10]
theorem linesL_none {l : List UInt8} (h0 : l ≠ []) (h : Lib.indexByte l 10 < 0) : linesL l = [l] ∧ endL l = false := by
 have hn := index_no h
 have hs : Lib.hasSuffix l [10] = false := Bool.eq_false_iff.2 fun e => by
  obtain ⟨t, rfl⟩ := List.getLast?_eq_some_iff.1 (suff_iff.1 e)
  exact hn 10 (by simp) rfl
 refine ⟨?_, by rw [endL, if_neg h0, hs]⟩
 rw [linesL, if_neg h0, Lib.trimSuffix, hs, if_neg (by simp), splitL_none hn]
theorem linesL_some {l : List UInt8} {m : Nat} (h : Lib.indexByte l 10 = m) : linesL l = l.take m :: linesL (l.drop (m + 1)) ∧ endL l = endL (l.drop (m + 1)) := by
 obtain ⟨h1, h2⟩ := index_cut h
 generalize l.take m = a at h1 h2
 generalize l.drop (m + 1) = r at h1
 subst h1
 have hne : a ++ 10 :: r ≠ [] := by simp
 by_cases hr : r = []
 ·subst hr
  have hs : Lib.hasSuffix (a ++ [10]) [10] = true := suff_iff.2 (by simp)
  refine ⟨?_, by rw [endL, if_neg hne, hs, endL, if_pos rfl]⟩
  rw [linesL, if_neg hne, Lib.trimSuffix, hs, if_pos rfl, linesL, if_pos rfl]
  have : (a ++ [10]).take ((a ++ [10]).length - [(10 : UInt8)].length) = a := by simp
  rw [this, splitL_none h2]
 ·have hl : (a ++ 10 :: r).getLast? = r.getLast? := by
   rw [List.getLast?_append, List.getLast?_cons]
   cases hg : r.getLast? with
   | none => rw [List.getLast?_eq_none_iff] at hg; exact absurd hg hr
   | some x => simp
  have hs : Lib.hasSuffix (a ++ 10 :: r) [10] = Lib.hasSuffix r [10] := by
   rw [Bool.eq_iff_iff, suff_iff, suff_iff, hl]
  refine ⟨?_, by rw [endL, if_neg hne, hs, endL, if_neg hr]⟩
  rw [linesL, if_neg hne, linesL, if_neg hr, Lib.trimSuffix, hs, Lib.trimSuffix]
  split
  ·have hp : 0 < r.length := List.length_pos_iff.2 hr
   have : (a ++ 10 :: r).take ((a ++ 10 :: r).length - [(10 : UInt8)].length) = a ++ 10 :: r.take (r.length - [(10 : UInt8)].length) := by
    rw [List.take_append]
    congr 1
    ·rw [List.take_of_length_le (by simp)]
    ·have e : (a ++ 10 :: r).length - [(10 : UInt8)].length - a.length = (r.length - 1) + 1 := by simp; omega
     rw [e, List.take_succ_cons]; rfl
   rw [this, splitL_cut h2]
  ·rw [splitL_cut h2]
theorem byL_bytesOf (l : List UInt8) : byL (bytesOf l) = l := by simp [byL, bytesOf]
theorem byL_nil {s : ByteArray} : byL s = [] ↔ s = ⟨#[]⟩ := by
 constructor
 ·intro h; rw [← bytesOf_byL s, h]; rfl
 ·rintro rfl; rfl
theorem linesR_L (s : ByteArray) : linesR s = (linesL (byL s)).map bytesOf := by
 unfold linesR linesL
 by_cases h : byL s = []
 ·have := byL_nil.1 h
  subst this
  rw [if_pos (sEq_refl _), if_pos h]; rfl
 ·have hne : ¬ sEq s ⟨#[]⟩ = true := fun e => h (byL_nil.2 (sEq_eq.1 e))
  rw [if_neg hne, if_neg h, splitS, byL_bytesOf]
theorem linesE_L (s : ByteArray) : linesE s = endL (byL s) := by
 unfold linesE endL
 by_cases h : byL s = []
 ·have := byL_nil.1 h
  subst this
  rw [if_pos (sEq_refl _), if_pos h]
 ·have hne : ¬ sEq s ⟨#[]⟩ = true := fun e => h (byL_nil.2 (sEq_eq.1 e))
  rw [if_neg hne, if_neg h]; rfl
theorem lines_none {s : ByteArray} (h0 : sEq s ⟨#[]⟩ = false) (h : Lib.indexByte (byL s) 10 < 0) : linesR s = [s] ∧ linesE s = false := by
 have hne : byL s ≠ [] := fun e => by rw [byL_nil.1 e, sEq_refl] at h0; cases h0
 obtain ⟨h1, h2⟩ := linesL_none hne h
 rw [linesR_L, linesE_L, h1, h2]
 exact ⟨by simp [bytesOf_byL], rfl⟩
theorem lines_some {s : ByteArray} {m : Nat} (h : Lib.indexByte (byL s) 10 = m) : linesR s = s.extract 0 m :: linesR (s.extract (m + 1) s.size) ∧ linesE s = linesE (s.extract (m + 1) s.size) := by
 obtain ⟨h1, h2⟩ := linesL_some h
 have e1 : byL (s.extract (m + 1) s.size) = (byL s).drop (m + 1) := by
  rw [byL_extract, List.take_of_length_le (by rw [List.length_drop, byL_len]; omega)]
 have e2 : bytesOf ((byL s).take m) = s.extract 0 m := by
  rw [← bytesOf_byL (s.extract 0 m), byL_extract, List.drop_zero, Nat.sub_zero]
 rw [linesR_L, linesE_L, linesR_L, linesE_L, e1, h1, h2, List.map_cons, e2]
 exact ⟨rfl, rfl⟩
theorem lines_nil : linesR ⟨#[]⟩ = [] ∧ linesE ⟨#[]⟩ = true := ⟨by rw [linesR, if_pos (sEq_refl _)], by rw [linesE, if_pos (sEq_refl _)]⟩
def lnBad (ok : Nat → ByteArray → Bool) (ls : List ByteArray) (e : Bool) (i : Nat) : Bool := !ok i (ls.getD i ByteArray.empty) || (!e && decide (i + 1 = ls.length))
def lnF (ok : Nat → ByteArray → Bool) (ls : List ByteArray) (e : Bool) : Option Nat := (List.range ls.length).find? (lnBad ok ls e)
theorem lnF_none {ok : Nat → ByteArray → Bool} {ls : List ByteArray} {e : Bool} (h : ∀ j, j < ls.length → lnBad ok ls e j = false) : lnF ok ls e = none :=
 List.find?_eq_none.2 fun j hj => by rw [h j (List.mem_range.1 hj)]; simp
theorem lnF_some {ok : Nat → ByteArray → Bool} {ls : List ByteArray} {e : Bool} {i : Nat} (hi : i < ls.length) (h : lnBad ok ls e i = true) (hn : ∀ j, j < i → lnBad ok ls e j = false) : lnF ok ls e = some i := by
 unfold lnF
 rw [List.find?_range_eq_some]
 exact ⟨h, List.mem_range.2 hi, fun j hj => by rw [hn j hj]; rfl⟩
end Go.Proofs.YtbbgjeiefmiblaaGreatDoor
namespace Go.Proofs.YtbbgjeiefmiblaaGreatDoor
open Go.RowKit
set_option linter.unusedVariables false
set_option linter.unusedSimpArgs false
def cutF (c : UInt8) (s : ByteArray) : Bool := decide (0 ≤ Lib.indexByte (byL s) c)
def cutA (c : UInt8) (s : ByteArray) : ByteArray := if cutF c s = true then s.extract 0 (Lib.indexByte (byL s) c).toNat else s
def cutB (c : UInt8) (s : ByteArray) : ByteArray := if cutF c s = true then s.extract ((Lib.indexByte (byL s) c).toNat + 1) s.size else ⟨#[]⟩
theorem index_lt {c : UInt8} {l : List UInt8} {m : Nat} (h : Lib.indexByte l c = m) : m < l.length := by
 have h1 := congrArg List.length (index_cut h).1
 have h2 : (l.take m).length ≤ m := by rw [List.length_take]; omega
 rw [List.length_append, List.length_cons, List.length_take, List.length_drop] at h1
 omega
theorem cut_at {c : UInt8} {s : ByteArray} (h : cutF c s = true) : ∃ m : Nat, Lib.indexByte (byL s) c = m ∧ m < s.size ∧ cutA c s = s.extract 0 m ∧ cutB c s = s.extract (m + 1) s.size := by
 have h0 : 0 ≤ Lib.indexByte (byL s) c := of_decide_eq_true h
 refine ⟨(Lib.indexByte (byL s) c).toNat, by omega, ?_, by rw [cutA, if_pos h], by rw [cutB, if_pos h]⟩
 have := index_lt (l := byL s) (c := c) (m := (Lib.indexByte (byL s) c).toNat) (by omega)
 rwa [byL_len] at this
theorem cut_no {c : UInt8} {s : ByteArray} (h : cutF c s = false) : cutA c s = s ∧ cutB c s = ⟨#[]⟩ := ⟨by rw [cutA, if_neg (by rw [h]; simp)], by rw [cutB, if_neg (by rw [h]; simp)]⟩
theorem cutA_size (c : UInt8) (s : ByteArray) : (cutA c s).size ≤ s.size := by
 cases h : cutF c s with
 | true =>
  obtain ⟨m, h1, h2, h3, h4⟩ := cut_at h
  rw [h3, ByteArray.size_extract]; omega
 | false => rw [(cut_no h).1]; exact Nat.le_refl _
theorem cut_sizes {c : UInt8} {s : ByteArray} (h : cutF c s = true) : (cutA c s).size + 1 + (cutB c s).size = s.size := by
 obtain ⟨m, h1, h2, h3, h4⟩ := cut_at h
 rw [h3, h4, ByteArray.size_extract, ByteArray.size_extract]; omega
set_option maxRecDepth 100000 in
theorem stringslite_CutB {s : ByteArray} {c : UInt8} (hs : s.size ≤ 100000000) :
  SpecN Tryz.prog 169 [avS s, avS ⟨#[c]⟩] (fun y => y = .tup [avS (cutA c s), avS (cutB c s), avB (cutF c s)]) := by
 refine SpecN.of_VCN Tryz.func169 rfl Tryz.ntmps169 (Nle rfl) fun w A hB => ?_
 have hnew : True := trivial
 refine VC.seq ?_
 have hc1 : (⟨#[c]⟩ : ByteArray).size = 1 := rfl
 refine VC.region ?_
 refine VO.ma rfl rfl rfl rfl ?_
 refine VO.ma rfl rfl rfl rfl ?_
 refine VO.ma rfl rfl rfl rfl ?_
 refine VO.nil ?_
 refine VC.seq ?_
 refine VC.sr ?_
 refine VO.mv rfl rfl rfl rfl ?_
 refine VO.mv rfl rfl rfl rfl ?_
 refine VO.op rfl (OpE.call rfl hB rfl Tryz.call168 rfl (SpecN.spec (stringslite_Index_S)) ?_)
 rintro _ rfl
 obtain ⟨v, hv⟩ : ∃ v, Lib.indexByte (byL s) c = v := ⟨_, rfl⟩
 rw [hv]
 refine VO.ma rfl rfl rfl rfl ?_
 refine VO.nil ?_
 refine VC.sr ?_
 refine VO.mv rfl rfl rfl rfl ?_
 refine VO.val rfl rfl (OpV.geq rfl rfl rfl) ?_
 refine VO.nil ?_
 refine VC.cond rfl (fun h0b => ?_) (fun h0b => ?_)
 ·have h0 := h0b
  try simp only [qqT, qqF, qqN, qqM, qqL, qqE] at h0
  have hcf : cutF c s = true := by unfold cutF; rw [hv]; exact decide_eq_true h0
  obtain ⟨m, hm1, hm2, hm3, hm4⟩ := cut_at hcf
  obtain rfl : v = m := by rw [← hv, hm1]
  refine VC.seq ?_
  refine VC.draw (fun _ => NoB) hB (by kernel_rfl) ?_
  refine VA.take (i := 0) rfl (by kernel_rfl) (by kernel_rfl) (by kernel_rfl) rfl rfl (OpV.move (.inl rfl) rfl) ?_
  refine VA.take (i := 1) rfl (by kernel_rfl) (by kernel_rfl) (by kernel_rfl) rfl rfl (OpV.move (.inl rfl) rfl) ?_
  refine VA.take (i := 2) rfl (by kernel_rfl) (by kernel_rfl) (by kernel_rfl) rfl rfl (OpV.slice_s (h := m) rfl Tryz.underlying9 rfl rfl ⟨_, _, rfl, by omega⟩ (by omega) (by omega)) ?_
  refine VA.take (i := 3) rfl (by kernel_rfl) (by kernel_rfl) (by kernel_rfl) rfl rfl (OpV.move (.inl rfl) rfl) ?_
  refine VA.take (i := 4) rfl (by kernel_rfl) (by kernel_rfl) (by kernel_rfl) rfl rfl (OpV.move (.inl rfl) rfl) ?_
  refine VA.take (i := 5) rfl (by kernel_rfl) (by kernel_rfl) (by kernel_rfl) rfl rfl (OpV.move (.inl rfl) rfl) ?_
  refine VA.take (i := 6) rfl (by kernel_rfl) (by kernel_rfl) (by kernel_rfl) rfl rfl (OpV.len_s rfl Tryz.underlying9 rfl) ?_
  refine VA.take (i := 7) rfl (by kernel_rfl) (by kernel_rfl) (by kernel_rfl) rfl rfl (OpV.add rfl rfl rfl (by unfold fits; omega)) ?_
  refine VA.take (i := 8) rfl (by kernel_rfl) (by kernel_rfl) (by kernel_rfl) rfl rfl (OpV.slice_s (l := m + 1) rfl Tryz.underlying9 rfl ⟨_, _, rfl, by omega⟩ rfl (by omega) (by omega)) ?_
  refine VA.take (i := 9) rfl (by kernel_rfl) (by kernel_rfl) (by kernel_rfl) rfl rfl (OpV.move (.inr rfl) rfl) ?_
  refine VA.take (i := 10) rfl (by kernel_rfl) (by kernel_rfl) (by kernel_rfl) rfl rfl (OpV.move (.inr rfl) rfl) ?_
  refine VA.take (i := 11) rfl (by kernel_rfl) (by kernel_rfl) (by kernel_rfl) rfl rfl (OpV.move (.inr rfl) rfl) ?_
  refine VA.done (by kernel_rfl) ?_
  refine VC.ret ?_
  exact Exists.intro _ (And.intro (RetN.three Tryz.results169 (ResN.v rfl) (ResN.v rfl) (ResN.v rfl)) (by rw [hm3, hm4, hcf]))
 ·have h0 := h0b
  try simp only [qqT, qqF, qqN, qqM, qqL, qqE] at h0
  have hcf : cutF c s = false := by unfold cutF; rw [hv]; exact decide_eq_false (by omega)
  have hcn := cut_no hcf
  refine VC.skip ?_
  refine VC.sr ?_
  refine VO.mv rfl rfl rfl rfl ?_
  refine VO.ma rfl rfl rfl rfl ?_
  refine VO.ma rfl rfl rfl rfl ?_
  refine VO.ma rfl rfl rfl rfl ?_
  refine VO.nil ?_
  refine VC.ret ?_
  exact Exists.intro _ (And.intro (RetN.three Tryz.results169 (ResN.v rfl) (ResN.v rfl) (ResN.v rfl)) (by rw [hcn.1, hcn.2, hcf]))
set_option maxRecDepth 100000 in
theorem strings_CutB {s : ByteArray} {c : UInt8} (hs : s.size ≤ 100000000) :
  SpecN Tryz.prog 125 [avS s, avS ⟨#[c]⟩] (fun y => y = .tup [avS (cutA c s), avS (cutB c s), avB (cutF c s)]) := by
 refine SpecN.of_VCN Tryz.func125 rfl Tryz.ntmps125 (Nle rfl) fun w A hB => ?_
 have hnew : True := trivial
 refine VC.sr ?_
 refine VO.ma rfl rfl rfl rfl ?_
 refine VO.ma rfl rfl rfl rfl ?_
 refine VO.ma rfl rfl rfl rfl ?_
 refine VO.nil ?_
 refine VC.sr ?_
 refine VO.mv rfl rfl rfl rfl ?_
 refine VO.mv rfl rfl rfl rfl ?_
 refine VO.op rfl (OpE.call rfl hB rfl Tryz.call169 rfl (SpecN.spec (stringslite_CutB hs)) ?_)
 rintro _ rfl
 refine VO.val rfl rfl (OpV.extract rfl rfl rfl) ?_
 refine VO.val rfl rfl (OpV.extract rfl rfl rfl) ?_
 refine VO.val rfl rfl (OpV.extract rfl rfl rfl) ?_
 refine VO.ma rfl rfl rfl rfl ?_
 refine VO.ma rfl rfl rfl rfl ?_
 refine VO.ma rfl rfl rfl rfl ?_
 refine VO.nil ?_
 refine VC.ret ?_
 exact Exists.intro _ (And.intro (RetN.three Tryz.results125 (ResN.v rfl) (ResN.v rfl) (ResN.v rfl)) (rfl))
theorem lines_yes {s : ByteArray} (h : cutF 10 s = true) : linesR s = cutA 10 s :: linesR (cutB 10 s) ∧ linesE s = linesE (cutB 10 s) := by
 obtain ⟨m, h1, h2, h3, h4⟩ := cut_at h
 rw [h3, h4]; exact lines_some h1
theorem lines_no {s : ByteArray} (h0 : sEq s ⟨#[]⟩ = false) (h : cutF 10 s = false) : linesR s = [s] ∧ linesE s = false := lines_none h0 (by have := of_decide_eq_false h; omega)
theorem lines_last {s : ByteArray} (h : linesE s = false) : 0 < (linesR s).length := by
 cases h0 : sEq s ⟨#[]⟩ with
 | true => rw [sEq_eq.1 h0, lines_nil.2] at h; cases h
 | false =>
  cases hc : cutF 10 s with
  | true => rw [(lines_yes hc).1]; exact Nat.succ_pos _
  | false => rw [(lines_no h0 hc).1]; exact Nat.succ_pos _
abbrev okAt (ok : List ByteArray → ByteArray → Bool) (ls : List ByteArray) : Nat → ByteArray → Bool := fun i x => ok (ls.take i) x
structure LnI (ok : List ByteArray → ByteArray → Bool) (text : ByteArray) (pre : List ByteArray) (r : ByteArray) : Prop where
 eq : linesR text = pre ++ linesR r
 en : linesE text = linesE r
 good : ∀ j, j < pre.length → lnBad (okAt ok (linesR text)) (linesR text) (linesE text) j = false
 size : pre.length + r.size ≤ text.size
section
variable {ok : List ByteArray → ByteArray → Bool} {text r : ByteArray} {pre : List ByteArray}
theorem LnI.start (text : ByteArray) : LnI ok text [] text := ⟨rfl, rfl, fun j hj => absurd hj (Nat.not_lt_zero j), by simp⟩
theorem LnI.at_ (h : LnI ok text pre r) {x : ByteArray} {l : List ByteArray} (hl : linesR r = x :: l) : (linesR text).take pre.length = pre ∧ (linesR text).getD pre.length ByteArray.empty = x ∧ pre.length < (linesR text).length := by
 rw [h.eq, hl]
 refine ⟨by simp, by simp [List.getD_eq_getElem?_getD], by simp⟩
theorem LnI.step (h : LnI ok text pre r) (hc : cutF 10 r = true) (ho : ok pre (cutA 10 r) = true) : LnI ok text (pre ++ [cutA 10 r]) (cutB 10 r) := by
 obtain ⟨h1, h2⟩ := lines_yes hc
 obtain ⟨k1, k2, k3⟩ := h.at_ h1
 refine ⟨by rw [h.eq, h1, List.append_assoc]; rfl, h.en.trans h2, fun j hj => ?_, ?_⟩
 ·by_cases hj2 : j < pre.length
  ·exact h.good j hj2
  ·obtain rfl : j = pre.length := by rw [List.length_append] at hj; simp at hj; omega
   unfold lnBad okAt
   rw [k1, k2, ho]
   cases he : linesE text with
   | true => rfl
   | false =>
    have h3 := lines_last (h2.symm.trans (h.en.symm.trans he))
    have h4 : (linesR text).length = pre.length + (1 + (linesR (cutB 10 r)).length) := by rw [h.eq, h1, List.length_append, List.length_cons]; omega
    rw [decide_eq_false (by omega)]; rfl
 ·have := cut_sizes hc
  have := h.size
  rw [List.length_append]; simp; omega
theorem LnI.fin (h : LnI ok text pre r) (hr : sEq r ⟨#[]⟩ = true) : lnF (okAt ok (linesR text)) (linesR text) (linesE text) = none ∧ pre = linesR text := by
 have e := sEq_eq.1 hr
 subst e
 have h1 : linesR text = pre := by rw [h.eq, lines_nil.1, List.append_nil]
 exact ⟨lnF_none fun j hj => h.good j (by rw [h1] at hj; exact hj), h1.symm⟩
theorem LnI.bad1 (h : LnI ok text pre r) (hr : sEq r ⟨#[]⟩ = false) (hc : cutF 10 r = false) : lnF (okAt ok (linesR text)) (linesR text) (linesE text) = some pre.length := by
 obtain ⟨h1, h2⟩ := lines_no hr hc
 obtain ⟨k1, k2, k3⟩ := h.at_ h1
 refine lnF_some k3 ?_ h.good
 unfold lnBad
 rw [h.en, h2, decide_eq_true (by rw [h.eq, h1, List.length_append]; rfl)]
 simp
theorem LnI.bad2 (h : LnI ok text pre r) (hc : cutF 10 r = true) (ho : ok pre (cutA 10 r) = false) : lnF (okAt ok (linesR text)) (linesR text) (linesE text) = some pre.length := by
 obtain ⟨h1, h2⟩ := lines_yes hc
 obtain ⟨k1, k2, k3⟩ := h.at_ h1
 refine lnF_some k3 ?_ h.good
 unfold lnBad okAt
 rw [k1, k2, ho]; rfl
end
def lnY (f : Option Nat) : AV := match f with
 | none => .tup [avI 0, avB true]
 | some i => .tup [avI (i : Int), avB false]
end Go.Proofs.YtbbgjeiefmiblaaGreatDoor
namespace Go.Proofs.YtbbgjeiefmiblaaGreatDoor
open Go.RowKit
set_option linter.unusedVariables false
set_option linter.unusedSimpArgs false
theorem lk_app (a b : ByteArray) : (a ++ b).size = a.size + b.size := ByteArray.size_append
end Go.Proofs.YtbbgjeiefmiblaaGreatDoor
namespace Go.Proofs.YtbbgjeiefmiblaaGreatDoor
open Go.RowKit
set_option linter.unusedVariables false
set_option linter.unusedSimpArgs false
def dashB (x : ByteArray) : ByteArray := if sEq x ⟨#[]⟩ = true then ⟨#[45]⟩ else x
def undB (x : ByteArray) : ByteArray := if sEq x ⟨#[45]⟩ = true then ⟨#[]⟩ else x
theorem dashB_size (x : ByteArray) : (dashB x).size ≤ x.size + 1 := by
 unfold dashB
 split
 ·have e : (⟨#[45]⟩ : ByteArray).size = 1 := rfl
  omega
 ·omega
theorem undB_size (x : ByteArray) : (undB x).size ≤ x.size := by
 unfold undB
 split
 ·exact Nat.zero_le _
 ·exact Nat.le_refl _
set_option maxRecDepth 100000 in
theorem kit_Dash {x : ByteArray}  :
  SpecN Tryz.prog 67 [avS x] (fun y => y = avS (dashB x)) := by
 refine SpecN.of_VCN Tryz.func67 rfl Tryz.ntmps67 (Nle rfl) fun w A hB => ?_
 have hnew : True := trivial
 refine VC.sr ?_
 refine VO.ma rfl rfl rfl rfl ?_
 refine VO.nil ?_
 refine VC.seq ?_
 refine VC.sr ?_
 refine VO.mv rfl rfl rfl rfl ?_
 refine VO.val rfl rfl (OpV.seql rfl rfl rfl) ?_
 refine VO.nil ?_
 refine VC.cond rfl (fun h0b => ?_) (fun h0b => ?_)
 ·have h0 := h0b
  try simp only [qqT, qqF, qqN, qqM, qqL, qqE] at h0
  refine VC.sr ?_
  refine VO.ma rfl rfl rfl rfl ?_
  refine VO.nil ?_
  refine VC.ret ?_
  exact Exists.intro _ (And.intro (RetN.one Tryz.results67 (ResN.v rfl)) (by first | rw [dashB, if_pos (by assumption)] | rw [dashB, if_neg (by simp_all)]))
 ·have h0 := h0b
  try simp only [qqT, qqF, qqN, qqM, qqL, qqE] at h0
  refine VC.skip ?_
  refine VC.sr ?_
  refine VO.mv rfl rfl rfl rfl ?_
  refine VO.ma rfl rfl rfl rfl ?_
  refine VO.nil ?_
  refine VC.ret ?_
  exact Exists.intro _ (And.intro (RetN.one Tryz.results67 (ResN.v rfl)) (by first | rw [dashB, if_pos (by assumption)] | rw [dashB, if_neg (by simp_all)]))
set_option maxRecDepth 100000 in
theorem kit_Undash {x : ByteArray}  :
  SpecN Tryz.prog 79 [avS x] (fun y => y = avS (undB x)) := by
 refine SpecN.of_VCN Tryz.func79 rfl Tryz.ntmps79 (Nle rfl) fun w A hB => ?_
 have hnew : True := trivial
 refine VC.sr ?_
 refine VO.ma rfl rfl rfl rfl ?_
 refine VO.nil ?_
 refine VC.seq ?_
 refine VC.sr ?_
 refine VO.mv rfl rfl rfl rfl ?_
 refine VO.val rfl rfl (OpV.seql rfl rfl rfl) ?_
 refine VO.nil ?_
 refine VC.cond rfl (fun h0b => ?_) (fun h0b => ?_)
 ·have h0 := h0b
  try simp only [qqT, qqF, qqN, qqM, qqL, qqE] at h0
  refine VC.sr ?_
  refine VO.ma rfl rfl rfl rfl ?_
  refine VO.nil ?_
  refine VC.ret ?_
  exact Exists.intro _ (And.intro (RetN.one Tryz.results79 (ResN.v rfl)) (by first | rw [undB, if_pos (by assumption)] | rw [undB, if_neg (by simp_all)]))
 ·have h0 := h0b
  try simp only [qqT, qqF, qqN, qqM, qqL, qqE] at h0
  refine VC.skip ?_
  refine VC.sr ?_
  refine VO.mv rfl rfl rfl rfl ?_
  refine VO.ma rfl rfl rfl rfl ?_
  refine VO.nil ?_
  refine VC.ret ?_
  exact Exists.intro _ (And.intro (RetN.one Tryz.results79 (ResN.v rfl)) (by first | rw [undB, if_pos (by assumption)] | rw [undB, if_neg (by simp_all)]))
def sLn (x : ByteArray) : ByteArray := dashB x ++ ⟨#[10]⟩
def txS (l : List ByteArray) : ByteArray := l.foldl (fun a x => a ++ sLn x) ⟨#[]⟩
theorem txS_take {l : List ByteArray} {q : Nat} (h : q < l.length) : txS (l.take (q + 1)) = txS (l.take q) ++ sLn (l.getD q ByteArray.empty) := by
 have : l.take (q + 1) = l.take q ++ [l.getD q ByteArray.empty] := by
  rw [List.take_succ_eq_append_getElem h]; simp [List.getD_eq_getElem?_getD, h]
 rw [this]; unfold txS; rw [List.foldl_append]; rfl
theorem sLn_size {x : ByteArray} {n : Nat} (h : x.size ≤ n) : (sLn x).size ≤ n + 2 := by
 have h1 := dashB_size x
 have e : (⟨#[10]⟩ : ByteArray).size = 1 := rfl
 unfold sLn
 rw [lk_app]; omega
theorem txS_size {l : List ByteArray} {n : Nat} (h : ∀ i, (l.getD i ByteArray.empty).size ≤ n) : ∀ q, q ≤ l.length → (txS (l.take q)).size ≤ (n + 2) * q
 | 0, _ => by rw [List.take_zero]; exact Nat.zero_le _
 | q + 1, hq => by
  have ih := txS_size h q (by omega)
  have h1 := sLn_size (h q)
  rw [txS_take (by omega), lk_app, Nat.mul_add, Nat.mul_one]
  omega
theorem sLn_join (x : ByteArray) : bytesOf (joinL [dashB x] ⟨#[32]⟩ ++ [10]) = sLn x := by
 unfold sLn
 apply ByteArray.ext
 apply Array.toList_inj.1
 simp [bytesOf, joinL, Lib.join, List.intercalate, ByteArray.data_append]
theorem joinL_one (x : ByteArray) : (joinL [x] ⟨#[32]⟩).length = x.size := by
 simp [joinL, Lib.join, List.intercalate]
set_option maxRecDepth 100000 in
theorem rf_SetupLines {s : List ByteArray} (hl : s.length ≤ 1000) (hz : ∀ i, (s.getD i ByteArray.empty).size ≤ 1000) :
  SpecN Tryz.prog 21 [avStrs s] (fun y => y = avS (txS s)) := by
 refine SpecN.of_VCN Tryz.func21 rfl Tryz.ntmps21 (Nle rfl) fun w A hB => ?_
 have hnew : True := trivial
 refine VC.sr ?_
 refine VO.ma rfl rfl rfl rfl ?_
 refine VO.nil ?_
 refine VC.sr ?_
 refine VO.ma rfl rfl rfl rfl ?_
 refine VO.nil ?_
 refine VC.seq ?_
 refine VC.sr ?_
 refine VO.mv rfl rfl rfl rfl ?_
 refine VO.val rfl rfl (OpV.len_im rfl Tryz.underlying29 rfl) ?_
 refine VO.mv rfl rfl rfl rfl ?_
 refine VO.nil ?_
 refine VC.block ?_
 refine VC.loopK [(6, _), (7, _)] ⟨rfl, rfl, trivial⟩ ({q : Nat // q ≤ s.length}) (fun (iZ : {q : Nat // q ≤ s.length}) => match iZ with | ⟨q, hq⟩ => [(3, avS (txS (s.take q))), (8, avI (q : Int))]) (fun (iZ : {q : Nat // q ≤ s.length}) => match iZ with | ⟨q, hq⟩ => []) (fun (iZ : {q : Nat // q ≤ s.length}) => match iZ with | ⟨q, hq⟩ => 0) (fun (iZ : {q : Nat // q ≤ s.length}) => match iZ with | ⟨q, hq⟩ => s.length - q) ⟨0, Nat.zero_le _⟩ (Le.mk hB [] ⟨rfl, rfl, rfl, rfl, trivial⟩ rfl rfl (Nat.le_refl _)) ?_
 rintro ⟨q, hq⟩
 show VC _ _ _ _ ⟨[(3, avS (txS (s.take q))), (8, avI (q : Int))] ++ [(6, _), (7, _)], [], 0⟩
 have hts := txS_size hz q hq
 refine VC.sr ?_
 refine VO.val rfl rfl (OpV.lss rfl rfl rfl) ?_
 refine VO.nil ?_
 refine VC.seq ?_
 refine VC.cond rfl (fun aH1b => ?_) (fun aH1b => ?_)
 ·have aH1 := aH1b
  try simp only [qqT, qqF, qqN, qqM, qqL, qqE] at aH1
  refine VC.skip ?_
  refine VC.seq ?_
  refine VC.block ?_
  refine VC.seq ?_
  obtain ⟨x, hxx⟩ : ∃ x, s.getD q ByteArray.empty = x := ⟨_, rfl⟩
  have hxz := hz q
  rw [hxx] at hxz
  have hdz := dashB_size x
  obtain ⟨dd, hdd⟩ : ∃ dd, dd = dashB x := ⟨_, rfl⟩
  have hds : dd.size ≤ 1001 := by rw [hdd]; omega
  have e1 : (⟨#[10]⟩ : ByteArray).size = 1 := rfl
  have e2 : (⟨#[45]⟩ : ByteArray).size = 1 := rfl
  refine VC.region ?_
  refine VO.val rfl rfl (OpV.indexAddr_1 rfl Tryz.underlying29 Tryz.sizeOf9 rfl rfl rfl (by omega)) ?_
  refine VO.val rfl rfl (OpV.load_at rfl hB OutW.no Tryz.isAgg9 rfl rfl) ?_
  refine VO.le _ (Le.recast (t := 11) (y := avS x) rfl (fun w Z u h => by rw [← hxx]; exact h)) ?_
  refine VO.ma rfl rfl rfl rfl ?_
  refine VO.nil ?_
  refine VC.seq ?_
  refine VC.sr ?_
  refine VO.mv rfl rfl rfl rfl ?_
  refine VO.val rfl rfl (OpV.seql rfl rfl rfl) ?_
  refine VO.nil ?_
  refine VC.cond rfl (fun h1b => ?_) (fun h1b => ?_)
  ·have h1 := h1b
   try simp only [qqT, qqF, qqN, qqM, qqL, qqE] at h1
   refine VC.region ?_
   refine VO.ma rfl rfl rfl rfl ?_
   refine VO.nil ?_
   refine VC.le _ (Le.recast (t := 5) (y := avS dd) rfl (fun w Z u h => by rw [hdd, dashB]; first | (rw [if_pos (by assumption)]; exact h) | (rw [if_neg (by simp_all)]; exact h))) ?_
   refine VC.region ?_
   refine VO.mv rfl rfl rfl rfl ?_
   refine VO.mv rfl rfl rfl rfl ?_
   refine VO.val rfl rfl (OpV.sadd rfl rfl rfl (by omega)) ?_
   refine VO.val rfl rfl (OpV.sadd rfl rfl rfl (by simp only [lk_app]; omega)) ?_
   refine VO.ma rfl rfl rfl rfl ?_
   refine VO.nil ?_
   refine VC.region ?_
   refine VO.val rfl rfl (OpV.add rfl rfl rfl (by unfold fits; omega)) ?_
   refine VO.mv rfl rfl rfl rfl ?_
   refine VO.nil ?_
   exact Exists.intro (⟨q + 1, by omega⟩) (And.intro (Le.mk hB [] ⟨(by rw [txS_take (by omega), hxx, sLn, ← hdd]; rfl), rfl, rfl, rfl, trivial⟩ rfl rfl (Nat.le_refl _)) (by first | omega | (show _ < _; omega) | (simp only []; omega)))
  ·have h1 := h1b
   try simp only [qqT, qqF, qqN, qqM, qqL, qqE] at h1
   refine VC.skip ?_
   refine VC.le _ (Le.recast (t := 5) (y := avS dd) rfl (fun w Z u h => by rw [hdd, dashB]; first | (rw [if_pos (by assumption)]; exact h) | (rw [if_neg (by simp_all)]; exact h))) ?_
   refine VC.region ?_
   refine VO.mv rfl rfl rfl rfl ?_
   refine VO.mv rfl rfl rfl rfl ?_
   refine VO.val rfl rfl (OpV.sadd rfl rfl rfl (by omega)) ?_
   refine VO.val rfl rfl (OpV.sadd rfl rfl rfl (by simp only [lk_app]; omega)) ?_
   refine VO.ma rfl rfl rfl rfl ?_
   refine VO.nil ?_
   refine VC.region ?_
   refine VO.val rfl rfl (OpV.add rfl rfl rfl (by unfold fits; omega)) ?_
   refine VO.mv rfl rfl rfl rfl ?_
   refine VO.nil ?_
   exact Exists.intro (⟨q + 1, by omega⟩) (And.intro (Le.mk hB [] ⟨(by rw [txS_take (by omega), hxx, sLn, ← hdd]; rfl), rfl, rfl, rfl, trivial⟩ rfl rfl (Nat.le_refl _)) (by first | omega | (show _ < _; omega) | (simp only []; omega)))
 ·have aH1 := aH1b
  try simp only [qqT, qqF, qqN, qqM, qqL, qqE] at aH1
  obtain rfl : q = s.length := by omega
  rw [List.take_length]
  refine VC.exit ?_
  refine VC.sr ?_
  refine VO.mv rfl rfl rfl rfl ?_
  refine VO.ma rfl rfl rfl rfl ?_
  refine VO.nil ?_
  refine VC.ret ?_
  exact Exists.intro _ (And.intro (RetN.one Tryz.results21 (ResN.v rfl)) (rfl))
set_option maxRecDepth 100000 in
set_option maxHeartbeats 4000000 in
theorem setup_TextS {s : List ByteArray} (hl : s.length ≤ 1000) (hz : ∀ i, (s.getD i ByteArray.empty).size ≤ 1000) :
  SpecN Tryz.prog 16 [avStrs s] (fun y => y = .tup [avS (if setupF s = 0 then txS s else ⟨#[]⟩), avI (setupF s)]) := by
 refine SpecN.of_VCN Tryz.func16 rfl Tryz.ntmps16 (Nle rfl) fun w A hB => ?_
 have hnew : True := trivial
 refine VC.seq ?_
 have hs : SmS s := ⟨by omega, fun i => Nat.le_trans (hz i) (by omega)⟩
 refine VC.region ?_
 refine VO.ma rfl rfl rfl rfl ?_
 refine VO.ma rfl rfl rfl rfl ?_
 refine VO.nil ?_
 refine VC.seq ?_
 refine VC.sr ?_
 refine VO.mv rfl rfl rfl rfl ?_
 refine VO.op rfl (OpE.call rfl hB rfl Tryz.call64 rfl (SpecN.spec (setup_CheckSetup hs)) ?_)
 rintro _ rfl
 refine VO.ma rfl rfl rfl rfl ?_
 refine VO.nil ?_
 refine VC.sr ?_
 refine VO.mv rfl rfl rfl rfl ?_
 refine VO.val rfl rfl (OpV.neq rfl rfl rfl) ?_
 refine VO.nil ?_
 refine VC.cond rfl (fun h0b => ?_) (fun h0b => ?_)
 ·have h0 := h0b
  try simp only [qqT, qqF, qqN, qqM, qqL, qqE] at h0
  refine VC.sr ?_
  refine VO.mv rfl rfl rfl rfl ?_
  refine VO.ma rfl rfl rfl rfl ?_
  refine VO.ma rfl rfl rfl rfl ?_
  refine VO.nil ?_
  refine VC.ret ?_
  exact Exists.intro _ (And.intro (RetN.two Tryz.results16 (ResN.v rfl) (ResN.v rfl)) (by rw [if_neg h0]))
 ·have h0 := h0b
  try simp only [qqT, qqF, qqN, qqM, qqL, qqE] at h0
  refine VC.skip ?_
  refine VC.sr ?_
  refine VO.op rfl (OpE.alloc rfl hB rfl Tryz.zeroValue103 rfl ?_)
  intro g
  refine VO.nil ?_
  refine VC.seq ?_
  refine VC.sr ?_
  refine VO.mv rfl rfl rfl rfl ?_
  refine VO.val rfl rfl (OpV.len_im rfl Tryz.underlying29 rfl) ?_
  refine VO.mv rfl rfl rfl rfl ?_
  refine VO.nil ?_
  refine VC.block ?_
  refine VC.le _ (Le.nilRow 1 5) ?_
  refine VC.loopK [(5, _), (13, _), (14, _)] ⟨rfl, rfl, rfl, trivial⟩ ({z : (Value × Value) × Nat // z.2 ≤ s.length ∧ bldOk g z.1.1}) (fun (iZ : {z : (Value × Value) × Nat // z.2 ≤ s.length ∧ bldOk g z.1.1}) => match iZ with | ⟨⟨⟨p, u⟩, q⟩, hq, hp⟩ => [(15, avI (q : Int))]) (fun (iZ : {z : (Value × Value) × Nat // z.2 ≤ s.length ∧ bldOk g z.1.1}) => match iZ with | ⟨⟨⟨p, u⟩, q⟩, hq, hp⟩ => [bldE g p u, bufE u (txS (s.take q))]) (fun (iZ : {z : (Value × Value) × Nat // z.2 ≤ s.length ∧ bldOk g z.1.1}) => match iZ with | ⟨⟨⟨p, u⟩, q⟩, hq, hp⟩ => 0) (fun (iZ : {z : (Value × Value) × Nat // z.2 ≤ s.length ∧ bldOk g z.1.1}) => match iZ with | ⟨⟨⟨p, u⟩, q⟩, hq, hp⟩ => s.length - q) ⟨((.pointer none, .slice none 0 0), 0), Nat.zero_le _, bldOk.none g⟩ (Le.mk hB [0, 1] ⟨rfl, rfl, rfl, rfl, trivial⟩ rfl rfl (Nat.le_refl _)) ?_
  rintro ⟨⟨⟨p, u⟩, q⟩, hq, hp⟩
  show VC _ _ _ _ ⟨[(15, avI (q : Int))] ++ [(5, _), (13, _), (14, _)], [bldE g p u, bufE u (txS (s.take q))], 0⟩
  simp only at hq hp
  have hts := txS_size hz q hq
  refine VC.sr ?_
  refine VO.val rfl rfl (OpV.lss rfl rfl rfl) ?_
  refine VO.nil ?_
  refine VC.seq ?_
  refine VC.cond rfl (fun aH1b => ?_) (fun aH1b => ?_)
  ·have aH1 := aH1b
   try simp only [qqT, qqF, qqN, qqM, qqL, qqE] at aH1
   refine VC.skip ?_
   refine VC.seq ?_
   refine VC.block ?_
   refine VC.seq ?_
   obtain ⟨x, hxx⟩ : ∃ x, s.getD q ByteArray.empty = x := ⟨_, rfl⟩
   have hxz := hz q
   rw [hxx] at hxz
   have hdz := dashB_size x
   have hln := sLn_size hxz
   have hj1 := joinL_one (dashB x)
   refine VC.region ?_
   refine VO.val rfl rfl (OpV.indexAddr_1 rfl Tryz.underlying29 Tryz.sizeOf9 rfl rfl rfl (by omega)) ?_
   refine VO.val rfl rfl (OpV.load_at rfl hB OutW.no Tryz.isAgg9 rfl rfl) ?_
   refine VO.le _ (Le.recast (t := 18) (y := avS x) rfl (fun w Z u h => by rw [← hxx]; exact h)) ?_
   refine VO.ma rfl rfl rfl rfl ?_
   refine VO.nil ?_
   refine VC.region ?_
   refine VO.mv rfl rfl rfl rfl ?_
   refine VO.op rfl (OpE.call rfl hB rfl Tryz.call67 rfl (SpecN.spec (kit_Dash)) ?_)
   rintro _ rfl
   refine VO.op rfl (OpE.buildSlice (zc := #[.string ⟨#[]⟩]) rfl hB rfl Tryz.underlying29 Tryz.sizeOf9 Tryz.zeroValue9 (by decide) (by decide) (by kernel_rfl) rfl rfl ?_)
   refine VO.le _ (Le.litsS (t := 21) (xs := [dashB x]) rfl rfl) ?_
   refine VO.op rfl (OpE.call rfl hB rfl Tryz.call66 rfl (SpecN.spec (kit_Join (xs := [dashB x]) (by simp) (by omega))) ?_)
   rintro _ rfl
   refine VO.le _ (Le.recast (t := 22) (y := avS (sLn x)) rfl (fun w Z u h => by rw [← sLn_join]; exact h)) ?_
   refine VO.op rfl (OpE.callH0 rfl hB rfl Tryz.call65 rfl rfl (Builder_WriteString_H hp (by omega)) (List.Perm.refl _) (fun _ _ => trivial) ?_)
   rintro _ _ ⟨u23, rfl, rfl⟩
   refine VO.nil ?_
   refine VC.region ?_
   refine VO.val rfl rfl (OpV.add rfl rfl rfl (by unfold fits; omega)) ?_
   refine VO.mv rfl rfl rfl rfl ?_
   refine VO.nil ?_
   exact Exists.intro (⟨((ptv g, u23), q + 1), by show q + 1 ≤ _; omega, bldOk.self g⟩) (And.intro (Le.mk hB [0, 1] ⟨rfl, rfl, rfl, rfl, trivial⟩ rfl (by dsimp only; rw [txS_take (by omega), hxx]; rfl) (Nat.le_refl _)) (by first | omega | (show _ < _; omega) | (simp only []; omega)))
  ·have aH1 := aH1b
   try simp only [qqT, qqF, qqN, qqM, qqL, qqE] at aH1
   obtain rfl : q = s.length := by omega
   rw [List.take_length] at hts ⊢
   refine VC.exit ?_
   refine VC.sr ?_
   refine VO.op rfl (OpE.bstr (i := 0) (j := 1) rfl hB rfl (fun _ h => h) Tryz.call68 rfl rfl hp rfl (by decide) ?_)
   refine VO.ma rfl rfl rfl rfl ?_
   refine VO.ma rfl rfl rfl rfl ?_
   refine VO.nil ?_
   refine VC.ret ?_
   exact Exists.intro _ (And.intro (RetN.two Tryz.results16 (ResN.v rfl) (ResN.v rfl)) (by rw [if_pos (by omega), show setupF s = 0 by omega]))
end Go.Proofs.YtbbgjeiefmiblaaGreatDoor
namespace Go.Proofs.YtbbgjeiefmiblaaGreatDoor
open Go.RowKit
set_option linter.unusedVariables false
set_option linter.unusedSimpArgs false
theorem OpVN.load_at {P : Program} {B : Bs} {s : St'} {o : Oper} {N : Nat} {W : Nat → Prop} {x : Operand} {t m : Nat} {F : Nat → AV} (ho : o.op = .load t x) (hB : B.Ok) (hW : ∀ b, W b → N ≤ b) (hag : ∀ w, (isAgg t).run P w = .ok false w) (hx : evO s x = some (.at_ m F)) (hm : Nat.blt 0 m = true) : OpVN P B W s o (F 0) N := by
 intro a w hr hN
 have := hr.ev hx
 generalize hv : a.eval x = u at this
 have hm' : 0 < m := by simpa using hm
 cases this with
 | at_ m f' b off c e u hZ hb hc hr' =>
  refine ⟨u 0, fun w' hcw => ?_, hr' 0 hm'⟩
  have hb' := (new_keep hB hr (fun b h => hN ▸ hW b h) hcw hZ).trans hb
  have hcell : w'.cell? ⟨b, off, none⟩ = some (u 0) := by simpa [World.cell?, hb'] using hc 0 hm'
  simp [execOp, ho, hv, Instr.loadAt, Instr.sureAddr, loadVar, hag, load, Sem.run, hcell]
end Go.Proofs.YtbbgjeiefmiblaaGreatDoor
namespace Go.Proofs.YtbbgjeiefmiblaaGreatDoor
open Go.RowKit
set_option linter.unusedVariables false
set_option linter.unusedSimpArgs false
theorem splitS_sz {c : UInt8} : ∀ (n : Nat) (s : ByteArray), s.size ≤ n → ∀ x ∈ splitS c s, x.size ≤ s.size
 | 0, s, h, x, hx => by
  by_cases hi : Lib.indexByte (byL s) c < 0
  ·rw [splitS_none hi] at hx; simp at hx; subst hx; exact Nat.le_refl _
  ·obtain ⟨m, hm⟩ : ∃ m : Nat, Lib.indexByte (byL s) c = m := ⟨(Lib.indexByte (byL s) c).toNat, by omega⟩
   have := (splitS_some hm).1
   omega
 | n + 1, s, h, x, hx => by
  by_cases hi : Lib.indexByte (byL s) c < 0
  ·rw [splitS_none hi] at hx; simp at hx; subst hx; exact Nat.le_refl _
  ·obtain ⟨m, hm⟩ : ∃ m : Nat, Lib.indexByte (byL s) c = m := ⟨(Lib.indexByte (byL s) c).toNat, by omega⟩
   obtain ⟨h1, h2⟩ := splitS_some hm
   rw [h2] at hx
   rcases List.mem_cons.1 hx with rfl | hx
   ·rw [ByteArray.size_extract]; omega
   ·have hz : (s.extract (m + 1) s.size).size ≤ n := by rw [ByteArray.size_extract]; omega
    have := splitS_sz n _ hz x hx
    rw [ByteArray.size_extract] at this
    omega
theorem getD_sz {l : List ByteArray} {n : Nat} (h : ∀ x ∈ l, x.size ≤ n) (i : Nat) : (l.getD i ByteArray.empty).size ≤ n := by
 rw [List.getD_eq_getElem?_getD]
 cases hi : l[i]? with
 | none => exact Nat.zero_le _
 | some x => exact h x (List.mem_of_getElem? hi)
theorem splitS_get (c : UInt8) (s : ByteArray) (i : Nat) : ((splitS c s).getD i ByteArray.empty).size ≤ s.size := getD_sz (splitS_sz s.size s (Nat.le_refl _)) i
theorem splitS_length (c : UInt8) (s : ByteArray) : (splitS c s).length ≤ s.size + 1 := by
 rw [splitS_len]
 have : Lib.countByte (byL s) c ≤ s.size := by rw [← byL_len]; exact List.count_le_length
 omega
theorem linesR_get (s : ByteArray) (i : Nat) : ((linesR s).getD i ByteArray.empty).size ≤ s.size := by
 unfold linesR
 split
 ·simp
 ·exact Nat.le_trans (splitS_get _ _ i) (trimSuffix_size s ⟨#[10]⟩)
theorem linesR_length (s : ByteArray) : (linesR s).length ≤ s.size + 1 := by
 unfold linesR
 split
 ·exact Nat.zero_le _
 ·have := splitS_length 10 (bytesOf (Lib.trimSuffix (byL s) [10]))
  have h2 := trimSuffix_size s ⟨#[10]⟩
  have h3 : (bytesOf (Lib.trimSuffix (byL s) [10])).size ≤ s.size := h2
  omega
section
variable {text : ByteArray}
end
section
variable {o A B C D : Bool} (h : o = (A && (B && (C || D))))
include h
end

end Go.Proofs.YtbbgjeiefmiblaaGreatDoor
namespace Go.Proofs.YtbbgjeiefmiblaaGreatDoor
open Go.RowKit
set_option linter.unusedVariables false
set_option linter.unusedSimpArgs false
structure StabX (TX : List Ent → World → Prop) : Prop where
 keep : ∀ {hp hp' : List Ent} {w w' : World}, TX hp w → Chg (BlkL hp) w w' → (∀ b, BlkL hp' b → b < w.heap.size → BlkL hp b) → TX hp' w'
def TXt : List Ent → World → Prop := fun _ _ => True
theorem TXt.stab : StabX TXt := ⟨fun _ _ _ => trivial⟩
def SpecHX (TX : List Ent → World → Prop) (P : Program) (F : FuncId) (xs : List AV) (hp : List Ent) (G : AV → List Ent → Prop) : Prop :=
 ∀ (w : World) (A : Nat → Prop) (us : Array Value), TX hp w → Args w A xs us → Apart hp → (∀ b, BlkL hp b → ¬ A b) → (∀ e ∈ hp, EntR w (fun b => b < w.heap.size ∧ A b) e) →
  Calls P F us w fun e w' => ∃ y v hp', G y hp' ∧ e = .returned v ∧ Apart hp' ∧ Rep w' (Zh w A hp hp' w') y v ∧ (∀ e ∈ hp', EntR w' (Zh w A hp hp' w') e) ∧
   (∀ b, BlkL hp' b → b < w.heap.size → BlkL hp b) ∧ Chg (BlkL hp) w w'
theorem SpecH.toX {TX : List Ent → World → Prop} {P : Program} {F : FuncId} {xs : List AV} {hp : List Ent} {G : AV → List Ent → Prop} (h : SpecH P F xs hp G) : SpecHX TX P F xs hp G := fun w A us _ => h w A us
theorem SpecHX.plain {P : Program} {F : FuncId} {xs : List AV} {hp : List Ent} {G : AV → List Ent → Prop} (h : SpecHX TXt P F xs hp G) : SpecH P F xs hp G := fun w A us => h w A us trivial
theorem SpecHX.of_VC {TX : List Ent → World → Prop} (hst : StabX TX) {P : Program} {F : FuncId} {fn : Func} {c : Code} (hf : P.funcs[F]? = some fn) (hb : fn.body = some c) {xs : List AV} {hp : List Ent} {G : AV → List Ent → Prop} {nt : Nat} (hn : fn.ntmps = nt) (hle : xs.length ≤ nt)
  (h : ∀ w A, (Bh w A nt hp).Ok → (∀ s a w', R (Bh w A nt hp) s a w' → TX s.hp w') → VC P (Bh w A nt hp) c (retS P fn fun y s => G y s.hp) ⟨slots0 0 xs, hp, 0⟩) : SpecHX TX P F xs hp G := fun w A us hx ha h1 h2 h3 => by
 have hus : us.size ≤ fn.ntmps := by rw [ha.1, hn]; exact hle
 refine calls_of_wp hf hb (Code.wp_mono (fun e a w' hq => ?_) (h w A (Bh.ok _ _ _ _) (fun s a w' hr => hst.keep hx hr.chg fun b ⟨p, hp1, hpb⟩ hl => (hr.own p hp1 b hpb).2 hl) _ w (by
  have := R.startH (nt := nt) ha h1 h2 h3 (by omega)
  rwa [hn])))
 obtain ⟨s, hq, hr⟩ := hq
 have key : ∀ y v, G y s.hp → Rep w' (Zn (Bh w A nt hp) s.hp w') y v → ∃ y v' hp', G y hp' ∧ Ending.returned v = .returned v' ∧ Apart hp' ∧ Rep w' (Zh w A hp hp' w') y v' ∧ (∀ e ∈ hp', EntR w' (Zh w A hp hp' w') e) ∧
   (∀ b, BlkL hp' b → b < w.heap.size → BlkL hp b) ∧ Chg (BlkL hp) w w' := fun y v hG hv => by
  have hZ : ∀ b, Zn (Bh w A nt hp) s.hp w' b → Zh w A hp s.hp w' b := fun b hb => ⟨hb.1, fun ⟨p, hp1, hp2⟩ => hb.2.1 p hp1 hp2, fun hl => (hb.2.2 hl).1⟩
  exact ⟨y, v, s.hp, hG, rfl, hr.nodup, hv.keep fun b hb _ => ⟨rfl, hZ b hb⟩, fun p hp' => (hr.blocks p hp').keep (fun b hb _ => ⟨rfl, hZ b hb⟩) fun g _ => rfl, fun b ⟨p, hp1, hp2⟩ hl => (hr.own p hp1 b hp2).2 hl, hr.chg⟩
 cases e with
 | normal =>
  obtain ⟨y, k1, k2⟩ := hq
  obtain ⟨v, k3, k4⟩ := k1 _ a w' hr
  exact ⟨hr.defs, v, k3, key y v k2 k4⟩
 | ret =>
  obtain ⟨y, k1, k2⟩ := hq
  obtain ⟨v, k3, k4⟩ := k1 _ a w' hr
  exact ⟨hr.defs, v, k3, key y v k2 k4⟩
 | exit id => exact hq.elim
 | goto l => exact hq.elim
 | panic c => exact hq.elim
 | outgrown => exact hq.elim
section
variable {P : Program} {B : Bs} {W : Nat → Prop} {s : St'} {o : Oper} {K : St' → Prop}
theorem OpE.callHX {TX : List Ent → World → Prop} (hst : StabX TX) (hG : ∀ s a w, R B s a w → TX s.hp w) {f : Operand} {F : FuncId} {caps : Array Value} {args : Array Operand} {ts : Array TypeId} {xs : List AV} {hp rest : List Ent} {G : AV → List Ent → Prop} (ho : o.op = .call { callee := .value f, args := args, argTypes := ts }) (hB : B.Ok) (hd : okd B.nt o.dst = true)
  (hcall : ∀ us w, (callFunc F us).run P w = .ok (.enter F us) w) (hf : evO s f = some (.v (.func (.func F) #[] caps))) (hxs : evL s args.toList = some xs) (hspec : SpecHX TX P F (xs ++ caps.toList.map .v) hp G) (hsp : s.hp.Perm (hp ++ rest)) (hW : ∀ b, BlkL hp b → W b)
  (hK : ∀ y hp', G y hp' → K ((St'.mk s.sl (hp' ++ rest) s.k).put o.dst y)) : OpE P B W s o K := by
 intro a w hr next Qx hn
 have hr1 := hr.perm hsp
 have hA : Args w (Zo B (hp ++ rest)) (xs ++ caps.toList.map .v) (args.map a.eval ++ caps) := by
  have ha := evL_args hr hxs
  have hZo : ∀ b, Zo B s.hp b → Zo B (hp ++ rest) b := fun b hb => ⟨fun p hp1 => hb.1 p (hsp.mem_iff.2 hp1), hb.2⟩
  refine ⟨by simp [ha.1], fun j hj => ?_⟩
  by_cases hjx : j < xs.length
  ·rw [List.getElem_append_left hjx]
   have hlt : j < (args.map a.eval).size := by rw [ha.1]; exact hjx
   have : (args.map a.eval ++ caps).getD j undef = (args.map a.eval).getD j undef := by
    rw [Array.getD_eq_getD_getElem?, Array.getD_eq_getD_getElem?, Array.getElem?_append_left hlt]
   rw [this]
   exact (ha.2 j hjx).keep fun b hb _ => ⟨rfl, hb.1, hZo b hb.2⟩
  ·rw [List.getElem_append_right (by omega)]
   have hj' : j - xs.length < caps.size := by rw [List.length_append] at hj; simp at hj; omega
   have : (args.map a.eval ++ caps).getD j undef = caps.getD (j - xs.length) undef := by
    rw [Array.getD_eq_getD_getElem?, Array.getD_eq_getD_getElem?, Array.getElem?_append_right (by rw [ha.1]; omega), ha.1]
   rw [this, Array.getD_eq_getD_getElem?, Array.getElem?_eq_getElem hj']
   simp
   exact .v _
 have hap := hr1.nodup
 unfold Apart at hap
 rw [List.pairwise_append] at hap
 have hx : TX hp w := hst.keep (hG _ _ _ hr) (Chg.refl _ _) fun b ⟨p, hp1, hpb⟩ _ => ⟨p, hsp.mem_iff.2 (List.mem_append_left _ hp1), hpb⟩
 have h1 := hspec w (Zo B (hp ++ rest)) _ hx hA hap.1 (fun b ⟨p, hp1, hpb⟩ h => h.1 p (List.mem_append_left _ hp1) hpb) fun e he => (hr1.blocks e (List.mem_append_left _ he)).keep (fun b hb _ => ⟨rfl, hb.1, hb.2⟩) fun g _ => rfl
 unfold Oper.wp
 simp only [execOp, ho, resolve, hr.evv hf, Deferred.ofValue, Sem.run_bind, Sem.run_pure, Result.andThen_ok, invoke, hcall, Array.empty_append]
 simp only [Oper.upon]
 refine h1.mono fun e w' hret => ?_
 obtain ⟨y, v, hp', k1, rfl, k2, k3, k4, k5, k6⟩ := hret
 obtain ⟨hr', hz⟩ := hr1.afterH hB k2 k4 k5 k6
 exact hn _ _ _ (hK y hp' k1) (hr'.put _ hd _ _ (k3.keep fun b hb _ => ⟨rfl, hz b hb⟩)) (k6.mono fun b _ h => .inr (hW b h))
theorem OpE.callHX0 {TX : List Ent → World → Prop} (hst : StabX TX) (hG : ∀ s a w, R B s a w → TX s.hp w) {f : Operand} {F : FuncId} {caps : Array Value} {args : Array Operand} {ts : Array TypeId} {xs : List AV} {hp : List Ent} {G : AV → List Ent → Prop} (ho : o.op = .call { callee := .value f, args := args, argTypes := ts }) (hB : B.Ok) (hd : okd B.nt o.dst = true)
  (hcall : ∀ us w, (callFunc F us).run P w = .ok (.enter F us) w) (hf : evO s f = some (.v (.func (.func F) #[] caps))) (hxs : evL s args.toList = some xs) (hspec : SpecHX TX P F (xs ++ caps.toList.map .v) hp G) (hsp : s.hp.Perm hp) (hW : ∀ b, BlkL hp b → W b)
  (hK : ∀ y hp', G y hp' → K ((St'.mk s.sl hp' s.k).put o.dst y)) : OpE P B W s o K :=
 OpE.callHX (rest := []) hst hG ho hB hd hcall hf hxs hspec (by rw [List.append_nil]; exact hsp) hW fun y hp' h => by rw [List.append_nil]; exact hK y hp' h
end
def TabX (P : Program) (hp : List Ent) (w : World) : Prop := TabW P w ∧ ∀ b, BlkL hp b → P.globalNamed "internal/strconv.uint64pow10" ≠ some b
theorem TabW.lt {P : Program} {w : World} {g : Nat} (hg : P.globalNamed "internal/strconv.uint64pow10" = some g) (h : TabW P w) : g < w.heap.size := by
 unfold TabW Lib.TabIs World.var? at h
 rw [hg] at h
 simp only [Option.bind_some] at h
 by_cases hl : g < w.heap.size
 ·exact hl
 ·rw [Array.getElem?_eq_none (by omega)] at h; cases h
theorem TabX.stab {P : Program} {g : Nat} (hg : P.globalNamed "internal/strconv.uint64pow10" = some g) : StabX (TabX P) := ⟨fun {hp hp' w w'} h c hb => by
 have hlt := h.1.lt hg
 have hno : ∀ b, BlkL hp' b → P.globalNamed "internal/strconv.uint64pow10" ≠ some b := fun b hbb e => by
  obtain rfl : g = b := Option.some.inj (hg.symm.trans e)
  exact h.2 g (hb g hbb hlt) hg
 exact ⟨h.1.keep hg c fun h2 => h.2 g h2 hg, hno⟩⟩
theorem TabX.base {P : Program} {w : World} {A : Nat → Prop} {nt g : Nat} (hg : P.globalNamed "internal/strconv.uint64pow10" = some g) (h : TabW P w) : ∀ s a w', R (B0 w A nt) s a w' → TabX P s.hp w' := fun s a w' hr => by
 refine ⟨h.base hg hr, fun b ⟨p, hp1, hpb⟩ e => ?_⟩
 obtain rfl : g = b := Option.some.inj (hg.symm.trans e)
 exact (hr.own p hp1 g hpb).2 (h.lt hg)
end Go.Proofs.YtbbgjeiefmiblaaGreatDoor
namespace Go.Proofs.YtbbgjeiefmiblaaGreatDoor
open Go.RowKit
set_option linter.unusedVariables false
set_option linter.unusedSimpArgs false
def TakesX (TX : List Ent → World → Prop) (K : List ByteArray → List Ent → Prop) (ok : List ByteArray → ByteArray → Bool) (n : Nat) (P : Program) (F : FuncId) (caps : Array Value) : Prop :=
 ∀ pre line h, K pre h → line.size ≤ n → pre.length ≤ n → SpecHX TX P F ([avS line] ++ caps.toList.map .v) h (fun y hp' => y = avB (ok pre line) ∧ K (pre ++ [line]) hp')
set_option maxRecDepth 100000 in
theorem rf_Lines {TX : List Ent → World → Prop} {text : ByteArray} {F : FuncId} {caps : Array Value} {K : List ByteArray → List Ent → Prop} {ok : List ByteArray → ByteArray → Bool} {h0 : List Ent} (hst : StabX TX) (hs : text.size ≤ 10000000) (hcall : ∀ us w, (callFunc F us).run Tryz.prog w = .ok (.enter F us) w) (hF : TakesX TX K ok text.size Tryz.prog F caps) (hk : K [] h0) :
  SpecHX TX Tryz.prog 80 [avS text, .v (.func (.func F) #[] caps)] h0 (fun y hp' => ∃ pre, K pre hp' ∧ y = lnY (lnF (okAt ok (linesR text)) (linesR text) (linesE text)) ∧ (lnF (okAt ok (linesR text)) (linesR text) (linesE text) = none → pre = linesR text)) := by
 refine SpecHX.of_VC hst Tryz.func80 rfl Tryz.ntmps80 (Nle rfl) fun w A hB hGX => ?_
 have hnew : True := trivial
 refine VC.sr ?_
 refine VO.ma rfl rfl rfl rfl ?_
 refine VO.ma rfl rfl rfl rfl ?_
 refine VO.nil ?_
 refine VC.seq ?_
 refine VC.sr ?_
 refine VO.ma rfl rfl rfl rfl ?_
 refine VO.nil ?_
 refine VC.block ?_
 refine VC.loopK [(1, _)] ⟨rfl, trivial⟩ ({t : ByteArray × List ByteArray × List Ent // LnI ok text t.2.1 t.1 ∧ K t.2.1 t.2.2}) (fun (iZ : {t : ByteArray × List ByteArray × List Ent // LnI ok text t.2.1 t.1 ∧ K t.2.1 t.2.2}) => match iZ with | ⟨⟨r, pre, hh⟩, hi, hkk⟩ => [(0, avS r), (6, avI (pre.length : Int))]) (fun (iZ : {t : ByteArray × List ByteArray × List Ent // LnI ok text t.2.1 t.1 ∧ K t.2.1 t.2.2}) => match iZ with | ⟨⟨r, pre, hh⟩, hi, hkk⟩ => hh) (fun (iZ : {t : ByteArray × List ByteArray × List Ent // LnI ok text t.2.1 t.1 ∧ K t.2.1 t.2.2}) => match iZ with | ⟨⟨r, pre, hh⟩, hi, hkk⟩ => 0) (fun (iZ : {t : ByteArray × List ByteArray × List Ent // LnI ok text t.2.1 t.1 ∧ K t.2.1 t.2.2}) => match iZ with | ⟨⟨r, pre, hh⟩, hi, hkk⟩ => r.size) ⟨(text, [], h0), LnI.start text, hk⟩ (Le.mkP hB ⟨rfl, rfl, rfl, trivial⟩ (List.Sublist.refl _) (List.Perm.refl _) (Nat.le_refl _)) ?_
 rintro ⟨⟨r, pre, hh⟩, hi, hkk⟩
 show VC _ _ _ _ ⟨[(0, avS r), (6, avI (pre.length : Int))] ++ [(1, _)], hh, 0⟩
 simp only at hi hkk
 have hsz := hi.size
 refine VC.seq ?_
 refine VC.sr ?_
 refine VO.mv rfl rfl rfl rfl ?_
 refine VO.val rfl rfl (OpV.sneq rfl rfl rfl) ?_
 refine VO.nil ?_
 refine VC.cond rfl (fun aH1b => ?_) (fun aH1b => ?_)
 ·have aH1 := aH1b
  try simp only [qqT, qqF, qqN, qqM, qqL, qqE] at aH1
  refine VC.skip ?_
  refine VC.seq ?_
  refine VC.block ?_
  refine VC.sr ?_
  refine VO.mv rfl rfl rfl rfl ?_
  refine VO.op rfl (OpE.call rfl hB rfl Tryz.call125 rfl (SpecN.spec (strings_CutB (c := 10) (by omega))) ?_)
  rintro _ rfl
  obtain ⟨ln, hln⟩ : ∃ ln, cutA 10 r = ln := ⟨_, rfl⟩
  obtain ⟨rb, hrb⟩ : ∃ rb, cutB 10 r = rb := ⟨_, rfl⟩
  obtain ⟨fd, hfd⟩ : ∃ fd, cutF 10 r = fd := ⟨_, rfl⟩
  have hls := cutA_size 10 r
  rw [hln] at hls
  refine VO.le _ (Le.recast (t := 16) (y := .tup [avS ln, avS rb, avB fd]) rfl (fun w Z u h => by rw [← hln, ← hrb, ← hfd]; exact h)) ?_
  refine VO.mv rfl rfl rfl rfl ?_
  refine VO.val rfl rfl (OpV.extract rfl rfl rfl) ?_
  refine VO.val rfl rfl (OpV.extract rfl rfl rfl) ?_
  refine VO.val rfl rfl (OpV.extract rfl rfl rfl) ?_
  refine VO.ma rfl rfl rfl rfl ?_
  refine VO.ma rfl rfl rfl rfl ?_
  refine VO.ma rfl rfl rfl rfl ?_
  refine VO.nil ?_
  refine VC.seq ?_
  refine VC.sr ?_
  refine VO.mv rfl rfl rfl rfl ?_
  refine VO.val rfl rfl (OpV.not rfl rfl) ?_
  refine VO.mv rfl rfl rfl rfl ?_
  refine VO.opG rfl rfl rfl rfl (fun aK2b => ?_) (fun aK2b => ?_)
  ·replace aK2b : _ = false := aK2b
   have aK2 := aK2b
   try simp only [qqT, qqF, qqN, qqM, qqL, qqE] at aK2
   refine OpE.val (W := NoB) (OpV.move (.inl rfl) rfl) rfl ?_
   refine VO.opY rfl rfl rfl rfl aK2b ?_
   refine OpE.val (W := NoB) (OpV.move (.inl rfl) rfl) rfl ?_
   refine VO.opY rfl rfl rfl rfl aK2b ?_
   refine OpE.callHX0 hst hGX rfl hB rfl hcall rfl rfl (hF pre ln hh hkk (by omega) (by omega)) (List.Perm.refl _) (fun _ _ => trivial) ?_
   rintro _ hh2 ⟨rfl, hk2⟩
   refine VO.opY rfl rfl rfl rfl aK2b ?_
   refine OpE.val (W := NoB) (OpV.not rfl rfl) rfl ?_
   refine VO.val rfl rfl (OpV.pickF rfl rfl rfl rfl aK2b) ?_
   refine VO.nil ?_
   refine VC.cond rfl (fun h1b => ?_) (fun h1b => ?_)
   ·have h1 := h1b
    try simp only [qqT, qqF, qqN, qqM, qqL, qqE] at h1
    refine VC.sr ?_
    refine VO.mv rfl rfl rfl rfl ?_
    refine VO.ma rfl rfl rfl rfl ?_
    refine VO.ma rfl rfl rfl rfl ?_
    refine VO.nil ?_
    refine VC.ret ?_
    exact Exists.intro _ (And.intro (RetV.two Tryz.results80 (ResV.tmp rfl) (ResV.tmp rfl)) (by first | exact ⟨pre, hkk, by rw [hi.bad1 (by simp_all) (by rw [hfd]; simp_all)]; rfl, fun e => by rw [hi.bad1 (by simp_all) (by rw [hfd]; simp_all)] at e; cases e⟩ | exact ⟨pre ++ [ln], hk2, by rw [hi.bad2 (by rw [hfd]; simp_all) (by rw [hln]; simp_all)]; rfl, fun e => by rw [hi.bad2 (by rw [hfd]; simp_all) (by rw [hln]; simp_all)] at e; cases e⟩))
   ·have h1 := h1b
    try simp only [qqT, qqF, qqN, qqM, qqL, qqE] at h1
    have hfd1 : cutF 10 r = true := by rw [hfd]; simp_all
    have hok1 : ok pre (cutA 10 r) = true := by rw [hln]; simp_all
    have hi2 : LnI ok text (pre ++ [ln]) rb := by have h := hi.step hfd1 hok1; rw [hln, hrb] at h; exact h
    have hrs : rb.size < r.size := by have h := cut_sizes hfd1; rw [hrb] at h; omega
    refine VC.skip ?_
    refine VC.region ?_
    refine VO.mv rfl rfl rfl rfl ?_
    refine VO.ma rfl rfl rfl rfl ?_
    refine VO.nil ?_
    refine VC.region ?_
    refine VO.mv rfl rfl rfl rfl ?_
    refine VO.val rfl rfl (OpV.add rfl rfl rfl (by unfold fits; omega)) ?_
    refine VO.ma rfl rfl rfl rfl ?_
    refine VO.nil ?_
    exact Exists.intro (⟨(rb, pre ++ [ln], hh2), hi2, hk2⟩) (And.intro (Le.mkP hB ⟨rfl, (by rw [List.length_append]; rfl), rfl, trivial⟩ (List.Sublist.refl _) (List.Perm.refl _) (Nat.le_refl _)) (by first | omega | (show _ < _; omega) | (simp only []; omega)))
  ·replace aK2b : _ = true := aK2b
   have aK2 := aK2b
   try simp only [qqT, qqF, qqN, qqM, qqL, qqE] at aK2
   refine VO.opX rfl rfl rfl rfl aK2b ?_
   refine VO.opX rfl rfl rfl rfl aK2b ?_
   refine VO.opX rfl rfl rfl rfl aK2b ?_
   refine VO.val rfl rfl (OpV.pickT rfl rfl rfl rfl aK2b) ?_
   refine VO.nil ?_
   refine VC.condT rfl rfl ?_
   refine VC.sr ?_
   refine VO.mv rfl rfl rfl rfl ?_
   refine VO.ma rfl rfl rfl rfl ?_
   refine VO.ma rfl rfl rfl rfl ?_
   refine VO.nil ?_
   refine VC.ret ?_
   exact Exists.intro _ (And.intro (RetV.two Tryz.results80 (ResV.tmp rfl) (ResV.tmp rfl)) (by first | exact ⟨pre, hkk, by rw [hi.bad1 (by simp_all) (by rw [hfd]; simp_all)]; rfl, fun e => by rw [hi.bad1 (by simp_all) (by rw [hfd]; simp_all)] at e; cases e⟩ | exact ⟨pre ++ [ln], hk2, by rw [hi.bad2 (by rw [hfd]; simp_all) (by rw [hln]; simp_all)]; rfl, fun e => by rw [hi.bad2 (by rw [hfd]; simp_all) (by rw [hln]; simp_all)] at e; cases e⟩))
 ·have aH1 := aH1b
  try simp only [qqT, qqF, qqN, qqM, qqL, qqE] at aH1
  refine VC.exit ?_
  refine VC.sr ?_
  refine VO.ma rfl rfl rfl rfl ?_
  refine VO.ma rfl rfl rfl rfl ?_
  refine VO.nil ?_
  refine VC.ret ?_
  exact Exists.intro _ (And.intro (RetV.two Tryz.results80 (ResV.tmp rfl) (ResV.tmp rfl)) (⟨pre, hkk, by rw [(hi.fin (by simp_all)).1]; rfl, fun _ => (hi.fin (by simp_all)).2⟩))
end Go.Proofs.YtbbgjeiefmiblaaGreatDoor
namespace Go.Proofs.YtbbgjeiefmiblaaGreatDoor
open Go.RowKit
set_option linter.unusedVariables false
set_option linter.unusedSimpArgs false
def hasSp (x : ByteArray) : Bool := decide (0 ≤ Lib.indexByte (byL x) 32)
theorem strings_Contains_S {s : ByteArray} : SpecN Tryz.prog 78 [avS s, avS ⟨#[32]⟩] (fun y => y = avB (hasSp s)) := by
 intro w us ha
 rw [argsV2 ha]
 refine (Tryz.strings_Contains_one s 32 w).mono ?_
 rintro e w' ⟨rfl, rfl⟩
 exact ⟨_, _, rfl, rfl, .v _, Chg.refl _ _, trivial⟩
def okSu (x : ByteArray) : Bool := !sEq x ⟨#[]⟩ && !hasSp x
theorem su_no1 {x : ByteArray} (h : sEq x ⟨#[]⟩ = true) : okSu x = false := by unfold okSu; rw [h]; rfl
theorem su_no2 {x : ByteArray} (h : hasSp x = true) : okSu x = false := by unfold okSu; rw [h]; simp
theorem su_yes {x : ByteArray} (h : sEq x ⟨#[]⟩ = false) (h2 : hasSp x = false) : okSu x = true := by unfold okSu; rw [h, h2]; rfl
abbrev okS1 : List ByteArray → ByteArray → Bool := fun _ x => okSu x
abbrev suBad (text : ByteArray) : Option Nat := lnF (okAt okS1 (linesR text)) (linesR text) (linesE text)
def suRead (text : ByteArray) : List ByteArray × Int × Int :=
 if 200000 < text.size then ([], 0, 2)
 else match suBad text with
  | some i => ([], (i : Int), 9)
  | none => if setupF ((linesR text).map undB) = 0 then ((linesR text).map undB, 0, 0) else ([], 0, setupF ((linesR text).map undB))
section
variable {text : ByteArray}
theorem suRead_2 (h : 200000 < text.size) : suRead text = ([], 0, 2) := by rw [suRead, if_pos h]
theorem suRead_9 (h : ¬ 200000 < text.size) {i : Nat} (hi : suBad text = some i) : suRead text = ([], (i : Int), 9) := by rw [suRead, if_neg h, hi]
theorem suRead_e (h : ¬ 200000 < text.size) (hi : suBad text = none) (hf : setupF ((linesR text).map undB) ≠ 0) : suRead text = ([], 0, setupF ((linesR text).map undB)) := by rw [suRead, if_neg h, hi]; simp only; rw [if_neg hf]
theorem suRead_0 (h : ¬ 200000 < text.size) (hi : suBad text = none) (hf : setupF ((linesR text).map undB) = 0) : suRead text = ((linesR text).map undB, 0, 0) := by rw [suRead, if_neg h, hi]; simp only; rw [if_pos hf]
end
theorem und_SmS {ls : List ByteArray} {n : Nat} (hn : n ≤ 1000000) (hl : ls.length ≤ 1000000) (h : ∀ i, (ls.getD i ByteArray.empty).size ≤ n) : SmS (ls.map undB) := ⟨by rw [List.length_map]; omega, fun i => by
 by_cases hi : i < ls.length
 ·have e : (ls.map undB).getD i ByteArray.empty = undB (ls.getD i ByteArray.empty) := by simp [List.getD_eq_getElem?_getD, hi]
  rw [e]
  have h1 := undB_size (ls.getD i ByteArray.empty)
  have h2 := h i
  omega
 ·rw [List.getD_eq_getElem?_getD, List.getElem?_eq_none (by rw [List.length_map]; omega)]
  exact Nat.zero_le _⟩
theorem undMap_take {ls : List ByteArray} {q : Nat} (h : q < ls.length) : (ls.take (q + 1)).map undB = (ls.take q).map undB ++ [undB (ls.getD q ByteArray.empty)] := by
 have : ls.take (q + 1) = ls.take q ++ [ls.getD q ByteArray.empty] := by
  rw [List.take_succ_eq_append_getElem h]; simp [List.getD_eq_getElem?_getD, h]
 rw [this, List.map_append]; rfl
section
variable {ls : List ByteArray} {en : Bool} {q : Nat}
theorem lsBad_at : lnBad (okAt okS1 ls) ls en q = (!okSu (ls.getD q ByteArray.empty) || (!en && decide (q + 1 = ls.length))) := rfl
theorem lsb1 (h : okSu (ls.getD q ByteArray.empty) = false) : lnBad (okAt okS1 ls) ls en q = true := by rw [lsBad_at, h]; rfl
theorem lsb2 (h : en = false) (h2 : q + 1 = ls.length) : lnBad (okAt okS1 ls) ls en q = true := by rw [lsBad_at, h, decide_eq_true h2]; simp
theorem lsb3 (h : okSu (ls.getD q ByteArray.empty) = true) (h2 : en = true) : lnBad (okAt okS1 ls) ls en q = false := by rw [lsBad_at, h, h2]; rfl
theorem lsb4 (h : okSu (ls.getD q ByteArray.empty) = true) (h2 : ¬ q + 1 = ls.length) : lnBad (okAt okS1 ls) ls en q = false := by rw [lsBad_at, h, decide_eq_false h2]; simp
end
set_option maxRecDepth 100000 in
set_option maxHeartbeats 8000000 in
theorem setup_ReadS {text : ByteArray} (ht : text.size ≤ 900000) :
  SpecN Tryz.prog 22 [avS text] (fun y => y = .tup [avStrs (suRead text).1, avI (suRead text).2.1, avI (suRead text).2.2]) := by
 refine SpecN.of_VCN Tryz.func22 rfl Tryz.ntmps22 (Nle rfl) fun w A hB => ?_
 have hnew : True := trivial
 refine VC.sr ?_
 refine VO.ma rfl rfl rfl rfl ?_
 refine VO.ma rfl rfl rfl rfl ?_
 refine VO.ma rfl rfl rfl rfl ?_
 refine VO.nil ?_
 refine VC.seq ?_
 refine VC.sr ?_
 refine VO.mv rfl rfl rfl rfl ?_
 refine VO.val rfl rfl (OpV.len_s rfl Tryz.underlying9 rfl) ?_
 refine VO.val rfl rfl (OpV.gtr rfl rfl rfl) ?_
 refine VO.nil ?_
 refine VC.cond rfl (fun h0b => ?_) (fun h0b => ?_)
 ·have h0 := h0b
  try simp only [qqT, qqF, qqN, qqM, qqL, qqE] at h0
  refine VC.sr ?_
  refine VO.ma rfl rfl rfl rfl ?_
  refine VO.ma rfl rfl rfl rfl ?_
  refine VO.ma rfl rfl rfl rfl ?_
  refine VO.nil ?_
  refine VC.ret ?_
  exact Exists.intro _ (And.intro (RetN.three Tryz.results22 (ResN.nilS rfl) (ResN.v rfl) (ResN.v rfl)) (by rw [suRead_2 (by omega)]))
 ·have h0 := h0b
  try simp only [qqT, qqF, qqN, qqM, qqL, qqE] at h0
  refine VC.skip ?_
  refine VC.sr ?_
  refine VO.mv rfl rfl rfl rfl ?_
  refine VO.op rfl (OpE.call rfl hB rfl Tryz.call77 rfl (kit_Lines (by omega)) ?_)
  rintro _ rfl
  have hll := linesR_length text
  have hlg := linesR_get text
  obtain ⟨ls, hls⟩ : ∃ ls, linesR text = ls := ⟨_, rfl⟩
  obtain ⟨en, hen⟩ : ∃ en, linesE text = en := ⟨_, rfl⟩
  rw [hls] at hll hlg
  have hsm := und_SmS (ls := ls) (n := text.size) (by omega) (by omega) hlg
  refine VO.le _ (Le.recast (t := 16) (y := .tup [avStrs ls, avB en]) rfl (fun w Z u h => by rw [← hls, ← hen]; exact h)) ?_
  refine VO.mv rfl rfl rfl rfl ?_
  refine VO.val rfl rfl (OpV.extract rfl rfl rfl) ?_
  refine VO.val rfl rfl (OpV.extract rfl rfl rfl) ?_
  refine VO.ma rfl rfl rfl rfl ?_
  refine VO.ma rfl rfl rfl rfl ?_
  refine VO.nil ?_
  refine VC.sr ?_
  refine VO.ma rfl rfl rfl rfl ?_
  refine VO.nil ?_
  refine VC.seq ?_
  refine VC.sr ?_
  refine VO.mv rfl rfl rfl rfl ?_
  refine VO.val rfl rfl (OpV.len_im rfl Tryz.underlying29 rfl) ?_
  refine VO.mv rfl rfl rfl rfl ?_
  refine VO.nil ?_
  refine VC.block ?_
  refine VC.le _ (Le.nilRow 1 9) ?_
  refine VC.loopK [(5, _), (6, _), (19, _), (20, _)] ⟨rfl, rfl, rfl, rfl, trivial⟩ ({zz : Value × Nat // zz.2 ≤ ls.length ∧ ∀ j, j < zz.2 → lnBad (okAt okS1 ls) ls en j = false}) (fun (iZ : {zz : Value × Nat // zz.2 ≤ ls.length ∧ ∀ j, j < zz.2 → lnBad (okAt okS1 ls) ls en j = false}) => match iZ with | ⟨⟨u, q⟩, hq, hn⟩ => [(7, .v u), (21, avI (q : Int))]) (fun (iZ : {zz : Value × Nat // zz.2 ≤ ls.length ∧ ∀ j, j < zz.2 → lnBad (okAt okS1 ls) ls en j = false}) => match iZ with | ⟨⟨u, q⟩, hq, hn⟩ => [.row u q 1 (strsL ((ls.take q).map undB)) 9]) (fun (iZ : {zz : Value × Nat // zz.2 ≤ ls.length ∧ ∀ j, j < zz.2 → lnBad (okAt okS1 ls) ls en j = false}) => match iZ with | ⟨⟨u, q⟩, hq, hn⟩ => 0) (fun (iZ : {zz : Value × Nat // zz.2 ≤ ls.length ∧ ∀ j, j < zz.2 → lnBad (okAt okS1 ls) ls en j = false}) => match iZ with | ⟨⟨u, q⟩, hq, hn⟩ => ls.length - q) ⟨(.slice none 0 0, 0), Nat.zero_le _, fun j hj => absurd hj (Nat.not_lt_zero j)⟩ (Le.mk hB [0] ⟨rfl, rfl, rfl, rfl, rfl, rfl, trivial⟩ rfl rfl (Nat.le_refl _)) ?_
  rintro ⟨⟨u, q⟩, hq, hn⟩
  show VC _ _ _ _ ⟨[(7, .v u), (21, avI (q : Int))] ++ [(5, _), (6, _), (19, _), (20, _)], [.row u q 1 (strsL ((ls.take q).map undB)) 9], 0⟩
  simp only at hq
  refine VC.sr ?_
  refine VO.val rfl rfl (OpV.lss rfl rfl rfl) ?_
  refine VO.nil ?_
  refine VC.seq ?_
  refine VC.cond rfl (fun aH1b => ?_) (fun aH1b => ?_)
  ·have aH1 := aH1b
   try simp only [qqT, qqF, qqN, qqM, qqL, qqE] at aH1
   refine VC.skip ?_
   refine VC.seq ?_
   refine VC.block ?_
   refine VC.sr ?_
   refine VO.mv rfl rfl rfl rfl ?_
   refine VO.val rfl rfl (OpV.indexAddr_1 rfl Tryz.underlying29 Tryz.sizeOf9 rfl rfl rfl (by omega)) ?_
   refine VO.val rfl rfl (OpV.load_at rfl hB OutW.no Tryz.isAgg9 rfl rfl) ?_
   refine VO.ma rfl rfl rfl rfl ?_
   refine VO.ma rfl rfl rfl rfl ?_
   refine VO.nil ?_
   refine VC.seq ?_
   refine VC.sr ?_
   refine VO.mv rfl rfl rfl rfl ?_
   refine VO.val rfl rfl (OpV.seql rfl rfl rfl) ?_
   refine VO.mv rfl rfl rfl rfl ?_
   refine VO.opG rfl rfl rfl rfl (fun aK2b => ?_) (fun aK2b => ?_)
   ·replace aK2b : _ = false := aK2b
    have aK2 := aK2b
    try simp only [qqT, qqF, qqN, qqM, qqL, qqE] at aK2
    refine OpE.val (W := NoB) (OpV.move (.inl rfl) rfl) rfl ?_
    refine VO.opY rfl rfl rfl rfl aK2b ?_
    refine OpE.call rfl hB rfl Tryz.call78 rfl (SpecN.spec (strings_Contains_S)) ?_
    rintro _ rfl
    refine VO.val rfl rfl (OpV.pickF rfl rfl rfl rfl aK2b) ?_
    refine VO.mv rfl rfl rfl rfl ?_
    refine VO.opG rfl rfl rfl rfl (fun aK3b => ?_) (fun aK3b => ?_)
    ·replace aK3b : _ = false := aK3b
     have aK3 := aK3b
     try simp only [qqT, qqF, qqN, qqM, qqL, qqE] at aK3
     refine OpE.val (W := NoB) (OpV.move (.inl rfl) rfl) rfl ?_
     refine VO.opY rfl rfl rfl rfl aK3b ?_
     refine OpE.val (W := NoB) (OpV.not rfl rfl) rfl ?_
     refine VO.opY rfl rfl rfl rfl aK3b ?_
     refine OpE.val (W := NoB) (OpV.move (.inl rfl) rfl) rfl ?_
     refine VO.opG rfl rfl rfl rfl (fun aK4b => ?_) (fun aK4b => ?_)
     ·replace aK4b : _ = true := aK4b
      have aK4 := aK4b
      try simp only [qqT, qqF, qqN, qqM, qqL, qqE] at aK4
      refine OpE.val (W := NoB) (OpV.move (.inl rfl) rfl) rfl ?_
      refine VO.opY rfl rfl rfl rfl aK4b ?_
      refine OpE.val (W := NoB) (OpV.move (.inl rfl) rfl) rfl ?_
      refine VO.opY rfl rfl rfl rfl aK4b ?_
      refine OpE.val (W := NoB) (OpV.len_im rfl Tryz.underlying29 rfl) rfl ?_
      refine VO.opY rfl rfl rfl rfl aK4b ?_
      refine OpE.val (W := NoB) (OpV.sub rfl rfl rfl (by unfold fits; omega)) rfl ?_
      refine VO.opY rfl rfl rfl rfl aK4b ?_
      refine OpE.val (W := NoB) (OpV.eql rfl rfl rfl) rfl ?_
      refine VO.opY rfl rfl rfl rfl aK3b ?_
      refine OpE.val (W := NoB) (OpV.pickT rfl rfl rfl rfl aK4b) rfl ?_
      refine VO.val rfl rfl (OpV.pickF rfl rfl rfl rfl aK3b) ?_
      refine VO.nil ?_
      refine VC.cond rfl (fun h2b => ?_) (fun h2b => ?_)
      ·have h2 := h2b
       try simp only [qqT, qqF, qqN, qqM, qqL, qqE] at h2
       have hsome : suBad text = some q := by show lnF _ _ _ = _; rw [hls, hen]; exact lnF_some (by omega) (lsb2 (not_true_false (by assumption)) (by omega)) hn
       refine VC.sr ?_
       refine VO.mv rfl rfl rfl rfl ?_
       refine VO.ma rfl rfl rfl rfl ?_
       refine VO.ma rfl rfl rfl rfl ?_
       refine VO.ma rfl rfl rfl rfl ?_
       refine VO.nil ?_
       refine VC.ret ?_
       exact Exists.intro _ (And.intro (RetN.three Tryz.results22 (ResN.nilS rfl) (ResN.v rfl) (ResN.v rfl)) (by rw [suRead_9 (by omega) hsome]))
      ·have h2 := h2b
       try simp only [qqT, qqF, qqN, qqM, qqL, qqE] at h2
       have hnb : lnBad (okAt okS1 ls) ls en q = false := lsb4 (su_yes (by assumption) (by assumption)) (by omega)
       refine VC.skip ?_
       refine VC.region ?_
       refine VO.mv rfl rfl rfl rfl ?_
       refine VO.mv rfl rfl rfl rfl ?_
       refine VO.op rfl (OpE.call rfl hB rfl Tryz.call79 rfl (SpecN.spec (kit_Undash)) ?_)
       rintro _ rfl
       refine VO.op rfl (OpE.buildSlice (zc := #[.string ⟨#[]⟩]) rfl hB rfl Tryz.underlying29 Tryz.sizeOf9 Tryz.zeroValue9 (by decide) (by decide) (by kernel_rfl) rfl rfl ?_)
       refine VO.op rfl (OpE.append1 (i := 0) rfl hB rfl Tryz.underlying29 (infoOf Tryz.t9 1 (by kernel_rfl) rfl rfl) rfl (by decide) (by decide) rfl rfl rfl rfl (strsL_snoc _ _) (by omega) (fun _ _ => trivial) ?_)
       intro u48
       refine VO.ma rfl rfl rfl rfl ?_
       refine VO.nil ?_
       refine VC.region ?_
       refine VO.val rfl rfl (OpV.add rfl rfl rfl (by unfold fits; omega)) ?_
       refine VO.mv rfl rfl rfl rfl ?_
       refine VO.nil ?_
       exact Exists.intro (⟨(u48, q + 1), by show _ ≤ _; omega, lt_succ_cases hn (by assumption)⟩) (And.intro (Le.mk hB [0] ⟨rfl, rfl, rfl, rfl, rfl, rfl, trivial⟩ rfl (by dsimp only; rw [undMap_take (by omega)]; rfl) (Nat.le_refl _)) (by first | omega | (show _ < _; omega) | (simp only []; omega)))
     ·replace aK4b : _ = false := aK4b
      have aK4 := aK4b
      try simp only [qqT, qqF, qqN, qqM, qqL, qqE] at aK4
      refine VO.opX rfl rfl rfl rfl aK4b ?_
      refine VO.opX rfl rfl rfl rfl aK4b ?_
      refine VO.opX rfl rfl rfl rfl aK4b ?_
      refine VO.opX rfl rfl rfl rfl aK4b ?_
      refine VO.opY rfl rfl rfl rfl aK3b ?_
      refine OpE.val (W := NoB) (OpV.pickF rfl rfl rfl rfl aK4b) rfl ?_
      refine VO.val rfl rfl (OpV.pickF rfl rfl rfl rfl aK3b) ?_
      refine VO.nil ?_
      refine VC.condF rfl rfl ?_
      have hnb : lnBad (okAt okS1 ls) ls en q = false := lsb3 (su_yes (by assumption) (by assumption)) (not_false_true (by assumption))
      refine VC.skip ?_
      refine VC.region ?_
      refine VO.mv rfl rfl rfl rfl ?_
      refine VO.mv rfl rfl rfl rfl ?_
      refine VO.op rfl (OpE.call rfl hB rfl Tryz.call79 rfl (SpecN.spec (kit_Undash)) ?_)
      rintro _ rfl
      refine VO.op rfl (OpE.buildSlice (zc := #[.string ⟨#[]⟩]) rfl hB rfl Tryz.underlying29 Tryz.sizeOf9 Tryz.zeroValue9 (by decide) (by decide) (by kernel_rfl) rfl rfl ?_)
      refine VO.op rfl (OpE.append1 (i := 0) rfl hB rfl Tryz.underlying29 (infoOf Tryz.t9 1 (by kernel_rfl) rfl rfl) rfl (by decide) (by decide) rfl rfl rfl rfl (strsL_snoc _ _) (by omega) (fun _ _ => trivial) ?_)
      intro u48
      refine VO.ma rfl rfl rfl rfl ?_
      refine VO.nil ?_
      refine VC.region ?_
      refine VO.val rfl rfl (OpV.add rfl rfl rfl (by unfold fits; omega)) ?_
      refine VO.mv rfl rfl rfl rfl ?_
      refine VO.nil ?_
      exact Exists.intro (⟨(u48, q + 1), by show _ ≤ _; omega, lt_succ_cases hn (by assumption)⟩) (And.intro (Le.mk hB [0] ⟨rfl, rfl, rfl, rfl, rfl, rfl, trivial⟩ rfl (by dsimp only; rw [undMap_take (by omega)]; rfl) (Nat.le_refl _)) (by first | omega | (show _ < _; omega) | (simp only []; omega)))
    ·replace aK3b : _ = true := aK3b
     have aK3 := aK3b
     try simp only [qqT, qqF, qqN, qqM, qqL, qqE] at aK3
     refine VO.opX rfl rfl rfl rfl aK3b ?_
     refine VO.opX rfl rfl rfl rfl aK3b ?_
     refine VO.opU rfl rfl rfl rfl ?_
     refine VO.opU rfl rfl rfl rfl ?_
     refine VO.opU rfl rfl rfl rfl ?_
     refine VO.opU rfl rfl rfl rfl ?_
     refine VO.opU rfl rfl rfl rfl ?_
     refine VO.opX rfl rfl rfl rfl aK3b ?_
     refine VO.val rfl rfl (OpV.pickT rfl rfl rfl rfl aK3b) ?_
     refine VO.nil ?_
     refine VC.condT rfl rfl ?_
     have hsome : suBad text = some q := by show lnF _ _ _ = _; rw [hls, hen]; exact lnF_some (by omega) (lsb1 (by first | exact su_no1 (by assumption) | exact su_no2 (by assumption))) hn
     refine VC.sr ?_
     refine VO.mv rfl rfl rfl rfl ?_
     refine VO.ma rfl rfl rfl rfl ?_
     refine VO.ma rfl rfl rfl rfl ?_
     refine VO.ma rfl rfl rfl rfl ?_
     refine VO.nil ?_
     refine VC.ret ?_
     exact Exists.intro _ (And.intro (RetN.three Tryz.results22 (ResN.nilS rfl) (ResN.v rfl) (ResN.v rfl)) (by rw [suRead_9 (by omega) hsome]))
   ·replace aK2b : _ = true := aK2b
    have aK2 := aK2b
    try simp only [qqT, qqF, qqN, qqM, qqL, qqE] at aK2
    refine VO.opX rfl rfl rfl rfl aK2b ?_
    refine VO.val rfl rfl (OpV.pickT rfl rfl rfl rfl aK2b) ?_
    refine VO.mv rfl rfl rfl rfl ?_
    refine VO.opX rfl rfl rfl rfl rfl ?_
    refine VO.opX rfl rfl rfl rfl rfl ?_
    refine VO.opX rfl rfl rfl rfl rfl ?_
    refine VO.opU rfl rfl rfl rfl ?_
    refine VO.opU rfl rfl rfl rfl ?_
    refine VO.opU rfl rfl rfl rfl ?_
    refine VO.opU rfl rfl rfl rfl ?_
    refine VO.opU rfl rfl rfl rfl ?_
    refine VO.opX rfl rfl rfl rfl rfl ?_
    refine VO.val rfl rfl (OpV.pickT rfl rfl rfl rfl rfl) ?_
    refine VO.nil ?_
    refine VC.condT rfl rfl ?_
    have hsome : suBad text = some q := by show lnF _ _ _ = _; rw [hls, hen]; exact lnF_some (by omega) (lsb1 (by first | exact su_no1 (by assumption) | exact su_no2 (by assumption))) hn
    refine VC.sr ?_
    refine VO.mv rfl rfl rfl rfl ?_
    refine VO.ma rfl rfl rfl rfl ?_
    refine VO.ma rfl rfl rfl rfl ?_
    refine VO.ma rfl rfl rfl rfl ?_
    refine VO.nil ?_
    refine VC.ret ?_
    exact Exists.intro _ (And.intro (RetN.three Tryz.results22 (ResN.nilS rfl) (ResN.v rfl) (ResN.v rfl)) (by rw [suRead_9 (by omega) hsome]))
  ·have aH1 := aH1b
   try simp only [qqT, qqF, qqN, qqM, qqL, qqE] at aH1
   obtain rfl : q = ls.length := by omega
   have hnone : suBad text = none := by show lnF _ _ _ = _; rw [hls, hen]; exact lnF_none hn
   rw [List.take_length]
   refine VC.exit ?_
   refine VC.seq ?_
   refine VC.sr ?_
   refine VO.mv rfl rfl rfl rfl ?_
   refine VO.op rfl (OpE.callL rfl hB rfl Tryz.call64 (setup_CheckSetup hsm) (ArgsP.cons (ArgP.rowS (i := 0) (xs := ls.map undB) rfl rfl (by rw [List.length_map])) (ArgsP.nil)) ?_)
   rintro _ rfl
   refine VO.ma rfl rfl rfl rfl ?_
   refine VO.nil ?_
   refine VC.sr ?_
   refine VO.mv rfl rfl rfl rfl ?_
   refine VO.val rfl rfl (OpV.neq rfl rfl rfl) ?_
   refine VO.nil ?_
   refine VC.cond rfl (fun h3b => ?_) (fun h3b => ?_)
   ·have h3 := h3b
    try simp only [qqT, qqF, qqN, qqM, qqL, qqE] at h3
    refine VC.sr ?_
    refine VO.mv rfl rfl rfl rfl ?_
    refine VO.ma rfl rfl rfl rfl ?_
    refine VO.ma rfl rfl rfl rfl ?_
    refine VO.ma rfl rfl rfl rfl ?_
    refine VO.nil ?_
    refine VC.ret ?_
    exact Exists.intro _ (And.intro (RetN.three Tryz.results22 (ResN.nilS rfl) (ResN.v rfl) (ResN.v rfl)) (by rw [suRead_e (by omega) hnone (by rw [hls]; exact h3), hls]))
   ·have h3 := h3b
    try simp only [qqT, qqF, qqN, qqM, qqL, qqE] at h3
    refine VC.skip ?_
    refine VC.sr ?_
    refine VO.mv rfl rfl rfl rfl ?_
    refine VO.ma rfl rfl rfl rfl ?_
    refine VO.ma rfl rfl rfl rfl ?_
    refine VO.ma rfl rfl rfl rfl ?_
    refine VO.nil ?_
    refine VC.ret ?_
    exact Exists.intro _ (And.intro (RetN.three Tryz.results22 (ResN.rowS (i := 0) (xs := ls.map undB) rfl rfl (by rw [List.length_map])) (ResN.v rfl) (ResN.v rfl)) (by rw [suRead_0 (by omega) hnone (by rw [hls]; omega), hls]))
end Go.Proofs.YtbbgjeiefmiblaaGreatDoor
namespace Go.Proofs.YtbbgjeiefmiblaaGreatDoor
open Go.RowKit
set_option linter.unusedVariables false
set_option linter.unusedSimpArgs false
abbrev bxSu (g : Nat) (u : Value) : Ent := .box g ⟨[.v u], 29, 1⟩
abbrev rwSu (u : Value) (xs : List ByteArray) : Ent := .row u xs.length 1 (strsL xs) 9
theorem lenSu (xs : List ByteArray) (y : ByteArray) : xs.length + 1 = (xs ++ [y]).length := by simp
theorem rwSu_eq {g n : Nat} {u : Value} {xs : List ByteArray} (h : n = xs.length) : [bxSu g u, .row u n 1 (strsL xs) 9] = [bxSu g u, rwSu u xs] := by subst h; rfl
set_option maxRecDepth 100000 in
set_option maxHeartbeats 4000000 in
theorem rf_SetupRead1 {s : ByteArray} {g : Nat} {u : Value} {xs : List ByteArray} (hs : s.size ≤ 10000000) (hl : xs.length ≤ 10000000) :
  SpecH Tryz.prog 81 [avS s, pt g] [bxSu g u, rwSu u xs] (fun y hp' => ∃ u', y = avB (okSu s) ∧ hp' = [bxSu g u', rwSu u' (xs ++ [undB s])]) := by
 refine SpecH.of_VC Tryz.func81 rfl Tryz.ntmps81 (Nle rfl) fun w A hB => ?_
 have hnew : True := trivial
 refine VC.sr ?_
 refine VO.ma rfl rfl rfl rfl ?_
 refine VO.nil ?_
 refine VC.seq ?_
 refine VC.sr ?_
 refine VO.mv rfl rfl rfl rfl ?_
 refine VO.val rfl rfl (OpV.seql rfl rfl rfl) ?_
 refine VO.nil ?_
 refine VC.cond rfl (fun h0b => ?_) (fun h0b => ?_)
 ·have h0 := h0b
  try simp only [qqT, qqF, qqN, qqM, qqL, qqE] at h0
  have hd : undB s = ⟨#[]⟩ := by rw [undB, if_pos h0]
  refine VC.region ?_
  refine VO.val rfl rfl (OpV.load_own (i := 0) rfl hB Tryz.isAgg29 rfl rfl rfl (fun h => h)) ?_
  refine VO.op rfl (OpE.buildSlice (zc := #[.string ⟨#[]⟩]) rfl hB rfl Tryz.underlying29 Tryz.sizeOf9 Tryz.zeroValue9 (by decide) (by decide) (by kernel_rfl) rfl rfl ?_)
  refine VO.op rfl (OpE.append1S (i := 1) rfl hB rfl Tryz.underlying29 (infoOf Tryz.t9 1 (by kernel_rfl) rfl rfl) rfl (by decide) (by decide) rfl rfl rfl rfl (strsL_snoc xs ⟨#[]⟩) (by omega) (fun _ _ => trivial) ?_)
  intro b8 c8
  refine VO.op rfl (OpE.store (i := 0) rfl hB rfl Tryz.sizeOf29 rfl rfl rfl rfl rfl rfl (Nle rfl) trivial ?_)
  refine VO.nil ?_
  refine VC.sr ?_
  refine VO.mv rfl rfl rfl rfl ?_
  refine VO.val rfl rfl (OpV.sneq rfl rfl rfl) ?_
  refine VO.mv rfl rfl rfl rfl ?_
  refine VO.opG rfl rfl rfl rfl (fun aK1b => ?_) (fun aK1b => ?_)
  ·replace aK1b : _ = true := aK1b
   have aK1 := aK1b
   try simp only [qqT, qqF, qqN, qqM, qqL, qqE] at aK1
   refine OpE.val (W := NoB) (OpV.move (.inl rfl) rfl) rfl ?_
   refine VO.opY rfl rfl rfl rfl aK1b ?_
   refine OpE.call rfl hB rfl Tryz.call78 rfl (SpecN.spec (strings_Contains_S)) ?_
   rintro _ rfl
   refine VO.opY rfl rfl rfl rfl aK1b ?_
   refine OpE.val (W := NoB) (OpV.not rfl rfl) rfl ?_
   refine VO.val rfl rfl (OpV.pickT rfl rfl rfl rfl aK1b) ?_
   refine VO.ma rfl rfl rfl rfl ?_
   refine VO.nil ?_
   refine VC.ret ?_
   exact Exists.intro _ (And.intro (RetV.one Tryz.results81 (ResV.tmp rfl)) (⟨_, by first | exact congrArg avB (su_no1 (by assumption)).symm | exact congrArg avB (by unfold okSu; simp_all), by rw [hd]; exact rwSu_eq (n := xs.length + 1) (lenSu _ _)⟩))
  ·replace aK1b : _ = false := aK1b
   have aK1 := aK1b
   try simp only [qqT, qqF, qqN, qqM, qqL, qqE] at aK1
   refine VO.opX rfl rfl rfl rfl aK1b ?_
   refine VO.opX rfl rfl rfl rfl aK1b ?_
   refine VO.val rfl rfl (OpV.pickF rfl rfl rfl rfl aK1b) ?_
   refine VO.ma rfl rfl rfl rfl ?_
   refine VO.nil ?_
   refine VC.ret ?_
   exact Exists.intro _ (And.intro (RetV.one Tryz.results81 (ResV.tmp rfl)) (⟨_, by first | exact congrArg avB (su_no1 (by assumption)).symm | exact congrArg avB (by unfold okSu; simp_all), by rw [hd]; exact rwSu_eq (n := xs.length + 1) (lenSu _ _)⟩))
 ·have h0 := h0b
  try simp only [qqT, qqF, qqN, qqM, qqL, qqE] at h0
  have hd : undB s = s := by rw [undB, if_neg (by simp_all)]
  refine VC.region ?_
  refine VO.val rfl rfl (OpV.load_own (i := 0) rfl hB Tryz.isAgg29 rfl rfl rfl (fun h => h)) ?_
  refine VO.mv rfl rfl rfl rfl ?_
  refine VO.op rfl (OpE.buildSlice (zc := #[.string ⟨#[]⟩]) rfl hB rfl Tryz.underlying29 Tryz.sizeOf9 Tryz.zeroValue9 (by decide) (by decide) (by kernel_rfl) rfl rfl ?_)
  refine VO.op rfl (OpE.append1S (i := 1) rfl hB rfl Tryz.underlying29 (infoOf Tryz.t9 1 (by kernel_rfl) rfl rfl) rfl (by decide) (by decide) rfl rfl rfl rfl (strsL_snoc xs s) (by omega) (fun _ _ => trivial) ?_)
  intro b12 c12
  refine VO.op rfl (OpE.store (i := 0) rfl hB rfl Tryz.sizeOf29 rfl rfl rfl rfl rfl rfl (Nle rfl) trivial ?_)
  refine VO.nil ?_
  refine VC.sr ?_
  refine VO.mv rfl rfl rfl rfl ?_
  refine VO.val rfl rfl (OpV.sneq rfl rfl rfl) ?_
  refine VO.mv rfl rfl rfl rfl ?_
  refine VO.opG rfl rfl rfl rfl (fun aK2b => ?_) (fun aK2b => ?_)
  ·replace aK2b : _ = true := aK2b
   have aK2 := aK2b
   try simp only [qqT, qqF, qqN, qqM, qqL, qqE] at aK2
   refine OpE.val (W := NoB) (OpV.move (.inl rfl) rfl) rfl ?_
   refine VO.opY rfl rfl rfl rfl aK2b ?_
   refine OpE.call rfl hB rfl Tryz.call78 rfl (SpecN.spec (strings_Contains_S)) ?_
   rintro _ rfl
   refine VO.opY rfl rfl rfl rfl aK2b ?_
   refine OpE.val (W := NoB) (OpV.not rfl rfl) rfl ?_
   refine VO.val rfl rfl (OpV.pickT rfl rfl rfl rfl aK2b) ?_
   refine VO.ma rfl rfl rfl rfl ?_
   refine VO.nil ?_
   refine VC.ret ?_
   exact Exists.intro _ (And.intro (RetV.one Tryz.results81 (ResV.tmp rfl)) (⟨_, by first | exact congrArg avB (su_no1 (by assumption)).symm | exact congrArg avB (by unfold okSu; simp_all), by rw [hd]; exact rwSu_eq (n := xs.length + 1) (lenSu _ _)⟩))
  ·replace aK2b : _ = false := aK2b
   have aK2 := aK2b
   try simp only [qqT, qqF, qqN, qqM, qqL, qqE] at aK2
   refine VO.opX rfl rfl rfl rfl aK2b ?_
   refine VO.opX rfl rfl rfl rfl aK2b ?_
   refine VO.val rfl rfl (OpV.pickF rfl rfl rfl rfl aK2b) ?_
   refine VO.ma rfl rfl rfl rfl ?_
   refine VO.nil ?_
   refine VC.ret ?_
   exact Exists.intro _ (And.intro (RetV.one Tryz.results81 (ResV.tmp rfl)) (⟨_, by first | exact congrArg avB (su_no1 (by assumption)).symm | exact congrArg avB (by unfold okSu; simp_all), by rw [hd]; exact rwSu_eq (n := xs.length + 1) (lenSu _ _)⟩))
def KSu (g : Nat) (pre : List ByteArray) (h : List Ent) : Prop := ∃ u, h = [bxSu g u, rwSu u (pre.map undB)]
theorem KSu.nil (g : Nat) : KSu g [] [bxSu g (.slice none 0 0), .row (.slice none 0 0) 0 1 [] 9] := ⟨_, rfl⟩
theorem su_takes {g n : Nat} (hn : n ≤ 1000000) : TakesX TXt (KSu g) okS1 n Tryz.prog 81 #[ptv g] := fun pre line h ⟨u, e⟩ hl hp => by
 subst e
 refine SpecH.toX ((rf_SetupRead1 (s := line) (g := g) (u := u) (xs := pre.map undB) (by omega) (by rw [List.length_map]; omega)).mono fun y hp' ⟨u', k1, k2⟩ => ⟨k1, u', ?_⟩)
 rw [k2, List.map_append]; rfl
def lnIs (f : Option Nat) : Int := match f with
 | none => 0
 | some i => (i : Int)
theorem lnYs_eq (f : Option Nat) : lnY f = .tup [avI (lnIs f), avB f.isNone] := by cases f <;> rfl
set_option maxRecDepth 100000 in
set_option maxHeartbeats 8000000 in
theorem rf_SetupRead {text : ByteArray} (ht : text.size ≤ 900000) :
  SpecN Tryz.prog 23 [avS text] (fun y => y = .tup [avStrs (suRead text).1, avI (suRead text).2.1, avI (suRead text).2.2]) := by
 refine SpecN.of_VCN Tryz.func23 rfl Tryz.ntmps23 (Nle rfl) fun w A hB => ?_
 have hnew : True := trivial
 refine VC.sr ?_
 refine VO.ma rfl rfl rfl rfl ?_
 refine VO.ma rfl rfl rfl rfl ?_
 refine VO.ma rfl rfl rfl rfl ?_
 refine VO.nil ?_
 refine VC.seq ?_
 refine VC.sr ?_
 refine VO.mv rfl rfl rfl rfl ?_
 refine VO.val rfl rfl (OpV.len_s rfl Tryz.underlying9 rfl) ?_
 refine VO.val rfl rfl (OpV.gtr rfl rfl rfl) ?_
 refine VO.nil ?_
 refine VC.cond rfl (fun h0b => ?_) (fun h0b => ?_)
 ·have h0 := h0b
  try simp only [qqT, qqF, qqN, qqM, qqL, qqE] at h0
  refine VC.sr ?_
  refine VO.ma rfl rfl rfl rfl ?_
  refine VO.ma rfl rfl rfl rfl ?_
  refine VO.ma rfl rfl rfl rfl ?_
  refine VO.nil ?_
  refine VC.ret ?_
  exact Exists.intro _ (And.intro (RetN.three Tryz.results23 (ResN.nilS rfl) (ResN.v rfl) (ResN.v rfl)) (by rw [suRead_2 (by omega)]))
 ·have h0 := h0b
  try simp only [qqT, qqF, qqN, qqM, qqL, qqE] at h0
  refine VC.skip ?_
  refine VC.sr ?_
  refine VO.op rfl (OpE.alloc rfl hB rfl Tryz.zeroValue29 rfl ?_)
  intro g
  refine VO.nil ?_
  refine VC.seq ?_
  have hll := linesR_length text
  have hlg := linesR_get text
  refine VC.le _ (Le.nilRow 1 9) ?_
  refine VC.region ?_
  refine VO.mv rfl rfl rfl rfl ?_
  refine VO.val rfl rfl (OpV.makeFunc1 rfl rfl) ?_
  refine VO.op rfl (OpE.callH0 rfl hB rfl Tryz.call80 rfl rfl (SpecHX.plain (rf_Lines (K := KSu g) (ok := okS1) TXt.stab (by omega) Tryz.call81 (su_takes (by omega)) (KSu.nil g))) (List.Perm.refl _) (fun _ _ => trivial) ?_)
  rintro _ _ ⟨pre, ⟨u, rfl⟩, rfl, hpre⟩
  obtain ⟨f, hf⟩ : ∃ f, suBad text = f := ⟨_, rfl⟩
  refine VO.le _ (Le.recast (t := 15) (y := .tup [avI (lnIs f), avB f.isNone]) rfl (fun w Z u h => by rw [← lnYs_eq, ← hf]; exact h)) ?_
  refine VO.mv rfl rfl rfl rfl ?_
  refine VO.val rfl rfl (OpV.extract rfl rfl rfl) ?_
  refine VO.val rfl rfl (OpV.extract rfl rfl rfl) ?_
  refine VO.ma rfl rfl rfl rfl ?_
  refine VO.ma rfl rfl rfl rfl ?_
  refine VO.nil ?_
  refine VC.seq ?_
  refine VC.sr ?_
  refine VO.mv rfl rfl rfl rfl ?_
  refine VO.val rfl rfl (OpV.not rfl rfl) ?_
  refine VO.nil ?_
  refine VC.cond rfl (fun h1b => ?_) (fun h1b => ?_)
  ·have h1 := h1b
   try simp only [qqT, qqF, qqN, qqM, qqL, qqE] at h1
   obtain ⟨i, rfl⟩ : ∃ i, f = some i := by cases f with | none => simp at h1b | some i => exact ⟨i, rfl⟩
   refine VC.sr ?_
   refine VO.mv rfl rfl rfl rfl ?_
   refine VO.ma rfl rfl rfl rfl ?_
   refine VO.ma rfl rfl rfl rfl ?_
   refine VO.ma rfl rfl rfl rfl ?_
   refine VO.nil ?_
   refine VC.ret ?_
   exact Exists.intro _ (And.intro (RetN.three Tryz.results23 (ResN.nilS rfl) (ResN.v rfl) (ResN.v rfl)) (by rw [suRead_9 (by omega) hf]; rfl))
  ·have h1 := h1b
   try simp only [qqT, qqF, qqN, qqM, qqL, qqE] at h1
   obtain rfl : f = none := by cases f with | none => rfl | some i => simp at h1b
   obtain rfl := hpre hf
   have hsm := und_SmS (ls := linesR text) (n := text.size) (by omega) (by omega) hlg
   refine VC.skip ?_
   refine VC.seq ?_
   refine VC.sr ?_
   refine VO.val rfl rfl (OpV.load_own (i := 0) rfl hB Tryz.isAgg29 rfl rfl rfl (fun h => h)) ?_
   refine VO.op rfl (OpE.callL rfl hB rfl Tryz.call18 (rf_SetupFault hsm) (ArgsP.cons (ArgP.rowS (i := 1) (xs := (linesR text).map undB) rfl rfl rfl) (ArgsP.nil)) ?_)
   rintro _ rfl
   refine VO.ma rfl rfl rfl rfl ?_
   refine VO.nil ?_
   refine VC.sr ?_
   refine VO.mv rfl rfl rfl rfl ?_
   refine VO.val rfl rfl (OpV.neq rfl rfl rfl) ?_
   refine VO.nil ?_
   refine VC.cond rfl (fun h2b => ?_) (fun h2b => ?_)
   ·have h2 := h2b
    try simp only [qqT, qqF, qqN, qqM, qqL, qqE] at h2
    refine VC.sr ?_
    refine VO.mv rfl rfl rfl rfl ?_
    refine VO.ma rfl rfl rfl rfl ?_
    refine VO.ma rfl rfl rfl rfl ?_
    refine VO.ma rfl rfl rfl rfl ?_
    refine VO.nil ?_
    refine VC.ret ?_
    exact Exists.intro _ (And.intro (RetN.three Tryz.results23 (ResN.nilS rfl) (ResN.v rfl) (ResN.v rfl)) (by rw [suRead_e (by omega) hf h2]))
   ·have h2 := h2b
    try simp only [qqT, qqF, qqN, qqM, qqL, qqE] at h2
    refine VC.skip ?_
    refine VC.sr ?_
    refine VO.val rfl rfl (OpV.load_own (i := 0) rfl hB Tryz.isAgg29 rfl rfl rfl (fun h => h)) ?_
    refine VO.ma rfl rfl rfl rfl ?_
    refine VO.ma rfl rfl rfl rfl ?_
    refine VO.ma rfl rfl rfl rfl ?_
    refine VO.nil ?_
    refine VC.ret ?_
    exact Exists.intro _ (And.intro (RetN.three Tryz.results23 (ResN.rowS (i := 1) (xs := (linesR text).map undB) rfl rfl rfl) (ResN.v rfl) (ResN.v rfl)) (by rw [suRead_0 (by omega) hf (by omega)]))
set_option maxRecDepth 100000 in
set_option maxHeartbeats 4000000 in
theorem setupText_T {p : Nat} {L : List Int}  :
  SpecT Tryz.prog (TT p L) (fun b => b = p) 10 [sp p] 50 (fun y => ∃ r : ByteArray, r.size ≤ 300000 ∧ y = avS r) := by
 refine SpecT.of_VC Tryz.func10 rfl Tryz.ntmps10 (Nle rfl) (low := (fun b => b ≤ p)) (fun w A k h => h.ok) fun w A k hk hB => ?_
 have hnew : True := trivial
 refine VC.sr ?_
 refine VO.ma rfl rfl rfl rfl ?_
 refine VO.nil ?_
 refine VC.sr ?_
 refine VO.mv rfl rfl rfl rfl ?_
 refine VO.mv rfl rfl rfl rfl ?_
 refine VO.op rfl (OpE.callT' (k) rfl rfl hB rfl Tryz.call7 rfl ((range_T (by omega) (by omega) (by omega))) (by omega) ?_)
 rintro _ ⟨r6, hr6, rfl⟩
 obtain ⟨n, rfl⟩ : ∃ n : Nat, r6 = n := ⟨r6.toNat, by omega⟩
 refine VO.op rfl (OpE.callT' (k + 1) rfl rfl hB rfl Tryz.call9 rfl (aSetup_T (by omega)) (by omega) ?_)
 rintro _ ⟨s, hs, rfl⟩
 have hsl := hs.1
 have hz := getD_sz hs.2
 have hts := txS_size hz s.length (Nat.le_refl _)
 rw [List.take_length] at hts
 obtain ⟨tx, htx⟩ : ∃ tx, txS s = tx := ⟨_, rfl⟩
 rw [htx] at hts
 refine VO.op rfl (OpE.call rfl hB rfl Tryz.call21 rfl (SpecN.spec (rf_SetupLines (by omega) hz)) ?_)
 rintro _ rfl
 rw [htx]
 refine VO.ma rfl rfl rfl rfl ?_
 refine VO.nil ?_
 refine VC.seq ?_
 refine VC.sr ?_
 refine VO.mv rfl rfl rfl rfl ?_
 refine VO.op rfl (OpE.buildSlice (zc := #[.int .i64 0, .int .i64 0, .int .i64 0, .int .i64 0]) rfl hB rfl Tryz.underlying22 Tryz.sizeOf3 Tryz.zeroValue3 (by decide) (by decide) (by kernel_rfl) rfl rfl ?_)
 refine VO.op rfl (OpE.callT' (k + 1 + 30) rfl rfl hB rfl Tryz.call11 rfl ((pick_T 0 2 (by rfl) (by decide) (by decide) (by repeat (first | exact AllI.nil | refine AllI.cons (by omega) ?_)))) (by omega) ?_)
 rintro _ ⟨r11, hr11, rfl⟩
 obtain ⟨c, rfl⟩ : ∃ c : Nat, r11 = c := ⟨r11.toNat, by omega⟩
 refine VO.mv rfl rfl rfl rfl ?_
 refine VO.nil ?_
 refine VC.block ?_
 refine VC.loopK [(0, _), (11, _)] ⟨rfl, rfl, trivial⟩ ({z : ByteArray × Nat // z.2 ≤ c ∧ z.1.size ≤ 200400 + 100 * z.2}) (fun (iZ : {z : ByteArray × Nat // z.2 ≤ c ∧ z.1.size ≤ 200400 + 100 * z.2}) => match iZ with | ⟨⟨t, q⟩, hq, htz⟩ => [(3, avS t), (12, avI (q : Int))]) (fun (iZ : {z : ByteArray × Nat // z.2 ≤ c ∧ z.1.size ≤ 200400 + 100 * z.2}) => match iZ with | ⟨⟨t, q⟩, hq, htz⟩ => []) (fun (iZ : {z : ByteArray × Nat // z.2 ≤ c ∧ z.1.size ≤ 200400 + 100 * z.2}) => match iZ with | ⟨⟨t, q⟩, hq, htz⟩ => k + 32 + 3 * q) (fun (iZ : {z : ByteArray × Nat // z.2 ≤ c ∧ z.1.size ≤ 200400 + 100 * z.2}) => match iZ with | ⟨⟨t, q⟩, hq, htz⟩ => c - q) ⟨(tx, 0), Nat.zero_le _, by show tx.size ≤ 200400 + 100 * 0; omega⟩ (Le.mk hB [] ⟨rfl, rfl, rfl, rfl, trivial⟩ rfl rfl (show k + 1 + 30 + 1 ≤ k + 32 + 3 * 0 by omega)) ?_
 rintro ⟨⟨t, q⟩, hq, htz⟩
 show VC _ _ _ _ ⟨[(3, avS t), (12, avI (q : Int))] ++ [(0, _), (11, _)], [], k + 32 + 3 * q⟩
 simp only at hq htz
 refine VC.sr ?_
 refine VO.val rfl rfl (OpV.lss rfl rfl rfl) ?_
 refine VO.nil ?_
 refine VC.seq ?_
 refine VC.cond rfl (fun aH1b => ?_) (fun aH1b => ?_)
 ·have aH1 := aH1b
  try simp only [qqT, qqF, qqN, qqM, qqL, qqE] at aH1
  refine VC.skip ?_
  refine VC.seq ?_
  refine VC.block ?_
  refine VC.region ?_
  refine VO.mv rfl rfl rfl rfl ?_
  refine VO.mv rfl rfl rfl rfl ?_
  refine VO.op rfl (OpE.callT' (k + 32 + 3 * q) rfl rfl hB rfl Tryz.call56 rfl (changed_T (by omega) (by decide)) (by omega) ?_)
  rintro _ ⟨r16, hr16, rfl⟩
  refine VO.ma rfl rfl rfl rfl ?_
  refine VO.nil ?_
  refine VC.region ?_
  refine VO.val rfl rfl (OpV.add rfl rfl rfl (by unfold fits; omega)) ?_
  refine VO.mv rfl rfl rfl rfl ?_
  refine VO.nil ?_
  exact Exists.intro (⟨(r16, q + 1), by show q + 1 ≤ c; omega, by show r16.size ≤ 200400 + 100 * (q + 1); omega⟩) (And.intro (Le.mk hB [] ⟨rfl, rfl, rfl, rfl, trivial⟩ rfl rfl (show k + 32 + 3 * q + 3 ≤ k + 32 + 3 * (q + 1) by omega)) (by first | omega | (show _ < _; omega) | (simp only []; omega)))
 ·have aH1 := aH1b
  try simp only [qqT, qqF, qqN, qqM, qqL, qqE] at aH1
  refine VC.exit ?_
  refine VC.sr ?_
  refine VO.mv rfl rfl rfl rfl ?_
  refine VO.ma rfl rfl rfl rfl ?_
  refine VO.nil ?_
  refine VC.ret ?_
  exact Exists.intro _ (And.intro (RetV.one Tryz.results10 (ResV.tmp rfl)) (And.intro (⟨t, by omega, rfl⟩) ((show k + 32 + 3 * q ≤ k + 50 by omega))))
end Go.Proofs.YtbbgjeiefmiblaaGreatDoor
namespace Go.Proofs.YtbbgjeiefmiblaaGreatDoor
open Go.RowKit
set_option linter.unusedVariables false
set_option linter.unusedSimpArgs false
set_option maxRecDepth 100000 in
theorem slices_Repeat_M {x : List ByteArray} {n : Nat} (hn : n ≤ 100000) :
  Spec Tryz.prog 13 [avM [x], avI (n : Int)] (fun y => y = avM (List.replicate n x)) := by
 refine Spec.of_VC Tryz.func13 rfl Tryz.ntmps13 (Nle rfl) fun w A hB => ?_
 have hnew : True := trivial
 refine VC.sr ?_
 refine VO.ma rfl rfl rfl rfl ?_
 refine VO.nil ?_
 refine VC.seq ?_
 refine VC.sr ?_
 refine VO.mv rfl rfl rfl rfl ?_
 refine VO.val rfl rfl (OpV.lss rfl rfl rfl) ?_
 refine VO.nil ?_
 refine VC.cond rfl (fun aH1b => ?_) (fun aH1b => ?_)
 ·have aH1 := aH1b
  try simp only [qqT, qqF, qqN, qqM, qqL, qqE] at aH1
  exact VC.absurd (by omega)
 ·have aH1 := aH1b
  try simp only [qqT, qqF, qqN, qqM, qqL, qqE] at aH1
  refine VC.skip ?_
  refine VC.sr ?_
  refine VO.mv rfl rfl rfl rfl ?_
  refine VO.val rfl rfl (OpV.len_im rfl Tryz.underlying27 rfl) ?_
  refine VO.val rfl rfl (OpV.conv rfl Tryz.underlying3 Tryz.underlying90 rfl (IntWalk.u64_in _ (by simp))) ?_
  refine VO.mv rfl rfl rfl rfl ?_
  refine VO.val rfl rfl (OpV.conv rfl Tryz.underlying3 Tryz.underlying90 rfl (IntWalk.u64_in _ (by omega))) ?_
  refine VO.op rfl (OpE.call rfl hB rfl Tryz.call57 rfl (SpecN.spec (bits_Mul_S (x := 1) (y := n) (by omega) (by omega) (by omega))) ?_)
  rintro _ rfl
  refine VO.mv rfl rfl rfl rfl ?_
  refine VO.val rfl rfl (OpV.extract rfl rfl rfl) ?_
  refine VO.val rfl rfl (OpV.extract rfl rfl rfl) ?_
  refine VO.ma rfl rfl rfl rfl ?_
  refine VO.ma rfl rfl rfl rfl ?_
  refine VO.nil ?_
  refine VC.seq ?_
  refine VC.sr ?_
  refine VO.mv rfl rfl rfl rfl ?_
  refine VO.val rfl rfl (OpV.gtr rfl rfl rfl) ?_
  refine VO.mv rfl rfl rfl rfl ?_
  refine VO.opY rfl rfl rfl rfl rfl ?_
  refine OpE.val (W := NoB) (OpV.move (.inl rfl) rfl) rfl ?_
  refine VO.opY rfl rfl rfl rfl rfl ?_
  refine OpE.val (W := NoB) (OpV.gtr rfl rfl rfl) rfl ?_
  refine VO.val rfl rfl (OpV.pickF rfl rfl rfl rfl rfl) ?_
  refine VO.nil ?_
  refine VC.cond rfl (fun aH2b => ?_) (fun aH2b => ?_)
  ·have aH2 := aH2b
   try simp only [qqT, qqF, qqN, qqM, qqL, qqE] at aH2
   exact VC.absurd (by omega)
  ·have aH2 := aH2b
   try simp only [qqT, qqF, qqN, qqM, qqL, qqE] at aH2
   refine VC.skip ?_
   refine VC.sr ?_
   refine VO.mv rfl rfl rfl rfl ?_
   refine VO.val rfl rfl (OpV.conv rfl Tryz.underlying90 Tryz.underlying3 rfl (IntWalk.i64_in _ (by omega))) ?_
   refine VO.op rfl (OpE.make rfl hB rfl Tryz.underlying27 (infoOf Tryz.t29 1 (by kernel_rfl) rfl rfl) (by decide) rfl rfl (n := n) (by omega) (by omega) (by omega) (repC_0 (n := n) rfl rfl) ?_)
   intro g30
   refine VO.ma rfl rfl rfl rfl ?_
   refine VO.nil ?_
   refine VC.sr ?_
   refine VO.mv rfl rfl rfl rfl ?_
   refine VO.mv rfl rfl rfl rfl ?_
   refine VO.op rfl (OpE.copy (i := 0) rfl hB rfl Tryz.underlying27 Tryz.sizeOf29 rfl rfl (SrcP.im rfl) (c := min 1 n) rfl (fun _ _ => rfl) (by rw [repC_len (by omega)]; omega) (repC_first rfl rfl) trivial ?_)
   refine VO.ma rfl rfl rfl rfl ?_
   refine VO.nil ?_
   refine VC.seq ?_
   refine VC.block ?_
   refine VC.loopK [(7, _)] ⟨rfl, trivial⟩ ({k : Nat // k ≤ n ∧ (k = 0 → n = 0)}) (fun (iZ : {k : Nat // k ≤ n ∧ (k = 0 → n = 0)}) => match iZ with | ⟨k, hk, hk0⟩ => [(8, avI (k : Int))]) (fun (iZ : {k : Nat // k ≤ n ∧ (k = 0 → n = 0)}) => match iZ with | ⟨k, hk, hk0⟩ => [.box g30 ⟨repC (avStrs x) (.v (.slice none 0 0)) k n, 29, (repC (.v (.slice none 0 0)) (.v (.slice none 0 0)) 0 n).length⟩]) (fun (iZ : {k : Nat // k ≤ n ∧ (k = 0 → n = 0)}) => match iZ with | ⟨k, hk, hk0⟩ => 0) (fun (iZ : {k : Nat // k ≤ n ∧ (k = 0 → n = 0)}) => match iZ with | ⟨k, hk, hk0⟩ => n - k) ⟨min 1 n, by omega, by omega⟩ (Le.mk hB [0] ⟨rfl, rfl, trivial⟩ rfl rfl (Nat.le_refl _)) ?_
   rintro ⟨k, hk, hk0⟩
   show VC _ _ _ _ ⟨[(8, avI (k : Int))] ++ [(7, _)], [.box g30 ⟨repC (avStrs x) (.v (.slice none 0 0)) k n, 29, (repC (.v (.slice none 0 0)) (.v (.slice none 0 0)) 0 n).length⟩], 0⟩
   refine VC.seq ?_
   refine VC.sr ?_
   refine VO.mv rfl rfl rfl rfl ?_
   refine VO.mv rfl rfl rfl rfl ?_
   refine VO.val rfl rfl (OpV.len_v rfl Tryz.underlying27 rfl) ?_
   refine VO.val rfl rfl (OpV.lss rfl rfl rfl) ?_
   refine VO.nil ?_
   refine VC.cond rfl (fun aH3b => ?_) (fun aH3b => ?_)
   ·have aH3 := aH3b
    try simp only [qqT, qqF, qqN, qqM, qqL, qqE] at aH3
    refine VC.skip ?_
    refine VC.block ?_
    refine VC.draw (fun j b => j = 7 ∧ b = g30) hB (by kernel_rfl) ?_
    refine VA.take (i := 0) rfl (by kernel_rfl) (by kernel_rfl) (by kernel_rfl) rfl rfl (OpV.move (.inl rfl) rfl) ?_
    refine VA.take (i := 1) rfl (by kernel_rfl) (by kernel_rfl) (by kernel_rfl) rfl rfl (OpV.move (.inl rfl) rfl) ?_
    refine VA.take (i := 2) rfl (by kernel_rfl) (by kernel_rfl) (by kernel_rfl) rfl rfl (OpV.move (.inl rfl) rfl) ?_
    refine VA.take (i := 3) rfl (by kernel_rfl) (by kernel_rfl) (by kernel_rfl) rfl rfl (OpV.slice_own (l := k) rfl Tryz.underlying27 Tryz.sizeOf29 rfl ⟨_, _, rfl, rfl⟩ rfl (by omega) (by omega) (by omega)) ?_
    refine VA.take (i := 4) rfl (by kernel_rfl) (by kernel_rfl) (by kernel_rfl) rfl rfl (OpV.move (.inl rfl) rfl) ?_
    refine VA.take (i := 5) rfl (by kernel_rfl) (by kernel_rfl) (by kernel_rfl) rfl rfl (OpV.move (.inl rfl) rfl) ?_
    refine VA.take (i := 6) rfl (by kernel_rfl) (by kernel_rfl) (by kernel_rfl) rfl rfl (OpV.slice_own (h := k) rfl Tryz.underlying27 Tryz.sizeOf29 rfl rfl ⟨_, _, rfl, rfl⟩ (by omega) (by omega) (by omega)) ?_
    refine VA.all (rs := [7]) (by kernel_rfl) (by decide) ?_
    refine ⟨⟨_, rfl, .inl rfl, ?_⟩, trivial⟩
    refine OpE.copy (i := 0) rfl hB rfl Tryz.underlying27 Tryz.sizeOf29 rfl rfl (SrcP.box (i := 0) rfl rfl (by show 0 + 0 * 1 + (k - 0) * 1 ≤ (repC _ _ k n).length; rw [repC_len (by omega)]; omega)) (c := min k (n - k)) (by omega) (fun j hj => by dsimp only; rw [List.getD_eq_getElem?_getD, repC_get (by omega) (by omega), if_pos (by omega)]; rfl) (by show 0 + k * 1 + _ ≤ (repC _ _ k n).length; rw [repC_len (by omega)]; omega) (repC_step (c := min k (n - k)) (by omega) (fun j hj => by dsimp only; rw [List.getD_eq_getElem?_getD, repC_get (by omega) (by omega), if_pos (by omega)]; rfl) (by omega) (by omega)) (by first | exact ⟨rfl, rfl⟩ | exact .inl ⟨rfl, rfl⟩ | exact .inr ⟨rfl, rfl⟩ | exact ⟨rfl, trivial⟩ | exact .inl ⟨rfl, trivial⟩ | exact .inr ⟨rfl, trivial⟩ | exact ⟨by decide, rfl⟩) ?_
    refine VA.take (i := 8) rfl (by kernel_rfl) (by kernel_rfl) (by kernel_rfl) rfl rfl (OpV.add rfl rfl rfl (by unfold fits; omega)) ?_
    refine VA.take (i := 9) rfl (by kernel_rfl) (by kernel_rfl) (by kernel_rfl) rfl rfl (OpV.move (.inr rfl) rfl) ?_
    refine VA.done (by kernel_rfl) ?_
    exact Exists.intro (⟨k + min k (n - k), by omega, by omega⟩) (And.intro (Le.mk hB [0] ⟨rfl, rfl, trivial⟩ rfl rfl (Nat.le_refl _)) (by first | omega | (show _ < _; omega) | (simp only []; omega)))
   ·have aH3 := aH3b
    try simp only [qqT, qqF, qqN, qqM, qqL, qqE] at aH3
    refine VC.exit ?_
    refine VC.sr ?_
    refine VO.mv rfl rfl rfl rfl ?_
    refine VO.ma rfl rfl rfl rfl ?_
    refine VO.nil ?_
    obtain rfl : k = n := by omega
    refine VC.le _ (Le.box (t := 4) (i := 0) (n := k) (sz := 1) (y := avM (List.replicate k x)) hB hnew rfl rfl (by show 0 + k * 1 ≤ (repC _ _ k k).length; rw [repC_len (by omega)]; omega) (Nat.le_refl _) (capM (by omega)) (fun w Z u h => Rep.listM (by simp) (h.im_congr fun j hj => by rw [repC_full, listM, List.map_replicate, Nat.zero_add]; rfl))) ?_
    refine VC.ret ?_
    exact Exists.intro _ (And.intro (RetV.one Tryz.results13 (ResV.tmp rfl)) (rfl))
end Go.Proofs.YtbbgjeiefmiblaaGreatDoor
