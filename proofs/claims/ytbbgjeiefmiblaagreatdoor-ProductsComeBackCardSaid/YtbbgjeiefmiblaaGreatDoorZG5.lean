/- Part 5 of a proof: the walks and laws that it needs. -/
import Derived.Test.YtbbgjeiefmiblaaGreatDoorZG4
namespace Go.Proofs.YtbbgjeiefmiblaaGreatDoor
set_option linter.unusedVariables false
set_option linter.unusedSimpArgs false
def lowK {α : Type} (key : α → ByteArray) (l : List α) (k : ByteArray) : Nat := (l.takeWhile fun x => sLt (key x) k).length
theorem lowK_le {α : Type} {key : α → ByteArray} {l : List α} {k : ByteArray} : lowK key l k ≤ l.length := by
 unfold lowK
 exact (List.takeWhile_sublist _).length_le
section
variable {α : Type} [Inhabited α] (key : α → ByteArray) (l : List α) (k : ByteArray)
def RiseK : Prop := ∀ j, 0 < j → j < l.length → sLe (key (l.getD j default)) (key (l.getD (j - 1) default)) = false
variable {key l k}
theorem takeWhile_at {p : α → Bool} : ∀ (l : List α) (j : Nat), j < (l.takeWhile p).length → p (l.getD j default) = true
 | [], j, h => by simp at h
 | x :: l, j, h => by
  rw [List.takeWhile_cons] at h
  split at h
  ·rename_i hx
   cases j with
   | zero => simpa using hx
   | succ j => simpa using takeWhile_at l j (by simpa using h)
  ·simp at h
theorem takeWhile_end {p : α → Bool} : ∀ (l : List α), (l.takeWhile p).length < l.length → p (l.getD (l.takeWhile p).length default) = false
 | [], h => by simp at h
 | x :: l, h => by
  rw [List.takeWhile_cons] at h ⊢
  split
  ·rename_i hx
   rw [if_pos hx] at h
   simpa using takeWhile_end l (by simpa using h)
  ·rename_i hx
   simpa using hx
theorem lowK_lt {j : Nat} (h : j < lowK key l k) : sLt (key (l.getD j default)) k = true := takeWhile_at (p := fun x => sLt (key x) k) l j h
theorem rise_step {a b : ByteArray} (h : sLe b a = false) : sLt a b = true := by
 unfold sLe at h
 rw [Bool.or_eq_false_iff] at h
 exact sLt_total h.1 fun e => by rw [e, sEq_eq.2 rfl] at h; cases h.2
theorem rise_lt (hr : RiseK key l) : ∀ (i j : Nat), i < j → j < l.length → sLt (key (l.getD i default)) (key (l.getD j default)) = true
 | i, 0, h, _ => by omega
 | i, j + 1, h, hl => by
  have h1 := rise_step (hr (j + 1) (by omega) hl)
  rw [Nat.add_sub_cancel] at h1
  by_cases e : i = j
  ·subst e; exact h1
  ·exact sLt_trans (rise_lt hr i j (by omega) (by omega)) h1
theorem lowK_ge (hr : RiseK key l) {j : Nat} (h : lowK key l k ≤ j) (hj : j < l.length) : sLt (key (l.getD j default)) k = false := by
 have h0 : sLt (key (l.getD (lowK key l k) default)) k = false := takeWhile_end (p := fun x => sLt (key x) k) l (Nat.lt_of_le_of_lt h hj)
 by_cases e : j = lowK key l k
 ·rw [e]; exact h0
 ·have h1 := rise_lt hr (lowK key l k) j (by omega) hj
  cases h2 : sLt (key (l.getD j default)) k with
  | false => rfl
  | true => rw [sLt_trans h1 h2] at h0; cases h0
theorem lowK_any (hr : RiseK key l) : (decide (lowK key l k < l.length) && sEq (key (l.getD (lowK key l k) default)) k) = l.any fun x => sEq (key x) k := by
 cases hb : l.any (fun x => sEq (key x) k) with
 | true =>
  obtain ⟨x, hx, he⟩ := List.any_eq_true.1 hb
  obtain ⟨j, hj, rfl⟩ := List.getElem_of_mem hx
  have hd : l.getD j default = l[j] := by rw [List.getD_eq_getElem?_getD, List.getElem?_eq_getElem hj]; rfl
  have he' : key (l.getD j default) = k := by rw [hd]; exact sEq_eq.1 he
  have h1 : lowK key l k ≤ j := by
   rcases Nat.lt_or_ge j (lowK key l k) with h | h
   ·have := lowK_lt h; rw [he', sLt_irr] at this; cases this
   ·exact h
  have h2 : lowK key l k = j := by
   by_cases e : lowK key l k = j
   ·exact e
   ·have := rise_lt hr (lowK key l k) j (by omega) hj
    rw [he'] at this
    have := lowK_ge hr (k := k) (Nat.le_refl _) (by omega)
    simp_all
  rw [h2, he', decide_eq_true hj, sEq_eq.2 rfl]; rfl
 | false =>
  cases hc : (decide (lowK key l k < l.length) && sEq (key (l.getD (lowK key l k) default)) k) with
  | false => rfl
  | true =>
   rw [Bool.and_eq_true, decide_eq_true_eq] at hc
   rw [List.any_eq_false] at hb
   have := hb _ (List.getElem_mem hc.1)
   have hc1 := hc.1
   have hd : l.getD (lowK key l k) default = l[lowK key l k]'hc1 := by rw [List.getD_eq_getElem?_getD, List.getElem?_eq_getElem hc1]; rfl
   have hc2 := hc.2
   rw [hd] at hc2
   exact absurd hc2 this
theorem find_first {p : α → Bool} : ∀ (l : List α) (j : Nat), j < l.length → p (l.getD j default) = true → (∀ i, i < j → p (l.getD i default) = false) → (l.find? p).getD default = l.getD j default
 | [], j, h, _, _ => by simp at h
 | x :: l, 0, _, h, _ => by simp at h; simp [h]
 | x :: l, j + 1, hj, h, hn => by
  have h0 := hn 0 (by omega)
  simp at h0
  simp only [List.find?_cons, h0]
  rw [find_first l j (by simpa using hj) (by simpa using h) (fun i hi => by simpa using hn (i + 1) (by omega))]
  simp
theorem lowK_find (hr : RiseK key l) (h1 : lowK key l k < l.length) (h2 : sEq (key (l.getD (lowK key l k) default)) k = true) : (l.find? fun x => sEq (key x) k).getD default = l.getD (lowK key l k) default :=
 find_first l _ h1 h2 fun i hi => by
  have := lowK_lt hi
  cases e : sEq (key (l.getD i default)) k with
  | false => rfl
  | true => rw [sEq_eq.1 e, sLt_irr] at this; cases this
theorem find_none' {p : α → Bool} {l : List α} (h : l.any p = false) : (l.find? p).getD default = default := by
 rw [List.find?_eq_none.2 fun x hx => by rw [List.any_eq_false] at h; exact h x hx]; rfl
theorem lowK_cmp (hr : RiseK key l) : (∀ j, j < lowK key l k → cmpB (key (l.getD j default)) k < 0) ∧ (∀ j, lowK key l k ≤ j → j < l.length → 0 ≤ cmpB (key (l.getD j default)) k) := by
 refine ⟨fun j hj => ?_, fun j hj hl => ?_⟩
 ·have := lowK_lt hj
  rw [← cmpB_lt, decide_eq_true_eq] at this; exact this
 ·have := lowK_ge hr hj hl
  rw [← cmpB_lt, decide_eq_false_iff_not] at this; omega
theorem cmp_zero (a b : ByteArray) : decide (cmpB a b = 0) = sEq a b := by
 rw [sEq_dec]
 by_cases h : a = b
 ·rw [decide_eq_true h, decide_eq_true (cmpB_eq.2 h)]
 ·rw [decide_eq_false h, decide_eq_false fun e => h (cmpB_eq.1 e)]
end
theorem bsf_lo {f : Nat → Int} {s0 n h : Nat} (hhi : ∀ j, s0 ≤ j → j < n → 0 ≤ f j) (hn : h < n) (hc : f h < 0) : h + 1 ≤ s0 := by
 rcases Nat.lt_or_ge h s0 with h1 | h1
 ·exact h1
 ·have := hhi h h1 hn; omega
theorem bsf_hi {f : Nat → Int} {s0 h : Nat} (hlo : ∀ j, j < s0 → f j < 0) (hc : 0 ≤ f h) : s0 ≤ h := by
 rcases Nat.lt_or_ge h s0 with h1 | h1
 ·have := hlo h h1; omega
 ·exact h1
end Go.Proofs.YtbbgjeiefmiblaaGreatDoor
namespace Go.Proofs.YtbbgjeiefmiblaaGreatDoor
open Go.RowKit
set_option linter.unusedVariables false
set_option linter.unusedSimpArgs false
def decB (i : Nat) : ByteArray := ⟨(Lib.decDigits i).toArray⟩
section
variable {l : List LookS} {q : Nat} (hq : q < l.length)
include hq
end
end Go.Proofs.YtbbgjeiefmiblaaGreatDoor
namespace Go.Proofs.YtbbgjeiefmiblaaGreatDoor
open Go.RowKit
set_option linter.unusedVariables false
set_option linter.unusedSimpArgs false
def vWords : List ByteArray := [⟨#[]⟩, ⟨#[103, 111, 111, 100]⟩, ⟨#[109, 105, 115, 115, 105, 110, 103]⟩, ⟨#[115, 104, 105, 102, 116, 101, 100]⟩, ⟨#[116, 117, 114, 110, 101, 100]⟩, ⟨#[115, 111, 108, 100, 101, 114, 101, 100]⟩]
def fineW : ByteArray := ⟨#[102, 105, 110, 101]⟩
def badW : ByteArray := ⟨#[98, 97, 100]⟩
def wordL (x : LookS) : ByteArray := if x.bad = true then badW else fineW
def vWd (x : LookS) : ByteArray := vWords.getD x.verdict.toNat ByteArray.empty
def lineWs (x : LookS) : List ByteArray := [decB x.at_.toNat, x.board, x.name, vWd x, wordL x, x.machine, x.nozzle, x.reel]
def lineT (x : LookS) : ByteArray := bytesOf (joinL (lineWs x) ⟨#[32]⟩ ++ [10])
def txt (l : List LookS) : ByteArray := l.foldl (fun a x => a ++ lineT x) ⟨#[]⟩
structure LkT (x : LookS) : Prop where
 at_ : 0 ≤ x.at_ ∧ x.at_ < 100
 verdict : 1 ≤ x.verdict ∧ x.verdict ≤ 5
 board : x.board.size ≤ 1000
 name : x.name.size ≤ 1000
 machine : x.machine.size ≤ 1000
 nozzle : x.nozzle.size ≤ 1000
 reel : x.reel.size ≤ 1000
theorem LkT.of {m : Nat} (hm : m ≤ 9) {l : List LookS} (hk : ∀ x ∈ l, LkG m x) (h0 : lookF l = 0) {q : Nat} (h : q < l.length) : LkT (l.getD q default) := by
 have h1 := lookE_zero ((lookOk h0).all q h)
 have h2 := LkG.getD hk q
 have h3 := h2.at_.2 h1.at_.1 h1.at_.2
 exact ⟨⟨h1.at_.1, by omega⟩, h1.verdict, h2.board.1, h2.name.1, h2.machine, h2.nozzle, h2.reel⟩
end Go.Proofs.YtbbgjeiefmiblaaGreatDoor
namespace Go.Proofs.YtbbgjeiefmiblaaGreatDoor
open Go.RowKit Go.Maps Go.Sort Go.Shelf
set_option linter.unusedVariables false
set_option linter.unusedSimpArgs false
section
variable {P : Program} {w : World} {kt : TypeId}
end
section
set_option maxHeartbeats 1000000 in
end
end Go.Proofs.YtbbgjeiefmiblaaGreatDoor
namespace Go.Proofs.YtbbgjeiefmiblaaGreatDoor
open Go.RowKit
set_option linter.unusedVariables false
set_option linter.unusedSimpArgs false
theorem blkB {g : Nat} {p u : Value} {t : ByteArray} {b : Nat} (h : BlkL [bldE g p u, bufE u t] b) : b = g ∨ u.ownBlock = some b := by
 obtain ⟨e, he, hb⟩ := h
 simp only [List.mem_cons, List.not_mem_nil, or_false] at he
 rcases he with rfl | rfl
 ·exact .inl (Option.some.inj hb).symm
 ·exact .inr hb

end Go.Proofs.YtbbgjeiefmiblaaGreatDoor
namespace Go.Proofs.YtbbgjeiefmiblaaGreatDoor
open Go.RowKit
set_option linter.unusedVariables false
set_option linter.unusedSimpArgs false
def prodW : ByteArray := ⟨#[112, 114, 111, 100, 117, 99, 116]⟩
def plcW : ByteArray := ⟨#[112, 108, 97, 99, 101]⟩
def headPW (p : ProdS) : List ByteArray := [prodW, p.key, itoaS p.wide, itoaS p.high]
def linePW (x : PlaceS) : List ByteArray := [plcW, x.name, x.part, itoaS x.x, itoaS x.y, itoaS x.quarter]
theorem headP_eq (p : ProdS) : bytesOf (joinL (headPW p) ⟨#[32]⟩ ++ [10]) = headP p := by
 unfold headP
 apply ByteArray.ext
 apply Array.toList_inj.1
 simp [bytesOf, joinL, headPW, itosL, Lib.join, List.intercalate, ByteArray.data_append, prodW]
theorem lineP_eq (x : PlaceS) : bytesOf (joinL (linePW x) ⟨#[32]⟩ ++ [10]) = lineP x := by
 unfold lineP
 apply ByteArray.ext
 apply Array.toList_inj.1
 simp [bytesOf, joinL, linePW, itosL, Lib.join, List.intercalate, ByteArray.data_append, plcW]
theorem headP_size2 {p : ProdS} (hk : p.key.size ≤ 40) (h1 : fits p.wide) (h2 : fits p.high) : (headP p).size ≤ 100 ∧ (joinL (headPW p) ⟨#[32]⟩).length ≤ 100 := by
 have h := itos_join (l := [p.wide, p.high]) (fun j hj => by match j, hj with | 0, _ => exact h1 | 1, _ => exact h2)
 have e4 : ([p.wide, p.high] : List Int).length = 2 := rfl
 rw [e4] at h
 have key : (headP p).size ≤ 100 := by
  unfold headP
  rw [bytes_app, bytes_app, bytes_app, bytes_app, bytesOf_size]
  have e1 : (⟨#[112, 114, 111, 100, 117, 99, 116, 32]⟩ : ByteArray).size = 8 := rfl
  have e2 : (⟨#[32]⟩ : ByteArray).size = 1 := rfl
  have e3 : (⟨#[10]⟩ : ByteArray).size = 1 := rfl
  omega
 refine ⟨key, ?_⟩
 have hl := congrArg ByteArray.size (headP_eq p)
 rw [bytesOf_size, List.length_append] at hl
 omega
theorem lineP_size2 {x : PlaceS} (hn : x.name.size ≤ 40) (hp : x.part.size ≤ 40) (h1 : fits x.x) (h2 : fits x.y) (h3 : fits x.quarter) : (lineP x).size ≤ 152 ∧ (joinL (linePW x) ⟨#[32]⟩).length ≤ 152 := by
 have h := itos_join (l := [x.x, x.y, x.quarter]) (fun j hj => by match j, hj with | 0, _ => exact h1 | 1, _ => exact h2 | 2, _ => exact h3)
 have e4 : ([x.x, x.y, x.quarter] : List Int).length = 3 := rfl
 rw [e4] at h
 have key : (lineP x).size ≤ 152 := by
  unfold lineP
  rw [bytes_app, bytes_app, bytes_app, bytes_app, bytes_app, bytes_app, bytesOf_size]
  have e1 : (⟨#[112, 108, 97, 99, 101, 32]⟩ : ByteArray).size = 6 := rfl
  have e2 : (⟨#[32]⟩ : ByteArray).size = 1 := rfl
  have e3 : (⟨#[10]⟩ : ByteArray).size = 1 := rfl
  omega
 refine ⟨key, ?_⟩
 have hl := congrArg ByteArray.size (lineP_eq x)
 rw [bytesOf_size, List.length_append] at hl
 omega
theorem prodKey40 {p : ProdS} (h : prodF p = 0) : p.key.size ≤ 40 := by
 have hk := (prodOk h).key
 unfold keyF at hk
 simp only [Bool.and_eq_true, decide_eq_true_eq] at hk
 exact hk.1.1.2
theorem linesP_size2 {p : ProdS} (h : prodF p = 0) : ∀ q, q ≤ p.places.length → (linesP p q).size ≤ 100 + 152 * q
 | 0, _ => by
  have hok := prodOk h
  have hw := hok.wide
  have hh := hok.high
  exact (headP_size2 (prodKey40 h) (by unfold fits; omega) (by unfold fits; omega)).1
 | q + 1, hq => by
  have ih := linesP_size2 h q (by omega)
  obtain ⟨f1, f2, f3, f4, f5⟩ := place_facts h (show q < p.places.length by omega)
  have h2 := (lineP_size2 f1 f2 f3 f4 f5).1
  rw [linesP_snoc (by omega), bytes_app]
  omega
theorem nilB_app (a : ByteArray) : (⟨#[]⟩ : ByteArray) ++ a = a := by
 apply ByteArray.ext
 simp [ByteArray.data_append]
theorem headPW_len (p : ProdS) : (headPW p).length = 4 := rfl
theorem linePW_len (x : PlaceS) : (linePW x).length = 6 := rfl
set_option maxRecDepth 100000 in
set_option maxHeartbeats 8000000 in
theorem panel_TextP {p : ProdS} (hs : SmP p) :
  SpecW (TabW Tryz.prog) Tryz.prog 39 [avProd p] (fun y => y = .tup [avS (if prodF p = 0 then linesP p p.places.length else ⟨#[]⟩), avI (prodF p)]) := by
 refine SpecW.of_VC Tryz.func39 rfl Tryz.ntmps39 (Nle rfl) fun w A hgw hB => ?_
 have hG : ∀ {s a w'}, R (B0 w A 51) s a w' → TabW Tryz.prog w' :=  tab_base hgw
 have hnew : True := trivial
 refine VC.sr ?_
 refine VO.op rfl (OpE.box rfl hB rfl rfl rfl ?_)
 intro g1
 refine VO.ma rfl rfl rfl rfl ?_
 refine VO.ma rfl rfl rfl rfl ?_
 refine VO.nil ?_
 refine VC.seq ?_
 refine VC.sr ?_
 refine VO.val rfl rfl (OpV.loadK_own (i := 0) rfl hB Tryz.isAgg65 Tryz.sizeOf65 rfl rfl rfl (fun h => h)) ?_
 refine VO.op rfl (OpE.call rfl hB rfl Tryz.call95 rfl (SpecN.spec (panel_CheckProduct hs)) ?_)
 rintro _ rfl
 refine VO.ma rfl rfl rfl rfl ?_
 refine VO.nil ?_
 refine VC.sr ?_
 refine VO.mv rfl rfl rfl rfl ?_
 refine VO.val rfl rfl (OpV.neq rfl rfl rfl) ?_
 refine VO.nil ?_
 refine VC.cond rfl (fun h0b => ?_) (fun h0b => ?_)
 ·have h0 := h0b
  try simp only [qqT, qqF, qqN, qqM, qqL, qqE] at h0
  refine VC.sr ?_
  refine VO.mv rfl rfl rfl rfl ?_
  refine VO.ma rfl rfl rfl rfl ?_
  refine VO.ma rfl rfl rfl rfl ?_
  refine VO.nil ?_
  refine VC.ret ?_
  exact Exists.intro _ (And.intro (RetV.two Tryz.results39 (ResV.tmp rfl) (ResV.tmp rfl)) (by rw [if_neg h0]))
 ·have h0 := h0b
  try simp only [qqT, qqF, qqN, qqM, qqL, qqE] at h0
  refine VC.skip ?_
  refine VC.seq ?_
  have hp0 : prodF p = 0 := by omega
  have hok := prodOk hp0
  have hw := hok.wide
  have hh := hok.high
  have hpl := hok.len
  have fw : fits p.wide := by unfold fits; omega
  have fh : fits p.high := by unfold fits; omega
  have hhd := headP_size2 (prodKey40 hp0) fw fh
  refine VC.region ?_
  refine VO.op rfl (OpE.alloc rfl hB rfl Tryz.zeroValue103 rfl ?_)
  intro g
  refine VO.nil ?_
  refine VC.seq ?_
  refine VC.le _ (Le.nilRow 1 5) ?_
  refine VC.draw (fun j b => j = 10 ∧ b = g) hB (by kernel_rfl) ?_
  refine VA.take (i := 0) rfl (by kernel_rfl) (by kernel_rfl) (by kernel_rfl) rfl rfl (OpV.fieldAddrO 0 rfl Tryz.underlying65 rfl rfl Tryz.sizeOf9 rfl) ?_
  refine VA.takeT [1, 8, 9, 10] (i := 1) (by kernel_rfl) (by kernel_rfl) rfl (by kernel_rfl) (by kernel_rfl) (by kernel_rfl) rfl rfl (OpV.load_own (i := 0) rfl hB Tryz.isAgg9 rfl rfl rfl (fun ⟨j, h1, h2, _⟩ => by subst h2; cases h1)) ?_
  refine VA.take (i := 2) rfl (by kernel_rfl) (by kernel_rfl) (by kernel_rfl) rfl rfl (OpV.fieldAddrO 1 rfl Tryz.underlying65 rfl rfl Tryz.sizeOf3 rfl) ?_
  refine VA.takeT [3, 4, 8, 9, 10] (i := 3) (by kernel_rfl) (by kernel_rfl) rfl (by kernel_rfl) (by kernel_rfl) (by kernel_rfl) rfl rfl (OpV.load_own (i := 0) rfl hB Tryz.isAgg3 rfl rfl rfl (fun ⟨j, h1, h2, _⟩ => by subst h2; cases h1)) ?_
  refine VA.take (i := 5) rfl (by kernel_rfl) (by kernel_rfl) (by kernel_rfl) rfl rfl (OpV.fieldAddrO 2 rfl Tryz.underlying65 rfl rfl Tryz.sizeOf3 rfl) ?_
  refine VA.takeT [6, 7, 8, 9, 10] (i := 6) (by kernel_rfl) (by kernel_rfl) rfl (by kernel_rfl) (by kernel_rfl) (by kernel_rfl) rfl rfl (OpV.load_own (i := 0) rfl hB Tryz.isAgg3 rfl rfl rfl (fun ⟨j, h1, h2, _⟩ => by subst h2; cases h1)) ?_
  refine VA.all (rs := [4]) (by kernel_rfl) (by decide) ?_
  refine ⟨⟨_, rfl, .inl rfl, ?_⟩, trivial⟩
  refine OpE.callW rfl hB rfl Tryz.call97 rfl (strconv_Itoa_S fw) hG ?_
  rintro _ rfl
  refine VA.all (rs := [7]) (by kernel_rfl) (by decide) ?_
  refine ⟨⟨_, rfl, .inl rfl, ?_⟩, trivial⟩
  refine OpE.callW rfl hB rfl Tryz.call97 rfl (strconv_Itoa_S fh) hG ?_
  rintro _ rfl
  refine VA.all (rs := [8]) (by kernel_rfl) (by decide) ?_
  refine ⟨⟨_, rfl, .inl rfl, ?_⟩, trivial⟩
  refine OpE.buildSlice (zc := #[.string ⟨#[]⟩, .string ⟨#[]⟩, .string ⟨#[]⟩, .string ⟨#[]⟩]) rfl hB rfl Tryz.underlying29 Tryz.sizeOf9 Tryz.zeroValue9 (by decide) (by decide) (by kernel_rfl) rfl rfl ?_
  refine VA.le _ (Le.litsS (t := 21) (xs := headPW p) rfl rfl) ?_
  refine VA.all (rs := [9]) (by kernel_rfl) (by decide) ?_
  refine ⟨⟨_, rfl, .inl rfl, ?_⟩, trivial⟩
  refine OpE.call rfl hB rfl Tryz.call66 rfl (SpecN.spec (kit_Join (xs := headPW p) (by rw [headPW_len]; decide) (by omega))) ?_
  rintro _ rfl
  refine VA.le _ (Le.recast (t := 22) (y := avS (headP p)) rfl (fun w Z u h => by rw [← headP_eq]; exact h)) ?_
  refine VA.all (rs := [10]) (by kernel_rfl) (by decide) ?_
  refine ⟨⟨_, rfl, .inl rfl, ?_⟩, trivial⟩
  refine OpE.callH (rest := [_]) rfl hB rfl Tryz.call65 rfl rfl (Builder_WriteString_H (t := ⟨#[]⟩) (bldOk.none g) (by have e : (⟨#[]⟩ : ByteArray).size = 0 := rfl; omega)) (List.perm_append_comm (l₁ := [_])) (fun b h => ⟨rfl, (blkB h).elim id (fun e => by cases e)⟩) ?_
  rintro _ _ ⟨u23, rfl, rfl⟩
  refine VA.done (by kernel_rfl) ?_
  refine VC.seq ?_
  refine VC.sr ?_
  refine VO.val rfl rfl (OpV.fieldAddrO 3 rfl Tryz.underlying65 rfl rfl Tryz.sizeOf63 rfl) ?_
  refine VO.val rfl rfl (OpV.load_own (i := 2) rfl hB Tryz.isAgg63 rfl rfl rfl (fun h => h)) ?_
  refine VO.val rfl rfl (OpV.len_im rfl Tryz.underlying63 rfl) ?_
  refine VO.mv rfl rfl rfl rfl ?_
  refine VO.nil ?_
  refine VC.block ?_
  refine VC.loopK [(5, _), (25, _), (26, _)] ⟨rfl, rfl, rfl, trivial⟩ ({z : Value × Nat // z.2 ≤ p.places.length}) (fun (iZ : {z : Value × Nat // z.2 ≤ p.places.length}) => match iZ with | ⟨⟨u, q⟩, hq⟩ => [(27, avI (q : Int))]) (fun (iZ : {z : Value × Nat // z.2 ≤ p.places.length}) => match iZ with | ⟨⟨u, q⟩, hq⟩ => [bldE g (ptv g) u, bufE u (linesP p q), boxProd g1 p 65]) (fun (iZ : {z : Value × Nat // z.2 ≤ p.places.length}) => match iZ with | ⟨⟨u, q⟩, hq⟩ => 0) (fun (iZ : {z : Value × Nat // z.2 ≤ p.places.length}) => match iZ with | ⟨⟨u, q⟩, hq⟩ => p.places.length - q) ⟨(u23, 0), Nat.zero_le _⟩ (Le.mk hB [0, 1, 2] ⟨rfl, rfl, rfl, rfl, trivial⟩ rfl (by dsimp only; rw [show (⟨#[]⟩ : ByteArray) ++ headP p = linesP p 0 from nilB_app _]; rfl) (Nat.le_refl _)) ?_
  rintro ⟨⟨u, q⟩, hq⟩
  show VC _ _ _ _ ⟨[(27, avI (q : Int))] ++ [(5, _), (25, _), (26, _)], [bldE g (ptv g) u, bufE u (linesP p q), boxProd g1 p 65], 0⟩
  simp only at hq
  have hts := linesP_size2 hp0 q hq
  refine VC.sr ?_
  refine VO.val rfl rfl (OpV.lss rfl rfl rfl) ?_
  refine VO.nil ?_
  refine VC.seq ?_
  refine VC.cond rfl (fun aH1b => ?_) (fun aH1b => ?_)
  ·have aH1 := aH1b
   try simp only [qqT, qqF, qqN, qqM, qqL, qqE] at aH1
   refine VC.skip ?_
   refine VC.seq ?_
   refine VC.block ?_
   refine VC.seq ?_
   obtain ⟨f1, f2, f3, f4, f5⟩ := place_facts hp0 (show q < p.places.length by omega)
   obtain ⟨x, hxx⟩ : ∃ x, p.places.getD q default = x := ⟨_, rfl⟩
   rw [hxx] at f1 f2 f3 f4 f5
   have hjl := lineP_size2 f1 f2 f3 f4 f5
   refine VC.region ?_
   refine VO.val rfl rfl (OpV.indexAddr_E rfl Tryz.underlying63 Tryz.sizeOf128 rfl rfl rfl (by omega)) ?_
   refine VO.val rfl rfl (OpV.loadK_at rfl hB OutW.no Tryz.isAgg128 Tryz.sizeOf128 rfl rfl) ?_
   refine VO.le _ (Le.recast (t := 30) (y := avT x) rfl (fun w Z u h => by rw [← hxx]; exact h)) ?_
   refine VO.op rfl (OpE.alloc rfl hB rfl Tryz.zeroValue128 rfl ?_)
   intro g7
   refine VO.op rfl (OpE.store (i := 3) rfl hB rfl Tryz.sizeOf128 rfl rfl rfl rfl rfl rfl (Nle rfl) trivial ?_)
   refine VO.nil ?_
   refine VC.draw (fun j b => j = 15 ∧ (b = g ∨ u.ownBlock = some b)) hB (by kernel_rfl) ?_
   refine VA.take (i := 0) rfl (by kernel_rfl) (by kernel_rfl) (by kernel_rfl) rfl rfl (OpV.fieldAddrO 0 rfl Tryz.underlying128 rfl rfl Tryz.sizeOf9 rfl) ?_
   refine VA.takeT [1, 13, 14, 15] (i := 1) (by kernel_rfl) (by kernel_rfl) rfl (by kernel_rfl) (by kernel_rfl) (by kernel_rfl) rfl rfl (OpV.load_own (i := 3) rfl hB Tryz.isAgg9 rfl rfl rfl (fun ⟨j, h1, h2, _⟩ => by subst h2; cases h1)) ?_
   refine VA.take (i := 2) rfl (by kernel_rfl) (by kernel_rfl) (by kernel_rfl) rfl rfl (OpV.fieldAddrO 1 rfl Tryz.underlying128 rfl rfl Tryz.sizeOf9 rfl) ?_
   refine VA.takeT [3, 13, 14, 15] (i := 3) (by kernel_rfl) (by kernel_rfl) rfl (by kernel_rfl) (by kernel_rfl) (by kernel_rfl) rfl rfl (OpV.load_own (i := 3) rfl hB Tryz.isAgg9 rfl rfl rfl (fun ⟨j, h1, h2, _⟩ => by subst h2; cases h1)) ?_
   refine VA.take (i := 4) rfl (by kernel_rfl) (by kernel_rfl) (by kernel_rfl) rfl rfl (OpV.fieldAddrO 2 rfl Tryz.underlying128 rfl rfl Tryz.sizeOf3 rfl) ?_
   refine VA.takeT [5, 6, 13, 14, 15] (i := 5) (by kernel_rfl) (by kernel_rfl) rfl (by kernel_rfl) (by kernel_rfl) (by kernel_rfl) rfl rfl (OpV.load_own (i := 3) rfl hB Tryz.isAgg3 rfl rfl rfl (fun ⟨j, h1, h2, _⟩ => by subst h2; cases h1)) ?_
   refine VA.take (i := 7) rfl (by kernel_rfl) (by kernel_rfl) (by kernel_rfl) rfl rfl (OpV.fieldAddrO 3 rfl Tryz.underlying128 rfl rfl Tryz.sizeOf3 rfl) ?_
   refine VA.takeT [8, 9, 13, 14, 15] (i := 8) (by kernel_rfl) (by kernel_rfl) rfl (by kernel_rfl) (by kernel_rfl) (by kernel_rfl) rfl rfl (OpV.load_own (i := 3) rfl hB Tryz.isAgg3 rfl rfl rfl (fun ⟨j, h1, h2, _⟩ => by subst h2; cases h1)) ?_
   refine VA.take (i := 10) rfl (by kernel_rfl) (by kernel_rfl) (by kernel_rfl) rfl rfl (OpV.fieldAddrO 4 rfl Tryz.underlying128 rfl rfl Tryz.sizeOf3 rfl) ?_
   refine VA.takeT [11, 12, 13, 14, 15] (i := 11) (by kernel_rfl) (by kernel_rfl) rfl (by kernel_rfl) (by kernel_rfl) (by kernel_rfl) rfl rfl (OpV.load_own (i := 3) rfl hB Tryz.isAgg3 rfl rfl rfl (fun ⟨j, h1, h2, _⟩ => by subst h2; cases h1)) ?_
   refine VA.all (rs := [6]) (by kernel_rfl) (by decide) ?_
   refine ⟨⟨_, rfl, .inl rfl, ?_⟩, trivial⟩
   refine OpE.callW rfl hB rfl Tryz.call97 rfl (strconv_Itoa_S f3) hG ?_
   rintro _ rfl
   refine VA.all (rs := [9]) (by kernel_rfl) (by decide) ?_
   refine ⟨⟨_, rfl, .inl rfl, ?_⟩, trivial⟩
   refine OpE.callW rfl hB rfl Tryz.call97 rfl (strconv_Itoa_S f4) hG ?_
   rintro _ rfl
   refine VA.all (rs := [12]) (by kernel_rfl) (by decide) ?_
   refine ⟨⟨_, rfl, .inl rfl, ?_⟩, trivial⟩
   refine OpE.callW rfl hB rfl Tryz.call97 rfl (strconv_Itoa_S f5) hG ?_
   rintro _ rfl
   refine VA.all (rs := [13]) (by kernel_rfl) (by decide) ?_
   refine ⟨⟨_, rfl, .inl rfl, ?_⟩, trivial⟩
   refine OpE.buildSlice (zc := #[.string ⟨#[]⟩, .string ⟨#[]⟩, .string ⟨#[]⟩, .string ⟨#[]⟩, .string ⟨#[]⟩, .string ⟨#[]⟩]) rfl hB rfl Tryz.underlying29 Tryz.sizeOf9 Tryz.zeroValue9 (by decide) (by decide) (by kernel_rfl) rfl rfl ?_
   refine VA.le _ (Le.litsS (t := 44) (xs := linePW x) rfl rfl) ?_
   refine VA.all (rs := [14]) (by kernel_rfl) (by decide) ?_
   refine ⟨⟨_, rfl, .inl rfl, ?_⟩, trivial⟩
   refine OpE.call rfl hB rfl Tryz.call66 rfl (SpecN.spec (kit_Join (xs := linePW x) (by rw [linePW_len]; decide) (by omega))) ?_
   rintro _ rfl
   refine VA.le _ (Le.recast (t := 45) (y := avS (lineP x)) rfl (fun w Z u h => by rw [← lineP_eq]; exact h)) ?_
   refine VA.all (rs := [15]) (by kernel_rfl) (by decide) ?_
   refine ⟨⟨_, rfl, .inl rfl, ?_⟩, trivial⟩
   refine OpE.callH (rest := [_, _]) rfl hB rfl Tryz.call65 rfl rfl (Builder_WriteString_H (bldOk.self g) (by omega)) (List.Perm.refl _) (fun b h => ⟨rfl, blkB h⟩) ?_
   rintro _ _ ⟨u46, rfl, rfl⟩
   refine VA.done (by kernel_rfl) ?_
   refine VC.region ?_
   refine VO.val rfl rfl (OpV.add rfl rfl rfl (by unfold fits; omega)) ?_
   refine VO.mv rfl rfl rfl rfl ?_
   refine VO.nil ?_
   exact Exists.intro (⟨(u46, q + 1), by show q + 1 ≤ _; omega⟩) (And.intro (Le.mk hB [0, 1, 2] ⟨rfl, rfl, rfl, rfl, trivial⟩ rfl (by dsimp only; rw [linesP_snoc (by omega), hxx]; rfl) (Nat.le_refl _)) (by first | omega | (show _ < _; omega) | (simp only []; omega)))
  ·have aH1 := aH1b
   try simp only [qqT, qqF, qqN, qqM, qqL, qqE] at aH1
   obtain rfl : q = p.places.length := by omega
   refine VC.exit ?_
   refine VC.seq ?_
   refine VC.sr ?_
   refine VO.op rfl (OpE.callH (rest := [_]) rfl hB rfl Tryz.call98 rfl rfl (Builder_Len_H) (List.Perm.refl _) (fun _ _ => trivial) ?_)
   rintro _ _ ⟨rfl, rfl⟩
   refine VO.val rfl rfl (OpV.gtr rfl rfl rfl) ?_
   refine VO.nil ?_
   refine VC.cond rfl (fun aH2b => ?_) (fun aH2b => ?_)
   ·have aH2 := aH2b
    try simp only [qqT, qqF, qqN, qqM, qqL, qqE] at aH2
    exact VC.absurd (by omega)
   ·have aH2 := aH2b
    try simp only [qqT, qqF, qqN, qqM, qqL, qqE] at aH2
    refine VC.skip ?_
    refine VC.sr ?_
    refine VO.op rfl (OpE.bstr (i := 0) (j := 1) rfl hB rfl (fun _ h => h) Tryz.call68 rfl rfl (bldOk.self g) rfl (by decide) ?_)
    refine VO.ma rfl rfl rfl rfl ?_
    refine VO.ma rfl rfl rfl rfl ?_
    refine VO.nil ?_
    refine VC.ret ?_
    exact Exists.intro _ (And.intro (RetV.two Tryz.results39 (ResV.tmp rfl) (ResV.tmp rfl)) (by rw [if_pos hp0, hp0]))
end Go.Proofs.YtbbgjeiefmiblaaGreatDoor
namespace Go.Proofs.YtbbgjeiefmiblaaGreatDoor
open Go.RowKit
set_option linter.unusedVariables false
set_option linter.unusedSimpArgs false
theorem splitL_none {c : UInt8} : ∀ {a : List UInt8}, (∀ x ∈ a, x ≠ c) → splitL c a = [a]
 | [], _ => rfl
 | b :: a, h => by rw [splitL, if_neg (h b (List.mem_cons_self ..)), splitL_none fun x hx => h x (List.mem_cons_of_mem _ hx)]
theorem splitL_cut {c : UInt8} {r : List UInt8} : ∀ {a : List UInt8}, (∀ x ∈ a, x ≠ c) → splitL c (a ++ c :: r) = a :: splitL c r
 | [], _ => by rw [List.nil_append, splitL, if_pos rfl]
 | b :: a, h => by rw [List.cons_append, splitL, if_neg (h b (List.mem_cons_self ..)), splitL_cut fun x hx => h x (List.mem_cons_of_mem _ hx)]
theorem index_cut {c : UInt8} : ∀ {l : List UInt8} {m : Nat}, Lib.indexByte l c = m → l = l.take m ++ c :: l.drop (m + 1) ∧ ∀ x ∈ l.take m, x ≠ c
 | [], m, h => by simp [Lib.indexByte] at h
 | b :: l, m, h => by
  unfold Lib.indexByte at h
  by_cases hb : b = c
  ·subst hb
   simp at h
   obtain rfl : m = 0 := by omega
   exact ⟨rfl, fun x hx => by simp at hx⟩
  ·have hb' : (b == c) = false := by simpa using hb
   rw [hb'] at h
   simp only [Bool.false_eq_true, if_false] at h
   split at h
   ·omega
   ·rename_i e
    have hge := Lib.indexByte_ge l c
    have e' : ¬ Lib.indexByte l c = -1 := by simpa using e
    obtain ⟨k, rfl⟩ : ∃ k, m = k + 1 := ⟨m - 1, by omega⟩
    obtain ⟨h1, h2⟩ := index_cut (c := c) (l := l) (m := k) (by omega)
    refine ⟨by rw [List.take_succ_cons, List.drop_succ_cons, List.cons_append, ← h1], fun x hx => ?_⟩
    rw [List.take_succ_cons] at hx
    rcases List.mem_cons.1 hx with rfl | hx
    ·exact hb
    ·exact h2 x hx
theorem index_no {c : UInt8} : ∀ {l : List UInt8}, Lib.indexByte l c < 0 → ∀ x ∈ l, x ≠ c
 | [], _ => fun x hx => by simp at hx
 | b :: l, h => by
  unfold Lib.indexByte at h
  by_cases hb : b = c
  ·subst hb; simp at h
  ·have hb' : (b == c) = false := by simpa using hb
   rw [hb'] at h
   simp only [Bool.false_eq_true, if_false] at h
   have h1 : Lib.indexByte l c < 0 := by
    have := Lib.indexByte_ge l c
    split at h
    ·rename_i e; have e' : Lib.indexByte l c = -1 := by simpa using e
     omega
    ·omega
   intro x hx
   rcases List.mem_cons.1 hx with rfl | hx
   ·exact hb
   ·exact index_no h1 x hx
theorem suff_iff {l : List UInt8} {c : UInt8} : Lib.hasSuffix l [c] = true ↔ l.getLast? = some c := by
 unfold Lib.hasSuffix
 rw [List.isSuffixOf_iff_suffix]
 constructor
 ·rintro ⟨t, rfl⟩; simp
 ·intro h
  obtain ⟨t, rfl⟩ := List.getLast?_eq_some_iff.1 h
  exact ⟨t, rfl⟩
def linesL (l : List UInt8) : List (List UInt8) := if l = [] then [] else splitL 10 (Lib.trimSuffix l [10])
def endL (l : List UInt8) : Bool := if l = [] then true else Lib.hasSuffix l [10]
theorem linesL_none {l : List UInt8} (h0 : l ≠ []) (h : Lib.indexByte l 10 < 0) : linesL l = [l] ∧ endL l = false := by
 have hn := index_no h
 have hs : Lib.hasSuffix l [10] = false := Bool.eq_false_iff.2 fun e => by
  obtain ⟨t, rfl⟩ := List.getLast?_eq_some_iff.1 (suff_iff.1 e)
  exact hn 10 (by simp) rfl
 refine ⟨?_, by rw [endL, if_neg h0, hs]⟩
 rw [linesL, if_neg h0, Lib.trimSuffix, hs, if_neg (by simp), splitL_none hn]
theorem linesL_some {l : List UInt8} {m : Nat} (h : Lib.indexByte l 10 = m) : linesL l = l.take m :: linesL (l.drop (m + 1)) ∧ endL l = endL (l.drop (m + 1)) := by
 obtain ⟨h1, h2⟩ := index_cut h
 generalize l.take m = a at h1 h2
 generalize l.drop (m + 1) = r at h1
 subst h1
 have hne : a ++ 10 :: r ≠ [] := by simp
 by_cases hr : r = []
 ·subst hr
  have hs : Lib.hasSuffix (a ++ [10]) [10] = true := suff_iff.2 (by simp)
  refine ⟨?_, by rw [endL, if_neg hne, hs, endL, if_pos rfl]⟩
  rw [linesL, if_neg hne, Lib.trimSuffix, hs, if_pos rfl, linesL, if_pos rfl]
  have : (a ++ [10]).take ((a ++ [10]).length - [(10 : UInt8)].length) = a := by simp
  rw [this, splitL_none h2]
 ·have hl : (a ++ 10 :: r).getLast? = r.getLast? := by
   rw [List.getLast?_append, List.getLast?_cons]
   cases hg : r.getLast? with
   | none => rw [List.getLast?_eq_none_iff] at hg; exact absurd hg hr
   | some x => simp
  have hs : Lib.hasSuffix (a ++ 10 :: r) [10] = Lib.hasSuffix r [10] := by
   rw [Bool.eq_iff_iff, suff_iff, suff_iff, hl]
  refine ⟨?_, by rw [endL, if_neg hne, hs, endL, if_neg hr]⟩
  rw [linesL, if_neg hne, linesL, if_neg hr, Lib.trimSuffix, hs, Lib.trimSuffix]
  split
  ·have hp : 0 < r.length := List.length_pos_iff.2 hr
   have : (a ++ 10 :: r).take ((a ++ 10 :: r).length - [(10 : UInt8)].length) = a ++ 10 :: r.take (r.length - [(10 : UInt8)].length) := by
    rw [List.take_append]
    congr 1
    ·rw [List.take_of_length_le (by simp)]
    ·have e : (a ++ 10 :: r).length - [(10 : UInt8)].length - a.length = (r.length - 1) + 1 := by simp; omega
     rw [e, List.take_succ_cons]; rfl
   rw [this, splitL_cut h2]
  ·rw [splitL_cut h2]
theorem byL_bytesOf (l : List UInt8) : byL (bytesOf l) = l := by simp [byL, bytesOf]
theorem byL_nil {s : ByteArray} : byL s = [] ↔ s = ⟨#[]⟩ := by
 constructor
 ·intro h; rw [← bytesOf_byL s, h]; rfl
 ·rintro rfl; rfl
theorem linesR_L (s : ByteArray) : linesR s = (linesL (byL s)).map bytesOf := by
 unfold linesR linesL
 by_cases h : byL s = []
 ·have := byL_nil.1 h
  subst this
  rw [if_pos (sEq_refl _), if_pos h]; rfl
 ·have hne : ¬ sEq s ⟨#[]⟩ = true := fun e => h (byL_nil.2 (sEq_eq.1 e))
  rw [if_neg hne, if_neg h, splitS, byL_bytesOf]
theorem linesE_L (s : ByteArray) : linesE s = endL (byL s) := by
 unfold linesE endL
 by_cases h : byL s = []
 ·have := byL_nil.1 h
  subst this
  rw [if_pos (sEq_refl _), if_pos h]
 ·have hne : ¬ sEq s ⟨#[]⟩ = true := fun e => h (byL_nil.2 (sEq_eq.1 e))
  rw [if_neg hne, if_neg h]; rfl
theorem lines_none {s : ByteArray} (h0 : sEq s ⟨#[]⟩ = false) (h : Lib.indexByte (byL s) 10 < 0) : linesR s = [s] ∧ linesE s = false := by
 have hne : byL s ≠ [] := fun e => by rw [byL_nil.1 e, sEq_refl] at h0; cases h0
 obtain ⟨h1, h2⟩ := linesL_none hne h
 rw [linesR_L, linesE_L, h1, h2]
 exact ⟨by simp [bytesOf_byL], rfl⟩
theorem lines_some {s : ByteArray} {m : Nat} (h : Lib.indexByte (byL s) 10 = m) : linesR s = s.extract 0 m :: linesR (s.extract (m + 1) s.size) ∧ linesE s = linesE (s.extract (m + 1) s.size) := by
 obtain ⟨h1, h2⟩ := linesL_some h
 have e1 : byL (s.extract (m + 1) s.size) = (byL s).drop (m + 1) := by
  rw [byL_extract, List.take_of_length_le (by rw [List.length_drop, byL_len]; omega)]
 have e2 : bytesOf ((byL s).take m) = s.extract 0 m := by
  rw [← bytesOf_byL (s.extract 0 m), byL_extract, List.drop_zero, Nat.sub_zero]
 rw [linesR_L, linesE_L, linesR_L, linesE_L, e1, h1, h2, List.map_cons, e2]
 exact ⟨rfl, rfl⟩
theorem lines_nil : linesR ⟨#[]⟩ = [] ∧ linesE ⟨#[]⟩ = true := ⟨by rw [linesR, if_pos (sEq_refl _)], by rw [linesE, if_pos (sEq_refl _)]⟩
def lnBad (ok : Nat → ByteArray → Bool) (ls : List ByteArray) (e : Bool) (i : Nat) : Bool := !ok i (ls.getD i ByteArray.empty) || (!e && decide (i + 1 = ls.length))
def lnF (ok : Nat → ByteArray → Bool) (ls : List ByteArray) (e : Bool) : Option Nat := (List.range ls.length).find? (lnBad ok ls e)
theorem lnF_none {ok : Nat → ByteArray → Bool} {ls : List ByteArray} {e : Bool} (h : ∀ j, j < ls.length → lnBad ok ls e j = false) : lnF ok ls e = none :=
 List.find?_eq_none.2 fun j hj => by rw [h j (List.mem_range.1 hj)]; simp
theorem lnF_some {ok : Nat → ByteArray → Bool} {ls : List ByteArray} {e : Bool} {i : Nat} (hi : i < ls.length) (h : lnBad ok ls e i = true) (hn : ∀ j, j < i → lnBad ok ls e j = false) : lnF ok ls e = some i := by
 unfold lnF
 rw [List.find?_range_eq_some]
 exact ⟨h, List.mem_range.2 hi, fun j hj => by rw [hn j hj]; rfl⟩
end Go.Proofs.YtbbgjeiefmiblaaGreatDoor
namespace Go.Proofs.YtbbgjeiefmiblaaGreatDoor
open Go.RowKit
set_option linter.unusedVariables false
set_option linter.unusedSimpArgs false
def cutF (c : UInt8) (s : ByteArray) : Bool := decide (0 ≤ Lib.indexByte (byL s) c)
def cutA (c : UInt8) (s : ByteArray) : ByteArray := if cutF c s = true then s.extract 0 (Lib.indexByte (byL s) c).toNat else s
def cutB (c : UInt8) (s : ByteArray) : ByteArray := if cutF c s = true then s.extract ((Lib.indexByte (byL s) c).toNat + 1) s.size else ⟨#[]⟩
theorem index_lt {c : UInt8} {l : List UInt8} {m : Nat} (h : Lib.indexByte l c = m) : m < l.length := by
 have h1 := congrArg List.length (index_cut h).1
 have h2 : (l.take m).length ≤ m := by rw [List.length_take]; omega
 rw [List.length_append, List.length_cons, List.length_take, List.length_drop] at h1
 omega
theorem cut_at {c : UInt8} {s : ByteArray} (h : cutF c s = true) : ∃ m : Nat, Lib.indexByte (byL s) c = m ∧ m < s.size ∧ cutA c s = s.extract 0 m ∧ cutB c s = s.extract (m + 1) s.size := by
 have h0 : 0 ≤ Lib.indexByte (byL s) c := of_decide_eq_true h
 refine ⟨(Lib.indexByte (byL s) c).toNat, by omega, ?_, by rw [cutA, if_pos h], by rw [cutB, if_pos h]⟩
 have := index_lt (l := byL s) (c := c) (m := (Lib.indexByte (byL s) c).toNat) (by omega)
 rwa [byL_len] at this
theorem cut_sizes {c : UInt8} {s : ByteArray} (h : cutF c s = true) : (cutA c s).size + 1 + (cutB c s).size = s.size := by
 obtain ⟨m, h1, h2, h3, h4⟩ := cut_at h
 rw [h3, h4, ByteArray.size_extract, ByteArray.size_extract]; omega
theorem lines_yes {s : ByteArray} (h : cutF 10 s = true) : linesR s = cutA 10 s :: linesR (cutB 10 s) ∧ linesE s = linesE (cutB 10 s) := by
 obtain ⟨m, h1, h2, h3, h4⟩ := cut_at h
 rw [h3, h4]; exact lines_some h1
theorem lines_no {s : ByteArray} (h0 : sEq s ⟨#[]⟩ = false) (h : cutF 10 s = false) : linesR s = [s] ∧ linesE s = false := lines_none h0 (by have := of_decide_eq_false h; omega)
theorem lines_last {s : ByteArray} (h : linesE s = false) : 0 < (linesR s).length := by
 cases h0 : sEq s ⟨#[]⟩ with
 | true => rw [sEq_eq.1 h0, lines_nil.2] at h; cases h
 | false =>
  cases hc : cutF 10 s with
  | true => rw [(lines_yes hc).1]; exact Nat.succ_pos _
  | false => rw [(lines_no h0 hc).1]; exact Nat.succ_pos _
abbrev okAt (ok : List ByteArray → ByteArray → Bool) (ls : List ByteArray) : Nat → ByteArray → Bool := fun i x => ok (ls.take i) x
structure LnI (ok : List ByteArray → ByteArray → Bool) (text : ByteArray) (pre : List ByteArray) (r : ByteArray) : Prop where
 eq : linesR text = pre ++ linesR r
 en : linesE text = linesE r
 good : ∀ j, j < pre.length → lnBad (okAt ok (linesR text)) (linesR text) (linesE text) j = false
 size : pre.length + r.size ≤ text.size
section
variable {ok : List ByteArray → ByteArray → Bool} {text r : ByteArray} {pre : List ByteArray}
theorem LnI.start (text : ByteArray) : LnI ok text [] text := ⟨rfl, rfl, fun j hj => absurd hj (Nat.not_lt_zero j), by simp⟩
theorem LnI.at_ (h : LnI ok text pre r) {x : ByteArray} {l : List ByteArray} (hl : linesR r = x :: l) : (linesR text).take pre.length = pre ∧ (linesR text).getD pre.length ByteArray.empty = x ∧ pre.length < (linesR text).length := by
 rw [h.eq, hl]
 refine ⟨by simp, by simp [List.getD_eq_getElem?_getD], by simp⟩
theorem LnI.step (h : LnI ok text pre r) (hc : cutF 10 r = true) (ho : ok pre (cutA 10 r) = true) : LnI ok text (pre ++ [cutA 10 r]) (cutB 10 r) := by
 obtain ⟨h1, h2⟩ := lines_yes hc
 obtain ⟨k1, k2, k3⟩ := h.at_ h1
 refine ⟨by rw [h.eq, h1, List.append_assoc]; rfl, h.en.trans h2, fun j hj => ?_, ?_⟩
 ·by_cases hj2 : j < pre.length
  ·exact h.good j hj2
  ·obtain rfl : j = pre.length := by rw [List.length_append] at hj; simp at hj; omega
   unfold lnBad okAt
   rw [k1, k2, ho]
   cases he : linesE text with
   | true => rfl
   | false =>
    have h3 := lines_last (h2.symm.trans (h.en.symm.trans he))
    have h4 : (linesR text).length = pre.length + (1 + (linesR (cutB 10 r)).length) := by rw [h.eq, h1, List.length_append, List.length_cons]; omega
    rw [decide_eq_false (by omega)]; rfl
 ·have := cut_sizes hc
  have := h.size
  rw [List.length_append]; simp; omega
end
end Go.Proofs.YtbbgjeiefmiblaaGreatDoor
namespace Go.Proofs.YtbbgjeiefmiblaaGreatDoor
open Go.RowKit
set_option linter.unusedVariables false
set_option linter.unusedSimpArgs false
section
variable {P : Program} {B : Bs} {s : St'} {o : Oper} {K : St' → Prop} {V : Nat → Nat → Prop} {ops : Array Oper} {Q : Exit → St' → Prop} {n N : Nat} {L : Array Bool}
def VN (P : Program) (B : Bs) (V : Nat → Nat → Prop) (ops : Array Oper) (Q : Exit → St' → Prop) (n : Nat) (L : Array Bool) (s : St') (N : Nat) : Prop :=
 ∀ a w, R B s a w → w.heap.size = N → wpAnyE P .any ops (fun a w => ∃ s, Q .normal s ∧ R B s a w) (fun j => Ew B (V j)) n L a w
def VM (P : Program) (B : Bs) (V : Nat → Nat → Prop) (ops : Array Oper) (Q : Exit → St' → Prop) (n : Nat) (L : Array Bool) (s : St') (N : Nat) : Prop :=
 ∀ a w, R B s a w → N ≤ w.heap.size → wpAnyE P .any ops (fun a w => ∃ s, Q .normal s ∧ R B s a w) (fun j => Ew B (V j)) n L a w
def OpVN (P : Program) (B : Bs) (W : Nat → Prop) (s : St') (o : Oper) (x : AV) (N : Nat) : Prop :=
 ∀ a w, R B s a w → w.heap.size = N → ∃ v, (∀ w', Chg (fun b => B.str b ∨ W b) w w' → (execOp a.eval o).run P w' = .ok (.value v) w') ∧ Rep w (Zn B s.hp w) x v
theorem OpVN.of {W : Nat → Prop} {x : AV} (h : OpV P B W s o x) : OpVN P B W s o x N := fun a w hr _ => h a w hr
theorem new_keep {W : Nat → Prop} (hB : B.Ok) {a : Act} {w w' : World} (hr : R B s a w) (hW : ∀ b, W b → w.heap.size ≤ b) (hc : Chg (fun b => B.str b ∨ W b) w w') {b : Nat} (hZ : Zn B s.hp w b) : w'.heap[b]? = w.heap[b]? := by
 refine hc.block b hZ.1 ?_
 rintro (h | h)
 ·obtain ⟨h1, h2⟩ := hB.str b h
  exact (hZ.2.2 (hB.low b h1)).2 h
 ·exact absurd hZ.1 (Nat.not_lt.2 (hW b h))
theorem OpVN.loadK_at {W : Nat → Prop} {x : Operand} {t m k : Nat} {F : Nat → AV} (ho : o.op = .load t x) (hB : B.Ok) (hW : ∀ b, W b → N ≤ b) (hag : ∀ w, (isAgg t).run P w = .ok true w) (hsz : ∀ w, (sizeOf t).run P w = .ok k w) (hx : evO s x = some (.at_ m F)) (hm : Nat.ble k m = true) : OpVN P B W s o (.agg (tab k F)) N := by
 intro a w hr hN
 have := hr.ev hx
 generalize hv : a.eval x = u at this
 have hm' := Nat.le_of_ble_eq_true hm
 cases this with
 | at_ m f' b off c e u hZ hb hc hr' =>
  refine ⟨.agg ((List.range k).map u).toArray, fun w' hcw => ?_, .agg _ _ (by simp [tab_len]) fun j hj => ?_⟩
  ·have hb' := (new_keep hB hr (fun b h => hN ▸ hW b h) hcw hZ).trans hb
   have hcell : ∀ j v, ((List.range k).map u)[j]? = some v → w'.cell? ((⟨b, off, none⟩ : Addr).add j) = some v := by
    intro j v hj
    simp only [List.getElem?_map, Option.map_eq_some_iff] at hj
    obtain ⟨q, hq, rfl⟩ := hj
    obtain ⟨hlt, hq'⟩ := List.getElem?_eq_some_iff.1 hq
    simp at hlt hq'
    subst hq'
    rw [Addr.add_lit]
    simpa [World.cell?, hb'] using hc j (by omega)
   have hl := run_loadCells_list (P := P) w' ⟨b, off, none⟩ _ hcell
   simp only [List.length_map, List.length_range] at hl
   simp only [execOp, ho, hv, Instr.loadAt, Instr.sureAddr, loadVar, hag, hsz, hl, Sem.run_bind, Sem.run_pure, Result.andThen_ok, if_true]
  ·rw [tab_len] at hj
   rw [tab_get]
   simp [hj]
   exact hr' j (by omega)
theorem VN.take {i : Nat} {x : AV} (hi : ops[i]? = some o) (hs : Region.noSelect ops = true) (hf : Region.free .any ops L i = true) (hr : (Region.ready .any ops L).contains i = true) (hg : o.guard = none) (hd : okd B.nt o.dst = true)
  (hv : OpVN P B (Wi V ops i) s o x N) (h : VN P B V ops Q n (L.setIfInBounds i true) (s.put o.dst x) N) : VN P B V ops Q (n + 1) L s N := fun a w hR hN => by
 obtain ⟨v, h1, h2⟩ := hv a w hR hN
 exact wpAnyE_first (F := Ew B (Wi V ops i)) Ew.tr Ew.rf (fun x => Ew.rf x) Wi.of hi (Region.noSelect_spec hs) n L a w (Region.free_spec hi hf) (by simpa using hr) (.inl ⟨by simp [Region.wanted, hg], h1⟩) (h _ _ (hR.put _ hd _ _ h2) hN)
theorem VM.take {i : Nat} {x : AV} (hi : ops[i]? = some o) (hs : Region.noSelect ops = true) (hf : Region.free .any ops L i = true) (hr : (Region.ready .any ops L).contains i = true) (hg : o.guard = none) (hd : okd B.nt o.dst = true)
  (hv : OpV P B (Wi V ops i) s o x) (h : VM P B V ops Q n (L.setIfInBounds i true) (s.put o.dst x) N) : VM P B V ops Q (n + 1) L s N := fun a w hR hN => by
 obtain ⟨v, h1, h2⟩ := hv a w hR
 exact wpAnyE_first (F := Ew B (Wi V ops i)) Ew.tr Ew.rf (fun x => Ew.rf x) Wi.of hi (Region.noSelect_spec hs) n L a w (Region.free_spec hi hf) (by simpa using hr) (.inl ⟨by simp [Region.wanted, hg], h1⟩) (h _ _ (hR.put _ hd _ _ h2) hN)
theorem VM.done (hr : Region.ready .any ops L = []) (h : Q .normal s) : VM P B V ops Q n L s N := fun a w hR _ => by
 cases n with
 | zero => exact ⟨hr, s, h, hR⟩
 | succ n => exact ⟨fun _ => ⟨s, h, hR⟩, by rw [hr]; simp⟩
def OpM (P : Program) (B : Bs) (W : Nat → Prop) (s : St') (o : Oper) (K : St' → Prop) (N : Nat) : Prop :=
 ∀ a w, R B s a w → N ≤ w.heap.size → ∀ (next : Act → World → Prop) (Qx : Exit → Act → World → Prop), (∀ s' a' w', K s' → R B s' a' w' → Ew B W w w' → next a' w') → o.wp P a w next Qx
theorem OpM.of {W : Nat → Prop} (h : OpE P B W s o K) : OpM P B W s o K N := fun a w hr _ => h a w hr
theorem OpM.alloc {W : Nat → Prop} {e : TypeId} {z : Value} {cs : List AV} (ho : o.op = .alloc e) (hB : B.Ok) (hd : okd B.nt o.dst = true) (hz : ∀ w, (zeroValue e).run P w = .ok z w) (hcs : cellsOf (.v z) = cs)
  (hK : ∀ g, N ≤ g → K ((St'.mk s.sl (s.hp ++ [.box g ⟨cs, e, cs.length⟩]) s.k).put o.dst (.v (.pointer (some ⟨g, 0, none⟩))))) : OpM P B W s o K N := by
 subst hcs
 intro a w hr hN next Qx hn
 have h1 := hr.newBox hB _ e _ (Rep.cells (.v z) rfl)
 unfold Oper.wp
 simp only [execOp, ho, Instr.alloc, newVar, newRow, Sem.run_bind, hz, run_newObj_alloc, Result.andThen_ok, Sem.run_pure]
 exact hn _ _ _ (hK _ hN) (h1.put _ hd _ _ (.v _)) (.ofN ((Chg.refl _ _).alloc _))
def EachM (P : Program) (B : Bs) (V : Nat → Nat → Prop) (ops : Array Oper) (Q : Exit → St' → Prop) (n : Nat) (L : Array Bool) (s : St') (N : Nat) : List Nat → Prop
 | [] => True
 | i :: r => (∃ o, ops[i]? = some o ∧ o.guard = none ∧ OpM P B (V i) s o (fun s' => VM P B V ops Q n (L.setIfInBounds i true) s' N) N) ∧ EachM P B V ops Q n L s N r
theorem VM.all {rs : List Nat} (hr : Region.ready .any ops L = rs) (hne : rs ≠ []) (h : EachM P B V ops Q n L s N rs) : VM P B V ops Q (n + 1) L s N := fun a w hR hN => by
 refine ⟨fun h0 => absurd (hr ▸ h0) hne, fun i hi => ?_⟩
 rw [hr] at hi
 have key : ∀ rs, EachM P B V ops Q n L s N rs → i ∈ rs → ∃ o, ops[i]? = some o ∧ o.guard = none ∧ OpM P B (V i) s o (fun s' => VM P B V ops Q n (L.setIfInBounds i true) s' N) N := by
  intro rs
  induction rs with
  | nil => intro _ h; simp at h
  | cons j r ih =>
   intro h hi
   rcases List.mem_cons.1 hi with rfl | hi
   ·exact h.1
   ·exact ih h.2 hi
 obtain ⟨o, ho, hg, hop⟩ := key rs h hi
 unfold wpOp
 simp only [ho]
 have hwant : Region.wanted o (yielded ops a.tmps) = true := by simp [Region.wanted, hg]
 rw [if_pos hwant]
 exact .inl (hop a w hR hN _ _ fun s' a' w' k1 k2 k3 => ⟨k3, k1 a' w' k2 (Nat.le_trans hN k3.size)⟩)
theorem VM.le {s' : St'} (h : Le B s s') (k : VM P B V ops Q n L s' N) : VM P B V ops Q n L s N := fun a w hr => k a w (h a w hr)
end
end Go.Proofs.YtbbgjeiefmiblaaGreatDoor
namespace Go.Proofs.YtbbgjeiefmiblaaGreatDoor
open Go.RowKit
set_option linter.unusedVariables false
set_option linter.unusedSimpArgs false
theorem OpVN.load_at {P : Program} {B : Bs} {s : St'} {o : Oper} {N : Nat} {W : Nat → Prop} {x : Operand} {t m : Nat} {F : Nat → AV} (ho : o.op = .load t x) (hB : B.Ok) (hW : ∀ b, W b → N ≤ b) (hag : ∀ w, (isAgg t).run P w = .ok false w) (hx : evO s x = some (.at_ m F)) (hm : Nat.blt 0 m = true) : OpVN P B W s o (F 0) N := by
 intro a w hr hN
 have := hr.ev hx
 generalize hv : a.eval x = u at this
 have hm' : 0 < m := by simpa using hm
 cases this with
 | at_ m f' b off c e u hZ hb hc hr' =>
  refine ⟨u 0, fun w' hcw => ?_, hr' 0 hm'⟩
  have hb' := (new_keep hB hr (fun b h => hN ▸ hW b h) hcw hZ).trans hb
  have hcell : w'.cell? ⟨b, off, none⟩ = some (u 0) := by simpa [World.cell?, hb'] using hc 0 hm'
  simp [execOp, ho, hv, Instr.loadAt, Instr.sureAddr, loadVar, hag, load, Sem.run, hcell]
end Go.Proofs.YtbbgjeiefmiblaaGreatDoor
namespace Go.Proofs.YtbbgjeiefmiblaaGreatDoor
open Go.RowKit
set_option linter.unusedVariables false
set_option linter.unusedSimpArgs false
theorem splitS_sz {c : UInt8} : ∀ (n : Nat) (s : ByteArray), s.size ≤ n → ∀ x ∈ splitS c s, x.size ≤ s.size
 | 0, s, h, x, hx => by
  by_cases hi : Lib.indexByte (byL s) c < 0
  ·rw [splitS_none hi] at hx; simp at hx; subst hx; exact Nat.le_refl _
  ·obtain ⟨m, hm⟩ : ∃ m : Nat, Lib.indexByte (byL s) c = m := ⟨(Lib.indexByte (byL s) c).toNat, by omega⟩
   have := (splitS_some hm).1
   omega
 | n + 1, s, h, x, hx => by
  by_cases hi : Lib.indexByte (byL s) c < 0
  ·rw [splitS_none hi] at hx; simp at hx; subst hx; exact Nat.le_refl _
  ·obtain ⟨m, hm⟩ : ∃ m : Nat, Lib.indexByte (byL s) c = m := ⟨(Lib.indexByte (byL s) c).toNat, by omega⟩
   obtain ⟨h1, h2⟩ := splitS_some hm
   rw [h2] at hx
   rcases List.mem_cons.1 hx with rfl | hx
   ·rw [ByteArray.size_extract]; omega
   ·have hz : (s.extract (m + 1) s.size).size ≤ n := by rw [ByteArray.size_extract]; omega
    have := splitS_sz n _ hz x hx
    rw [ByteArray.size_extract] at this
    omega
theorem getD_sz {l : List ByteArray} {n : Nat} (h : ∀ x ∈ l, x.size ≤ n) (i : Nat) : (l.getD i ByteArray.empty).size ≤ n := by
 rw [List.getD_eq_getElem?_getD]
 cases hi : l[i]? with
 | none => exact Nat.zero_le _
 | some x => exact h x (List.mem_of_getElem? hi)
theorem splitS_get (c : UInt8) (s : ByteArray) (i : Nat) : ((splitS c s).getD i ByteArray.empty).size ≤ s.size := getD_sz (splitS_sz s.size s (Nat.le_refl _)) i
theorem splitS_length (c : UInt8) (s : ByteArray) : (splitS c s).length ≤ s.size + 1 := by
 rw [splitS_len]
 have : Lib.countByte (byL s) c ≤ s.size := by rw [← byL_len]; exact List.count_le_length
 omega
theorem linesR_get (s : ByteArray) (i : Nat) : ((linesR s).getD i ByteArray.empty).size ≤ s.size := by
 unfold linesR
 split
 ·simp
 ·exact Nat.le_trans (splitS_get _ _ i) (trimSuffix_size s ⟨#[10]⟩)
theorem linesR_length (s : ByteArray) : (linesR s).length ≤ s.size + 1 := by
 unfold linesR
 split
 ·exact Nat.zero_le _
 ·have := splitS_length 10 (bytesOf (Lib.trimSuffix (byL s) [10]))
  have h2 := trimSuffix_size s ⟨#[10]⟩
  have h3 : (bytesOf (Lib.trimSuffix (byL s) [10])).size ≤ s.size := h2
  omega
abbrev w8 (s : ByteArray) (i : Nat) : ByteArray := (splitS 32 s).getD i ByteArray.empty
section
variable {text : ByteArray}
end
section
variable {o A B C D : Bool} (h : o = (A && (B && (C || D))))
include h
end

end Go.Proofs.YtbbgjeiefmiblaaGreatDoor
namespace Go.Proofs.YtbbgjeiefmiblaaGreatDoor
open Go.RowKit
set_option linter.unusedVariables false
set_option linter.unusedSimpArgs false

structure PaceS where
 product : ByteArray
 cycle : Int
 needs : List NeedS
instance : Inhabited PaceS := ⟨⟨ByteArray.empty, 0, []⟩⟩
instance : Sxc PaceS where
 k := 3
 pos := by decide
 cell m j := match j with
  | 0 => avS m.product
  | 1 => avI m.cycle
  | 2 => avL m.needs
  | _ => .any
structure OrdrS where
 key : ByteArray
 product : ByteArray
 count : Int
 ready : Int
 due : Int
instance : Inhabited OrdrS := ⟨⟨ByteArray.empty, ByteArray.empty, 0, 0, 0⟩⟩
instance : Sxc OrdrS where
 k := 5
 pos := by decide
 cell m j := match j with
  | 0 => avS m.key
  | 1 => avS m.product
  | 2 => avI m.count
  | 3 => avI m.ready
  | 4 => avI m.due
  | _ => .any
structure WinS where
 fr : Int
 to : Int
instance : Inhabited WinS := ⟨⟨0, 0⟩⟩
instance : Sxc WinS where
 k := 2
 pos := by decide
 cell m j := match j with
  | 0 => avI m.fr
  | 1 => avI m.to
  | _ => .any
abbrev avPc (x : PaceS) : AV := .agg [avS x.product, avI x.cycle, avL x.needs]
structure SmPc (p : List PaceS) : Prop where
 len : p.length ≤ 1000000
 prod : ∀ i, (p.getD i default).product.size ≤ 1000000
 nlen : ∀ i, (p.getD i default).needs.length ≤ 1000000
 nkey : ∀ i j, ((p.getD i default).needs.getD j default).key.size ≤ 1000000
structure SmOr (o : List OrdrS) : Prop where
 len : o.length ≤ 1000000
 key : ∀ i, (o.getD i default).key.size ≤ 1000000
 prod : ∀ i, (o.getD i default).product.size ≤ 1000000
def paceE (p : List PaceS) (i : Nat) : Int :=
 if keyF (p.getD i default).product = false then 5
 else if (decide (0 < i) && sLe (p.getD i default).product (p.getD (i - 1) default).product) = true then 7
 else if outR (p.getD i default).cycle 1 10000000 = true then 1
 else needsF (p.getD i default).needs 1 1000
def paceF (p : List PaceS) : Int := if 200 < p.length then 2 else firstE (paceE p) p.length
def ordrE (o : List OrdrS) (i : Nat) : Int :=
 if (keyF (o.getD i default).key && keyF (o.getD i default).product) = false then 5
 else if (outR (o.getD i default).count 1 100000 || (outR (o.getD i default).ready 0 345686399999 || outR (o.getD i default).due 0 345686399999)) = true then 1
 else if (decide (0 < i) && sLe (o.getD i default).key (o.getD (i - 1) default).key) = true then 7
 else 0
def ordrF (o : List OrdrS) : Int := if 200 < o.length then 2 else firstE (ordrE o) o.length
section
variable {p : List PaceS} {i : Nat}
theorem paceE_5 (h : keyF (p.getD i default).product = false) : paceE p i = 5 := by rw [paceE, if_pos h]
theorem paceE_7 (h : keyF (p.getD i default).product = true) (hi : 0 < i) (hs : sLe (p.getD i default).product (p.getD (i - 1) default).product = true) : paceE p i = 7 := by
 rw [paceE, if_neg (by rw [h]; simp), if_pos (by rw [hs, decide_eq_true hi]; rfl)]
theorem paceE_x (h : keyF (p.getD i default).product = true) (hs : i = 0 ∨ sLe (p.getD i default).product (p.getD (i - 1) default).product = false) :
  paceE p i = if outR (p.getD i default).cycle 1 10000000 = true then 1 else needsF (p.getD i default).needs 1 1000 := by
 rw [paceE, if_neg (by rw [h]; simp), if_neg]
 rcases hs with rfl | hs
 ·simp
 ·rw [hs]; simp
theorem paceE_1 (h : keyF (p.getD i default).product = true) (hs : i = 0 ∨ sLe (p.getD i default).product (p.getD (i - 1) default).product = false) (ho : outR (p.getD i default).cycle 1 10000000 = true) : paceE p i = 1 := by rw [paceE_x h hs, if_pos ho]
theorem paceE_n (h : keyF (p.getD i default).product = true) (hs : i = 0 ∨ sLe (p.getD i default).product (p.getD (i - 1) default).product = false) (ho : outR (p.getD i default).cycle 1 10000000 = false) : paceE p i = needsF (p.getD i default).needs 1 1000 := by rw [paceE_x h hs, if_neg (by rw [ho]; simp)]
theorem paceF_2 (h : 200 < p.length) : paceF p = 2 := by rw [paceF, if_pos h]
theorem paceF_at (h : p.length ≤ 200) {q : Nat} (hq : q < p.length) (hn : ∀ j, j < q → paceE p j = 0) {e : Int} (he : paceE p q = e) (h0 : e ≠ 0) : paceF p = e := by
 rw [paceF, if_neg (by omega), firstE_found hn (by rw [he]; exact h0) hq, he]
theorem paceF_ok (h : p.length ≤ 200) (hn : ∀ j, j < p.length → paceE p j = 0) : paceF p = 0 := by rw [paceF, if_neg (by omega), firstE_none hn]
end
section
variable {o : List OrdrS} {i : Nat}
theorem ordrE_5a (h : keyF (o.getD i default).key = false) : ordrE o i = 5 := by rw [ordrE, if_pos (by rw [h]; rfl)]
theorem ordrE_5b (h : keyF (o.getD i default).product = false) : ordrE o i = 5 := by rw [ordrE, if_pos (by rw [h, Bool.and_false])]
theorem ordrE_1 (h1 : keyF (o.getD i default).key = true) (h2 : keyF (o.getD i default).product = true) (ho : (outR (o.getD i default).count 1 100000 || (outR (o.getD i default).ready 0 345686399999 || outR (o.getD i default).due 0 345686399999)) = true) : ordrE o i = 1 := by
 rw [ordrE, if_neg (by rw [h1, h2]; simp), if_pos ho]
theorem ordrE_7 (h1 : keyF (o.getD i default).key = true) (h2 : keyF (o.getD i default).product = true) (ho : (outR (o.getD i default).count 1 100000 || (outR (o.getD i default).ready 0 345686399999 || outR (o.getD i default).due 0 345686399999)) = false) (hi : 0 < i) (hs : sLe (o.getD i default).key (o.getD (i - 1) default).key = true) : ordrE o i = 7 := by
 rw [ordrE, if_neg (by rw [h1, h2]; simp), if_neg (by rw [ho]; simp), if_pos (by rw [hs, decide_eq_true hi]; rfl)]
theorem ordrE_0 (h1 : keyF (o.getD i default).key = true) (h2 : keyF (o.getD i default).product = true) (ho : (outR (o.getD i default).count 1 100000 || (outR (o.getD i default).ready 0 345686399999 || outR (o.getD i default).due 0 345686399999)) = false) (hs : i = 0 ∨ sLe (o.getD i default).key (o.getD (i - 1) default).key = false) : ordrE o i = 0 := by
 rw [ordrE, if_neg (by rw [h1, h2]; simp), if_neg (by rw [ho]; simp), if_neg]
 rcases hs with rfl | hs
 ·simp
 ·rw [hs]; simp
theorem ordrF_2 (h : 200 < o.length) : ordrF o = 2 := by rw [ordrF, if_pos h]
theorem ordrF_at (h : o.length ≤ 200) {q : Nat} (hq : q < o.length) (hn : ∀ j, j < q → ordrE o j = 0) {e : Int} (he : ordrE o q = e) (h0 : e ≠ 0) : ordrF o = e := by
 rw [ordrF, if_neg (by omega), firstE_found hn (by rw [he]; exact h0) hq, he]
theorem ordrF_ok (h : o.length ≤ 200) (hn : ∀ j, j < o.length → ordrE o j = 0) : ordrF o = 0 := by rw [ordrF, if_neg (by omega), firstE_none hn]
end
def hasP (p : List PaceS) (k : ByteArray) : Bool := p.any fun x => sEq x.product k
def paceO (p : List PaceS) (k : ByteArray) : PaceS := (p.find? fun x => sEq x.product k).getD default
def bothF (p : List PaceS) (o : List OrdrS) : Int :=
 if paceF p ≠ 0 then paceF p else if ordrF o ≠ 0 then ordrF o else if o.all (fun x => hasP p x.product) = true then 0 else 8
theorem bothF_1 {p : List PaceS} {o : List OrdrS} (h : paceF p ≠ 0) : bothF p o = paceF p := by rw [bothF, if_pos h]
theorem bothF_2 {p : List PaceS} {o : List OrdrS} (h : paceF p = 0) (h2 : ordrF o ≠ 0) : bothF p o = ordrF o := by rw [bothF, if_neg (by omega), if_pos h2]
theorem bothF_3 {p : List PaceS} {o : List OrdrS} (h : paceF p = 0) (h2 : ordrF o = 0) : bothF p o = if o.all (fun x => hasP p x.product) = true then 0 else 8 := by rw [bothF, if_neg (by omega), if_neg (by omega)]
theorem bothF_0 {p : List PaceS} {o : List OrdrS} (h : bothF p o = 0) : paceF p = 0 ∧ ordrF o = 0 ∧ o.all (fun x => hasP p x.product) = true := by
 unfold bothF at h
 split at h
 ·contradiction
 ·split at h
  ·contradiction
  ·split at h
   ·rename_i h1 h2 h3; exact ⟨by simpa using h1, by simpa using h2, h3⟩
   ·cases h
structure PacesOk (p : List PaceS) : Prop where
 len : p.length ≤ 200
 all : ∀ j, j < p.length → paceE p j = 0
theorem pacesOk {p : List PaceS} (h : paceF p = 0) : PacesOk p := by
 unfold paceF at h
 split at h
 ·cases h
 ·exact ⟨by omega, firstE_zero h⟩
structure OrdrsOk (o : List OrdrS) : Prop where
 len : o.length ≤ 200
 all : ∀ j, j < o.length → ordrE o j = 0
theorem ordrsOk {o : List OrdrS} (h : ordrF o = 0) : OrdrsOk o := by
 unfold ordrF at h
 split at h
 ·cases h
 ·exact ⟨by omega, firstE_zero h⟩
theorem paceE_zero {p : List PaceS} {i : Nat} (h : paceE p i = 0) : keyF (p.getD i default).product = true ∧ (0 < i → sLe (p.getD i default).product (p.getD (i - 1) default).product = false) ∧ (1 ≤ (p.getD i default).cycle ∧ (p.getD i default).cycle ≤ 10000000) ∧ needsF (p.getD i default).needs 1 1000 = 0 := by
 unfold paceE at h
 split at h
 ·cases h
 ·rename_i h1
  split at h
  ·cases h
  ·rename_i h2
   split at h
   ·cases h
   ·rename_i h3
    refine ⟨by simpa using h1, fun hi => ?_, ?_, h⟩
    ·rw [decide_eq_true hi, Bool.true_and] at h2
     simpa using h2
    ·simp only [outR, Bool.or_eq_true, decide_eq_true_eq, not_or] at h3
     omega
theorem ordrE_zero {o : List OrdrS} {i : Nat} (h : ordrE o i = 0) : (keyF (o.getD i default).key = true ∧ keyF (o.getD i default).product = true) ∧ (0 < i → sLe (o.getD i default).key (o.getD (i - 1) default).key = false) ∧ (1 ≤ (o.getD i default).count ∧ (o.getD i default).count ≤ 100000) ∧ (0 ≤ (o.getD i default).ready ∧ (o.getD i default).ready ≤ 345686399999) ∧ (0 ≤ (o.getD i default).due ∧ (o.getD i default).due ≤ 345686399999) := by
 unfold ordrE at h
 split at h
 ·cases h
 ·rename_i h1
  split at h
  ·cases h
  ·rename_i h2
   split at h
   ·cases h
   ·rename_i h3
    have h1' : (keyF (o.getD i default).key && keyF (o.getD i default).product) = true := by simpa using h1
    rw [Bool.and_eq_true] at h1'
    simp only [outR, Bool.or_eq_true, decide_eq_true_eq, not_or] at h2
    refine ⟨h1', fun hi => ?_, by omega, by omega, by omega⟩
    rw [decide_eq_true hi, Bool.true_and] at h3
    simpa using h3
def chgN (a b : List NeedS) (q : Nat) : Nat := ((b.take q).filter fun x => !(a.any fun y => sEq y.key x.key)).length
theorem chgN_le (a b : List NeedS) (q : Nat) : chgN a b q ≤ b.length := by
 unfold chgN
 have := List.length_filter_le (fun x => !(a.any fun y => sEq y.key x.key)) (b.take q)
 rw [List.length_take] at this
 omega
theorem chgN_t {a b : List NeedS} {q : Nat} (h : q < b.length) (hx : a.any (fun y => sEq y.key (b.getD q default).key) = false) : chgN a b (q + 1) = chgN a b q + 1 := by
 unfold chgN
 rw [List.take_add_one, List.getElem?_eq_getElem h, List.filter_append, List.length_append]
 have : b.getD q default = b[q] := by rw [List.getD_eq_getElem?_getD, List.getElem?_eq_getElem h]; rfl
 rw [this] at hx
 simp [hx]
theorem chgN_f {a b : List NeedS} {q : Nat} (h : q < b.length) (hx : a.any (fun y => sEq y.key (b.getD q default).key) = true) : chgN a b (q + 1) = chgN a b q := by
 unfold chgN
 rw [List.take_add_one, List.getElem?_eq_getElem h, List.filter_append, List.length_append]
 have : b.getD q default = b[q] := by rw [List.getD_eq_getElem?_getD, List.getElem?_eq_getElem h]; rfl
 rw [this] at hx
 simp [hx]
def chgI (a b : PaceS) (each : Int) : Int := each * (chgN a.needs b.needs b.needs.length : Int)
def schF (n : Nat) (l : List Int) : Int := if l.length = n ∧ l.Nodup ∧ (∀ x ∈ l, 0 ≤ x ∧ x < n) then 0 else 3
def startF (start each : Int) : Int := if (outR start 0 345686399999 || outR each 0 10000000) = true then 1 else 0
def scheF (p : List PaceS) (o : List OrdrS) (l : List Int) (start each : Int) : Int :=
 if bothF p o ≠ 0 then bothF p o else if schF o.length l ≠ 0 then schF o.length l else startF start each
def longO (p : List PaceS) (x : OrdrS) : Int := (paceO p x.product).cycle * x.count
def turnO (p : List PaceS) (each : Int) (x y : OrdrS) : Int := chgI (paceO p x.product) (paceO p y.product) each
structure ResS where
 late : Int
 many : Int
 en : Int
section
variable (p : List PaceS) (o : List OrdrS) (l : List Int) (start each : Int)
abbrev orA (i : Int) : OrdrS := o.getD i.toNat default
def endP : Nat → Int
 | 0 => max start (orA o (l.getD 0 0)).ready + longO p (orA o (l.getD 0 0))
 | q + 1 => max (endP q + turnO p each (orA o (l.getD q 0)) (orA o (l.getD (q + 1) 0))) (orA o (l.getD (q + 1) 0)).ready + longO p (orA o (l.getD (q + 1) 0))
def fromP : Nat → Int
 | 0 => max start (orA o (l.getD 0 0)).ready
 | q + 1 => max (endP p o l start each q + turnO p each (orA o (l.getD q 0)) (orA o (l.getD (q + 1) 0))) (orA o (l.getD (q + 1) 0)).ready
def winP (q : Nat) : WinS := ⟨fromP p o l start each q, endP p o l start each q⟩
theorem endP_from (q : Nat) : endP p o l start each q = fromP p o l start each q + longO p (orA o (l.getD q 0)) := by cases q <;> rfl
def resP : Nat → ResS
 | 0 => ⟨0, 0, start⟩
 | q + 1 => if (orA o (l.getD q 0)).due < endP p o l start each q
   then ⟨(resP q).late + (endP p o l start each q - (orA o (l.getD q 0)).due), (resP q).many + 1, endP p o l start each q⟩
   else ⟨(resP q).late, (resP q).many, endP p o l start each q⟩
theorem resP_en (q : Nat) : (resP p o l start each (q + 1)).en = endP p o l start each q := by rw [resP]; split <;> rfl
def timesQ : Nat → List WinS
 | 0 => List.replicate o.length default
 | q + 1 => (timesQ q).set (l.getD q 0).toNat (winP p o l start each q)
theorem timesQ_len (q : Nat) : (timesQ p o l start each q).length = o.length := by
 induction q with
 | zero => simp [timesQ]
 | succ q ih => simp [timesQ, ih]
end
end Go.Proofs.YtbbgjeiefmiblaaGreatDoor
namespace Go.Proofs.YtbbgjeiefmiblaaGreatDoor
open Go.RowKit
set_option linter.unusedVariables false
set_option linter.unusedSimpArgs false
theorem pace_rise {p : List PaceS} (h : PacesOk p) : RiseK PaceS.product p := fun j h0 hj => (paceE_zero (h.all j hj)).2.1 h0
theorem needsF_lenP {l : List NeedS} {lo hi : Int} (h : needsF l lo hi = 0) : l.length ≤ 1000 := by
 unfold needsF at h
 split at h
 ·cases h
 ·omega
theorem paceO_in {p : List PaceS} {k : ByteArray} (h : hasP p k = true) : ∃ j, j < p.length ∧ paceO p k = p.getD j default := by
 unfold hasP at h
 cases hf : p.find? (fun x => sEq x.product k) with
 | none => rw [List.find?_eq_none] at hf; obtain ⟨x, hx, he⟩ := List.any_eq_true.1 h; exact absurd he (hf x hx)
 | some x =>
  obtain ⟨j, hj, e⟩ := List.getElem_of_mem (List.mem_of_find?_eq_some hf)
  refine ⟨j, hj, ?_⟩
  rw [paceO, hf, List.getD_eq_getElem?_getD, List.getElem?_eq_getElem hj, e]
theorem paceO_ok {p : List PaceS} (hp : PacesOk p) {k : ByteArray} (h : hasP p k = true) : (1 ≤ (paceO p k).cycle ∧ (paceO p k).cycle ≤ 10000000) ∧ (paceO p k).needs.length ≤ 1000 := by
 obtain ⟨j, hj, e⟩ := paceO_in h
 rw [e]
 have := paceE_zero (hp.all j hj)
 exact ⟨this.2.2.1, needsF_lenP this.2.2.2⟩
theorem paceO_sm {p : List PaceS} (hp : SmPc p) (k : ByteArray) : (paceO p k).needs.length ≤ 1000000 ∧ ∀ j, ((paceO p k).needs.getD j default).key.size ≤ 1000000 := by
 by_cases h : hasP p k = true
 ·obtain ⟨j, _, e⟩ := paceO_in h
  rw [e]; exact ⟨hp.nlen j, hp.nkey j⟩
 ·have : paceO p k = default := by
   unfold paceO
   exact find_none' (by simpa [hasP] using h)
  rw [this]
  exact ⟨by simp [default], fun j => by simp [default]⟩
theorem mul_bd {a b A B : Int} (h0 : 0 ≤ a) (h1 : a ≤ A) (h2 : 0 ≤ b) (h3 : b ≤ B) : 0 ≤ a * b ∧ a * b ≤ A * B :=
 ⟨Int.mul_nonneg h0 h2, Int.le_trans (Int.mul_le_mul_of_nonneg_right h1 h2) (Int.mul_le_mul_of_nonneg_left h3 (Int.le_trans h0 h1))⟩
structure OrdrsB (o : List OrdrS) : Prop where
 len : o.length ≤ 201
 all : ∀ j, j < o.length → (1 ≤ (o.getD j default).count ∧ (o.getD j default).count ≤ 100000) ∧ (0 ≤ (o.getD j default).ready ∧ (o.getD j default).ready ≤ 345686399999) ∧ (0 ≤ (o.getD j default).due ∧ (o.getD j default).due ≤ 345686399999)
theorem OrdrsOk.bd {o : List OrdrS} (h : OrdrsOk o) : OrdrsB o := ⟨by have := h.len; omega, fun j hj => (ordrE_zero (h.all j hj)).2.2⟩
structure SchOk (p : List PaceS) (o : List OrdrS) (l : List Int) (start each : Int) : Prop where
 pok : PacesOk p
 ook : OrdrsB o
 has : ∀ j, j < o.length → hasP p (o.getD j default).product = true
 len : l.length = o.length
 ord : Ord o.length l
 st : 0 ≤ start ∧ start ≤ 345686399999
 ea : 0 ≤ each ∧ each ≤ 10000000
theorem bothF_has {p : List PaceS} {o : List OrdrS} (h : bothF p o = 0) : ∀ j, j < o.length → hasP p (o.getD j default).product = true := fun j hj => by
 have := List.all_eq_true.1 (bothF_0 h).2.2 (o[j]) (List.getElem_mem hj)
 rwa [List.getD_eq_getElem?_getD, List.getElem?_eq_getElem hj]
theorem schF_0 {n : Nat} {l : List Int} (h : schF n l = 0) : l.length = n ∧ Ord n l := by
 unfold schF at h
 split at h
 ·rename_i h1; exact ⟨h1.1, h1.2.1, h1.2.2⟩
 ·cases h
theorem startF_0 {s e : Int} (h : startF s e = 0) : (0 ≤ s ∧ s ≤ 345686399999) ∧ (0 ≤ e ∧ e ≤ 10000000) := by
 unfold startF at h
 split at h
 ·cases h
 ·rename_i h1
  simp only [outR, Bool.or_eq_true, decide_eq_true_eq, not_or] at h1
  omega
theorem schOk {p : List PaceS} {o : List OrdrS} {l : List Int} {s e : Int} (h : scheF p o l s e = 0) : SchOk p o l s e := by
 unfold scheF at h
 split at h
 ·contradiction
 ·split at h
  ·contradiction
  ·rename_i h1 h2
   have h1' : bothF p o = 0 := by simpa using h1
   have h2' : schF o.length l = 0 := by simpa using h2
   have h3 := bothF_0 h1'
   have h4 := startF_0 h
   exact ⟨pacesOk h3.1, (ordrsOk h3.2.1).bd, bothF_has h1', (schF_0 h2').1, (schF_0 h2').2, h4.1, h4.2⟩
section
variable {p : List PaceS} {o : List OrdrS} {l : List Int} {start each : Int} (h : SchOk p o l start each)
include h
theorem SchOk.at_ {q : Nat} (hq : q < l.length) : 0 ≤ l.getD q 0 ∧ (l.getD q 0).toNat < o.length := by
 have := h.ord.lt (l[q]) (List.getElem_mem hq)
 rw [List.getD_eq_getElem?_getD, List.getElem?_eq_getElem hq]
 simp only [Option.getD_some]
 omega
theorem SchOk.long {i : Nat} (hi : i < o.length) : 0 ≤ longO p (o.getD i default) ∧ longO p (o.getD i default) ≤ 1000000000000 := by
 have h1 := (paceO_ok h.pok (h.has i hi)).1
 have h2 := (h.ook.all i hi).1
 have := mul_bd (by omega : 0 ≤ (paceO p (o.getD i default).product).cycle) h1.2 (by omega : 0 ≤ (o.getD i default).count) h2.2
 unfold longO
 omega
theorem SchOk.turn {i j : Nat} (hj : j < o.length) : 0 ≤ turnO p each (o.getD i default) (o.getD j default) ∧ turnO p each (o.getD i default) (o.getD j default) ≤ 10000000000 := by
 have h1 := (paceO_ok h.pok (h.has j hj)).2
 have h2 := chgN_le (paceO p (o.getD i default).product).needs (paceO p (o.getD j default).product).needs (paceO p (o.getD j default).product).needs.length
 have := mul_bd h.ea.1 h.ea.2 (by omega : (0 : Int) ≤ (chgN (paceO p (o.getD i default).product).needs (paceO p (o.getD j default).product).needs (paceO p (o.getD j default).product).needs.length : Int)) (by omega : _ ≤ (1000 : Int))
 unfold turnO chgI
 omega
theorem SchOk.bd : ∀ q, q < l.length → (0 ≤ fromP p o l start each q ∧ fromP p o l start each q ≤ endP p o l start each q) ∧ endP p o l start each q ≤ 345686400000 + (q + 1) * 1010000000000
 | 0, hq => by
  have h1 := h.at_ hq
  have h2 := h.long h1.2
  have h3 := (h.ook.all _ h1.2).2.1
  have h4 := h.st
  simp only [fromP, endP, orA]
  omega
 | q + 1, hq => by
  have h1 := h.at_ hq
  have h2 := h.long h1.2
  have h3 := (h.ook.all _ h1.2).2.1
  have h5 := SchOk.bd q (by omega)
  have h6 := h.turn (i := (l.getD q 0).toNat) h1.2
  simp only [fromP, endP, orA]
  omega
theorem SchOk.res : ∀ q, q ≤ l.length → (0 ≤ (resP p o l start each q).late ∧ (resP p o l start each q).late ≤ q * 300000000000000) ∧ (0 ≤ (resP p o l start each q).many ∧ (resP p o l start each q).many ≤ q) ∧ (0 ≤ (resP p o l start each q).en ∧ (resP p o l start each q).en ≤ 300000000000000)
 | 0, hq => by
  have h4 := h.st
  simp only [resP]
  omega
 | q + 1, hq => by
  have h1 := h.at_ (q := q) (by omega)
  have h3 := (h.ook.all _ h1.2).2.2
  have h5 := h.bd q (by omega)
  have h6 := SchOk.res q (by omega)
  have h7 := h.ook.len
  have h8 := h.len
  simp only [resP, orA]
  split
  ·rename_i hd
   simp only
   omega
  ·simp only
   omega
end
def schC (p : List PaceS) (o : List OrdrS) (each : Int) : Nat → AV
 | 0 => avL o
 | 1 => avInts (o.map (longO p))
 | _ => avM (o.map fun x => o.map (turnO p each x))
def schAV (p : List PaceS) (o : List OrdrS) (l : List Int) (start each : Int) : AV := if scheF p o l start each = 0 then .at_ 3 (schC p o each) else .v (.pointer none)
def timesR (p : List PaceS) (o : List OrdrS) (l : List Int) (start each : Int) : List WinS := if scheF p o l start each = 0 then timesQ p o l start each l.length else []
theorem scheF_1 {p : List PaceS} {o : List OrdrS} {l : List Int} {s e : Int} (h : bothF p o ≠ 0) : scheF p o l s e = bothF p o := by rw [scheF, if_pos h]
theorem scheF_2 {p : List PaceS} {o : List OrdrS} {l : List Int} {s e : Int} (h : bothF p o = 0) (h2 : schF o.length l ≠ 0) : scheF p o l s e = schF o.length l := by rw [scheF, if_neg (by omega), if_pos h2]
theorem scheF_3 {p : List PaceS} {o : List OrdrS} {l : List Int} {s e : Int} (h : bothF p o = 0) (h2 : schF o.length l = 0) : scheF p o l s e = startF s e := by rw [scheF, if_neg (by omega), if_neg (by omega)]
theorem schAV_no {p : List PaceS} {o : List OrdrS} {l : List Int} {s e : Int} (h : scheF p o l s e ≠ 0) : schAV p o l s e = .v (.pointer none) := by rw [schAV, if_neg h]
theorem schAV_ok {p : List PaceS} {o : List OrdrS} {l : List Int} {s e : Int} (h : scheF p o l s e = 0) : schAV p o l s e = .at_ 3 (schC p o e) := by rw [schAV, if_pos h]
theorem resP_t {p : List PaceS} {o : List OrdrS} {l : List Int} {s e : Int} {q : Nat} (h : (orA o (l.getD q 0)).due < endP p o l s e q) : resP p o l s e (q + 1) = ⟨(resP p o l s e q).late + (endP p o l s e q - (orA o (l.getD q 0)).due), (resP p o l s e q).many + 1, endP p o l s e q⟩ := by rw [resP, if_pos h]
theorem resP_f {p : List PaceS} {o : List OrdrS} {l : List Int} {s e : Int} {q : Nat} (h : ¬ (orA o (l.getD q 0)).due < endP p o l s e q) : resP p o l s e (q + 1) = ⟨(resP p o l s e q).late, (resP p o l s e q).many, endP p o l s e q⟩ := by rw [resP, if_neg h]
theorem map_getD {α β : Type} (f : α → β) {l : List α} {i : Nat} (h : i < l.length) (d : α) (e : β) : (l.map f).getD i e = f (l.getD i d) := by
 simp [List.getD_eq_getElem?_getD, h]
def runA {τ : Type} (step : τ → Int → WinS → τ) (p : List PaceS) (o : List OrdrS) (l : List Int) (start each : Int) (a : τ) : Nat → τ
 | 0 => a
 | q + 1 => step (runA step p o l start each a q) (l.getD q 0) (winP p o l start each q)
theorem runA_times (p : List PaceS) (o : List OrdrS) (l : List Int) (start each : Int) : ∀ q, runA (fun (a : List WinS) i w => a.set i.toNat w) p o l start each (List.replicate o.length default) q = timesQ p o l start each q
 | 0 => rfl
 | q + 1 => by rw [runA, runA_times p o l start each q]; rfl
def DoesW (n : Nat) {τ : Type} (K : τ → List Ent → Prop) (step : τ → Int → WinS → τ) (P : Program) (F : FuncId) (caps : Array Value) : Prop :=
 ∀ (i : Int) (w : WinS) (a : τ) (h : List Ent), 0 ≤ i → i.toNat < n → K a h →
  SpecH P F ([avI i, .agg [avI w.fr, avI w.to]] ++ caps.toList.map .v) h (fun y hp' => K (step a i w) hp')
theorem map_snoc {α β : Type} {l : List α} {q : Nat} (f : α → β) (h : q < l.length) (d : α) : (l.take (q + 1)).map f = (l.take q).map f ++ [f (l.getD q d)] := by
 rw [List.take_add_one, List.map_append, List.getD_eq_getElem?_getD, List.getElem?_eq_getElem h]; rfl
theorem Ord.take {n : Nat} {l : List Int} {q : Nat} (h : Ord n (l.take q)) (hq : q < l.length) (h0 : 0 ≤ l.getD q 0) (h1 : (l.getD q 0).toNat < n) (h2 : l.getD q 0 ∉ l.take q) : Ord n (l.take (q + 1)) := by
 have := h.snoc h1 (by rwa [Int.toNat_of_nonneg h0])
 rw [Int.toNat_of_nonneg h0] at this
 rw [List.take_add_one, List.getElem?_eq_getElem hq]
 rwa [List.getD_eq_getElem?_getD, List.getElem?_eq_getElem hq] at this
theorem schF_len {n : Nat} {l : List Int} (h : l.length ≠ n) : schF n l = 3 := by rw [schF, if_neg fun e => h e.1]
theorem schF_out {n : Nat} {l : List Int} {q : Nat} (hq : q < l.length) (h : l.getD q 0 < 0 ∨ (n : Int) ≤ l.getD q 0) : schF n l = 3 := by
 rw [schF, if_neg fun e => ?_]
 have := e.2.2 (l[q]) (List.getElem_mem hq)
 rw [List.getD_eq_getElem?_getD, List.getElem?_eq_getElem hq] at h
 simp only [Option.getD_some] at h
 omega
theorem schF_twice {n : Nat} {l : List Int} {q : Nat} (hq : q < l.length) (h : l.getD q 0 ∈ l.take q) : schF n l = 3 := by
 rw [schF, if_neg fun e => ?_]
 rw [List.getD_eq_getElem?_getD, List.getElem?_eq_getElem hq] at h
 simp only [Option.getD_some] at h
 obtain ⟨i, hi, he⟩ := List.getElem_of_mem h
 simp at hi
 rw [List.getElem_take] at he
 have := List.pairwise_iff_getElem.1 e.2.1 i q (by omega) hq (by omega)
 exact this he
theorem schF_ok {n : Nat} {l : List Int} (hl : l.length = n) (h : Ord n l) : schF n l = 0 := by rw [schF, if_pos ⟨hl, h.nd, h.lt⟩]
theorem usedL_take {n : Nat} {l : List Int} {q : Nat} (hq : q < l.length) (h0 : 0 ≤ l.getD q 0) (h1 : (l.getD q 0).toNat < n) : (usedL n (l.take q)).set (l.getD q 0).toNat (avB true) = usedL n (l.take (q + 1)) := by
 rw [usedL_set h1, Int.toNat_of_nonneg h0, List.take_add_one, List.getElem?_eq_getElem hq]
 rw [List.getD_eq_getElem?_getD, List.getElem?_eq_getElem hq]
 rfl
end Go.Proofs.YtbbgjeiefmiblaaGreatDoor
namespace Go.Proofs.YtbbgjeiefmiblaaGreatDoor
open Go.RowKit
set_option linter.unusedVariables false
set_option linter.unusedSimpArgs false

set_option maxRecDepth 100000 in
theorem line_NeedsFault {l : List NeedS} {lo hi : Int} (hl : l.length ≤ 1000000000) (hb : ∀ i, (l.getD i default).key.size ≤ 1000000000) :
  SpecN Tryz.prog 260 [avL l, avI lo, avI hi] (fun y => y = avI (needsF l lo hi)) := by
 refine SpecN.of_VCN Tryz.func260 rfl Tryz.ntmps260 (Nle rfl) fun w A hB => ?_
 have hnew : True := trivial
 refine VC.sr ?_
 refine VO.ma rfl rfl rfl rfl ?_
 refine VO.nil ?_
 refine VC.seq ?_
 refine VC.sr ?_
 refine VO.mv rfl rfl rfl rfl ?_
 refine VO.val rfl rfl (OpV.len_im rfl Tryz.underlying78 rfl) ?_
 refine VO.val rfl rfl (OpV.gtr rfl rfl rfl) ?_
 refine VO.nil ?_
 refine VC.cond rfl (fun aH1b => ?_) (fun aH1b => ?_)
 ·have aH1 := aH1b
  try simp only [qqT, qqF, qqN, qqM, qqL, qqE] at aH1
  refine VC.sr ?_
  refine VO.ma rfl rfl rfl rfl ?_
  refine VO.nil ?_
  refine VC.ret ?_
  exact Exists.intro _ (And.intro (RetN.one Tryz.results260 (ResN.v rfl)) (by rw [needsF_big (by omega)]))
 ·have aH1 := aH1b
  try simp only [qqT, qqF, qqN, qqM, qqL, qqE] at aH1
  refine VC.skip ?_
  refine VC.seq ?_
  refine VC.sr ?_
  refine VO.mv rfl rfl rfl rfl ?_
  refine VO.val rfl rfl (OpV.len_im rfl Tryz.underlying78 rfl) ?_
  refine VO.mv rfl rfl rfl rfl ?_
  refine VO.nil ?_
  refine VC.block ?_
  refine VC.loopK [] trivial ({q : Nat // q ≤ l.length ∧ ∀ j, j < q → needE l lo hi j = 0}) (fun (iZ : {q : Nat // q ≤ l.length ∧ ∀ j, j < q → needE l lo hi j = 0}) => match iZ with | ⟨q, hq, hn⟩ => [(0, avL l), (1, avI lo), (2, avI hi), (12, avL l), (13, avI l.length), (14, avI (q : Int))]) (fun (iZ : {q : Nat // q ≤ l.length ∧ ∀ j, j < q → needE l lo hi j = 0}) => match iZ with | ⟨q, hq, hn⟩ => []) (fun (iZ : {q : Nat // q ≤ l.length ∧ ∀ j, j < q → needE l lo hi j = 0}) => match iZ with | ⟨q, hq, hn⟩ => 0) (fun (iZ : {q : Nat // q ≤ l.length ∧ ∀ j, j < q → needE l lo hi j = 0}) => match iZ with | ⟨q, hq, hn⟩ => l.length - q) ⟨0, Nat.zero_le _, fun j hj => absurd hj (Nat.not_lt_zero j)⟩ (Le.mk hB [] ⟨rfl, rfl, rfl, rfl, rfl, rfl, trivial⟩ rfl rfl (Nat.le_refl _)) ?_
  rintro ⟨q, hq, hn⟩
  show VC _ _ _ _ ⟨[(0, avL l), (1, avI lo), (2, avI hi), (12, avL l), (13, avI l.length), (14, avI (q : Int))] ++ [], [], 0⟩
  refine VC.sr ?_
  refine VO.val rfl rfl (OpV.lss rfl rfl rfl) ?_
  refine VO.nil ?_
  refine VC.seq ?_
  refine VC.cond rfl (fun aH2b => ?_) (fun aH2b => ?_)
  ·have aH2 := aH2b
   try simp only [qqT, qqF, qqN, qqM, qqL, qqE] at aH2
   refine VC.skip ?_
   refine VC.seq ?_
   refine VC.block ?_
   refine VC.sr ?_
   refine VO.mv rfl rfl rfl rfl ?_
   refine VO.val rfl rfl (OpV.indexAddr_E rfl Tryz.underlying78 Tryz.sizeOf82 rfl rfl rfl (by omega)) ?_
   refine VO.val rfl rfl (OpV.loadK_at rfl hB OutW.no Tryz.isAgg82 Tryz.sizeOf82 rfl rfl) ?_
   refine VO.op rfl (OpE.alloc rfl hB rfl Tryz.zeroValue82 rfl ?_)
   intro g8
   refine VO.ma rfl rfl rfl rfl ?_
   refine VO.op rfl (OpE.store (i := 0) rfl hB rfl Tryz.sizeOf82 rfl rfl rfl rfl rfl rfl (Nle rfl) trivial ?_)
   refine VO.nil ?_
   refine VC.block ?_
   refine VC.sr ?_
   refine VO.val rfl rfl (OpV.fieldAddrO 0 rfl Tryz.underlying82 rfl rfl Tryz.sizeOf9 rfl) ?_
   refine VO.val rfl rfl (OpV.load_own (i := 0) rfl hB Tryz.isAgg9 rfl rfl rfl (fun h => h)) ?_
   refine VO.op rfl (OpE.call rfl hB rfl Tryz.call113 rfl (SpecN.spec (kit_IsKey (hb _))) ?_)
   rintro _ rfl
   refine VO.val rfl rfl (OpV.not rfl rfl) ?_
   refine VO.ma rfl rfl rfl rfl ?_
   refine VO.nil ?_
   refine VC.cond rfl (fun hkb => ?_) (fun hkb => ?_)
   ·have hk := hkb
    try simp only [qqT, qqF, qqN, qqM, qqL, qqE] at hk
    refine VC.sr ?_
    refine VO.ma rfl rfl rfl rfl ?_
    refine VO.nil ?_
    refine VC.ret ?_
    exact Exists.intro _ (And.intro (RetN.one Tryz.results260 (ResN.v rfl)) (by rw [needsF_at (by omega) (by omega) hn (needE_5 hk) (by decide)]))
   ·have hk := hkb
    try simp only [qqT, qqF, qqN, qqM, qqL, qqE] at hk
    refine VC.seq ?_
    refine VC.draw (fun _ => NoB) hB (by kernel_rfl) ?_
    refine VA.take (i := 0) rfl (by kernel_rfl) (by kernel_rfl) (by kernel_rfl) rfl rfl (OpV.move (.inl rfl) rfl) ?_
    refine VA.take (i := 1) rfl (by kernel_rfl) (by kernel_rfl) (by kernel_rfl) rfl rfl (OpV.gtr rfl rfl rfl) ?_
    refine VA.take (i := 2) rfl (by kernel_rfl) (by kernel_rfl) (by kernel_rfl) rfl rfl (OpV.move (.inl rfl) rfl) ?_
    refine VA.split (t := 27) rfl (fun aK3b => ?_) (fun aK3b => ?_)
    ·have aK3 := aK3b
     try simp only [qqT, qqF, qqN, qqM, qqL, qqE] at aK3
     refine VA.takeY (i := 3) rfl (by kernel_rfl) (by kernel_rfl) (by kernel_rfl) rfl rfl rfl rfl aK3b (OpV.fieldAddrO 0 rfl Tryz.underlying82 rfl rfl Tryz.sizeOf9 rfl) ?_
     refine VA.takeY (i := 4) rfl (by kernel_rfl) (by kernel_rfl) (by kernel_rfl) rfl rfl rfl rfl aK3b (OpV.load_own (i := 0) rfl hB Tryz.isAgg9 rfl rfl rfl Wi.not0) ?_
     refine VA.takeY (i := 5) rfl (by kernel_rfl) (by kernel_rfl) (by kernel_rfl) rfl rfl rfl rfl aK3b (OpV.move (.inl rfl) rfl) ?_
     refine VA.takeY (i := 6) rfl (by kernel_rfl) (by kernel_rfl) (by kernel_rfl) rfl rfl rfl rfl aK3b (OpV.move (.inl rfl) rfl) ?_
     refine VA.takeY (i := 7) rfl (by kernel_rfl) (by kernel_rfl) (by kernel_rfl) rfl rfl rfl rfl aK3b (OpV.sub rfl rfl rfl (by unfold fits; omega)) ?_
     refine VA.takeY (i := 8) rfl (by kernel_rfl) (by kernel_rfl) (by kernel_rfl) rfl rfl rfl rfl aK3b (OpV.indexAddr_E rfl Tryz.underlying78 Tryz.sizeOf82 rfl rfl (show ((q : Int) - 1) = ((q - 1 : Nat) : Int) by omega) (by omega)) ?_
     refine VA.takeY (i := 9) rfl (by kernel_rfl) (by kernel_rfl) (by kernel_rfl) rfl rfl rfl rfl aK3b (OpV.fieldAddr_atO 0 rfl Tryz.underlying82 rfl rfl Tryz.sizeOf9 rfl rfl) ?_
     refine VA.takeY (i := 10) rfl (by kernel_rfl) (by kernel_rfl) (by kernel_rfl) rfl rfl rfl rfl aK3b (OpV.load_at rfl hB OutW.wi0 Tryz.isAgg9 rfl rfl) ?_
     refine VA.takeY (i := 11) rfl (by kernel_rfl) (by kernel_rfl) (by kernel_rfl) rfl rfl rfl rfl aK3b (OpV.sleq rfl rfl rfl) ?_
     refine VA.take (i := 12) rfl (by kernel_rfl) (by kernel_rfl) (by kernel_rfl) rfl rfl (OpV.pickT rfl rfl rfl rfl aK3b) ?_
     refine VA.take (i := 13) rfl (by kernel_rfl) (by kernel_rfl) (by kernel_rfl) rfl rfl (OpV.move (.inr rfl) rfl) ?_
     refine VA.done (by kernel_rfl) ?_
     refine VC.cond rfl (fun hsb => ?_) (fun hsb => ?_)
     ·have hs := hsb
      try simp only [qqT, qqF, qqN, qqM, qqL, qqE] at hs
      refine VC.sr ?_
      refine VO.ma rfl rfl rfl rfl ?_
      refine VO.nil ?_
      refine VC.ret ?_
      exact Exists.intro _ (And.intro (RetN.one Tryz.results260 (ResN.v rfl)) (by rw [needsF_at (by omega) (by omega) hn (needE_7 hk (by omega) hs) (by decide)]))
     ·have hs := hsb
      try simp only [qqT, qqF, qqN, qqM, qqL, qqE] at hs
      refine VC.sr ?_
      refine VO.val rfl rfl (OpV.fieldAddrO 1 rfl Tryz.underlying82 rfl rfl Tryz.sizeOf3 rfl) ?_
      refine VO.val rfl rfl (OpV.load_own (i := 0) rfl hB Tryz.isAgg3 rfl rfl rfl (fun h => h)) ?_
      refine VO.mv rfl rfl rfl rfl ?_
      refine VO.mv rfl rfl rfl rfl ?_
      refine VO.op rfl (OpE.call rfl hB rfl Tryz.call112 rfl (SpecN.spec (kit_Outside)) ?_)
      rintro _ rfl
      refine VO.ma rfl rfl rfl rfl ?_
      refine VO.nil ?_
      refine VC.cond rfl (fun hob => ?_) (fun hob => ?_)
      ·have ho := hob
       try simp only [qqT, qqF, qqN, qqM, qqL, qqE] at ho
       refine VC.sr ?_
       refine VO.ma rfl rfl rfl rfl ?_
       refine VO.nil ?_
       refine VC.ret ?_
       exact Exists.intro _ (And.intro (RetN.one Tryz.results260 (ResN.v rfl)) (by first | rw [needsF_at (by omega) (by omega) hn (needE_1 hk (.inr hs) ho) (by decide)] | rw [needsF_at (by omega) (by omega) hn (needE_1 hk (.inl (by omega)) ho) (by decide)]))
      ·have ho := hob
       try simp only [qqT, qqF, qqN, qqM, qqL, qqE] at ho
       refine VC.skip ?_
       refine VC.region ?_
       refine VO.val rfl rfl (OpV.add rfl rfl rfl (by unfold fits; omega)) ?_
       refine VO.mv rfl rfl rfl rfl ?_
       refine VO.nil ?_
       exact Exists.intro (⟨q + 1, by omega, lt_succ_cases hn (needE_0 hk (.inr hs) ho)⟩) (And.intro (Le.mk hB [] ⟨rfl, rfl, rfl, rfl, rfl, rfl, trivial⟩ rfl rfl (Nat.le_refl _)) (by first | omega | (show _ < _; omega) | (simp only []; omega)))
    ·have aK3 := aK3b
     try simp only [qqT, qqF, qqN, qqM, qqL, qqE] at aK3
     refine VA.takeX (i := 3) rfl (by kernel_rfl) (by kernel_rfl) (by kernel_rfl) rfl rfl rfl rfl aK3b ?_
     refine VA.takeX (i := 4) rfl (by kernel_rfl) (by kernel_rfl) (by kernel_rfl) rfl rfl rfl rfl aK3b ?_
     refine VA.takeX (i := 5) rfl (by kernel_rfl) (by kernel_rfl) (by kernel_rfl) rfl rfl rfl rfl aK3b ?_
     refine VA.takeX (i := 6) rfl (by kernel_rfl) (by kernel_rfl) (by kernel_rfl) rfl rfl rfl rfl aK3b ?_
     refine VA.takeX (i := 7) rfl (by kernel_rfl) (by kernel_rfl) (by kernel_rfl) rfl rfl rfl rfl aK3b ?_
     refine VA.takeX (i := 8) rfl (by kernel_rfl) (by kernel_rfl) (by kernel_rfl) rfl rfl rfl rfl aK3b ?_
     refine VA.takeX (i := 9) rfl (by kernel_rfl) (by kernel_rfl) (by kernel_rfl) rfl rfl rfl rfl aK3b ?_
     refine VA.takeX (i := 10) rfl (by kernel_rfl) (by kernel_rfl) (by kernel_rfl) rfl rfl rfl rfl aK3b ?_
     refine VA.takeX (i := 11) rfl (by kernel_rfl) (by kernel_rfl) (by kernel_rfl) rfl rfl rfl rfl aK3b ?_
     refine VA.take (i := 12) rfl (by kernel_rfl) (by kernel_rfl) (by kernel_rfl) rfl rfl (OpV.pickF rfl rfl rfl rfl aK3b) ?_
     refine VA.take (i := 13) rfl (by kernel_rfl) (by kernel_rfl) (by kernel_rfl) rfl rfl (OpV.move (.inr rfl) rfl) ?_
     refine VA.done (by kernel_rfl) ?_
     refine VC.condF rfl rfl ?_
     refine VC.sr ?_
     refine VO.val rfl rfl (OpV.fieldAddrO 1 rfl Tryz.underlying82 rfl rfl Tryz.sizeOf3 rfl) ?_
     refine VO.val rfl rfl (OpV.load_own (i := 0) rfl hB Tryz.isAgg3 rfl rfl rfl (fun h => h)) ?_
     refine VO.mv rfl rfl rfl rfl ?_
     refine VO.mv rfl rfl rfl rfl ?_
     refine VO.op rfl (OpE.call rfl hB rfl Tryz.call112 rfl (SpecN.spec (kit_Outside)) ?_)
     rintro _ rfl
     refine VO.ma rfl rfl rfl rfl ?_
     refine VO.nil ?_
     refine VC.cond rfl (fun hob => ?_) (fun hob => ?_)
     ·have ho := hob
      try simp only [qqT, qqF, qqN, qqM, qqL, qqE] at ho
      refine VC.sr ?_
      refine VO.ma rfl rfl rfl rfl ?_
      refine VO.nil ?_
      refine VC.ret ?_
      exact Exists.intro _ (And.intro (RetN.one Tryz.results260 (ResN.v rfl)) (by first | rw [needsF_at (by omega) (by omega) hn (needE_1 hk (.inr hs) ho) (by decide)] | rw [needsF_at (by omega) (by omega) hn (needE_1 hk (.inl (by omega)) ho) (by decide)]))
     ·have ho := hob
      try simp only [qqT, qqF, qqN, qqM, qqL, qqE] at ho
      refine VC.skip ?_
      refine VC.region ?_
      refine VO.val rfl rfl (OpV.add rfl rfl rfl (by unfold fits; omega)) ?_
      refine VO.mv rfl rfl rfl rfl ?_
      refine VO.nil ?_
      exact Exists.intro (⟨q + 1, by omega, lt_succ_cases hn (needE_0 hk (.inl (by omega)) ho)⟩) (And.intro (Le.mk hB [] ⟨rfl, rfl, rfl, rfl, rfl, rfl, trivial⟩ rfl rfl (Nat.le_refl _)) (by first | omega | (show _ < _; omega) | (simp only []; omega)))
  ·have aH2 := aH2b
   try simp only [qqT, qqF, qqN, qqM, qqL, qqE] at aH2
   refine VC.exit ?_
   refine VC.sr ?_
   refine VO.ma rfl rfl rfl rfl ?_
   refine VO.nil ?_
   refine VC.ret ?_
   exact Exists.intro _ (And.intro (RetN.one Tryz.results260 (ResN.v rfl)) (by rw [needsF_ok (by omega) (fun j hj => hn j (by omega))]))
set_option maxRecDepth 100000 in
theorem line_CheckNeeds {l : List NeedS} (hl : l.length ≤ 1000000000) (hb : ∀ i, (l.getD i default).key.size ≤ 1000000000) :
  SpecN Tryz.prog 239 [avL l] (fun y => y = avI (needsF l 1 1000)) := by
 refine SpecN.of_VCN Tryz.func239 rfl Tryz.ntmps239 (Nle rfl) fun w A hB => ?_
 have hnew : True := trivial
 refine VC.sr ?_
 refine VO.ma rfl rfl rfl rfl ?_
 refine VO.nil ?_
 refine VC.sr ?_
 refine VO.mv rfl rfl rfl rfl ?_
 refine VO.op rfl (OpE.call rfl hB rfl Tryz.call260 rfl (SpecN.spec (line_NeedsFault hl hb)) ?_)
 rintro _ rfl
 refine VO.ma rfl rfl rfl rfl ?_
 refine VO.nil ?_
 refine VC.ret ?_
 exact Exists.intro _ (And.intro (RetN.one Tryz.results239 (ResN.v rfl)) (rfl))









end Go.Proofs.YtbbgjeiefmiblaaGreatDoor
namespace Go.Proofs.YtbbgjeiefmiblaaGreatDoor
open Go.RowKit
set_option linter.unusedVariables false
set_option linter.unusedSimpArgs false
abbrev boxPc (g : Nat) (x : PaceS) (ty : TypeId) : Ent := .box g ⟨[avS x.product, avI x.cycle, avL x.needs], ty, 3⟩
theorem nil_pace {w : World} {Z : Nat → Prop} {u : Value} (h : Rep w Z (.agg [avS ⟨#[]⟩, avI 0, .v (.slice none 0 0)]) u) : Rep w Z (avPc default) u := by
 cases h with
 | agg cs us hl hr =>
  refine .agg _ us hl fun j hj => ?_
  match j, hj with
  | 0, _ => exact hr 0 (by simp)
  | 1, _ => exact hr 1 (by simp)
  | 2, _ =>
   have := hr 2 (by simp)
   show Rep w Z (.im 0 2 _) _
   rw [this.eq_v]; exact .nil _ _
set_option maxRecDepth 100000 in
set_option maxHeartbeats 4000000 in
theorem plan_orderFault {o : List OrdrS} {i : Nat} (hs : SmOr o) (hi : i < o.length) :
  SpecN Tryz.prog 240 [avL o, avI (i : Int)] (fun y => y = avI (ordrE o i)) := by
 refine SpecN.of_VCN Tryz.func240 rfl Tryz.ntmps240 (Nle rfl) fun w A hB => ?_
 have hnew : True := trivial
 refine VC.seq ?_
 have hl := hs.len
 refine VC.region ?_
 refine VO.ma rfl rfl rfl rfl ?_
 refine VO.nil ?_
 refine VC.sr ?_
 refine VO.mv rfl rfl rfl rfl ?_
 refine VO.mv rfl rfl rfl rfl ?_
 refine VO.val rfl rfl (OpV.indexAddr_E rfl Tryz.underlying146 Tryz.sizeOf145 rfl rfl rfl (by omega)) ?_
 refine VO.val rfl rfl (OpV.loadK_at rfl hB OutW.no Tryz.isAgg145 Tryz.sizeOf145 rfl rfl) ?_
 refine VO.op rfl (OpE.alloc rfl hB rfl Tryz.zeroValue145 rfl ?_)
 intro g5
 refine VO.op rfl (OpE.store (i := 0) rfl hB rfl Tryz.sizeOf145 rfl rfl rfl rfl rfl rfl (Nle rfl) trivial ?_)
 refine VO.nil ?_
 refine VC.seq ?_
 refine VC.block ?_
 refine VC.sr ?_
 refine VO.val rfl rfl (OpV.fieldAddrO 0 rfl Tryz.underlying145 rfl rfl Tryz.sizeOf9 rfl) ?_
 refine VO.val rfl rfl (OpV.load_own (i := 0) rfl hB Tryz.isAgg9 rfl rfl rfl (fun h => h)) ?_
 refine VO.op rfl (OpE.call rfl hB rfl Tryz.call113 rfl (SpecN.spec (kit_IsKey (by have := hs.key i; omega))) ?_)
 rintro _ rfl
 refine VO.val rfl rfl (OpV.not rfl rfl) ?_
 refine VO.mv rfl rfl rfl rfl ?_
 refine VO.opG rfl rfl rfl rfl (fun aK1b => ?_) (fun aK1b => ?_)
 ·replace aK1b : _ = false := aK1b
  have aK1 := aK1b
  try simp only [qqT, qqF, qqN, qqM, qqL, qqE] at aK1
  refine OpE.val (W := NoB) (OpV.fieldAddrO 1 rfl Tryz.underlying145 rfl rfl Tryz.sizeOf9 rfl) rfl ?_
  refine VO.opY rfl rfl rfl rfl aK1b ?_
  refine OpE.val (W := NoB) (OpV.load_own (i := 0) rfl hB Tryz.isAgg9 rfl rfl rfl (fun h => h)) rfl ?_
  refine VO.opY rfl rfl rfl rfl aK1b ?_
  refine OpE.call rfl hB rfl Tryz.call113 rfl (SpecN.spec (kit_IsKey (by have := hs.prod i; omega))) ?_
  rintro _ rfl
  refine VO.opY rfl rfl rfl rfl aK1b ?_
  refine OpE.val (W := NoB) (OpV.not rfl rfl) rfl ?_
  refine VO.val rfl rfl (OpV.pickF rfl rfl rfl rfl aK1b) ?_
  refine VO.ma rfl rfl rfl rfl ?_
  refine VO.nil ?_
  refine VC.cond rfl (fun aH2b => ?_) (fun aH2b => ?_)
  ·have aH2 := aH2b
   try simp only [qqT, qqF, qqN, qqM, qqL, qqE] at aH2
   refine VC.sr ?_
   refine VO.ma rfl rfl rfl rfl ?_
   refine VO.nil ?_
   refine VC.ret ?_
   exact Exists.intro _ (And.intro (RetN.one Tryz.results240 (ResN.v rfl)) (by first | rw [ordrE_5a (by assumption)] | rw [ordrE_5b (by assumption)]))
  ·have aH2 := aH2b
   try simp only [qqT, qqF, qqN, qqM, qqL, qqE] at aH2
   refine VC.sr ?_
   refine VO.val rfl rfl (OpV.fieldAddrO 2 rfl Tryz.underlying145 rfl rfl Tryz.sizeOf3 rfl) ?_
   refine VO.val rfl rfl (OpV.load_own (i := 0) rfl hB Tryz.isAgg3 rfl rfl rfl (fun h => h)) ?_
   refine VO.op rfl (OpE.call rfl hB rfl Tryz.call112 rfl (SpecN.spec (kit_Outside)) ?_)
   rintro _ rfl
   refine VO.mv rfl rfl rfl rfl ?_
   refine VO.opG rfl rfl rfl rfl (fun aK3b => ?_) (fun aK3b => ?_)
   ·replace aK3b : _ = false := aK3b
    have aK3 := aK3b
    try simp only [qqT, qqF, qqN, qqM, qqL, qqE] at aK3
    refine OpE.val (W := NoB) (OpV.fieldAddrO 3 rfl Tryz.underlying145 rfl rfl Tryz.sizeOf3 rfl) rfl ?_
    refine VO.opY rfl rfl rfl rfl aK3b ?_
    refine OpE.val (W := NoB) (OpV.load_own (i := 0) rfl hB Tryz.isAgg3 rfl rfl rfl (fun h => h)) rfl ?_
    refine VO.opY rfl rfl rfl rfl aK3b ?_
    refine OpE.call rfl hB rfl Tryz.call212 rfl (SpecN.spec (kit_IsMoment)) ?_
    rintro _ rfl
    refine VO.opY rfl rfl rfl rfl aK3b ?_
    refine OpE.val (W := NoB) (OpV.not rfl rfl) rfl ?_
    refine VO.val rfl rfl (OpV.pickF rfl rfl rfl rfl aK3b) ?_
    refine VO.mv rfl rfl rfl rfl ?_
    refine VO.opG rfl rfl rfl rfl (fun aK4b => ?_) (fun aK4b => ?_)
    ·replace aK4b : _ = false := aK4b
     have aK4 := aK4b
     try simp only [qqT, qqF, qqN, qqM, qqL, qqE] at aK4
     refine OpE.val (W := NoB) (OpV.fieldAddrO 4 rfl Tryz.underlying145 rfl rfl Tryz.sizeOf3 rfl) rfl ?_
     refine VO.opY rfl rfl rfl rfl aK4b ?_
     refine OpE.val (W := NoB) (OpV.load_own (i := 0) rfl hB Tryz.isAgg3 rfl rfl rfl (fun h => h)) rfl ?_
     refine VO.opY rfl rfl rfl rfl aK4b ?_
     refine OpE.call rfl hB rfl Tryz.call212 rfl (SpecN.spec (kit_IsMoment)) ?_
     rintro _ rfl
     refine VO.opY rfl rfl rfl rfl aK4b ?_
     refine OpE.val (W := NoB) (OpV.not rfl rfl) rfl ?_
     refine VO.val rfl rfl (OpV.pickF rfl rfl rfl rfl aK4b) ?_
     refine VO.ma rfl rfl rfl rfl ?_
     refine VO.nil ?_
     refine VC.cond rfl (fun aH5b => ?_) (fun aH5b => ?_)
     ·have aH5 := aH5b
      try simp only [qqT, qqF, qqN, qqM, qqL, qqE] at aH5
      refine VC.sr ?_
      refine VO.ma rfl rfl rfl rfl ?_
      refine VO.nil ?_
      refine VC.ret ?_
      exact Exists.intro _ (And.intro (RetN.one Tryz.results240 (ResN.v rfl)) (by rw [ordrE_1 (by assumption) (by assumption) (by first | exact or3a (by assumption) | exact or3b (by assumption) | exact or3c (by assumption))]))
     ·have aH5 := aH5b
      try simp only [qqT, qqF, qqN, qqM, qqL, qqE] at aH5
      refine VC.seq ?_
      refine VC.draw (fun _ => NoB) hB (by kernel_rfl) ?_
      refine VA.take (i := 0) rfl (by kernel_rfl) (by kernel_rfl) (by kernel_rfl) rfl rfl (OpV.move (.inl rfl) rfl) ?_
      refine VA.take (i := 1) rfl (by kernel_rfl) (by kernel_rfl) (by kernel_rfl) rfl rfl (OpV.gtr rfl rfl rfl) ?_
      refine VA.take (i := 2) rfl (by kernel_rfl) (by kernel_rfl) (by kernel_rfl) rfl rfl (OpV.move (.inl rfl) rfl) ?_
      refine VA.split (t := 40) rfl (fun aK6b => ?_) (fun aK6b => ?_)
      ·have aK6 := aK6b
       try simp only [qqT, qqF, qqN, qqM, qqL, qqE] at aK6
       refine VA.takeY (i := 3) rfl (by kernel_rfl) (by kernel_rfl) (by kernel_rfl) rfl rfl rfl rfl aK6b (OpV.fieldAddrO 0 rfl Tryz.underlying145 rfl rfl Tryz.sizeOf9 rfl) ?_
       refine VA.takeY (i := 4) rfl (by kernel_rfl) (by kernel_rfl) (by kernel_rfl) rfl rfl rfl rfl aK6b (OpV.load_own (i := 0) rfl hB Tryz.isAgg9 rfl rfl rfl Wi.not0) ?_
       refine VA.takeY (i := 5) rfl (by kernel_rfl) (by kernel_rfl) (by kernel_rfl) rfl rfl rfl rfl aK6b (OpV.move (.inl rfl) rfl) ?_
       refine VA.takeY (i := 6) rfl (by kernel_rfl) (by kernel_rfl) (by kernel_rfl) rfl rfl rfl rfl aK6b (OpV.move (.inl rfl) rfl) ?_
       refine VA.takeY (i := 7) rfl (by kernel_rfl) (by kernel_rfl) (by kernel_rfl) rfl rfl rfl rfl aK6b (OpV.sub rfl rfl rfl (by unfold fits; omega)) ?_
       refine VA.takeY (i := 8) rfl (by kernel_rfl) (by kernel_rfl) (by kernel_rfl) rfl rfl rfl rfl aK6b (OpV.indexAddr_E rfl Tryz.underlying146 Tryz.sizeOf145 rfl rfl (show ((i : Int) - 1) = ((i - 1 : Nat) : Int) by omega) (by omega)) ?_
       refine VA.takeY (i := 9) rfl (by kernel_rfl) (by kernel_rfl) (by kernel_rfl) rfl rfl rfl rfl aK6b (OpV.fieldAddr_atO 0 rfl Tryz.underlying145 rfl rfl Tryz.sizeOf9 rfl rfl) ?_
       refine VA.takeY (i := 10) rfl (by kernel_rfl) (by kernel_rfl) (by kernel_rfl) rfl rfl rfl rfl aK6b (OpV.load_at rfl hB OutW.wi0 Tryz.isAgg9 rfl rfl) ?_
       refine VA.takeY (i := 11) rfl (by kernel_rfl) (by kernel_rfl) (by kernel_rfl) rfl rfl rfl rfl aK6b (OpV.sleq rfl rfl rfl) ?_
       refine VA.take (i := 12) rfl (by kernel_rfl) (by kernel_rfl) (by kernel_rfl) rfl rfl (OpV.pickT rfl rfl rfl rfl aK6b) ?_
       refine VA.take (i := 13) rfl (by kernel_rfl) (by kernel_rfl) (by kernel_rfl) rfl rfl (OpV.move (.inr rfl) rfl) ?_
       refine VA.done (by kernel_rfl) ?_
       refine VC.cond rfl (fun aH7b => ?_) (fun aH7b => ?_)
       ·have aH7 := aH7b
        try simp only [qqT, qqF, qqN, qqM, qqL, qqE] at aH7
        refine VC.sr ?_
        refine VO.ma rfl rfl rfl rfl ?_
        refine VO.nil ?_
        refine VC.ret ?_
        exact Exists.intro _ (And.intro (RetN.one Tryz.results240 (ResN.v rfl)) (by rw [ordrE_7 (by assumption) (by assumption) (or3f (by assumption) (by assumption) (by assumption)) (by omega) (by assumption)]))
       ·have aH7 := aH7b
        try simp only [qqT, qqF, qqN, qqM, qqL, qqE] at aH7
        refine VC.skip ?_
        refine VC.sr ?_
        refine VO.ma rfl rfl rfl rfl ?_
        refine VO.nil ?_
        refine VC.ret ?_
        exact Exists.intro _ (And.intro (RetN.one Tryz.results240 (ResN.v rfl)) (by first | rw [ordrE_0 (by assumption) (by assumption) (or3f (by assumption) (by assumption) (by assumption)) (.inr (by assumption))] | rw [ordrE_0 (by assumption) (by assumption) (or3f (by assumption) (by assumption) (by assumption)) (.inl (by omega))]))
      ·have aK6 := aK6b
       try simp only [qqT, qqF, qqN, qqM, qqL, qqE] at aK6
       refine VA.takeX (i := 3) rfl (by kernel_rfl) (by kernel_rfl) (by kernel_rfl) rfl rfl rfl rfl aK6b ?_
       refine VA.takeX (i := 4) rfl (by kernel_rfl) (by kernel_rfl) (by kernel_rfl) rfl rfl rfl rfl aK6b ?_
       refine VA.takeX (i := 5) rfl (by kernel_rfl) (by kernel_rfl) (by kernel_rfl) rfl rfl rfl rfl aK6b ?_
       refine VA.takeX (i := 6) rfl (by kernel_rfl) (by kernel_rfl) (by kernel_rfl) rfl rfl rfl rfl aK6b ?_
       refine VA.takeX (i := 7) rfl (by kernel_rfl) (by kernel_rfl) (by kernel_rfl) rfl rfl rfl rfl aK6b ?_
       refine VA.takeX (i := 8) rfl (by kernel_rfl) (by kernel_rfl) (by kernel_rfl) rfl rfl rfl rfl aK6b ?_
       refine VA.takeX (i := 9) rfl (by kernel_rfl) (by kernel_rfl) (by kernel_rfl) rfl rfl rfl rfl aK6b ?_
       refine VA.takeX (i := 10) rfl (by kernel_rfl) (by kernel_rfl) (by kernel_rfl) rfl rfl rfl rfl aK6b ?_
       refine VA.takeX (i := 11) rfl (by kernel_rfl) (by kernel_rfl) (by kernel_rfl) rfl rfl rfl rfl aK6b ?_
       refine VA.take (i := 12) rfl (by kernel_rfl) (by kernel_rfl) (by kernel_rfl) rfl rfl (OpV.pickF rfl rfl rfl rfl aK6b) ?_
       refine VA.take (i := 13) rfl (by kernel_rfl) (by kernel_rfl) (by kernel_rfl) rfl rfl (OpV.move (.inr rfl) rfl) ?_
       refine VA.done (by kernel_rfl) ?_
       refine VC.condF rfl rfl ?_
       refine VC.skip ?_
       refine VC.sr ?_
       refine VO.ma rfl rfl rfl rfl ?_
       refine VO.nil ?_
       refine VC.ret ?_
       exact Exists.intro _ (And.intro (RetN.one Tryz.results240 (ResN.v rfl)) (by first | rw [ordrE_0 (by assumption) (by assumption) (or3f (by assumption) (by assumption) (by assumption)) (.inr (by assumption))] | rw [ordrE_0 (by assumption) (by assumption) (or3f (by assumption) (by assumption) (by assumption)) (.inl (by omega))]))
    ·replace aK4b : _ = true := aK4b
     have aK4 := aK4b
     try simp only [qqT, qqF, qqN, qqM, qqL, qqE] at aK4
     refine VO.opX rfl rfl rfl rfl aK4b ?_
     refine VO.opX rfl rfl rfl rfl aK4b ?_
     refine VO.opX rfl rfl rfl rfl aK4b ?_
     refine VO.val rfl rfl (OpV.pickT rfl rfl rfl rfl aK4b) ?_
     refine VO.ma rfl rfl rfl rfl ?_
     refine VO.nil ?_
     refine VC.condT rfl rfl ?_
     refine VC.sr ?_
     refine VO.ma rfl rfl rfl rfl ?_
     refine VO.nil ?_
     refine VC.ret ?_
     exact Exists.intro _ (And.intro (RetN.one Tryz.results240 (ResN.v rfl)) (by rw [ordrE_1 (by assumption) (by assumption) (by first | exact or3a (by assumption) | exact or3b (by assumption) | exact or3c (by assumption))]))
   ·replace aK3b : _ = true := aK3b
    have aK3 := aK3b
    try simp only [qqT, qqF, qqN, qqM, qqL, qqE] at aK3
    refine VO.opX rfl rfl rfl rfl aK3b ?_
    refine VO.opX rfl rfl rfl rfl aK3b ?_
    refine VO.opX rfl rfl rfl rfl aK3b ?_
    refine VO.val rfl rfl (OpV.pickT rfl rfl rfl rfl aK3b) ?_
    refine VO.mv rfl rfl rfl rfl ?_
    refine VO.opX rfl rfl rfl rfl rfl ?_
    refine VO.opX rfl rfl rfl rfl rfl ?_
    refine VO.opX rfl rfl rfl rfl rfl ?_
    refine VO.opX rfl rfl rfl rfl rfl ?_
    refine VO.val rfl rfl (OpV.pickT rfl rfl rfl rfl rfl) ?_
    refine VO.ma rfl rfl rfl rfl ?_
    refine VO.nil ?_
    refine VC.condT rfl rfl ?_
    refine VC.sr ?_
    refine VO.ma rfl rfl rfl rfl ?_
    refine VO.nil ?_
    refine VC.ret ?_
    exact Exists.intro _ (And.intro (RetN.one Tryz.results240 (ResN.v rfl)) (by rw [ordrE_1 (by assumption) (by assumption) (by first | exact or3a (by assumption) | exact or3b (by assumption) | exact or3c (by assumption))]))
 ·replace aK1b : _ = true := aK1b
  have aK1 := aK1b
  try simp only [qqT, qqF, qqN, qqM, qqL, qqE] at aK1
  refine VO.opX rfl rfl rfl rfl aK1b ?_
  refine VO.opX rfl rfl rfl rfl aK1b ?_
  refine VO.opX rfl rfl rfl rfl aK1b ?_
  refine VO.val rfl rfl (OpV.pickT rfl rfl rfl rfl aK1b) ?_
  refine VO.ma rfl rfl rfl rfl ?_
  refine VO.nil ?_
  refine VC.condT rfl rfl ?_
  refine VC.sr ?_
  refine VO.ma rfl rfl rfl rfl ?_
  refine VO.nil ?_
  refine VC.ret ?_
  exact Exists.intro _ (And.intro (RetN.one Tryz.results240 (ResN.v rfl)) (by first | rw [ordrE_5a (by assumption)] | rw [ordrE_5b (by assumption)]))
set_option maxRecDepth 100000 in
theorem plan_CheckOrders {o : List OrdrS} (hs : SmOr o) :
  SpecN Tryz.prog 215 [avL o] (fun y => y = avI (ordrF o)) := by
 refine SpecN.of_VCN Tryz.func215 rfl Tryz.ntmps215 (Nle rfl) fun w A hB => ?_
 have hnew : True := trivial
 refine VC.seq ?_
 have hl := hs.len
 refine VC.region ?_
 refine VO.ma rfl rfl rfl rfl ?_
 refine VO.nil ?_
 refine VC.seq ?_
 refine VC.sr ?_
 refine VO.mv rfl rfl rfl rfl ?_
 refine VO.val rfl rfl (OpV.len_im rfl Tryz.underlying146 rfl) ?_
 refine VO.val rfl rfl (OpV.gtr rfl rfl rfl) ?_
 refine VO.nil ?_
 refine VC.cond rfl (fun aH1b => ?_) (fun aH1b => ?_)
 ·have aH1 := aH1b
  try simp only [qqT, qqF, qqN, qqM, qqL, qqE] at aH1
  refine VC.sr ?_
  refine VO.ma rfl rfl rfl rfl ?_
  refine VO.nil ?_
  refine VC.ret ?_
  exact Exists.intro _ (And.intro (RetN.one Tryz.results215 (ResN.v rfl)) (by rw [ordrF_2 (by omega)]))
 ·have aH1 := aH1b
  try simp only [qqT, qqF, qqN, qqM, qqL, qqE] at aH1
  refine VC.skip ?_
  refine VC.seq ?_
  refine VC.sr ?_
  refine VO.mv rfl rfl rfl rfl ?_
  refine VO.val rfl rfl (OpV.len_im rfl Tryz.underlying146 rfl) ?_
  refine VO.mv rfl rfl rfl rfl ?_
  refine VO.nil ?_
  refine VC.block ?_
  refine VC.loopK [(0, _), (9, _)] ⟨rfl, rfl, trivial⟩ ({q : Nat // q ≤ o.length ∧ ∀ j, j < q → ordrE o j = 0}) (fun (iZ : {q : Nat // q ≤ o.length ∧ ∀ j, j < q → ordrE o j = 0}) => match iZ with | ⟨q, hq, hn⟩ => [(10, avI (q : Int))]) (fun (iZ : {q : Nat // q ≤ o.length ∧ ∀ j, j < q → ordrE o j = 0}) => match iZ with | ⟨q, hq, hn⟩ => []) (fun (iZ : {q : Nat // q ≤ o.length ∧ ∀ j, j < q → ordrE o j = 0}) => match iZ with | ⟨q, hq, hn⟩ => 0) (fun (iZ : {q : Nat // q ≤ o.length ∧ ∀ j, j < q → ordrE o j = 0}) => match iZ with | ⟨q, hq, hn⟩ => o.length - q) ⟨0, Nat.zero_le _, fun j hj => absurd hj (Nat.not_lt_zero j)⟩ (Le.mk hB [] ⟨rfl, rfl, rfl, trivial⟩ rfl rfl (Nat.le_refl _)) ?_
  rintro ⟨q, hq, hn⟩
  show VC _ _ _ _ ⟨[(10, avI (q : Int))] ++ [(0, _), (9, _)], [], 0⟩
  refine VC.sr ?_
  refine VO.val rfl rfl (OpV.lss rfl rfl rfl) ?_
  refine VO.nil ?_
  refine VC.seq ?_
  refine VC.cond rfl (fun aH2b => ?_) (fun aH2b => ?_)
  ·have aH2 := aH2b
   try simp only [qqT, qqF, qqN, qqM, qqL, qqE] at aH2
   refine VC.skip ?_
   refine VC.seq ?_
   refine VC.block ?_
   refine VC.sr ?_
   refine VO.mv rfl rfl rfl rfl ?_
   refine VO.ma rfl rfl rfl rfl ?_
   refine VO.nil ?_
   refine VC.sr ?_
   refine VO.mv rfl rfl rfl rfl ?_
   refine VO.mv rfl rfl rfl rfl ?_
   refine VO.op rfl (OpE.call rfl hB rfl Tryz.call240 rfl (SpecN.spec (plan_orderFault hs (by omega))) ?_)
   rintro _ rfl
   refine VO.ma rfl rfl rfl rfl ?_
   refine VO.nil ?_
   refine VC.sr ?_
   refine VO.mv rfl rfl rfl rfl ?_
   refine VO.val rfl rfl (OpV.neq rfl rfl rfl) ?_
   refine VO.nil ?_
   refine VC.cond rfl (fun h2b => ?_) (fun h2b => ?_)
   ·have h2 := h2b
    try simp only [qqT, qqF, qqN, qqM, qqL, qqE] at h2
    refine VC.sr ?_
    refine VO.mv rfl rfl rfl rfl ?_
    refine VO.ma rfl rfl rfl rfl ?_
    refine VO.nil ?_
    refine VC.ret ?_
    exact Exists.intro _ (And.intro (RetN.one Tryz.results215 (ResN.v rfl)) (by rw [ordrF_at (by omega) (by omega) hn rfl h2]))
   ·have h2 := h2b
    try simp only [qqT, qqF, qqN, qqM, qqL, qqE] at h2
    refine VC.skip ?_
    refine VC.region ?_
    refine VO.val rfl rfl (OpV.add rfl rfl rfl (by unfold fits; omega)) ?_
    refine VO.mv rfl rfl rfl rfl ?_
    refine VO.nil ?_
    exact Exists.intro (⟨q + 1, by omega, lt_succ_cases hn ((by omega))⟩) (And.intro (Le.mk hB [] ⟨rfl, rfl, rfl, trivial⟩ rfl rfl (Nat.le_refl _)) (by first | omega | (show _ < _; omega) | (simp only []; omega)))
  ·have aH2 := aH2b
   try simp only [qqT, qqF, qqN, qqM, qqL, qqE] at aH2
   refine VC.exit ?_
   refine VC.sr ?_
   refine VO.ma rfl rfl rfl rfl ?_
   refine VO.nil ?_
   refine VC.ret ?_
   exact Exists.intro _ (And.intro (RetN.one Tryz.results215 (ResN.v rfl)) (by rw [ordrF_ok (by omega) (fun j hj => hn j (by omega))]))
set_option maxRecDepth 100000 in
set_option maxHeartbeats 4000000 in
theorem plan_CheckPaces {p : List PaceS} (hs : SmPc p) :
  SpecN Tryz.prog 214 [avL p] (fun y => y = avI (paceF p)) := by
 refine SpecN.of_VCN Tryz.func214 rfl Tryz.ntmps214 (Nle rfl) fun w A hB => ?_
 have hnew : True := trivial
 refine VC.seq ?_
 have hl := hs.len
 refine VC.region ?_
 refine VO.ma rfl rfl rfl rfl ?_
 refine VO.nil ?_
 refine VC.seq ?_
 refine VC.sr ?_
 refine VO.mv rfl rfl rfl rfl ?_
 refine VO.val rfl rfl (OpV.len_im rfl Tryz.underlying143 rfl) ?_
 refine VO.val rfl rfl (OpV.gtr rfl rfl rfl) ?_
 refine VO.nil ?_
 refine VC.cond rfl (fun aH1b => ?_) (fun aH1b => ?_)
 ·have aH1 := aH1b
  try simp only [qqT, qqF, qqN, qqM, qqL, qqE] at aH1
  refine VC.sr ?_
  refine VO.ma rfl rfl rfl rfl ?_
  refine VO.nil ?_
  refine VC.ret ?_
  exact Exists.intro _ (And.intro (RetN.one Tryz.results214 (ResN.v rfl)) (by rw [paceF_2 (by omega)]))
 ·have aH1 := aH1b
  try simp only [qqT, qqF, qqN, qqM, qqL, qqE] at aH1
  refine VC.skip ?_
  refine VC.seq ?_
  refine VC.sr ?_
  refine VO.mv rfl rfl rfl rfl ?_
  refine VO.val rfl rfl (OpV.len_im rfl Tryz.underlying143 rfl) ?_
  refine VO.mv rfl rfl rfl rfl ?_
  refine VO.nil ?_
  refine VC.block ?_
  refine VC.loopK [(0, _), (9, _), (10, _)] ⟨rfl, rfl, rfl, trivial⟩ ({q : Nat // q ≤ p.length ∧ ∀ j, j < q → paceE p j = 0}) (fun (iZ : {q : Nat // q ≤ p.length ∧ ∀ j, j < q → paceE p j = 0}) => match iZ with | ⟨q, hq, hn⟩ => [(11, avI (q : Int))]) (fun (iZ : {q : Nat // q ≤ p.length ∧ ∀ j, j < q → paceE p j = 0}) => match iZ with | ⟨q, hq, hn⟩ => []) (fun (iZ : {q : Nat // q ≤ p.length ∧ ∀ j, j < q → paceE p j = 0}) => match iZ with | ⟨q, hq, hn⟩ => 0) (fun (iZ : {q : Nat // q ≤ p.length ∧ ∀ j, j < q → paceE p j = 0}) => match iZ with | ⟨q, hq, hn⟩ => p.length - q) ⟨0, Nat.zero_le _, fun j hj => absurd hj (Nat.not_lt_zero j)⟩ (Le.mk hB [] ⟨rfl, rfl, rfl, rfl, trivial⟩ rfl rfl (Nat.le_refl _)) ?_
  rintro ⟨q, hq, hn⟩
  show VC _ _ _ _ ⟨[(11, avI (q : Int))] ++ [(0, _), (9, _), (10, _)], [], 0⟩
  refine VC.sr ?_
  refine VO.val rfl rfl (OpV.lss rfl rfl rfl) ?_
  refine VO.nil ?_
  refine VC.seq ?_
  refine VC.cond rfl (fun aH2b => ?_) (fun aH2b => ?_)
  ·have aH2 := aH2b
   try simp only [qqT, qqF, qqN, qqM, qqL, qqE] at aH2
   refine VC.skip ?_
   refine VC.seq ?_
   refine VC.block ?_
   refine VC.sr ?_
   refine VO.mv rfl rfl rfl rfl ?_
   refine VO.val rfl rfl (OpV.indexAddr_E rfl Tryz.underlying143 Tryz.sizeOf142 rfl rfl rfl (by omega)) ?_
   refine VO.val rfl rfl (OpV.loadK_at rfl hB OutW.no Tryz.isAgg142 Tryz.sizeOf142 rfl rfl) ?_
   refine VO.op rfl (OpE.alloc rfl hB rfl Tryz.zeroValue142 rfl ?_)
   intro g4
   refine VO.ma rfl rfl rfl rfl ?_
   refine VO.op rfl (OpE.store (i := 0) rfl hB rfl Tryz.sizeOf142 rfl rfl rfl rfl rfl rfl (Nle rfl) trivial ?_)
   refine VO.nil ?_
   refine VC.seq ?_
   refine VC.block ?_
   refine VC.sr ?_
   refine VO.val rfl rfl (OpV.fieldAddrO 0 rfl Tryz.underlying142 rfl rfl Tryz.sizeOf9 rfl) ?_
   refine VO.val rfl rfl (OpV.load_own (i := 0) rfl hB Tryz.isAgg9 rfl rfl rfl (fun h => h)) ?_
   refine VO.op rfl (OpE.call rfl hB rfl Tryz.call113 rfl (SpecN.spec (kit_IsKey (by have := hs.prod q; omega))) ?_)
   rintro _ rfl
   refine VO.val rfl rfl (OpV.not rfl rfl) ?_
   refine VO.ma rfl rfl rfl rfl ?_
   refine VO.nil ?_
   refine VC.cond rfl (fun k2b => ?_) (fun k2b => ?_)
   ·have k2 := k2b
    try simp only [qqT, qqF, qqN, qqM, qqL, qqE] at k2
    refine VC.sr ?_
    refine VO.ma rfl rfl rfl rfl ?_
    refine VO.nil ?_
    refine VC.ret ?_
    exact Exists.intro _ (And.intro (RetN.one Tryz.results214 (ResN.v rfl)) (by rw [paceF_at (by omega) (by omega) hn (paceE_5 k2) (by decide)]))
   ·have k2 := k2b
    try simp only [qqT, qqF, qqN, qqM, qqL, qqE] at k2
    refine VC.seq ?_
    refine VC.draw (fun _ => NoB) hB (by kernel_rfl) ?_
    refine VA.take (i := 0) rfl (by kernel_rfl) (by kernel_rfl) (by kernel_rfl) rfl rfl (OpV.move (.inl rfl) rfl) ?_
    refine VA.take (i := 1) rfl (by kernel_rfl) (by kernel_rfl) (by kernel_rfl) rfl rfl (OpV.gtr rfl rfl rfl) ?_
    refine VA.take (i := 2) rfl (by kernel_rfl) (by kernel_rfl) (by kernel_rfl) rfl rfl (OpV.move (.inl rfl) rfl) ?_
    refine VA.split (t := 24) rfl (fun aK3b => ?_) (fun aK3b => ?_)
    ·have aK3 := aK3b
     try simp only [qqT, qqF, qqN, qqM, qqL, qqE] at aK3
     refine VA.takeY (i := 3) rfl (by kernel_rfl) (by kernel_rfl) (by kernel_rfl) rfl rfl rfl rfl aK3b (OpV.fieldAddrO 0 rfl Tryz.underlying142 rfl rfl Tryz.sizeOf9 rfl) ?_
     refine VA.takeY (i := 4) rfl (by kernel_rfl) (by kernel_rfl) (by kernel_rfl) rfl rfl rfl rfl aK3b (OpV.load_own (i := 0) rfl hB Tryz.isAgg9 rfl rfl rfl Wi.not0) ?_
     refine VA.takeY (i := 5) rfl (by kernel_rfl) (by kernel_rfl) (by kernel_rfl) rfl rfl rfl rfl aK3b (OpV.move (.inl rfl) rfl) ?_
     refine VA.takeY (i := 6) rfl (by kernel_rfl) (by kernel_rfl) (by kernel_rfl) rfl rfl rfl rfl aK3b (OpV.move (.inl rfl) rfl) ?_
     refine VA.takeY (i := 7) rfl (by kernel_rfl) (by kernel_rfl) (by kernel_rfl) rfl rfl rfl rfl aK3b (OpV.sub rfl rfl rfl (by unfold fits; omega)) ?_
     refine VA.takeY (i := 8) rfl (by kernel_rfl) (by kernel_rfl) (by kernel_rfl) rfl rfl rfl rfl aK3b (OpV.indexAddr_E rfl Tryz.underlying143 Tryz.sizeOf142 rfl rfl (show ((q : Int) - 1) = ((q - 1 : Nat) : Int) by omega) (by omega)) ?_
     refine VA.takeY (i := 9) rfl (by kernel_rfl) (by kernel_rfl) (by kernel_rfl) rfl rfl rfl rfl aK3b (OpV.fieldAddr_atO 0 rfl Tryz.underlying142 rfl rfl Tryz.sizeOf9 rfl rfl) ?_
     refine VA.takeY (i := 10) rfl (by kernel_rfl) (by kernel_rfl) (by kernel_rfl) rfl rfl rfl rfl aK3b (OpV.load_at rfl hB OutW.wi0 Tryz.isAgg9 rfl rfl) ?_
     refine VA.takeY (i := 11) rfl (by kernel_rfl) (by kernel_rfl) (by kernel_rfl) rfl rfl rfl rfl aK3b (OpV.sleq rfl rfl rfl) ?_
     refine VA.take (i := 12) rfl (by kernel_rfl) (by kernel_rfl) (by kernel_rfl) rfl rfl (OpV.pickT rfl rfl rfl rfl aK3b) ?_
     refine VA.take (i := 13) rfl (by kernel_rfl) (by kernel_rfl) (by kernel_rfl) rfl rfl (OpV.move (.inr rfl) rfl) ?_
     refine VA.done (by kernel_rfl) ?_
     refine VC.cond rfl (fun k3b => ?_) (fun k3b => ?_)
     ·have k3 := k3b
      try simp only [qqT, qqF, qqN, qqM, qqL, qqE] at k3
      refine VC.sr ?_
      refine VO.ma rfl rfl rfl rfl ?_
      refine VO.nil ?_
      refine VC.ret ?_
      exact Exists.intro _ (And.intro (RetN.one Tryz.results214 (ResN.v rfl)) (by rw [paceF_at (by omega) (by omega) hn (paceE_7 k2 (by omega) (by assumption)) (by decide)]))
     ·have k3 := k3b
      try simp only [qqT, qqF, qqN, qqM, qqL, qqE] at k3
      refine VC.sr ?_
      refine VO.val rfl rfl (OpV.fieldAddrO 1 rfl Tryz.underlying142 rfl rfl Tryz.sizeOf3 rfl) ?_
      refine VO.val rfl rfl (OpV.load_own (i := 0) rfl hB Tryz.isAgg3 rfl rfl rfl (fun h => h)) ?_
      refine VO.op rfl (OpE.call rfl hB rfl Tryz.call112 rfl (SpecN.spec (kit_Outside)) ?_)
      rintro _ rfl
      refine VO.ma rfl rfl rfl rfl ?_
      refine VO.nil ?_
      refine VC.cond rfl (fun k4b => ?_) (fun k4b => ?_)
      ·have k4 := k4b
       try simp only [qqT, qqF, qqN, qqM, qqL, qqE] at k4
       refine VC.sr ?_
       refine VO.ma rfl rfl rfl rfl ?_
       refine VO.nil ?_
       refine VC.ret ?_
       exact Exists.intro _ (And.intro (RetN.one Tryz.results214 (ResN.v rfl)) (by first | rw [paceF_at (by omega) (by omega) hn (paceE_1 k2 (.inr (by assumption)) k4) (by decide)] | rw [paceF_at (by omega) (by omega) hn (paceE_1 k2 (.inl (by omega)) k4) (by decide)]))
      ·have k4 := k4b
       try simp only [qqT, qqF, qqN, qqM, qqL, qqE] at k4
       refine VC.skip ?_
       refine VC.sr ?_
       refine VO.val rfl rfl (OpV.fieldAddrO 2 rfl Tryz.underlying142 rfl rfl Tryz.sizeOf78 rfl) ?_
       refine VO.val rfl rfl (OpV.load_own (i := 0) rfl hB Tryz.isAgg78 rfl rfl rfl (fun h => h)) ?_
       refine VO.op rfl (OpE.call rfl hB rfl Tryz.call239 rfl (SpecN.spec (line_CheckNeeds (by have := hs.nlen q; omega) (fun j => by have := hs.nkey q j; omega))) ?_)
       rintro _ rfl
       refine VO.ma rfl rfl rfl rfl ?_
       refine VO.nil ?_
       refine VC.sr ?_
       refine VO.mv rfl rfl rfl rfl ?_
       refine VO.val rfl rfl (OpV.neq rfl rfl rfl) ?_
       refine VO.nil ?_
       refine VC.cond rfl (fun k5b => ?_) (fun k5b => ?_)
       ·have k5 := k5b
        try simp only [qqT, qqF, qqN, qqM, qqL, qqE] at k5
        refine VC.sr ?_
        refine VO.mv rfl rfl rfl rfl ?_
        refine VO.ma rfl rfl rfl rfl ?_
        refine VO.nil ?_
        refine VC.ret ?_
        exact Exists.intro _ (And.intro (RetN.one Tryz.results214 (ResN.v rfl)) (by first | rw [paceF_at (by omega) (by omega) hn (paceE_n k2 (.inr (by assumption)) k4) k5] | rw [paceF_at (by omega) (by omega) hn (paceE_n k2 (.inl (by omega)) k4) k5]))
       ·have k5 := k5b
        try simp only [qqT, qqF, qqN, qqM, qqL, qqE] at k5
        refine VC.skip ?_
        refine VC.region ?_
        refine VO.val rfl rfl (OpV.add rfl rfl rfl (by unfold fits; omega)) ?_
        refine VO.mv rfl rfl rfl rfl ?_
        refine VO.nil ?_
        exact Exists.intro (⟨q + 1, by omega, lt_succ_cases hn ((by first | (rw [paceE_n k2 (.inr (by assumption)) k4]; omega) | (rw [paceE_n k2 (.inl (by omega)) k4]; omega)))⟩) (And.intro (Le.mk hB [] ⟨rfl, rfl, rfl, rfl, trivial⟩ rfl rfl (Nat.le_refl _)) (by first | omega | (show _ < _; omega) | (simp only []; omega)))
    ·have aK3 := aK3b
     try simp only [qqT, qqF, qqN, qqM, qqL, qqE] at aK3
     refine VA.takeX (i := 3) rfl (by kernel_rfl) (by kernel_rfl) (by kernel_rfl) rfl rfl rfl rfl aK3b ?_
     refine VA.takeX (i := 4) rfl (by kernel_rfl) (by kernel_rfl) (by kernel_rfl) rfl rfl rfl rfl aK3b ?_
     refine VA.takeX (i := 5) rfl (by kernel_rfl) (by kernel_rfl) (by kernel_rfl) rfl rfl rfl rfl aK3b ?_
     refine VA.takeX (i := 6) rfl (by kernel_rfl) (by kernel_rfl) (by kernel_rfl) rfl rfl rfl rfl aK3b ?_
     refine VA.takeX (i := 7) rfl (by kernel_rfl) (by kernel_rfl) (by kernel_rfl) rfl rfl rfl rfl aK3b ?_
     refine VA.takeX (i := 8) rfl (by kernel_rfl) (by kernel_rfl) (by kernel_rfl) rfl rfl rfl rfl aK3b ?_
     refine VA.takeX (i := 9) rfl (by kernel_rfl) (by kernel_rfl) (by kernel_rfl) rfl rfl rfl rfl aK3b ?_
     refine VA.takeX (i := 10) rfl (by kernel_rfl) (by kernel_rfl) (by kernel_rfl) rfl rfl rfl rfl aK3b ?_
     refine VA.takeX (i := 11) rfl (by kernel_rfl) (by kernel_rfl) (by kernel_rfl) rfl rfl rfl rfl aK3b ?_
     refine VA.take (i := 12) rfl (by kernel_rfl) (by kernel_rfl) (by kernel_rfl) rfl rfl (OpV.pickF rfl rfl rfl rfl aK3b) ?_
     refine VA.take (i := 13) rfl (by kernel_rfl) (by kernel_rfl) (by kernel_rfl) rfl rfl (OpV.move (.inr rfl) rfl) ?_
     refine VA.done (by kernel_rfl) ?_
     refine VC.condF rfl rfl ?_
     refine VC.sr ?_
     refine VO.val rfl rfl (OpV.fieldAddrO 1 rfl Tryz.underlying142 rfl rfl Tryz.sizeOf3 rfl) ?_
     refine VO.val rfl rfl (OpV.load_own (i := 0) rfl hB Tryz.isAgg3 rfl rfl rfl (fun h => h)) ?_
     refine VO.op rfl (OpE.call rfl hB rfl Tryz.call112 rfl (SpecN.spec (kit_Outside)) ?_)
     rintro _ rfl
     refine VO.ma rfl rfl rfl rfl ?_
     refine VO.nil ?_
     refine VC.cond rfl (fun k4b => ?_) (fun k4b => ?_)
     ·have k4 := k4b
      try simp only [qqT, qqF, qqN, qqM, qqL, qqE] at k4
      refine VC.sr ?_
      refine VO.ma rfl rfl rfl rfl ?_
      refine VO.nil ?_
      refine VC.ret ?_
      exact Exists.intro _ (And.intro (RetN.one Tryz.results214 (ResN.v rfl)) (by first | rw [paceF_at (by omega) (by omega) hn (paceE_1 k2 (.inr (by assumption)) k4) (by decide)] | rw [paceF_at (by omega) (by omega) hn (paceE_1 k2 (.inl (by omega)) k4) (by decide)]))
     ·have k4 := k4b
      try simp only [qqT, qqF, qqN, qqM, qqL, qqE] at k4
      refine VC.skip ?_
      refine VC.sr ?_
      refine VO.val rfl rfl (OpV.fieldAddrO 2 rfl Tryz.underlying142 rfl rfl Tryz.sizeOf78 rfl) ?_
      refine VO.val rfl rfl (OpV.load_own (i := 0) rfl hB Tryz.isAgg78 rfl rfl rfl (fun h => h)) ?_
      refine VO.op rfl (OpE.call rfl hB rfl Tryz.call239 rfl (SpecN.spec (line_CheckNeeds (by have := hs.nlen q; omega) (fun j => by have := hs.nkey q j; omega))) ?_)
      rintro _ rfl
      refine VO.ma rfl rfl rfl rfl ?_
      refine VO.nil ?_
      refine VC.sr ?_
      refine VO.mv rfl rfl rfl rfl ?_
      refine VO.val rfl rfl (OpV.neq rfl rfl rfl) ?_
      refine VO.nil ?_
      refine VC.cond rfl (fun k5b => ?_) (fun k5b => ?_)
      ·have k5 := k5b
       try simp only [qqT, qqF, qqN, qqM, qqL, qqE] at k5
       refine VC.sr ?_
       refine VO.mv rfl rfl rfl rfl ?_
       refine VO.ma rfl rfl rfl rfl ?_
       refine VO.nil ?_
       refine VC.ret ?_
       exact Exists.intro _ (And.intro (RetN.one Tryz.results214 (ResN.v rfl)) (by first | rw [paceF_at (by omega) (by omega) hn (paceE_n k2 (.inr (by assumption)) k4) k5] | rw [paceF_at (by omega) (by omega) hn (paceE_n k2 (.inl (by omega)) k4) k5]))
      ·have k5 := k5b
       try simp only [qqT, qqF, qqN, qqM, qqL, qqE] at k5
       refine VC.skip ?_
       refine VC.region ?_
       refine VO.val rfl rfl (OpV.add rfl rfl rfl (by unfold fits; omega)) ?_
       refine VO.mv rfl rfl rfl rfl ?_
       refine VO.nil ?_
       exact Exists.intro (⟨q + 1, by omega, lt_succ_cases hn ((by first | (rw [paceE_n k2 (.inr (by assumption)) k4]; omega) | (rw [paceE_n k2 (.inl (by omega)) k4]; omega)))⟩) (And.intro (Le.mk hB [] ⟨rfl, rfl, rfl, rfl, trivial⟩ rfl rfl (Nat.le_refl _)) (by first | omega | (show _ < _; omega) | (simp only []; omega)))
  ·have aH2 := aH2b
   try simp only [qqT, qqF, qqN, qqM, qqL, qqE] at aH2
   refine VC.exit ?_
   refine VC.sr ?_
   refine VO.ma rfl rfl rfl rfl ?_
   refine VO.nil ?_
   refine VC.ret ?_
   exact Exists.intro _ (And.intro (RetN.one Tryz.results214 (ResN.v rfl)) (by rw [paceF_ok (by omega) (fun j hj => hn j (by omega))]))
set_option maxRecDepth 100000 in
theorem plan_paceOf1 {x : PaceS} {k : ByteArray}  :
  SpecN Tryz.prog 242 [avT x, avS k] (fun y => y = avI (cmpB x.product k)) := by
 refine SpecN.of_VCN Tryz.func242 rfl Tryz.ntmps242 (Nle rfl) fun w A hB => ?_
 have hnew : True := trivial
 refine VC.sr ?_
 refine VO.op rfl (OpE.box rfl hB rfl rfl rfl ?_)
 intro g2
 refine VO.ma rfl rfl rfl rfl ?_
 refine VO.nil ?_
 refine VC.sr ?_
 refine VO.val rfl rfl (OpV.fieldAddrO 0 rfl Tryz.underlying142 rfl rfl Tryz.sizeOf9 rfl) ?_
 refine VO.val rfl rfl (OpV.load_own (i := 0) rfl hB Tryz.isAgg9 rfl rfl rfl (fun h => h)) ?_
 refine VO.mv rfl rfl rfl rfl ?_
 refine VO.op rfl (OpE.call rfl hB rfl Tryz.call142 rfl (SpecN.spec (strings_Compare_S)) ?_)
 rintro _ rfl
 refine VO.ma rfl rfl rfl rfl ?_
 refine VO.nil ?_
 refine VC.ret ?_
 exact Exists.intro _ (And.intro (RetN.one Tryz.results242 (ResN.v rfl)) (rfl))
set_option maxRecDepth 100000 in
theorem bsf_pace {xs : List PaceS} {t : ByteArray} {F : FuncId} {cs : List AV} {c : PaceS → Int} {s0 : Nat} (hl : xs.length ≤ 1000000) (hcall : ∀ us w, (callFunc F us).run Tryz.prog w = .ok (.enter F us) w) (hF : ∀ x, Spec Tryz.prog F ([avT x, avS t] ++ cs) (fun y => y = avI (c x))) (hs : s0 ≤ xs.length) (hlo : ∀ j, j < s0 → c (xs.getD j default) < 0) (hhi : ∀ j, s0 ≤ j → j < xs.length → 0 ≤ c (xs.getD j default)) :
  SpecN Tryz.prog 241 [avL xs, avS t, .fn F cs] (fun y => y = .tup [avI (s0 : Int), avB (decide (s0 < xs.length) && decide (c (xs.getD s0 default) = 0))]) := by
 refine SpecN.of_VCN Tryz.func241 rfl Tryz.ntmps241 (Nle rfl) fun w A hB => ?_
 have hnew : True := trivial
 refine VC.sr ?_
 refine VO.ma rfl rfl rfl rfl ?_
 refine VO.ma rfl rfl rfl rfl ?_
 refine VO.nil ?_
 refine VC.sr ?_
 refine VO.mv rfl rfl rfl rfl ?_
 refine VO.val rfl rfl (OpV.len_im rfl Tryz.underlying143 rfl) ?_
 refine VO.ma rfl rfl rfl rfl ?_
 refine VO.nil ?_
 refine VC.sr ?_
 refine VO.mv rfl rfl rfl rfl ?_
 refine VO.ma rfl rfl rfl rfl ?_
 refine VO.ma rfl rfl rfl rfl ?_
 refine VO.nil ?_
 refine VC.seq ?_
 refine VC.block ?_
 refine VC.loopK [(0, _), (1, _), (2, _), (8, _)] ⟨rfl, rfl, rfl, rfl, trivial⟩ ({z : Nat × Nat // z.1 ≤ s0 ∧ s0 ≤ z.2 ∧ z.2 ≤ xs.length}) (fun (iZ : {z : Nat × Nat // z.1 ≤ s0 ∧ s0 ≤ z.2 ∧ z.2 ≤ xs.length}) => match iZ with | ⟨⟨i, j⟩, h1, h2, h3⟩ => [(9, avI (i : Int)), (10, avI (j : Int))]) (fun (iZ : {z : Nat × Nat // z.1 ≤ s0 ∧ s0 ≤ z.2 ∧ z.2 ≤ xs.length}) => match iZ with | ⟨⟨i, j⟩, h1, h2, h3⟩ => []) (fun (iZ : {z : Nat × Nat // z.1 ≤ s0 ∧ s0 ≤ z.2 ∧ z.2 ≤ xs.length}) => match iZ with | ⟨⟨i, j⟩, h1, h2, h3⟩ => 0) (fun (iZ : {z : Nat × Nat // z.1 ≤ s0 ∧ s0 ≤ z.2 ∧ z.2 ≤ xs.length}) => match iZ with | ⟨⟨i, j⟩, h1, h2, h3⟩ => j - i) ⟨(0, xs.length), Nat.zero_le _, hs, Nat.le_refl _⟩ (Le.mk hB [] ⟨rfl, rfl, rfl, rfl, rfl, rfl, trivial⟩ rfl rfl (Nat.le_refl _)) ?_
 rintro ⟨⟨i, j⟩, h1, h2, h3⟩
 show VC _ _ _ _ ⟨[(9, avI (i : Int)), (10, avI (j : Int))] ++ [(0, _), (1, _), (2, _), (8, _)], [], 0⟩
 simp only at h1 h2 h3
 refine VC.seq ?_
 refine VC.sr ?_
 refine VO.mv rfl rfl rfl rfl ?_
 refine VO.mv rfl rfl rfl rfl ?_
 refine VO.val rfl rfl (OpV.lss rfl rfl rfl) ?_
 refine VO.nil ?_
 refine VC.cond rfl (fun aH1b => ?_) (fun aH1b => ?_)
 ·have aH1 := aH1b
  try simp only [qqT, qqF, qqN, qqM, qqL, qqE] at aH1
  refine VC.skip ?_
  refine VC.block ?_
  refine VC.sr ?_
  refine VO.mv rfl rfl rfl rfl ?_
  refine VO.mv rfl rfl rfl rfl ?_
  refine VO.val rfl rfl (OpV.add rfl rfl rfl (by unfold fits; omega)) ?_
  refine VO.val rfl rfl (OpV.conv rfl Tryz.underlying3 Tryz.underlying90 rfl (IntWalk.u64_in _ (by omega))) ?_
  refine VO.val rfl rfl (OpV.shr1 rfl rfl rfl rfl (by omega)) ?_
  refine VO.val rfl rfl (OpV.conv rfl Tryz.underlying90 Tryz.underlying3 rfl (IntWalk.i64_in _ (by omega))) ?_
  refine VO.ma rfl rfl rfl rfl ?_
  refine VO.nil ?_
  refine VC.sr ?_
  refine VO.mv rfl rfl rfl rfl ?_
  refine VO.mv rfl rfl rfl rfl ?_
  refine VO.mv rfl rfl rfl rfl ?_
  refine VO.val rfl rfl (OpV.indexAddr_E rfl Tryz.underlying143 Tryz.sizeOf142 rfl rfl (Int.toNat_of_nonneg (by omega)).symm (by omega)) ?_
  refine VO.val rfl rfl (OpV.loadK_at rfl hB OutW.no Tryz.isAgg142 Tryz.sizeOf142 rfl rfl) ?_
  refine VO.mv rfl rfl rfl rfl ?_
  refine VO.op rfl (OpE.callF rfl hB rfl hcall rfl rfl (hF _) ?_)
  rintro _ rfl
  refine VO.val rfl rfl (OpV.lss rfl rfl rfl) ?_
  refine VO.nil ?_
  refine VC.cond rfl (fun hcb => ?_) (fun hcb => ?_)
  ·have hc := hcb
   try simp only [qqT, qqF, qqN, qqM, qqL, qqE] at hc
   refine VC.region ?_
   refine VO.mv rfl rfl rfl rfl ?_
   refine VO.val rfl rfl (OpV.add rfl rfl rfl (by unfold fits; omega)) ?_
   refine VO.ma rfl rfl rfl rfl ?_
   refine VO.nil ?_
   exact Exists.intro (⟨((((i : Int) + j) / 2).toNat + 1, j), bsf_lo hhi (by omega) hc, h2, h3⟩) (And.intro (Le.mk hB [] ⟨(by first | rfl | exact congrArg (fun z => some (avI z)) (by omega)), (by first | rfl | exact congrArg (fun z => some (avI z)) (by omega)), rfl, rfl, rfl, rfl, trivial⟩ rfl rfl (Nat.le_refl _)) (by first | omega | (show _ < _; omega) | (simp only []; omega)))
  ·have hc := hcb
   try simp only [qqT, qqF, qqN, qqM, qqL, qqE] at hc
   refine VC.region ?_
   refine VO.mv rfl rfl rfl rfl ?_
   refine VO.ma rfl rfl rfl rfl ?_
   refine VO.nil ?_
   exact Exists.intro (⟨(i, (((i : Int) + j) / 2).toNat), h1, bsf_hi (h := (((i : Int) + j) / 2).toNat) hlo hc, by show _ ≤ xs.length; omega⟩) (And.intro (Le.mk hB [] ⟨(by first | rfl | exact congrArg (fun z => some (avI z)) (by omega)), (by first | rfl | exact congrArg (fun z => some (avI z)) (by omega)), rfl, rfl, rfl, rfl, trivial⟩ rfl rfl (Nat.le_refl _)) (by first | omega | (show _ < _; omega) | (simp only []; omega)))
 ·have aH1 := aH1b
  try simp only [qqT, qqF, qqN, qqM, qqL, qqE] at aH1
  obtain rfl : i = s0 := by omega
  refine VC.exit ?_
  refine VC.sr ?_
  refine VO.mv rfl rfl rfl rfl ?_
  refine VO.mv rfl rfl rfl rfl ?_
  refine VO.mv rfl rfl rfl rfl ?_
  refine VO.val rfl rfl (OpV.lss rfl rfl rfl) ?_
  refine VO.mv rfl rfl rfl rfl ?_
  refine VO.opG rfl rfl rfl rfl (fun aK2b => ?_) (fun aK2b => ?_)
  ·replace aK2b : _ = true := aK2b
   have aK2 := aK2b
   try simp only [qqT, qqF, qqN, qqM, qqL, qqE] at aK2
   refine OpE.val (W := NoB) (OpV.move (.inl rfl) rfl) rfl ?_
   refine VO.opY rfl rfl rfl rfl aK2b ?_
   refine OpE.val (W := NoB) (OpV.move (.inl rfl) rfl) rfl ?_
   refine VO.opY rfl rfl rfl rfl aK2b ?_
   refine OpE.val (W := NoB) (OpV.move (.inl rfl) rfl) rfl ?_
   refine VO.opY rfl rfl rfl rfl aK2b ?_
   refine OpE.val (W := NoB) (OpV.indexAddr_E rfl Tryz.underlying143 Tryz.sizeOf142 rfl rfl rfl (by omega)) rfl ?_
   refine VO.opY rfl rfl rfl rfl aK2b ?_
   refine OpE.val (W := NoB) (OpV.loadK_at rfl hB OutW.no Tryz.isAgg142 Tryz.sizeOf142 rfl rfl) rfl ?_
   refine VO.opY rfl rfl rfl rfl aK2b ?_
   refine OpE.val (W := NoB) (OpV.move (.inl rfl) rfl) rfl ?_
   refine VO.opY rfl rfl rfl rfl aK2b ?_
   refine OpE.callF rfl hB rfl hcall rfl rfl (hF _) ?_
   rintro _ rfl
   refine VO.opY rfl rfl rfl rfl aK2b ?_
   refine OpE.val (W := NoB) (OpV.eql rfl rfl rfl) rfl ?_
   refine VO.val rfl rfl (OpV.pickT rfl rfl rfl rfl aK2b) ?_
   refine VO.ma rfl rfl rfl rfl ?_
   refine VO.ma rfl rfl rfl rfl ?_
   refine VO.nil ?_
   refine VC.ret ?_
   exact Exists.intro _ (And.intro (RetN.two Tryz.results241 (ResN.v rfl) (ResN.v rfl)) (by first | (rw [decide_eq_true (show i < xs.length by omega)]; rfl) | (rw [decide_eq_false (show ¬ i < xs.length by omega)]; rfl)))
  ·replace aK2b : _ = false := aK2b
   have aK2 := aK2b
   try simp only [qqT, qqF, qqN, qqM, qqL, qqE] at aK2
   refine VO.opX rfl rfl rfl rfl aK2b ?_
   refine VO.opX rfl rfl rfl rfl aK2b ?_
   refine VO.opX rfl rfl rfl rfl aK2b ?_
   refine VO.opX rfl rfl rfl rfl aK2b ?_
   refine VO.opX rfl rfl rfl rfl aK2b ?_
   refine VO.opX rfl rfl rfl rfl aK2b ?_
   refine VO.opX rfl rfl rfl rfl aK2b ?_
   refine VO.val rfl rfl (OpV.pickF rfl rfl rfl rfl aK2b) ?_
   refine VO.ma rfl rfl rfl rfl ?_
   refine VO.ma rfl rfl rfl rfl ?_
   refine VO.nil ?_
   refine VC.ret ?_
   exact Exists.intro _ (And.intro (RetN.two Tryz.results241 (ResN.v rfl) (ResN.v rfl)) (by first | (rw [decide_eq_true (show i < xs.length by omega)]; rfl) | (rw [decide_eq_false (show ¬ i < xs.length by omega)]; rfl)))
set_option maxRecDepth 100000 in
theorem plan_paceOf {p : List PaceS} {k : ByteArray} (hl : p.length ≤ 1000000) (hr : RiseK PaceS.product p) :
  Spec Tryz.prog 216 [avL p, avS k] (fun y => y = .tup [avPc (paceO p k), avB (hasP p k)]) := by
 refine Spec.of_VC Tryz.func216 rfl Tryz.ntmps216 (Nle rfl) fun w A hB => ?_
 have hnew : True := trivial
 refine VC.sr ?_
 refine VO.op rfl (OpE.alloc rfl hB rfl Tryz.zeroValue142 rfl ?_)
 intro g4
 refine VO.ma rfl rfl rfl rfl ?_
 refine VO.nil ?_
 refine VC.sr ?_
 refine VO.mv rfl rfl rfl rfl ?_
 refine VO.mv rfl rfl rfl rfl ?_
 refine VO.op rfl (OpE.callL rfl hB rfl Tryz.call241 (bsf_pace (c := fun x => cmpB x.product k) (s0 := lowK PaceS.product p k) hl Tryz.call242 (fun x => plan_paceOf1.spec) lowK_le (lowK_cmp hr).1 (lowK_cmp hr).2) (ArgsP.cons (ArgP.ev rfl) (ArgsP.cons (ArgP.ev rfl) (ArgsP.cons (ArgP.fn0 rfl) (ArgsP.nil)))) ?_)
 rintro _ rfl
 refine VO.mv rfl rfl rfl rfl ?_
 refine VO.val rfl rfl (OpV.extract rfl rfl rfl) ?_
 refine VO.val rfl rfl (OpV.extract rfl rfl rfl) ?_
 refine VO.le _ (Le.recast (t := 13) (y := avB (hasP p k)) rfl (fun w Z u h => by rw [hasP, ← lowK_any hr, ← cmp_zero]; exact h)) ?_
 have hle := lowK_le (key := PaceS.product) (l := p) (k := k)
 refine VO.ma rfl rfl rfl rfl ?_
 refine VO.ma rfl rfl rfl rfl ?_
 refine VO.nil ?_
 refine VC.seq ?_
 refine VC.sr ?_
 refine VO.mv rfl rfl rfl rfl ?_
 refine VO.val rfl rfl (OpV.not rfl rfl) ?_
 refine VO.nil ?_
 refine VC.cond rfl (fun h0b => ?_) (fun h0b => ?_)
 ·have h0 := h0b
  try simp only [qqT, qqF, qqN, qqM, qqL, qqE] at h0
  refine VC.sr ?_
  refine VO.val rfl rfl (OpV.build (pls := #[(0, 1), (1, 1), (2, 1)]) rfl Tryz.zeroValue142 Tryz.underlying142 (fun w => by kernel_rfl) rfl rfl) ?_
  refine VO.le _ (Le.recast (t := 16) (y := avPc default) rfl (fun w Z u h => nil_pace h)) ?_
  refine VO.op rfl (OpE.store (i := 0) rfl hB rfl Tryz.sizeOf142 rfl rfl rfl rfl rfl rfl (Nle rfl) trivial ?_)
  refine VO.ma rfl rfl rfl rfl ?_
  refine VO.nil ?_
  refine VC.ret ?_
  exact Exists.intro _ (And.intro (RetV.two Tryz.results216 ((by first | exact ResV.cellK (i := 0) Tryz.isAgg142 Tryz.sizeOf142 rfl rfl rfl)) (ResV.tmp rfl)) (by rw [h0, paceO, find_none' h0]; rfl))
 ·have h0 := h0b
  try simp only [qqT, qqF, qqN, qqM, qqL, qqE] at h0
  have h1 := (lowK_any hr (k := k)).trans h0
  rw [Bool.and_eq_true, decide_eq_true_eq] at h1
  refine VC.skip ?_
  refine VC.sr ?_
  refine VO.mv rfl rfl rfl rfl ?_
  refine VO.mv rfl rfl rfl rfl ?_
  refine VO.val rfl rfl (OpV.indexAddr_E rfl Tryz.underlying143 Tryz.sizeOf142 rfl rfl rfl (by omega)) ?_
  refine VO.val rfl rfl (OpV.loadK_at rfl hB OutW.no Tryz.isAgg142 Tryz.sizeOf142 rfl rfl) ?_
  refine VO.op rfl (OpE.store (i := 0) rfl hB rfl Tryz.sizeOf142 rfl rfl rfl rfl rfl rfl (Nle rfl) trivial ?_)
  refine VO.ma rfl rfl rfl rfl ?_
  refine VO.nil ?_
  refine VC.ret ?_
  exact Exists.intro _ (And.intro (RetV.two Tryz.results216 ((by first | exact ResV.cellK (i := 0) Tryz.isAgg142 Tryz.sizeOf142 rfl rfl rfl)) (ResV.tmp rfl)) (by rw [h0, paceO, lowK_find hr h1.1 h1.2]; rfl))
set_option maxRecDepth 100000 in
set_option maxHeartbeats 4000000 in
theorem plan_fault {p : List PaceS} {o : List OrdrS} (hp : SmPc p) (ho : SmOr o) :
  SpecN Tryz.prog 177 [avL p, avL o] (fun y => y = avI (bothF p o)) := by
 refine SpecN.of_VCN Tryz.func177 rfl Tryz.ntmps177 (Nle rfl) fun w A hB => ?_
 have hnew : True := trivial
 refine VC.seq ?_
 have hl := hp.len
 have hl2 := ho.len
 refine VC.region ?_
 refine VO.ma rfl rfl rfl rfl ?_
 refine VO.nil ?_
 refine VC.seq ?_
 refine VC.sr ?_
 refine VO.mv rfl rfl rfl rfl ?_
 refine VO.op rfl (OpE.call rfl hB rfl Tryz.call214 rfl (SpecN.spec (plan_CheckPaces hp)) ?_)
 rintro _ rfl
 refine VO.ma rfl rfl rfl rfl ?_
 refine VO.nil ?_
 refine VC.sr ?_
 refine VO.mv rfl rfl rfl rfl ?_
 refine VO.val rfl rfl (OpV.neq rfl rfl rfl) ?_
 refine VO.nil ?_
 refine VC.cond rfl (fun h0b => ?_) (fun h0b => ?_)
 ·have h0 := h0b
  try simp only [qqT, qqF, qqN, qqM, qqL, qqE] at h0
  refine VC.sr ?_
  refine VO.mv rfl rfl rfl rfl ?_
  refine VO.ma rfl rfl rfl rfl ?_
  refine VO.nil ?_
  refine VC.ret ?_
  exact Exists.intro _ (And.intro (RetN.one Tryz.results177 (ResN.v rfl)) (by rw [bothF_1 h0]))
 ·have h0 := h0b
  try simp only [qqT, qqF, qqN, qqM, qqL, qqE] at h0
  refine VC.skip ?_
  refine VC.seq ?_
  refine VC.sr ?_
  refine VO.mv rfl rfl rfl rfl ?_
  refine VO.op rfl (OpE.call rfl hB rfl Tryz.call215 rfl (SpecN.spec (plan_CheckOrders ho)) ?_)
  rintro _ rfl
  refine VO.ma rfl rfl rfl rfl ?_
  refine VO.nil ?_
  refine VC.sr ?_
  refine VO.mv rfl rfl rfl rfl ?_
  refine VO.val rfl rfl (OpV.neq rfl rfl rfl) ?_
  refine VO.nil ?_
  refine VC.cond rfl (fun h1b => ?_) (fun h1b => ?_)
  ·have h1 := h1b
   try simp only [qqT, qqF, qqN, qqM, qqL, qqE] at h1
   refine VC.sr ?_
   refine VO.mv rfl rfl rfl rfl ?_
   refine VO.ma rfl rfl rfl rfl ?_
   refine VO.nil ?_
   refine VC.ret ?_
   exact Exists.intro _ (And.intro (RetN.one Tryz.results177 (ResN.v rfl)) (by rw [bothF_2 (by omega) h1]))
  ·have h1 := h1b
   try simp only [qqT, qqF, qqN, qqM, qqL, qqE] at h1
   refine VC.skip ?_
   refine VC.seq ?_
   refine VC.sr ?_
   refine VO.mv rfl rfl rfl rfl ?_
   refine VO.val rfl rfl (OpV.len_im rfl Tryz.underlying146 rfl) ?_
   refine VO.mv rfl rfl rfl rfl ?_
   refine VO.nil ?_
   refine VC.block ?_
   refine VC.loopK [(0, _), (21, _), (22, _)] ⟨rfl, rfl, rfl, trivial⟩ ({q : Nat // q ≤ o.length ∧ ∀ j, j < q → hasP p (o.getD j default).product = true}) (fun (iZ : {q : Nat // q ≤ o.length ∧ ∀ j, j < q → hasP p (o.getD j default).product = true}) => match iZ with | ⟨q, hq, hn⟩ => [(23, avI (q : Int))]) (fun (iZ : {q : Nat // q ≤ o.length ∧ ∀ j, j < q → hasP p (o.getD j default).product = true}) => match iZ with | ⟨q, hq, hn⟩ => []) (fun (iZ : {q : Nat // q ≤ o.length ∧ ∀ j, j < q → hasP p (o.getD j default).product = true}) => match iZ with | ⟨q, hq, hn⟩ => 0) (fun (iZ : {q : Nat // q ≤ o.length ∧ ∀ j, j < q → hasP p (o.getD j default).product = true}) => match iZ with | ⟨q, hq, hn⟩ => o.length - q) ⟨0, Nat.zero_le _, fun j hj => absurd hj (Nat.not_lt_zero j)⟩ (Le.mk hB [] ⟨rfl, rfl, rfl, rfl, trivial⟩ rfl rfl (Nat.le_refl _)) ?_
   rintro ⟨q, hq, hn⟩
   show VC _ _ _ _ ⟨[(23, avI (q : Int))] ++ [(0, _), (21, _), (22, _)], [], 0⟩
   refine VC.sr ?_
   refine VO.val rfl rfl (OpV.lss rfl rfl rfl) ?_
   refine VO.nil ?_
   refine VC.seq ?_
   refine VC.cond rfl (fun aH1b => ?_) (fun aH1b => ?_)
   ·have aH1 := aH1b
    try simp only [qqT, qqF, qqN, qqM, qqL, qqE] at aH1
    refine VC.skip ?_
    refine VC.seq ?_
    refine VC.block ?_
    refine VC.sr ?_
    refine VO.val rfl rfl (OpV.indexAddr_E rfl Tryz.underlying146 Tryz.sizeOf145 rfl rfl rfl (by omega)) ?_
    refine VO.val rfl rfl (OpV.loadK_at rfl hB OutW.no Tryz.isAgg145 Tryz.sizeOf145 rfl rfl) ?_
    refine VO.op rfl (OpE.alloc rfl hB rfl Tryz.zeroValue145 rfl ?_)
    intro g8
    refine VO.op rfl (OpE.store (i := 0) rfl hB rfl Tryz.sizeOf145 rfl rfl rfl rfl rfl rfl (Nle rfl) trivial ?_)
    refine VO.nil ?_
    refine VC.sr ?_
    refine VO.mv rfl rfl rfl rfl ?_
    refine VO.val rfl rfl (OpV.fieldAddrO 1 rfl Tryz.underlying145 rfl rfl Tryz.sizeOf9 rfl) ?_
    refine VO.val rfl rfl (OpV.load_own (i := 0) rfl hB Tryz.isAgg9 rfl rfl rfl (fun h => h)) ?_
    refine VO.op rfl (OpE.call rfl hB rfl Tryz.call216 rfl (plan_paceOf (k := (o.getD q default).product) (by omega) (pace_rise (pacesOk (by omega)))) ?_)
    rintro _ rfl
    refine VO.mv rfl rfl rfl rfl ?_
    refine VO.val rfl rfl (OpV.extract rfl rfl rfl) ?_
    refine VO.val rfl rfl (OpV.extract rfl rfl rfl) ?_
    refine VO.op rfl (OpE.alloc rfl hB rfl Tryz.zeroValue142 rfl ?_)
    intro g9
    refine VO.op rfl (OpE.store (i := 1) rfl hB rfl Tryz.sizeOf142 rfl rfl rfl rfl rfl rfl (Nle rfl) trivial ?_)
    refine VO.ma rfl rfl rfl rfl ?_
    refine VO.nil ?_
    refine VC.sr ?_
    refine VO.mv rfl rfl rfl rfl ?_
    refine VO.val rfl rfl (OpV.not rfl rfl) ?_
    refine VO.nil ?_
    refine VC.cond rfl (fun h3b => ?_) (fun h3b => ?_)
    ·have h3 := h3b
     try simp only [qqT, qqF, qqN, qqM, qqL, qqE] at h3
     refine VC.sr ?_
     refine VO.ma rfl rfl rfl rfl ?_
     refine VO.nil ?_
     refine VC.ret ?_
     exact Exists.intro _ (And.intro (RetN.one Tryz.results177 (ResN.v rfl)) (by rw [bothF_3 (by omega) (by omega), if_neg (by rw [all_no (d := default) (q := q) (by omega) h3]; simp)]))
    ·have h3 := h3b
     try simp only [qqT, qqF, qqN, qqM, qqL, qqE] at h3
     refine VC.skip ?_
     refine VC.region ?_
     refine VO.val rfl rfl (OpV.add rfl rfl rfl (by unfold fits; omega)) ?_
     refine VO.mv rfl rfl rfl rfl ?_
     refine VO.nil ?_
     exact Exists.intro (⟨q + 1, by omega, lt_succ_cases hn (h3)⟩) (And.intro (Le.mk hB [] ⟨rfl, rfl, rfl, rfl, trivial⟩ rfl rfl (Nat.le_refl _)) (by first | omega | (show _ < _; omega) | (simp only []; omega)))
   ·have aH1 := aH1b
    try simp only [qqT, qqF, qqN, qqM, qqL, qqE] at aH1
    refine VC.exit ?_
    refine VC.sr ?_
    refine VO.ma rfl rfl rfl rfl ?_
    refine VO.nil ?_
    refine VC.ret ?_
    exact Exists.intro _ (And.intro (RetN.one Tryz.results177 (ResN.v rfl)) (by rw [bothF_3 (by omega) (by omega), if_pos (all_yes (d := default) (fun j hj => hn j (by omega)))]))
set_option maxRecDepth 100000 in
set_option maxHeartbeats 4000000 in
theorem plan_scheduleFault {o : List OrdrS} {l : List Int} (ho : o.length ≤ 1000000) (hl : l.length ≤ 1000000) :
  SpecN Tryz.prog 178 [avL o, avInts l] (fun y => y = avI (schF o.length l)) := by
 refine SpecN.of_VCN Tryz.func178 rfl Tryz.ntmps178 (Nle rfl) fun w A hB => ?_
 have hnew : True := trivial
 refine VC.sr ?_
 refine VO.ma rfl rfl rfl rfl ?_
 refine VO.nil ?_
 refine VC.seq ?_
 refine VC.sr ?_
 refine VO.mv rfl rfl rfl rfl ?_
 refine VO.val rfl rfl (OpV.len_im rfl Tryz.underlying22 rfl) ?_
 refine VO.mv rfl rfl rfl rfl ?_
 refine VO.val rfl rfl (OpV.len_im rfl Tryz.underlying146 rfl) ?_
 refine VO.val rfl rfl (OpV.neq rfl rfl rfl) ?_
 refine VO.nil ?_
 refine VC.cond rfl (fun aH1b => ?_) (fun aH1b => ?_)
 ·have aH1 := aH1b
  try simp only [qqT, qqF, qqN, qqM, qqL, qqE] at aH1
  refine VC.sr ?_
  refine VO.ma rfl rfl rfl rfl ?_
  refine VO.nil ?_
  refine VC.ret ?_
  exact Exists.intro _ (And.intro (RetN.one Tryz.results178 (ResN.v rfl)) (by rw [schF_len (by omega)]))
 ·have aH1 := aH1b
  try simp only [qqT, qqF, qqN, qqM, qqL, qqE] at aH1
  refine VC.skip ?_
  refine VC.sr ?_
  refine VO.mv rfl rfl rfl rfl ?_
  refine VO.val rfl rfl (OpV.len_im rfl Tryz.underlying146 rfl) ?_
  refine VO.op rfl (OpE.make rfl hB rfl Tryz.underlying189 (infoOf Tryz.t4 1 (by kernel_rfl) rfl rfl) (by decide) rfl rfl (n := o.length) rfl rfl (by omega) (usedL_make rfl) ?_)
  intro g15
  rw [usedL_len]
  refine VO.ma rfl rfl rfl rfl ?_
  refine VO.nil ?_
  refine VC.seq ?_
  refine VC.sr ?_
  refine VO.mv rfl rfl rfl rfl ?_
  refine VO.val rfl rfl (OpV.len_im rfl Tryz.underlying22 rfl) ?_
  refine VO.mv rfl rfl rfl rfl ?_
  refine VO.nil ?_
  refine VC.block ?_
  refine VC.loopK [(0, _), (5, _), (16, _), (17, _)] ⟨rfl, rfl, rfl, rfl, trivial⟩ ({q : Nat // q ≤ l.length ∧ Ord o.length (l.take q)}) (fun (iZ : {q : Nat // q ≤ l.length ∧ Ord o.length (l.take q)}) => match iZ with | ⟨q, hq, hn⟩ => [(18, avI (q : Int))]) (fun (iZ : {q : Nat // q ≤ l.length ∧ Ord o.length (l.take q)}) => match iZ with | ⟨q, hq, hn⟩ => [.box g15 ⟨usedL o.length (l.take q), 4, o.length⟩]) (fun (iZ : {q : Nat // q ≤ l.length ∧ Ord o.length (l.take q)}) => match iZ with | ⟨q, hq, hn⟩ => 0) (fun (iZ : {q : Nat // q ≤ l.length ∧ Ord o.length (l.take q)}) => match iZ with | ⟨q, hq, hn⟩ => l.length - q) ⟨0, Nat.zero_le _, Ord.nil _⟩ (Le.mk hB [0] ⟨rfl, rfl, rfl, rfl, rfl, trivial⟩ rfl rfl (Nat.le_refl _)) ?_
  rintro ⟨q, hq, hn⟩
  show VC _ _ _ _ ⟨[(18, avI (q : Int))] ++ [(0, _), (5, _), (16, _), (17, _)], [.box g15 ⟨usedL o.length (l.take q), 4, o.length⟩], 0⟩
  refine VC.sr ?_
  refine VO.val rfl rfl (OpV.lss rfl rfl rfl) ?_
  refine VO.nil ?_
  refine VC.seq ?_
  refine VC.cond rfl (fun aH2b => ?_) (fun aH2b => ?_)
  ·have aH2 := aH2b
   try simp only [qqT, qqF, qqN, qqM, qqL, qqE] at aH2
   refine VC.skip ?_
   refine VC.seq ?_
   refine VC.block ?_
   refine VC.sr ?_
   refine VO.val rfl rfl (OpV.indexAddr_1 rfl Tryz.underlying22 Tryz.sizeOf3 rfl rfl rfl (by omega)) ?_
   refine VO.val rfl rfl (OpV.load_at rfl hB OutW.no Tryz.isAgg3 rfl rfl) ?_
   refine VO.ma rfl rfl rfl rfl ?_
   refine VO.nil ?_
   refine VC.seq ?_
   refine VC.sr ?_
   refine VO.mv rfl rfl rfl rfl ?_
   refine VO.val rfl rfl (OpV.lss rfl rfl rfl) ?_
   refine VO.mv rfl rfl rfl rfl ?_
   refine VO.opG rfl rfl rfl rfl (fun aK3b => ?_) (fun aK3b => ?_)
   ·replace aK3b : _ = false := aK3b
    have aK3 := aK3b
    try simp only [qqT, qqF, qqN, qqM, qqL, qqE] at aK3
    refine OpE.val (W := NoB) (OpV.move (.inl rfl) rfl) rfl ?_
    refine VO.opY rfl rfl rfl rfl aK3b ?_
    refine OpE.val (W := NoB) (OpV.move (.inl rfl) rfl) rfl ?_
    refine VO.opY rfl rfl rfl rfl aK3b ?_
    refine OpE.val (W := NoB) (OpV.len_im rfl Tryz.underlying146 rfl) rfl ?_
    refine VO.opY rfl rfl rfl rfl aK3b ?_
    refine OpE.val (W := NoB) (OpV.geq rfl rfl rfl) rfl ?_
    refine VO.val rfl rfl (OpV.pickF rfl rfl rfl rfl aK3b) ?_
    refine VO.mv rfl rfl rfl rfl ?_
    refine VO.opG rfl rfl rfl rfl (fun aK4b => ?_) (fun aK4b => ?_)
    ·replace aK4b : _ = false := aK4b
     have aK4 := aK4b
     try simp only [qqT, qqF, qqN, qqM, qqL, qqE] at aK4
     refine OpE.val (W := NoB) (OpV.move (.inl rfl) rfl) rfl ?_
     refine VO.opY rfl rfl rfl rfl aK4b ?_
     refine OpE.val (W := NoB) (OpV.move (.inl rfl) rfl) rfl ?_
     refine VO.opY rfl rfl rfl rfl aK4b ?_
     refine OpE.val (W := NoB) (OpV.indexAddr_o rfl Tryz.underlying189 Tryz.sizeOf4 rfl rfl (show l.getD q 0 = (((l.getD q 0).toNat : Nat) : Int) by omega) (by omega)) rfl ?_
     refine VO.opY rfl rfl rfl rfl aK4b ?_
     refine OpE.val (W := NoB) (OpV.load_own (i := 0) rfl hB Tryz.isAgg4 rfl rfl (usedL_get (q := (l.getD q 0).toNat) (by omega)) (fun h => h)) rfl ?_
     refine VO.le _ (Le.recast (t := 34) (y := avB (decide (l.getD q 0 ∈ l.take q))) rfl (fun w Z u h => by rw [Int.toNat_of_nonneg (by omega)] at h; exact h)) ?_
     refine VO.val rfl rfl (OpV.pickF rfl rfl rfl rfl aK4b) ?_
     refine VO.nil ?_
     refine VC.cond rfl (fun hxb => ?_) (fun hxb => ?_)
     ·have hx := hxb
      try simp only [qqT, qqF, qqN, qqM, qqL, qqE] at hx
      refine VC.sr ?_
      refine VO.ma rfl rfl rfl rfl ?_
      refine VO.nil ?_
      refine VC.ret ?_
      exact Exists.intro _ (And.intro (RetN.one Tryz.results178 (ResN.v rfl)) (by first | rw [schF_out (q := q) (by omega) (by omega)] | rw [schF_twice (q := q) (by omega) (by assumption)]))
     ·have hx := hxb
      try simp only [qqT, qqF, qqN, qqM, qqL, qqE] at hx
      have hx' : l.getD q 0 ∉ l.take q := by assumption
      refine VC.skip ?_
      refine VC.region ?_
      refine VO.mv rfl rfl rfl rfl ?_
      refine VO.mv rfl rfl rfl rfl ?_
      refine VO.val rfl rfl (OpV.indexAddr_o rfl Tryz.underlying189 Tryz.sizeOf4 rfl rfl (show l.getD q 0 = (((l.getD q 0).toNat : Nat) : Int) by omega) (by omega)) ?_
      refine VO.op rfl (OpE.store1 (i := 0) rfl hB rfl Tryz.sizeOf4 rfl rfl rfl rfl rfl rfl (by rw [usedL_len]; omega) (usedL_take (by omega) (by omega) (by omega)) trivial ?_)
      refine VO.nil ?_
      refine VC.region ?_
      refine VO.val rfl rfl (OpV.add rfl rfl rfl (by unfold fits; omega)) ?_
      refine VO.mv rfl rfl rfl rfl ?_
      refine VO.nil ?_
      exact Exists.intro (⟨q + 1, by omega, Ord.take hn (by omega) (by omega) (by omega) hx'⟩) (And.intro (Le.mk hB [0] ⟨rfl, rfl, rfl, rfl, rfl, trivial⟩ rfl rfl (Nat.le_refl _)) (by first | omega | (show _ < _; omega) | (simp only []; omega)))
    ·replace aK4b : _ = true := aK4b
     have aK4 := aK4b
     try simp only [qqT, qqF, qqN, qqM, qqL, qqE] at aK4
     refine VO.opX rfl rfl rfl rfl aK4b ?_
     refine VO.opX rfl rfl rfl rfl aK4b ?_
     refine VO.opX rfl rfl rfl rfl aK4b ?_
     refine VO.val rfl rfl (OpV.pickT rfl rfl rfl rfl aK4b) ?_
     refine VO.nil ?_
     refine VC.condT rfl rfl ?_
     refine VC.sr ?_
     refine VO.ma rfl rfl rfl rfl ?_
     refine VO.nil ?_
     refine VC.ret ?_
     exact Exists.intro _ (And.intro (RetN.one Tryz.results178 (ResN.v rfl)) (by first | rw [schF_out (q := q) (by omega) (by omega)] | rw [schF_twice (q := q) (by omega) (by assumption)]))
   ·replace aK3b : _ = true := aK3b
    have aK3 := aK3b
    try simp only [qqT, qqF, qqN, qqM, qqL, qqE] at aK3
    refine VO.opX rfl rfl rfl rfl aK3b ?_
    refine VO.opX rfl rfl rfl rfl aK3b ?_
    refine VO.opX rfl rfl rfl rfl aK3b ?_
    refine VO.val rfl rfl (OpV.pickT rfl rfl rfl rfl aK3b) ?_
    refine VO.mv rfl rfl rfl rfl ?_
    refine VO.opX rfl rfl rfl rfl rfl ?_
    refine VO.opX rfl rfl rfl rfl rfl ?_
    refine VO.opX rfl rfl rfl rfl rfl ?_
    refine VO.opX rfl rfl rfl rfl rfl ?_
    refine VO.val rfl rfl (OpV.pickT rfl rfl rfl rfl rfl) ?_
    refine VO.nil ?_
    refine VC.condT rfl rfl ?_
    refine VC.sr ?_
    refine VO.ma rfl rfl rfl rfl ?_
    refine VO.nil ?_
    refine VC.ret ?_
    exact Exists.intro _ (And.intro (RetN.one Tryz.results178 (ResN.v rfl)) (by first | rw [schF_out (q := q) (by omega) (by omega)] | rw [schF_twice (q := q) (by omega) (by assumption)]))
  ·have aH2 := aH2b
   try simp only [qqT, qqF, qqN, qqM, qqL, qqE] at aH2
   refine VC.exit ?_
   refine VC.sr ?_
   refine VO.ma rfl rfl rfl rfl ?_
   refine VO.nil ?_
   refine VC.ret ?_
   exact Exists.intro _ (And.intro (RetN.one Tryz.results178 (ResN.v rfl)) (by rw [schF_ok (by omega) (by rwa [List.take_of_length_le (by omega)] at hn)]))
set_option maxRecDepth 100000 in
theorem plan_numbersFault {s e : Int}  :
  SpecN Tryz.prog 179 [avI s, avI e] (fun y => y = avI (startF s e)) := by
 refine SpecN.of_VCN Tryz.func179 rfl Tryz.ntmps179 (Nle rfl) fun w A hB => ?_
 have hnew : True := trivial
 refine VC.sr ?_
 refine VO.ma rfl rfl rfl rfl ?_
 refine VO.nil ?_
 refine VC.seq ?_
 refine VC.sr ?_
 refine VO.mv rfl rfl rfl rfl ?_
 refine VO.op rfl (OpE.call rfl hB rfl Tryz.call212 rfl (SpecN.spec (kit_IsMoment)) ?_)
 rintro _ rfl
 refine VO.val rfl rfl (OpV.not rfl rfl) ?_
 refine VO.mv rfl rfl rfl rfl ?_
 refine VO.opG rfl rfl rfl rfl (fun aK1b => ?_) (fun aK1b => ?_)
 ·replace aK1b : _ = false := aK1b
  have aK1 := aK1b
  try simp only [qqT, qqF, qqN, qqM, qqL, qqE] at aK1
  refine OpE.val (W := NoB) (OpV.move (.inl rfl) rfl) rfl ?_
  refine VO.opY rfl rfl rfl rfl aK1b ?_
  refine OpE.call rfl hB rfl Tryz.call112 rfl (SpecN.spec (kit_Outside)) ?_
  rintro _ rfl
  refine VO.val rfl rfl (OpV.pickF rfl rfl rfl rfl aK1b) ?_
  refine VO.nil ?_
  refine VC.cond rfl (fun aH2b => ?_) (fun aH2b => ?_)
  ·have aH2 := aH2b
   try simp only [qqT, qqF, qqN, qqM, qqL, qqE] at aH2
   refine VC.sr ?_
   refine VO.ma rfl rfl rfl rfl ?_
   refine VO.nil ?_
   refine VC.ret ?_
   exact Exists.intro _ (And.intro (RetN.one Tryz.results179 (ResN.v rfl)) (by rw [startF, if_pos (by first | exact or2a (by assumption) | exact or2b (by assumption))]))
  ·have aH2 := aH2b
   try simp only [qqT, qqF, qqN, qqM, qqL, qqE] at aH2
   refine VC.skip ?_
   refine VC.sr ?_
   refine VO.ma rfl rfl rfl rfl ?_
   refine VO.nil ?_
   refine VC.ret ?_
   exact Exists.intro _ (And.intro (RetN.one Tryz.results179 (ResN.v rfl)) (by rw [startF, if_neg (by rw [or2f (by assumption) (by assumption)]; simp)]))
 ·replace aK1b : _ = true := aK1b
  have aK1 := aK1b
  try simp only [qqT, qqF, qqN, qqM, qqL, qqE] at aK1
  refine VO.opX rfl rfl rfl rfl aK1b ?_
  refine VO.val rfl rfl (OpV.pickT rfl rfl rfl rfl aK1b) ?_
  refine VO.nil ?_
  refine VC.condT rfl rfl ?_
  refine VC.sr ?_
  refine VO.ma rfl rfl rfl rfl ?_
  refine VO.nil ?_
  refine VC.ret ?_
  exact Exists.intro _ (And.intro (RetN.one Tryz.results179 (ResN.v rfl)) (by rw [startF, if_pos (by first | exact or2a (by assumption) | exact or2b (by assumption))]))
set_option maxRecDepth 100000 in
theorem slices_IndexFunc_need {xs : List NeedS} {F : FuncId} {cs : List AV} {p : NeedS → Bool} (hl : xs.length ≤ 1000000000) (hcall : ∀ us w, (callFunc F us).run Tryz.prog w = .ok (.enter F us) w) (hF : ∀ x, Spec Tryz.prog F ([avT x] ++ cs) (fun y => y = avB (p x))) :
  SpecN Tryz.prog 261 [avL xs, .fn F cs] (fun y => y = avI (fidx p xs)) := by
 refine SpecN.of_VCN Tryz.func261 rfl Tryz.ntmps261 (Nle rfl) fun w A hB => ?_
 have hnew : True := trivial
 refine VC.sr ?_
 refine VO.ma rfl rfl rfl rfl ?_
 refine VO.nil ?_
 refine VC.seq ?_
 refine VC.sr ?_
 refine VO.mv rfl rfl rfl rfl ?_
 refine VO.val rfl rfl (OpV.len_im rfl Tryz.underlying78 rfl) ?_
 refine VO.mv rfl rfl rfl rfl ?_
 refine VO.nil ?_
 refine VC.block ?_
 refine VC.loopK [(0, _), (1, _), (7, _)] ⟨rfl, rfl, rfl, trivial⟩ ({q : Nat // q ≤ xs.length ∧ ∀ j, j < q → p (xs.getD j default) = false}) (fun (iZ : {q : Nat // q ≤ xs.length ∧ ∀ j, j < q → p (xs.getD j default) = false}) => match iZ with | ⟨q, hq, hn⟩ => [(8, avI (q : Int))]) (fun (iZ : {q : Nat // q ≤ xs.length ∧ ∀ j, j < q → p (xs.getD j default) = false}) => match iZ with | ⟨q, hq, hn⟩ => []) (fun (iZ : {q : Nat // q ≤ xs.length ∧ ∀ j, j < q → p (xs.getD j default) = false}) => match iZ with | ⟨q, hq, hn⟩ => 0) (fun (iZ : {q : Nat // q ≤ xs.length ∧ ∀ j, j < q → p (xs.getD j default) = false}) => match iZ with | ⟨q, hq, hn⟩ => xs.length - q) ⟨0, Nat.zero_le _, fun j hj => absurd hj (Nat.not_lt_zero j)⟩ (Le.mk hB [] ⟨rfl, rfl, rfl, rfl, trivial⟩ rfl rfl (Nat.le_refl _)) ?_
 rintro ⟨q, hq, hn⟩
 show VC _ _ _ _ ⟨[(8, avI (q : Int))] ++ [(0, _), (1, _), (7, _)], [], 0⟩
 refine VC.sr ?_
 refine VO.val rfl rfl (OpV.lss rfl rfl rfl) ?_
 refine VO.nil ?_
 refine VC.seq ?_
 refine VC.cond rfl (fun aH1b => ?_) (fun aH1b => ?_)
 ·have aH1 := aH1b
  try simp only [qqT, qqF, qqN, qqM, qqL, qqE] at aH1
  refine VC.skip ?_
  refine VC.seq ?_
  refine VC.block ?_
  refine VC.sr ?_
  refine VO.mv rfl rfl rfl rfl ?_
  refine VO.ma rfl rfl rfl rfl ?_
  refine VO.nil ?_
  refine VC.sr ?_
  refine VO.mv rfl rfl rfl rfl ?_
  refine VO.mv rfl rfl rfl rfl ?_
  refine VO.mv rfl rfl rfl rfl ?_
  refine VO.val rfl rfl (OpV.indexAddr_E rfl Tryz.underlying78 Tryz.sizeOf82 rfl rfl rfl (by omega)) ?_
  refine VO.val rfl rfl (OpV.loadK_at rfl hB OutW.no Tryz.isAgg82 Tryz.sizeOf82 rfl rfl) ?_
  refine VO.op rfl (OpE.callF rfl hB rfl hcall rfl rfl (hF _) ?_)
  rintro _ rfl
  refine VO.nil ?_
  refine VC.cond rfl (fun aH2b => ?_) (fun aH2b => ?_)
  ·have aH2 := aH2b
   try simp only [qqT, qqF, qqN, qqM, qqL, qqE] at aH2
   refine VC.sr ?_
   refine VO.mv rfl rfl rfl rfl ?_
   refine VO.ma rfl rfl rfl rfl ?_
   refine VO.nil ?_
   refine VC.ret ?_
   exact Exists.intro _ (And.intro (RetN.one Tryz.results261 (ResN.v rfl)) (by first | (rw [fidx_found (d := default) (q := q) (by omega) hn (by assumption)]) | (rw [fidx_none (d := default) (fun j hj => hn j (by omega))])))
  ·have aH2 := aH2b
   try simp only [qqT, qqF, qqN, qqM, qqL, qqE] at aH2
   refine VC.skip ?_
   refine VC.region ?_
   refine VO.val rfl rfl (OpV.add rfl rfl rfl (by unfold fits; omega)) ?_
   refine VO.mv rfl rfl rfl rfl ?_
   refine VO.nil ?_
   exact Exists.intro (⟨q + 1, by omega, lt_succ_cases hn ((by assumption))⟩) (And.intro (Le.mk hB [] ⟨rfl, rfl, rfl, rfl, trivial⟩ rfl rfl (Nat.le_refl _)) (by first | omega | (show _ < _; omega) | (simp only []; omega)))
 ·have aH1 := aH1b
  try simp only [qqT, qqF, qqN, qqM, qqL, qqE] at aH1
  refine VC.exit ?_
  refine VC.sr ?_
  refine VO.ma rfl rfl rfl rfl ?_
  refine VO.nil ?_
  refine VC.ret ?_
  exact Exists.intro _ (And.intro (RetN.one Tryz.results261 (ResN.v rfl)) (by first | (rw [fidx_found (d := default) (q := q) (by omega) hn (by assumption)]) | (rw [fidx_none (d := default) (fun j hj => hn j (by omega))])))
set_option maxRecDepth 100000 in
theorem slices_ContainsFunc_need {xs : List NeedS} {F : FuncId} {cs : List AV} {p : NeedS → Bool} (hl : xs.length ≤ 1000000000) (hcall : ∀ us w, (callFunc F us).run Tryz.prog w = .ok (.enter F us) w) (hF : ∀ x, Spec Tryz.prog F ([avT x] ++ cs) (fun y => y = avB (p x))) :
  SpecN Tryz.prog 243 [avL xs, .fn F cs] (fun y => y = avB (xs.any p)) := by
 refine SpecN.of_VCN Tryz.func243 rfl Tryz.ntmps243 (Nle rfl) fun w A hB => ?_
 have hnew : True := trivial
 refine VC.sr ?_
 refine VO.ma rfl rfl rfl rfl ?_
 refine VO.nil ?_
 refine VC.sr ?_
 refine VO.mv rfl rfl rfl rfl ?_
 refine VO.mv rfl rfl rfl rfl ?_
 refine VO.op rfl (OpE.call rfl hB rfl Tryz.call261 rfl (SpecN.spec (slices_IndexFunc_need hl hcall hF)) ?_)
 rintro _ rfl
 refine VO.val rfl rfl (OpV.geq rfl rfl rfl) ?_
 refine VO.ma rfl rfl rfl rfl ?_
 refine VO.nil ?_
 refine VC.ret ?_
 exact Exists.intro _ (And.intro (RetN.one Tryz.results243 (ResN.v rfl)) (by rw [← fidx_any]))
set_option maxRecDepth 100000 in
theorem plan_changeover1 {x o : NeedS}  :
  SpecN Tryz.prog 244 [avT o, .at_ 2 (Sxc.cell x)] (fun y => y = avB (sEq o.key x.key)) := by
 refine SpecN.of_VCN Tryz.func244 rfl Tryz.ntmps244 (Nle rfl) fun w A hB => ?_
 have hnew : True := trivial
 refine VC.sr ?_
 refine VO.op rfl (OpE.box rfl hB rfl rfl rfl ?_)
 intro g2
 refine VO.ma rfl rfl rfl rfl ?_
 refine VO.nil ?_
 refine VC.sr ?_
 refine VO.val rfl rfl (OpV.fieldAddrO 0 rfl Tryz.underlying82 rfl rfl Tryz.sizeOf9 rfl) ?_
 refine VO.val rfl rfl (OpV.load_own (i := 0) rfl hB Tryz.isAgg9 rfl rfl rfl (fun h => h)) ?_
 refine VO.val rfl rfl (OpV.fieldAddr_atO 0 rfl Tryz.underlying82 rfl rfl Tryz.sizeOf9 rfl rfl) ?_
 refine VO.val rfl rfl (OpV.load_at rfl hB OutW.no Tryz.isAgg9 rfl rfl) ?_
 refine VO.val rfl rfl (OpV.seql rfl rfl rfl) ?_
 refine VO.ma rfl rfl rfl rfl ?_
 refine VO.nil ?_
 refine VC.ret ?_
 exact Exists.intro _ (And.intro (RetN.one Tryz.results244 (ResN.v rfl)) (rfl))
set_option maxRecDepth 100000 in
set_option maxHeartbeats 4000000 in
theorem plan_changeover {a b : PaceS} {each : Int} (ha : a.needs.length ≤ 1000000) (hb : b.needs.length ≤ 1000000) (he : 0 ≤ each ∧ each ≤ 10000000) :
  SpecN Tryz.prog 217 [avPc a, avPc b, avI each] (fun y => y = avI (chgI a b each)) := by
 refine SpecN.of_VCN Tryz.func217 rfl Tryz.ntmps217 (Nle rfl) fun w A hB => ?_
 have hnew : True := trivial
 refine VC.sr ?_
 refine VO.op rfl (OpE.box rfl hB rfl rfl rfl ?_)
 intro g3
 refine VO.op rfl (OpE.box rfl hB rfl rfl rfl ?_)
 intro g4
 refine VO.ma rfl rfl rfl rfl ?_
 refine VO.nil ?_
 refine VC.sr ?_
 refine VO.ma rfl rfl rfl rfl ?_
 refine VO.nil ?_
 refine VC.seq ?_
 refine VC.sr ?_
 refine VO.val rfl rfl (OpV.fieldAddrO 2 rfl Tryz.underlying142 rfl rfl Tryz.sizeOf78 rfl) ?_
 refine VO.val rfl rfl (OpV.load_own (i := 1) rfl hB Tryz.isAgg78 rfl rfl rfl (fun h => h)) ?_
 refine VO.val rfl rfl (OpV.len_im rfl Tryz.underlying78 rfl) ?_
 refine VO.mv rfl rfl rfl rfl ?_
 refine VO.nil ?_
 refine VC.block ?_
 refine VC.loopK [(2, _), (3, _), (11, _), (12, _)] ⟨rfl, rfl, rfl, rfl, trivial⟩ ({q : Nat // q ≤ b.needs.length}) (fun (iZ : {q : Nat // q ≤ b.needs.length}) => match iZ with | ⟨q, hq⟩ => [(7, avI (each * (chgN a.needs b.needs q : Int))), (13, avI (q : Int))]) (fun (iZ : {q : Nat // q ≤ b.needs.length}) => match iZ with | ⟨q, hq⟩ => [boxPc g3 a 142]) (fun (iZ : {q : Nat // q ≤ b.needs.length}) => match iZ with | ⟨q, hq⟩ => 0) (fun (iZ : {q : Nat // q ≤ b.needs.length}) => match iZ with | ⟨q, hq⟩ => b.needs.length - q) ⟨0, Nat.zero_le _⟩ (Le.mk hB [0] ⟨(by rw [show chgN a.needs b.needs 0 = 0 by simp [chgN]]; simp; rfl), rfl, rfl, rfl, rfl, rfl, trivial⟩ rfl rfl (Nat.le_refl _)) ?_
 rintro ⟨q, hq⟩
 show VC _ _ _ _ ⟨[(7, avI (each * (chgN a.needs b.needs q : Int))), (13, avI (q : Int))] ++ [(2, _), (3, _), (11, _), (12, _)], [boxPc g3 a 142], 0⟩
 have hcn := chgN_le a.needs b.needs q
 have hcm := mul_bd he.1 he.2 (by omega : (0 : Int) ≤ (chgN a.needs b.needs q : Int)) (by omega : _ ≤ (1000000 : Int))
 refine VC.sr ?_
 refine VO.val rfl rfl (OpV.lss rfl rfl rfl) ?_
 refine VO.nil ?_
 refine VC.seq ?_
 refine VC.cond rfl (fun aH1b => ?_) (fun aH1b => ?_)
 ·have aH1 := aH1b
  try simp only [qqT, qqF, qqN, qqM, qqL, qqE] at aH1
  refine VC.skip ?_
  refine VC.seq ?_
  refine VC.block ?_
  refine VC.sr ?_
  refine VO.val rfl rfl (OpV.indexAddr_E rfl Tryz.underlying78 Tryz.sizeOf82 rfl rfl rfl (by omega)) ?_
  refine VO.val rfl rfl (OpV.loadK_at rfl hB OutW.no Tryz.isAgg82 Tryz.sizeOf82 rfl rfl) ?_
  refine VO.op rfl (OpE.alloc rfl hB rfl Tryz.zeroValue82 rfl ?_)
  intro g9
  refine VO.op rfl (OpE.store (i := 1) rfl hB rfl Tryz.sizeOf82 rfl rfl rfl rfl rfl rfl (Nle rfl) trivial ?_)
  refine VO.nil ?_
  refine VC.sr ?_
  refine VO.val rfl rfl (OpV.fieldAddrO 2 rfl Tryz.underlying142 rfl rfl Tryz.sizeOf78 rfl) ?_
  refine VO.val rfl rfl (OpV.load_own (i := 0) rfl hB Tryz.isAgg78 rfl rfl rfl (fun h => h)) ?_
  refine VO.val rfl rfl (OpV.makeFunc1 rfl rfl) ?_
  refine VO.op rfl (OpE.callL rfl hB rfl Tryz.call243 (slices_ContainsFunc_need (p := fun o => sEq o.key (b.needs.getD q default).key) (by omega) Tryz.call244 (fun x => plan_changeover1.spec)) (ArgsP.cons (ArgP.ev rfl) (ArgsP.cons (ArgP.fn1 (i := 1) (m := 2) (f := Sxc.cell (b.needs.getD q default)) rfl rfl (Nle rfl) (lt2 rfl rfl)) (ArgsP.nil))) ?_)
  rintro _ rfl
  refine VO.val rfl rfl (OpV.not rfl rfl) ?_
  refine VO.nil ?_
  refine VC.cond rfl (fun hxb => ?_) (fun hxb => ?_)
  ·have hx := hxb
   try simp only [qqT, qqF, qqN, qqM, qqL, qqE] at hx
   refine VC.region ?_
   refine VO.mv rfl rfl rfl rfl ?_
   refine VO.mv rfl rfl rfl rfl ?_
   refine VO.val rfl rfl (OpV.add rfl rfl rfl (by unfold fits; omega)) ?_
   refine VO.ma rfl rfl rfl rfl ?_
   refine VO.nil ?_
   refine VC.region ?_
   refine VO.val rfl rfl (OpV.add rfl rfl rfl (by unfold fits; omega)) ?_
   refine VO.mv rfl rfl rfl rfl ?_
   refine VO.nil ?_
   exact Exists.intro (⟨q + 1, by omega⟩) (And.intro (Le.mk hB [0] ⟨(by first | (rw [chgN_t (by omega) hx, Int.natCast_add, Int.mul_add, Int.natCast_one, Int.mul_one]; rfl) | (rw [chgN_f (by omega) hx]; rfl)), rfl, rfl, rfl, rfl, rfl, trivial⟩ rfl rfl (Nat.le_refl _)) (by first | omega | (show _ < _; omega) | (simp only []; omega)))
  ·have hx := hxb
   try simp only [qqT, qqF, qqN, qqM, qqL, qqE] at hx
   refine VC.skip ?_
   refine VC.region ?_
   refine VO.val rfl rfl (OpV.add rfl rfl rfl (by unfold fits; omega)) ?_
   refine VO.mv rfl rfl rfl rfl ?_
   refine VO.nil ?_
   exact Exists.intro (⟨q + 1, by omega⟩) (And.intro (Le.mk hB [0] ⟨(by first | (rw [chgN_t (by omega) hx, Int.natCast_add, Int.mul_add, Int.natCast_one, Int.mul_one]; rfl) | (rw [chgN_f (by omega) hx]; rfl)), rfl, rfl, rfl, rfl, rfl, trivial⟩ rfl rfl (Nat.le_refl _)) (by first | omega | (show _ < _; omega) | (simp only []; omega)))
 ·have aH1 := aH1b
  try simp only [qqT, qqF, qqN, qqM, qqL, qqE] at aH1
  refine VC.exit ?_
  refine VC.seq ?_
  have hqe : q = b.needs.length := by omega
  rw [hqe]
  refine VC.region ?_
  refine VO.mv rfl rfl rfl rfl ?_
  refine VO.ma rfl rfl rfl rfl ?_
  refine VO.nil ?_
  refine VC.ret ?_
  exact Exists.intro _ (And.intro (RetN.one Tryz.results217 (ResN.v rfl)) (rfl))
end Go.Proofs.YtbbgjeiefmiblaaGreatDoor
namespace Go.Proofs.YtbbgjeiefmiblaaGreatDoor
open Go.RowKit
set_option linter.unusedVariables false
set_option linter.unusedSimpArgs false
structure OrT (x : OrdrS) : Prop where
 key : x.key.size ≤ 40
 product : x.product.size ≤ 40
 count : fits x.count
 ready : fits x.ready
 due : fits x.due
theorem key40' {x : ByteArray} (h : keyF x = true) : x.size ≤ 40 := by
 unfold keyF at h
 simp only [Bool.and_eq_true, decide_eq_true_eq] at h
 exact h.1.1.2
theorem OrT.of {o : List OrdrS} (h0 : ordrF o = 0) {q : Nat} (h : q < o.length) : OrT (o.getD q default) := by
 have h1 := ordrE_zero ((ordrsOk h0).all q h)
 refine ⟨key40' h1.1.1, key40' h1.1.2, ?_, ?_, ?_⟩ <;> unfold fits <;> omega
end Go.Proofs.YtbbgjeiefmiblaaGreatDoor
namespace Go.Proofs.YtbbgjeiefmiblaaGreatDoor
open Go.RowKit
set_option linter.unusedVariables false
set_option linter.unusedSimpArgs false
section
variable {text : ByteArray}
end
theorem numsR_len {l : List ByteArray} (h : numsB l = true) : (numsR l).length = l.length := by rw [numsR, if_pos h, numsV_len (Nat.le_refl _)]

end Go.Proofs.YtbbgjeiefmiblaaGreatDoor
namespace Go.Proofs.YtbbgjeiefmiblaaGreatDoor
open Go.RowKit
set_option linter.unusedVariables false
set_option linter.unusedSimpArgs false
theorem index_app {c : UInt8} : ∀ {a r : List UInt8}, (∀ x ∈ a, x ≠ c) → Lib.indexByte (a ++ c :: r) c = (a.length : Int)
 | [], r, _ => by simp [Lib.indexByte]
 | b :: a, r, h => by
  have h1 := index_app (a := a) (r := r) fun x hx => h x (List.mem_cons_of_mem _ hx)
  have hb : (b == c) = false := by simpa using h b (List.mem_cons_self ..)
  rw [List.cons_append]
  unfold Lib.indexByte
  rw [hb, h1]
  simp only [Bool.false_eq_true, if_false, List.length_cons]
  have h2 : ((a.length : Int) == -1) = false := by simp
  rw [h2]
  simp
theorem linesL_cat : ∀ {xs : List (List UInt8)}, (∀ x ∈ xs, ∀ b ∈ x, b ≠ 10) → linesL (xs.flatMap fun x => x ++ [10]) = xs ∧ endL (xs.flatMap fun x => x ++ [10]) = true
 | [], _ => ⟨by simp [linesL], by simp [endL]⟩
 | x :: xs, h => by
  obtain ⟨h1, h2⟩ := linesL_cat (xs := xs) fun y hy => h y (List.mem_cons_of_mem _ hy)
  have hx := h x (List.mem_cons_self ..)
  have e : ((x :: xs).flatMap fun x => x ++ [10]) = x ++ 10 :: xs.flatMap fun x => x ++ [10] := by
   rw [List.flatMap_cons, List.append_assoc]; rfl
  rw [e]
  have h3 := index_app (r := xs.flatMap fun x => x ++ [10]) hx
  obtain ⟨k1, k2⟩ := linesL_some h3
  rw [k1, k2]
  have e2 : (x ++ 10 :: xs.flatMap fun x => x ++ [10]).drop (x.length + 1) = xs.flatMap fun x => x ++ [10] := by
   rw [← List.drop_drop, List.drop_left]; rfl
  have e3 : (x ++ 10 :: xs.flatMap fun x => x ++ [10]).take x.length = x := List.take_left
  rw [e2, e3, h1, h2]
  exact ⟨rfl, rfl⟩
theorem splitL_join {c : UInt8} : ∀ {ws : List (List UInt8)}, ws ≠ [] → (∀ w ∈ ws, ∀ b ∈ w, b ≠ c) → splitL c (Lib.join ws [c]) = ws
 | [], h, _ => absurd rfl h
 | [w], _, h => by
  have e : Lib.join [w] [c] = w := by simp [Lib.join]
  rw [e]; exact splitL_none (h w (List.mem_singleton.2 rfl))
 | w :: v :: r, _, h => by
  have ih := splitL_join (ws := v :: r) (by simp) fun y hy => h y (List.mem_cons_of_mem _ hy)
  have e : Lib.join (w :: v :: r) [c] = w ++ c :: Lib.join (v :: r) [c] := by simp [Lib.join, List.intercalate]
  rw [e, splitL_cut (h w (List.mem_cons_self ..)), ih]
def wordO (s : ByteArray) : Bool := decide (0 < s.size) && (byL s).all fun b => b != 32 && b != 10
theorem wordO_1 {s : ByteArray} (h : wordO s = true) : sEq s ⟨#[]⟩ = false := by
 unfold wordO at h
 simp only [Bool.and_eq_true, decide_eq_true_eq] at h
 cases e : sEq s ⟨#[]⟩ with
 | false => rfl
 | true => rw [sEq_eq.1 e] at h; exact absurd h.1 (by decide)
theorem wordO_2 {s : ByteArray} (h : wordO s = true) : ∀ b ∈ byL s, b ≠ 32 ∧ b ≠ 10 := fun b hb => by
 unfold wordO at h
 simp only [Bool.and_eq_true] at h
 have := List.all_eq_true.1 h.2 b hb
 simpa using this
def lineW (ws : List ByteArray) : ByteArray := bytesOf (joinL ws ⟨#[32]⟩)
theorem joinL_map (ws : List ByteArray) : joinL ws ⟨#[32]⟩ = Lib.join (ws.map byL) [32] := rfl
theorem splitS_line {ws : List ByteArray} (hne : ws ≠ []) (h : ∀ w ∈ ws, wordO w = true) : splitS 32 (lineW ws) = ws ∧ wordsB (lineW ws) = true := by
 have e : splitS 32 (lineW ws) = ws := by
  unfold splitS lineW
  rw [byL_bytesOf, joinL_map, splitL_join (by simpa using hne) (fun w hw => by
   obtain ⟨x, hx, rfl⟩ := List.mem_map.1 hw
   exact fun b hb => (wordO_2 (h x hx) b hb).1), List.map_map]
  conv => rhs; rw [← List.map_id ws]
  exact List.map_congr_left fun x _ => bytesOf_byL x
 refine ⟨e, ?_⟩
 unfold wordsB
 rw [e, List.all_eq_true]
 exact fun x hx => by rw [wordO_1 (h x hx)]; rfl
theorem mem_join {c b : UInt8} : ∀ {ws : List (List UInt8)}, b ∈ Lib.join ws [c] → b = c ∨ ∃ w ∈ ws, b ∈ w
 | [], h => by simp [Lib.join] at h
 | [w], h => .inr ⟨w, List.mem_singleton.2 rfl, by simpa [Lib.join] using h⟩
 | w :: v :: r, h => by
  have e : Lib.join (w :: v :: r) [c] = w ++ c :: Lib.join (v :: r) [c] := by simp [Lib.join, List.intercalate]
  rw [e] at h
  rcases List.mem_append.1 h with h | h
  ·exact .inr ⟨w, List.mem_cons_self .., h⟩
  ·rcases List.mem_cons.1 h with h | h
   ·exact .inl h
   ·rcases mem_join h with h | ⟨x, hx, h⟩
    ·exact .inl h
    ·exact .inr ⟨x, List.mem_cons_of_mem _ hx, h⟩
theorem lines_words {t : ByteArray} {l : List (List ByteArray)} (ht : byL t = l.flatMap fun ws => joinL ws ⟨#[32]⟩ ++ [10]) (h : ∀ ws ∈ l, ∀ w ∈ ws, wordO w = true) : linesR t = l.map lineW ∧ linesE t = true := by
 have e : (l.flatMap fun ws => joinL ws ⟨#[32]⟩ ++ [10]) = (l.map fun ws => joinL ws ⟨#[32]⟩).flatMap fun x => x ++ [10] := by rw [List.flatMap_map]
 have hx : ∀ x ∈ l.map fun ws => joinL ws ⟨#[32]⟩, ∀ b ∈ x, b ≠ 10 := fun x hx b hb => by
  obtain ⟨ws, hws, rfl⟩ := List.mem_map.1 hx
  rw [joinL_map] at hb
  rcases mem_join hb with rfl | ⟨w, hw, hb⟩
  ·decide
  ·obtain ⟨z, hz, rfl⟩ := List.mem_map.1 hw
   exact (wordO_2 (h ws hws z hz) b hb).2
 obtain ⟨h1, h2⟩ := linesL_cat hx
 rw [← e, ← ht] at h1 h2
 refine ⟨by rw [linesR_L, h1, List.map_map]; rfl, ?_⟩
 exact (linesE_L t).trans h2
theorem dig48 : ∀ d, d < 10 → inB digsB (UInt8.ofNat (48 + d)) = true ∧ Lib.digitVal (UInt8.ofNat (48 + d)) = some d := by decide +kernel
theorem dd_all : ∀ u, (Lib.decDigits u).all (inB digsB) = true ∧ Lib.decFrom 0 (Lib.decDigits u) = some u := fun u => by
 induction u using Nat.strongRecOn with
 | _ u ih =>
  by_cases h : u < 10
  ·obtain ⟨h1, h2⟩ := dig48 u h
   rw [Lib.decDigits_one h]
   refine ⟨by rw [List.all_cons, h1]; rfl, ?_⟩
   unfold Lib.decFrom
   rw [h2]
   simp [Lib.decFrom]
  ·obtain ⟨h1, h2⟩ := dig48 (u % 10) (by omega)
   obtain ⟨k1, k2⟩ := ih (u / 10) (by omega)
   rw [Lib.decDigits, dif_neg h]
   refine ⟨by rw [List.all_append, k1, List.all_cons, h1]; rfl, ?_⟩
   rw [decFrom_snoc k2 h2]
   congr 1; omega
theorem dd_word (u : Nat) : wordO (itoaS (u : Int)) = true := by
 have h1 := (dd_all u).1
 have h2 : 0 < (Lib.decDigits u).length := by
  have : Lib.decDigits u ≠ [] := fun e => by
   have h := (dd_all u).2
   rw [e] at h
   by_cases h0 : u = 0
   ·subst h0; rw [Lib.decDigits_one (by decide)] at e; cases e
   ·simp [Lib.decFrom] at h; omega
  exact List.length_pos_iff.2 this
 unfold wordO
 rw [itoaS, Lib.itoa_nonneg, byL_bytesOf, bytesOf_size, Bool.and_eq_true, decide_eq_true_eq, List.all_eq_true]
 refine ⟨h2, fun b hb => ?_⟩
 have := List.all_eq_true.1 h1 b hb
 obtain ⟨k, hk⟩ := dig_val this
 have h3 := (dig_is hk).1
 have h4 := (dig_is hk).2.1
 subst h3
 have : ∀ d, d < 10 → (UInt8.ofNat (48 + d) != 32 && UInt8.ofNat (48 + d) != 10) = true := by decide +kernel
 exact this k (by omega)
theorem num_back {n : Int} (h0 : 0 ≤ n) (h1 : n < 1000000000000000) : numE (itoaS n) 15 = true ∧ numV (itoaS n) 15 = n := by
 obtain ⟨u, rfl⟩ : ∃ u : Nat, n = u := ⟨n.toNat, by omega⟩
 obtain ⟨k1, k2⟩ := dd_all u
 have hb : byL (itoaS (u : Int)) = Lib.decDigits u := by rw [itoaS, Lib.itoa_nonneg, byL_bytesOf]
 have hneg : negOf (itoaS (u : Int)) = false := by
  cases hn : negOf (itoaS (u : Int)) with
  | false => rfl
  | true =>
   have h := neg_yes hn
   rw [hb] at h
   rw [h, List.all_cons] at k1
   exact absurd k1 (by
    have : inB digsB 45 = false := by decide +kernel
    rw [this]; simp)
 have hd := neg_no hneg
 have hl : (Lib.decDigits u).length ≤ 15 := by
  rw [Lib.decDigits_length]
  exact nDig_le 14 u (by show u < 1000000000000000; omega)
 have hw := wordO_1 (dd_word u)
 have hbad : badR (dOf (itoaS (u : Int))) 15 = false := by
  rw [hd]
  unfold badR
  rw [hw, hb, k1]
  have hs : (itoaS (u : Int)).size ≤ 15 := by rw [← byL_len, hb]; exact hl
  rw [decide_eq_false (by omega)]; rfl
 obtain ⟨m, e1, e2, _⟩ := nVal_atoi (most := 15) (by decide) hbad
 rw [hd, hb, k2] at e1
 injection e1 with e1
 subst e1
 have hv : nVal (itoaS (u : Int)) = u := by rw [nVal, if_neg (by rw [hneg]; simp), e2]
 have hE : rfE (itoaS (u : Int)) 15 = true := by
  unfold rfE
  rw [hbad, hv, sEq_refl]; rfl
 have hnE : numE (itoaS (u : Int)) 15 = true := by rw [num_same _ _ (by decide)]; exact hE
 refine ⟨hnE, ?_⟩
 have h2 := numV_same (itoaS (u : Int)) 15 (by decide) hnE
 rw [h2.1, hv]
theorem smallsB_word : keysB.all (fun b => b != 32 && b != 10) = true := by decide +kernel
theorem key_word {s : ByteArray} (h : keyF s = true) : wordO s = true := by
 unfold keyF at h
 simp only [Bool.and_eq_true, decide_eq_true_eq] at h
 obtain ⟨⟨⟨h1, _⟩, _⟩, h4⟩ := h
 unfold wordO
 rw [Bool.and_eq_true, decide_eq_true_eq, List.all_eq_true]
 refine ⟨by omega, fun b hb => ?_⟩
 have h5 := List.all_eq_true.1 h4 b hb
 have hc := inB_contains keysB b
 rw [h5] at hc
 have h6 : b ∈ keysB := by simpa using hc.symm
 exact List.all_eq_true.1 smallsB_word b h6
end Go.Proofs.YtbbgjeiefmiblaaGreatDoor
namespace Go.Proofs.YtbbgjeiefmiblaaGreatDoor
open Go.RowKit
set_option linter.unusedVariables false
set_option linter.unusedSimpArgs false
abbrev n2p (s : ByteArray) (i : Nat) : Int := (numsR ((splitS 32 s).drop 2)).getD i 0
abbrev n3p (s : ByteArray) (i : Nat) : Int := (numsR ((splitS 32 s).drop 3)).getD i 0
def okP0 (s : ByteArray) : Bool := wordsB s && (decide ((splitS 32 s).length = 4) && (sEq (w8 s 0) prodW && numsB ((splitS 32 s).drop 2)))
def okP1 (s : ByteArray) : Bool := wordsB s && (decide ((splitS 32 s).length = 6) && (sEq (w8 s 0) plcW && numsB ((splitS 32 s).drop 3)))
def plOf (s : ByteArray) : PlaceS := ⟨w8 s 1, w8 s 2, n3p s 0, n3p s 1, n3p s 2⟩
theorem okP0_y {s : ByteArray} (h1 : wordsB s = true) (h2 : (splitS 32 s).length = 4) (h3 : sEq (w8 s 0) prodW = true) : okP0 s = numsB ((splitS 32 s).drop 2) := by
 unfold okP0; rw [h1, decide_eq_true h2, h3]; rfl
theorem okP0_n {s : ByteArray} (h : wordsB s = false ∨ (splitS 32 s).length ≠ 4 ∨ sEq (w8 s 0) prodW = false) : okP0 s = false := by
 unfold okP0
 rcases h with h | h | h
 ·rw [h]; rfl
 ·rw [decide_eq_false h]; simp
 ·rw [h]; simp
theorem okP1_y {s : ByteArray} (h1 : wordsB s = true) (h2 : (splitS 32 s).length = 6) (h3 : sEq (w8 s 0) plcW = true) : okP1 s = numsB ((splitS 32 s).drop 3) := by
 unfold okP1; rw [h1, decide_eq_true h2, h3]; rfl
theorem okP1_n {s : ByteArray} (h : wordsB s = false ∨ (splitS 32 s).length ≠ 6 ∨ sEq (w8 s 0) plcW = false) : okP1 s = false := by
 unfold okP1
 rcases h with h | h | h
 ·rw [h]; rfl
 ·rw [decide_eq_false h]; simp
 ·rw [h]; simp
def okPi (i : Nat) (s : ByteArray) : Bool := if i = 0 then okP0 s else okP1 s
def stepP (i : Nat) (s : ByteArray) (p : ProdS) : ProdS := if i = 0 then ⟨w8 s 1, n2p s 0, n2p s 1, p.places⟩ else ⟨p.key, p.wide, p.high, p.places ++ [plOf s]⟩
theorem okPi_0 (s : ByteArray) : okPi 0 s = okP0 s := rfl
theorem okPi_1 {i : Nat} (h : i ≠ 0) (s : ByteArray) : okPi i s = okP1 s := if_neg h
theorem stepP_0 (s : ByteArray) (p : ProdS) : stepP 0 s p = ⟨w8 s 1, n2p s 0, n2p s 1, p.places⟩ := rfl
theorem stepP_1 {i : Nat} (h : i ≠ 0) (s : ByteArray) (p : ProdS) : stepP i s p = ⟨p.key, p.wide, p.high, p.places ++ [plOf s]⟩ := if_neg h
def prZ : ProdS := ⟨⟨#[]⟩, 0, 0, []⟩
def prOf : List ByteArray → ProdS
 | [] => prZ
 | s :: r => ⟨w8 s 1, n2p s 0, n2p s 1, r.map plOf⟩
theorem prOf_step (pre : List ByteArray) (s : ByteArray) : stepP pre.length s (prOf pre) = prOf (pre ++ [s]) := by
 cases pre with
 | nil => rfl
 | cons x r => rw [stepP_1 (by simp)]; simp [prOf]
theorem prOf_cons (s : ByteArray) (r : List ByteArray) : prOf (s :: r) = ⟨w8 s 1, n2p s 0, n2p s 1, r.map plOf⟩ := rfl
theorem prOf_len (pre : List ByteArray) : (prOf pre).places.length ≤ pre.length := by
 cases pre with
 | nil => exact Nat.le_refl _
 | cons x r => simp [prOf]
theorem prOf_take {ls : List ByteArray} {q : Nat} (h : q < ls.length) : prOf (ls.take (q + 1)) = stepP q (ls.getD q ByteArray.empty) (prOf (ls.take q)) := by
 have e : ls.take (q + 1) = ls.take q ++ [ls.getD q ByteArray.empty] := by
  rw [List.take_succ_eq_append_getElem h]; simp [List.getD_eq_getElem?_getD, h]
 have h2 := prOf_step (ls.take q) (ls.getD q ByteArray.empty)
 rw [List.length_take, Nat.min_eq_left (by omega)] at h2
 rw [e, h2]
abbrev okPs : List ByteArray → ByteArray → Bool := fun pre x => okPi pre.length x
abbrev prBad (text : ByteArray) : Option Nat := lnF (okAt okPs (linesR text)) (linesR text) (linesE text)
def prRead (text : ByteArray) : ProdS × Int × Int :=
 if 200000 < text.size then (prZ, 0, 2)
 else if (linesR text).length = 0 then (prZ, 0, 9)
 else match prBad text with
  | some i => (prZ, (i : Int), 9)
  | none => if prodF (prOf (linesR text)) = 0 then (prOf (linesR text), 0, 0) else (prZ, 0, prodF (prOf (linesR text)))
section
variable {text : ByteArray}
theorem prRead_2 (h : 200000 < text.size) : prRead text = (prZ, 0, 2) := by rw [prRead, if_pos h]
theorem prRead_n (h : ¬ 200000 < text.size) (h0 : (linesR text).length = 0) : prRead text = (prZ, 0, 9) := by rw [prRead, if_neg h, if_pos h0]
theorem prRead_9 (h : ¬ 200000 < text.size) (h0 : (linesR text).length ≠ 0) {i : Nat} (hi : prBad text = some i) : prRead text = (prZ, (i : Int), 9) := by rw [prRead, if_neg h, if_neg h0, hi]
theorem prRead_e (h : ¬ 200000 < text.size) (h0 : (linesR text).length ≠ 0) (hi : prBad text = none) (hf : prodF (prOf (linesR text)) ≠ 0) : prRead text = (prZ, 0, prodF (prOf (linesR text))) := by rw [prRead, if_neg h, if_neg h0, hi]; simp only; rw [if_neg hf]
theorem prRead_0 (h : ¬ 200000 < text.size) (h0 : (linesR text).length ≠ 0) (hi : prBad text = none) (hf : prodF (prOf (linesR text)) = 0) : prRead text = (prOf (linesR text), 0, 0) := by rw [prRead, if_neg h, if_neg h0, hi]; simp only; rw [if_pos hf]
theorem plOf_sm {n : Nat} {s : ByteArray} (h : s.size ≤ n) : (plOf s).name.size ≤ n ∧ (plOf s).part.size ≤ n :=
 ⟨Nat.le_trans (splitS_get _ _ _) h, Nat.le_trans (splitS_get _ _ _) h⟩
theorem prOf_Sm {ls : List ByteArray} {n : Nat} (hn : n ≤ 1000000) (hl : ls.length ≤ 1000000) (h : ∀ i, (ls.getD i ByteArray.empty).size ≤ n) : SmP (prOf ls) := by
 cases ls with
 | nil => exact ⟨by decide, by decide, fun i => by simp [prOf, prZ]; decide, fun i => by simp [prOf, prZ]; decide⟩
 | cons x r =>
  have hx : x.size ≤ n := h 0
  have hg : ∀ i, ((r.map plOf).getD i default).name.size ≤ 1000000 ∧ ((r.map plOf).getD i default).part.size ≤ 1000000 := fun i => by
   by_cases hi : i < r.length
   ·have e : (r.map plOf).getD i default = plOf (r.getD i ByteArray.empty) := by simp [List.getD_eq_getElem?_getD, hi]
    rw [e]
    have := plOf_sm (h (i + 1))
    simp only [List.getD_cons_succ] at this
    exact ⟨by omega, by omega⟩
   ·have e : (r.map plOf).getD i default = default := by rw [List.getD_eq_getElem?_getD, List.getElem?_eq_none (by rw [List.length_map]; omega)]; rfl
    rw [e]
    exact ⟨Nat.zero_le _, Nat.zero_le _⟩
  refine ⟨?_, ?_, fun i => (hg i).1, fun i => (hg i).2⟩
  ·show (w8 x 1).size ≤ 1000000
   have := splitS_get 32 x 1
   exact Nat.le_trans this (by omega)
  ·show (r.map plOf).length ≤ 1000000
   rw [List.length_map]; simp at hl; omega
theorem lpBad_at {ls : List ByteArray} {e : Bool} {q : Nat} (hq : q < ls.length) : lnBad (okAt okPs ls) ls e q = (!okPi q (ls.getD q ByteArray.empty) || (!e && decide (q + 1 = ls.length))) := by
 unfold lnBad okAt okPs
 rw [List.length_take, Nat.min_eq_left (by omega)]
end
section
variable {ls : List ByteArray} {en : Bool} {q : Nat}
theorem lpb1 (hq : q < ls.length) (h : okPi q (ls.getD q ByteArray.empty) = false) : lnBad (okAt okPs ls) ls en q = true := by rw [lpBad_at hq, h]; rfl
theorem lpb2 (hq : q < ls.length) (h : en = false) (h2 : q + 1 = ls.length) : lnBad (okAt okPs ls) ls en q = true := by rw [lpBad_at hq, h, decide_eq_true h2]; simp
theorem lpb3 (hq : q < ls.length) (h : okPi q (ls.getD q ByteArray.empty) = true) (h2 : en = true) : lnBad (okAt okPs ls) ls en q = false := by rw [lpBad_at hq, h, h2]; rfl
theorem lpb4 (hq : q < ls.length) (h : okPi q (ls.getD q ByteArray.empty) = true) (h2 : ¬ q + 1 = ls.length) : lnBad (okAt okPs ls) ls en q = false := by rw [lpBad_at hq, h, decide_eq_false h2]; simp
end
theorem w8_line {ws : List ByteArray} (hne : ws ≠ []) (h : ∀ w ∈ ws, wordO w = true) (i : Nat) : w8 (lineW ws) i = ws.getD i ByteArray.empty := by
 unfold w8; rw [(splitS_line hne h).1]
theorem prodW_word : wordO prodW = true := by decide +kernel
theorem plcW_word : wordO plcW = true := by decide +kernel
theorem itoa_word {n : Int} (h : 0 ≤ n) : wordO (itoaS n) = true := by
 obtain ⟨u, rfl⟩ : ∃ u : Nat, n = u := ⟨n.toNat, by omega⟩
 exact dd_word u
theorem nums_back {l : List Int} (h : ∀ n ∈ l, 0 ≤ n ∧ n < 1000000000000000) : numsB (l.map itoaS) = true ∧ numsR (l.map itoaS) = l := by
 have h1 : numsB (l.map itoaS) = true := by
  unfold numsB
  rw [List.all_eq_true]
  intro x hx
  obtain ⟨n, hn, rfl⟩ := List.mem_map.1 hx
  exact (num_back (h n hn).1 (h n hn).2).1
 refine ⟨h1, ?_⟩
 rw [numsR, if_pos h1, numsV, List.take_length, List.map_map]
 conv => rhs; rw [← List.map_id l]
 exact List.map_congr_left fun n hn => (num_back (h n hn).1 (h n hn).2).2
theorem head_back {p : ProdS} (hk : keyF p.key = true) (hw : 0 ≤ p.wide ∧ p.wide < 1000000000000000) (hh : 0 ≤ p.high ∧ p.high < 1000000000000000) :
  okP0 (lineW (headPW p)) = true ∧ w8 (lineW (headPW p)) 1 = p.key ∧ n2p (lineW (headPW p)) 0 = p.wide ∧ n2p (lineW (headPW p)) 1 = p.high := by
 have hws : ∀ w ∈ headPW p, wordO w = true := fun w hw' => by
  simp only [headPW, List.mem_cons, List.not_mem_nil, or_false] at hw'
  rcases hw' with rfl | rfl | rfl | rfl
  ·exact prodW_word
  ·exact key_word hk
  ·exact itoa_word hw.1
  ·exact itoa_word hh.1
 have hne : headPW p ≠ [] := by simp [headPW]
 obtain ⟨h1, h2⟩ := splitS_line hne hws
 have hd : (splitS 32 (lineW (headPW p))).drop 2 = [p.wide, p.high].map itoaS := by rw [h1]; rfl
 obtain ⟨b1, b2⟩ := nums_back (l := [p.wide, p.high]) (fun n hn => by
  simp only [List.mem_cons, List.not_mem_nil, or_false] at hn
  rcases hn with rfl | rfl
  ·exact hw
  ·exact hh)
 refine ⟨?_, by rw [w8_line hne hws]; rfl, by unfold n2p; rw [hd, b2]; rfl, by unfold n2p; rw [hd, b2]; rfl⟩
 rw [okP0_y h2 (by rw [h1]; rfl) (by rw [w8_line hne hws]; exact sEq_refl _), hd, b1]
theorem line_back {x : PlaceS} (hn : keyF x.name = true) (hp : keyF x.part = true) (h1 : 0 ≤ x.x ∧ x.x < 1000000000000000) (h2 : 0 ≤ x.y ∧ x.y < 1000000000000000) (h3 : 0 ≤ x.quarter ∧ x.quarter < 1000000000000000) :
  okP1 (lineW (linePW x)) = true ∧ plOf (lineW (linePW x)) = x := by
 have hws : ∀ w ∈ linePW x, wordO w = true := fun w hw' => by
  simp only [linePW, List.mem_cons, List.not_mem_nil, or_false] at hw'
  rcases hw' with rfl | rfl | rfl | rfl | rfl | rfl
  ·exact plcW_word
  ·exact key_word hn
  ·exact key_word hp
  ·exact itoa_word h1.1
  ·exact itoa_word h2.1
  ·exact itoa_word h3.1
 have hne : linePW x ≠ [] := by simp [linePW]
 obtain ⟨e1, e2⟩ := splitS_line hne hws
 have hd : (splitS 32 (lineW (linePW x))).drop 3 = [x.x, x.y, x.quarter].map itoaS := by rw [e1]; rfl
 obtain ⟨b1, b2⟩ := nums_back (l := [x.x, x.y, x.quarter]) (fun n hn => by
  simp only [List.mem_cons, List.not_mem_nil, or_false] at hn
  rcases hn with rfl | rfl | rfl
  ·exact h1
  ·exact h2
  ·exact h3)
 refine ⟨?_, ?_⟩
 ·rw [okP1_y e2 (by rw [e1]; rfl) (by rw [w8_line hne hws]; exact sEq_refl _), hd, b1]
 ·unfold plOf n3p
  rw [w8_line hne hws, w8_line hne hws, hd, b2]
  rfl
theorem byL_app (a b : ByteArray) : byL (a ++ b) = byL a ++ byL b := by simp [byL, ByteArray.data_append]
theorem foldP_L (l : List PlaceS) (s : ByteArray) : byL (l.foldl (fun out x => out ++ lineP x) s) = byL s ++ l.flatMap fun x => byL (lineP x) := by
 induction l generalizing s with
 | nil => simp
 | cons x l ih => rw [List.foldl_cons, ih, byL_app, List.flatMap_cons, List.append_assoc]
theorem linesP_words (p : ProdS) : byL (linesP p p.places.length) = (headPW p :: p.places.map linePW).flatMap fun ws => joinL ws ⟨#[32]⟩ ++ [10] := by
 unfold linesP
 rw [List.take_length, foldP_L, List.flatMap_cons, List.flatMap_map, ← headP_eq, byL_bytesOf]
 congr 1
 apply congrArg (fun f => p.places.flatMap f)
 funext x
 rw [← lineP_eq, byL_bytesOf]
theorem prod_back {p : ProdS} (h : prodF p = 0) (hz : (linesP p p.places.length).size ≤ 200000) : prRead (linesP p p.places.length) = (p, 0, 0) := by
 have hok := prodOk h
 have hw := hok.wide
 have hh := hok.high
 have hpl : ∀ x ∈ p.places, (keyF x.name = true ∧ keyF x.part = true) ∧ (0 ≤ x.x ∧ x.x < 1000000000000000) ∧ (0 ≤ x.y ∧ x.y < 1000000000000000) ∧ (0 ≤ x.quarter ∧ x.quarter < 1000000000000000) := fun x hx => by
  obtain ⟨j, hj, rfl⟩ := List.getElem_of_mem hx
  have he := hok.all j hj
  have hz := placeE_zero he
  have hk : (keyF (p.places.getD j default).name && keyF (p.places.getD j default).part) = true := by
   cases hk : (keyF (p.places.getD j default).name && keyF (p.places.getD j default).part) with
   | true => rfl
   | false => rw [placeE, if_pos hk] at he; cases he
  rw [Bool.and_eq_true] at hk
  rw [List.getD_eq_getElem?_getD, List.getElem?_eq_getElem hj] at hk hz
  simp only [Option.getD_some] at hk hz
  exact ⟨hk, by omega, by omega, by omega⟩
 obtain ⟨a1, a2, a3, a4⟩ := head_back hok.key (by omega) (by omega)
 have hword : ∀ ws ∈ (headPW p :: p.places.map linePW), ∀ w ∈ ws, wordO w = true := fun ws hws w hw' => by
  rcases List.mem_cons.1 hws with rfl | hws
  ·simp only [headPW, List.mem_cons, List.not_mem_nil, or_false] at hw'
   rcases hw' with rfl | rfl | rfl | rfl
   ·exact prodW_word
   ·exact key_word hok.key
   ·exact itoa_word (by omega)
   ·exact itoa_word (by omega)
  ·obtain ⟨x, hx, rfl⟩ := List.mem_map.1 hws
   obtain ⟨⟨k1, k2⟩, k3, k4, k5⟩ := hpl x hx
   simp only [linePW, List.mem_cons, List.not_mem_nil, or_false] at hw'
   rcases hw' with rfl | rfl | rfl | rfl | rfl | rfl
   ·exact plcW_word
   ·exact key_word k1
   ·exact key_word k2
   ·exact itoa_word k3.1
   ·exact itoa_word k4.1
   ·exact itoa_word k5.1
 obtain ⟨e1, e2⟩ := lines_words (linesP_words p) hword
 rw [List.map_cons, List.map_map] at e1
 have hpo : prOf (linesR (linesP p p.places.length)) = p := by
  rw [e1, prOf_cons, a2, a3, a4, List.map_map]
  have : p.places.map (plOf ∘ (lineW ∘ linePW)) = p.places := by
   conv => rhs; rw [← List.map_id p.places]
   exact List.map_congr_left fun x hx => (line_back (hpl x hx).1.1 (hpl x hx).1.2 (hpl x hx).2.1 (hpl x hx).2.2.1 (hpl x hx).2.2.2).2
  rw [this]
 have hbad : prBad (linesP p p.places.length) = none := by
  show lnF _ _ _ = none
  refine lnF_none fun j hj => ?_
  refine lpb3 hj ?_ e2
  rw [e1] at hj ⊢
  cases j with
  | zero => exact a1
  | succ j =>
   rw [okPi_1 (by omega), List.getD_cons_succ]
   have hj' : j < p.places.length := by simpa using hj
   have : (p.places.map (lineW ∘ linePW)).getD j ByteArray.empty = lineW (linePW p.places[j]) := by simp [List.getD_eq_getElem?_getD, hj']
   rw [this]
   have hx := hpl p.places[j] (List.getElem_mem hj')
   exact (line_back hx.1.1 hx.1.2 hx.2.1 hx.2.2.1 hx.2.2.2).1
 rw [prRead_0 (by omega) (by rw [e1]; simp) hbad (by rw [hpo]; exact h), hpo]
end Go.Proofs.YtbbgjeiefmiblaaGreatDoor
namespace Go.Proofs.YtbbgjeiefmiblaaGreatDoor
open Go.RowKit
set_option linter.unusedVariables false
set_option linter.unusedSimpArgs false
section
variable {P : Program} {B : Bs} {s : St'}
theorem Le.cellRow {i k j g n sz : Nat} {o' : Own'} {u : Value} {cs : List AV} {ty : TypeId} {y : AV} (hB : B.Ok) (hi : s.hp[i]? = some (.box g o')) (hj : o'.cs[j]? = some (.v u)) (hk : s.hp[k]? = some (.row u n sz cs ty)) (hik : i < k) (hy : ∀ w Z u, Rep w Z (.im n sz fun j => cs.getD j .any) u → Rep w Z y u) :
  Le B s ⟨s.sl, (s.hp.eraseIdx k).set i (.box g ⟨o'.cs.set j y, o'.ty, o'.tot⟩), s.k⟩ := fun a w hr => by
 have hr1 := hr.erase k
 have hi1 : (s.hp.eraseIdx k)[i]? = some (.box g o') := by rw [List.getElem?_eraseIdx, if_pos hik]; exact hi
 have hz : ∀ b, Zn B (s.hp.eraseIdx k) w b → Zn B ((s.hp.eraseIdx k).set i (.box g ⟨o'.cs.set j y, o'.ty, o'.tot⟩)) w b := fun b hb => ⟨hb.1, fun p hp hpb => by
  rcases List.mem_or_eq_of_mem_set hp with h | h
  ·exact hb.2.1 p h hpb
  ·subst h; exact hb.2.1 _ (List.mem_of_getElem? hi1) hpb, hb.2.2⟩
 have hz0 : ∀ b, Zn B s.hp w b → Zn B (s.hp.eraseIdx k) w b := fun b hb => ⟨hb.1, fun p hp => hb.2.1 p ((List.eraseIdx_sublist s.hp k).subset hp), hb.2.2⟩
 refine hr1.set hB hi1 (w' := w) (Chg.refl _ w) (.inl rfl) ?_
 obtain ⟨c, h1, h2, h3, h4⟩ := hr1.blocks _ (List.mem_of_getElem? hi1)
 refine ⟨c, h1, h2, by simpa using h3, fun q hq => ?_⟩
 have hq' : q < o'.cs.length := by simpa using hq
 obtain ⟨hjl, hje⟩ := List.getElem?_eq_some_iff.1 hj
 obtain ⟨v, k1, k2⟩ := h4 q hq'
 refine ⟨v, k1, ?_⟩
 rw [List.getElem_set]
 split
 ·rename_i e
  subst e
  rw [hje] at k2
  rw [k2.eq_v]
  exact hy _ _ _ (hr.repRow hk (fun b hb => hz b (hz0 b hb)) fun g' hg hl => hz g' (hr.erased hB hk hg))
 ·exact k2.keep fun b hb _ => ⟨rfl, hz b hb⟩
end
end Go.Proofs.YtbbgjeiefmiblaaGreatDoor
namespace Go.Proofs.YtbbgjeiefmiblaaGreatDoor
open Go.RowKit
set_option linter.unusedVariables false
set_option linter.unusedSimpArgs false
abbrev bxPr (g : Nat) (p : ProdS) (u : Value) : Ent := .box g ⟨[avS p.key, avI p.wide, avI p.high, .v u], 65, 4⟩
abbrev rwPl (u : Value) (xs : List PlaceS) : Ent := .row u xs.length 5 (rowL xs) 128
theorem okPi_w {i : Nat} {s : ByteArray} (h : wordsB s = false) : okPi i s = false := by
 unfold okPi
 split
 ·exact okP0_n (.inl h)
 ·exact okP1_n (.inl h)
theorem rwPl_eq {g n : Nat} {u : Value} {p : ProdS} {xs : List PlaceS} (h : n = xs.length) : [bxPr g p u, .row u n 5 (rowL xs) 128] = [bxPr g p u, rwPl u xs] := by subst h; rfl
set_option maxRecDepth 100000 in
set_option maxHeartbeats 8000000 in
theorem panel_readLine {s : ByteArray} {i g : Nat} {p : ProdS} {u : Value} (hs : s.size ≤ 10000000) (hl : p.places.length ≤ 10000000) (hi : i ≤ 10000000) :
  SpecH Tryz.prog 101 [pt g, avS s, avI (i : Int)] [bxPr g p u, rwPl u p.places] (fun y hp' => ∃ u' p', y = avB (okPi i s) ∧ hp' = [bxPr g p' u', rwPl u' p'.places] ∧ (okPi i s = true → p' = stepP i s p) ∧ p'.places.length ≤ p.places.length + 1) := by
 refine SpecH.of_VC Tryz.func101 rfl Tryz.ntmps101 (Nle rfl) fun w A hB => ?_
 have hnew : True := trivial
 refine VC.sr ?_
 refine VO.ma rfl rfl rfl rfl ?_
 refine VO.nil ?_
 refine VC.seq ?_
 have hwl := splitS_length 32 s
 have hwz := splitS_get 32 s
 refine VC.region ?_
 refine VO.mv rfl rfl rfl rfl ?_
 refine VO.op rfl (OpE.call rfl hB rfl Tryz.call146 rfl (kit_Words (by omega)) ?_)
 rintro _ rfl
 obtain ⟨wb, hwb⟩ : ∃ wb, wordsB s = wb := ⟨_, rfl⟩
 rw [hwb]
 have hwr : wb = true → wordsR s = splitS 32 s := fun e => by rw [wordsR, if_pos (by rw [hwb]; exact e)]
 refine VO.mv rfl rfl rfl rfl ?_
 refine VO.val rfl rfl (OpV.extract rfl rfl rfl) ?_
 refine VO.val rfl rfl (OpV.extract rfl rfl rfl) ?_
 refine VO.ma rfl rfl rfl rfl ?_
 refine VO.ma rfl rfl rfl rfl ?_
 refine VO.nil ?_
 refine VC.seq ?_
 refine VC.sr ?_
 refine VO.mv rfl rfl rfl rfl ?_
 refine VO.val rfl rfl (OpV.not rfl rfl) ?_
 refine VO.nil ?_
 refine VC.cond rfl (fun h0b => ?_) (fun h0b => ?_)
 ·have h0 := h0b
  try simp only [qqT, qqF, qqN, qqM, qqL, qqE] at h0
  have hno : okPi i s = false := okPi_w (by rw [hwb]; simp_all)
  refine VC.sr ?_
  refine VO.ma rfl rfl rfl rfl ?_
  refine VO.nil ?_
  refine VC.ret ?_
  exact Exists.intro _ (And.intro (RetV.one Tryz.results101 (ResV.tmp rfl)) (⟨u, p, by rw [hno], rfl, (fun e => by rw [hno] at e; (cases e)), Nat.le_succ _⟩))
 ·have h0 := h0b
  try simp only [qqT, qqF, qqN, qqM, qqL, qqE] at h0
  have hwt : wb = true := by simp_all
  obtain ⟨ws, hws⟩ : ∃ ws, splitS 32 s = ws := ⟨_, rfl⟩
  refine VC.le _ (Le.recast (t := 7) (y := avStrs ws) rfl (fun w Z u h => by rw [← hws, ← hwr hwt]; exact h)) ?_
  rw [hws] at hwz hwl
  refine VC.skip ?_
  refine VC.seq ?_
  refine VC.sr ?_
  refine VO.mv rfl rfl rfl rfl ?_
  refine VO.val rfl rfl (OpV.eql rfl rfl rfl) ?_
  refine VO.nil ?_
  refine VC.cond rfl (fun h1b => ?_) (fun h1b => ?_)
  ·have h1 := h1b
   try simp only [qqT, qqF, qqN, qqM, qqL, qqE] at h1
   obtain rfl : i = 0 := by omega
   refine VC.seq ?_
   refine VC.sr ?_
   refine VO.mv rfl rfl rfl rfl ?_
   refine VO.val rfl rfl (OpV.len_im rfl Tryz.underlying29 rfl) ?_
   refine VO.val rfl rfl (OpV.neq rfl rfl rfl) ?_
   refine VO.mv rfl rfl rfl rfl ?_
   refine VO.opG rfl rfl rfl rfl (fun aK1b => ?_) (fun aK1b => ?_)
   ·replace aK1b : _ = false := aK1b
    have aK1 := aK1b
    try simp only [qqT, qqF, qqN, qqM, qqL, qqE] at aK1
    refine OpE.val (W := NoB) (OpV.move (.inl rfl) rfl) rfl ?_
    refine VO.opY rfl rfl rfl rfl aK1b ?_
    refine OpE.val (W := NoB) (OpV.indexAddr_1 rfl Tryz.underlying29 Tryz.sizeOf9 rfl rfl (Int.toNat_of_nonneg (by omega)).symm (by omega)) rfl ?_
    refine VO.opY rfl rfl rfl rfl aK1b ?_
    refine OpE.val (W := NoB) (OpV.load_at rfl hB OutW.no Tryz.isAgg9 rfl rfl) rfl ?_
    refine VO.opY rfl rfl rfl rfl aK1b ?_
    refine OpE.val (W := NoB) (OpV.sneq rfl rfl rfl) rfl ?_
    refine VO.val rfl rfl (OpV.pickF rfl rfl rfl rfl aK1b) ?_
    refine VO.nil ?_
    refine VC.cond rfl (fun aH2b => ?_) (fun aH2b => ?_)
    ·have aH2 := aH2b
     try simp only [qqT, qqF, qqN, qqM, qqL, qqE] at aH2
     have hno : okPi 0 s = false := okP0_n (.inr (.inr (by unfold w8; rw [hws]; exact not_true_false (by assumption))))
     refine VC.sr ?_
     refine VO.ma rfl rfl rfl rfl ?_
     refine VO.nil ?_
     refine VC.ret ?_
     exact Exists.intro _ (And.intro (RetV.one Tryz.results101 (ResV.tmp rfl)) (⟨u, p, by rw [hno], rfl, (fun e => by rw [hno] at e; (cases e)), Nat.le_succ _⟩))
    ·have aH2 := aH2b
     try simp only [qqT, qqF, qqN, qqM, qqL, qqE] at aH2
     have hl4 : ws.length = 4 := by omega
     have hok : okPi 0 s = numsB (ws.drop 2) := by
      rw [okPi_0, okP0_y (by rw [hwb, hwt]) (by rw [hws]; exact hl4) (by unfold w8; rw [hws]; exact not_false_true (by assumption)), hws]
     obtain ⟨wd, hwd⟩ : ∃ wd, ws.drop 2 = wd := ⟨_, rfl⟩
     have hd2 : wd.length = 2 := by rw [← hwd, List.length_drop]; omega
     have hdz : ∀ i, (wd.getD i ByteArray.empty).size ≤ s.size := fun i => by
      rw [← hwd, List.getD_eq_getElem?_getD, List.getElem?_drop, ← List.getD_eq_getElem?_getD]; exact hwz _
     rw [hwd] at hok
     refine VC.skip ?_
     refine VC.sr ?_
     refine VO.mv rfl rfl rfl rfl ?_
     refine VO.val rfl rfl (OpV.slice_strs (l := 2) rfl Tryz.underlying29 Tryz.sizeOf9 rfl ⟨_, _, rfl, rfl⟩ rfl (by omega) (by omega)) ?_
     refine VO.le _ (Le.recast (t := 32) (y := avStrs wd) rfl (fun w Z u h => by rw [← hwd]; first | exact h | (simp only [List.take_length] at h; exact h))) ?_
     refine VO.op rfl (OpE.call rfl hB rfl Tryz.call147 rfl (SpecN.spec (kit_Numbers (l := wd) (by omega) (fun i => Nat.le_trans (hdz i) (by omega)))) ?_)
     rintro _ rfl
     obtain ⟨nb, hnb⟩ : ∃ nb, numsB wd = nb := ⟨_, rfl⟩
     obtain ⟨ns, hns⟩ : ∃ ns, numsR wd = ns := ⟨_, rfl⟩
     have hnl : nb = true → ns.length = 2 := fun e => by rw [← hns, numsR_len (by rw [hnb, e]), hd2]
     rw [hnb, hns]
     rw [hnb] at hok
     refine VO.mv rfl rfl rfl rfl ?_
     refine VO.val rfl rfl (OpV.extract rfl rfl rfl) ?_
     refine VO.val rfl rfl (OpV.extract rfl rfl rfl) ?_
     refine VO.ma rfl rfl rfl rfl ?_
     refine VO.ma rfl rfl rfl rfl ?_
     refine VO.nil ?_
     refine VC.seq ?_
     refine VC.sr ?_
     refine VO.mv rfl rfl rfl rfl ?_
     refine VO.val rfl rfl (OpV.not rfl rfl) ?_
     refine VO.nil ?_
     refine VC.cond rfl (fun h3b => ?_) (fun h3b => ?_)
     ·have h3 := h3b
      try simp only [qqT, qqF, qqN, qqM, qqL, qqE] at h3
      have hno : okPi 0 s = false := by rw [hok]; simp_all
      refine VC.sr ?_
      refine VO.ma rfl rfl rfl rfl ?_
      refine VO.nil ?_
      refine VC.ret ?_
      exact Exists.intro _ (And.intro (RetV.one Tryz.results101 (ResV.tmp rfl)) (⟨u, p, by rw [hno], rfl, (fun e => by rw [hno] at e; (cases e)), Nat.le_succ _⟩))
     ·have h3 := h3b
      try simp only [qqT, qqF, qqN, qqM, qqL, qqE] at h3
      have hnbt : nb = true := by simp_all
      have hn2 := hnl hnbt
      refine VC.skip ?_
      refine VC.seq ?_
      refine VC.draw (fun j b => (j = 14 ∧ b = g) ∨ (j = 17 ∧ b = g) ∨ (j = 20 ∧ b = g)) hB (by kernel_rfl) ?_
      refine VA.take (i := 0) rfl (by kernel_rfl) (by kernel_rfl) (by kernel_rfl) rfl rfl (OpV.move (.inl rfl) rfl) ?_
      refine VA.take (i := 1) rfl (by kernel_rfl) (by kernel_rfl) (by kernel_rfl) rfl rfl (OpV.move (.inl rfl) rfl) ?_
      refine VA.take (i := 2) rfl (by kernel_rfl) (by kernel_rfl) (by kernel_rfl) rfl rfl (OpV.move (.inl rfl) rfl) ?_
      refine VA.take (i := 3) rfl (by kernel_rfl) (by kernel_rfl) (by kernel_rfl) rfl rfl (OpV.move (.inl rfl) rfl) ?_
      refine VA.take (i := 4) rfl (by kernel_rfl) (by kernel_rfl) (by kernel_rfl) rfl rfl (OpV.indexAddr_1 rfl Tryz.underlying29 Tryz.sizeOf9 rfl rfl (Int.toNat_of_nonneg (by omega)).symm (by omega)) ?_
      refine VA.take (i := 5) rfl (by kernel_rfl) (by kernel_rfl) (by kernel_rfl) rfl rfl (OpV.load_at rfl hB (OutW.wi (by rintro j b (⟨-, rfl⟩ | ⟨-, rfl⟩ | ⟨-, rfl⟩) <;> exact ⟨_, List.mem_of_getElem? (i := 0) rfl, rfl⟩)) Tryz.isAgg9 rfl rfl) ?_
      refine VA.take (i := 6) rfl (by kernel_rfl) (by kernel_rfl) (by kernel_rfl) rfl rfl (OpV.move (.inl rfl) rfl) ?_
      refine VA.take (i := 7) rfl (by kernel_rfl) (by kernel_rfl) (by kernel_rfl) rfl rfl (OpV.indexAddr_1 rfl Tryz.underlying22 Tryz.sizeOf3 rfl rfl (Int.toNat_of_nonneg (by omega)).symm (by omega)) ?_
      refine VA.take (i := 8) rfl (by kernel_rfl) (by kernel_rfl) (by kernel_rfl) rfl rfl (OpV.load_at rfl hB (OutW.wi (by rintro j b (⟨-, rfl⟩ | ⟨-, rfl⟩ | ⟨-, rfl⟩) <;> exact ⟨_, List.mem_of_getElem? (i := 0) rfl, rfl⟩)) Tryz.isAgg3 rfl rfl) ?_
      refine VA.take (i := 9) rfl (by kernel_rfl) (by kernel_rfl) (by kernel_rfl) rfl rfl (OpV.move (.inl rfl) rfl) ?_
      refine VA.take (i := 10) rfl (by kernel_rfl) (by kernel_rfl) (by kernel_rfl) rfl rfl (OpV.indexAddr_1 rfl Tryz.underlying22 Tryz.sizeOf3 rfl rfl (Int.toNat_of_nonneg (by omega)).symm (by omega)) ?_
      refine VA.take (i := 11) rfl (by kernel_rfl) (by kernel_rfl) (by kernel_rfl) rfl rfl (OpV.load_at rfl hB (OutW.wi (by rintro j b (⟨-, rfl⟩ | ⟨-, rfl⟩ | ⟨-, rfl⟩) <;> exact ⟨_, List.mem_of_getElem? (i := 0) rfl, rfl⟩)) Tryz.isAgg3 rfl rfl) ?_
      refine VA.take (i := 12) rfl (by kernel_rfl) (by kernel_rfl) (by kernel_rfl) rfl rfl (OpV.nilCheck rfl rfl) ?_
      refine VA.take (i := 13) rfl (by kernel_rfl) (by kernel_rfl) (by kernel_rfl) rfl rfl (OpV.fieldAddrO 0 rfl Tryz.underlying65 rfl rfl Tryz.sizeOf9 rfl) ?_
      refine VA.all (rs := [14]) (by kernel_rfl) (by decide) ?_
      refine ⟨⟨_, rfl, .inl rfl, ?_⟩, trivial⟩
      refine OpE.store (i := 0) rfl hB rfl Tryz.sizeOf9 rfl rfl rfl rfl rfl rfl (Nle rfl) (by first | exact .inl ⟨rfl, rfl⟩ | exact .inr (.inl ⟨rfl, rfl⟩) | exact .inr (.inr ⟨rfl, rfl⟩)) ?_
      refine VA.take (i := 15) rfl (by kernel_rfl) (by kernel_rfl) (by kernel_rfl) rfl rfl (OpV.nilCheck rfl rfl) ?_
      refine VA.take (i := 16) rfl (by kernel_rfl) (by kernel_rfl) (by kernel_rfl) rfl rfl (OpV.fieldAddrO 1 rfl Tryz.underlying65 rfl rfl Tryz.sizeOf3 rfl) ?_
      refine VA.all (rs := [17]) (by kernel_rfl) (by decide) ?_
      refine ⟨⟨_, rfl, .inl rfl, ?_⟩, trivial⟩
      refine OpE.store (i := 0) rfl hB rfl Tryz.sizeOf3 rfl rfl rfl rfl rfl rfl (Nle rfl) (by first | exact .inl ⟨rfl, rfl⟩ | exact .inr (.inl ⟨rfl, rfl⟩) | exact .inr (.inr ⟨rfl, rfl⟩)) ?_
      refine VA.take (i := 18) rfl (by kernel_rfl) (by kernel_rfl) (by kernel_rfl) rfl rfl (OpV.nilCheck rfl rfl) ?_
      refine VA.take (i := 19) rfl (by kernel_rfl) (by kernel_rfl) (by kernel_rfl) rfl rfl (OpV.fieldAddrO 2 rfl Tryz.underlying65 rfl rfl Tryz.sizeOf3 rfl) ?_
      refine VA.all (rs := [20]) (by kernel_rfl) (by decide) ?_
      refine ⟨⟨_, rfl, .inl rfl, ?_⟩, trivial⟩
      refine OpE.store (i := 0) rfl hB rfl Tryz.sizeOf3 rfl rfl rfl rfl rfl rfl (Nle rfl) (by first | exact .inl ⟨rfl, rfl⟩ | exact .inr (.inl ⟨rfl, rfl⟩) | exact .inr (.inr ⟨rfl, rfl⟩)) ?_
      refine VA.done (by kernel_rfl) ?_
      refine VC.sr ?_
      refine VO.ma rfl rfl rfl rfl ?_
      refine VO.nil ?_
      refine VC.ret ?_
      exact Exists.intro _ (And.intro (RetV.one Tryz.results101 (ResV.tmp rfl)) (⟨u, ⟨ws.getD 1 ByteArray.empty, ns.getD 0 0, ns.getD 1 0, p.places⟩, by rw [hok, hnbt], rfl, fun _ => by rw [stepP_0]; unfold w8 n2p; rw [hws, hwd, hns], Nat.le_succ _⟩))
   ·replace aK1b : _ = true := aK1b
    have aK1 := aK1b
    try simp only [qqT, qqF, qqN, qqM, qqL, qqE] at aK1
    refine VO.opX rfl rfl rfl rfl aK1b ?_
    refine VO.opX rfl rfl rfl rfl aK1b ?_
    refine VO.opX rfl rfl rfl rfl aK1b ?_
    refine VO.val rfl rfl (OpV.pickT rfl rfl rfl rfl aK1b) ?_
    refine VO.nil ?_
    refine VC.condT rfl rfl ?_
    have hno : okPi 0 s = false := okP0_n (.inr (.inl (by rw [hws]; omega)))
    refine VC.sr ?_
    refine VO.ma rfl rfl rfl rfl ?_
    refine VO.nil ?_
    refine VC.ret ?_
    exact Exists.intro _ (And.intro (RetV.one Tryz.results101 (ResV.tmp rfl)) (⟨u, p, by rw [hno], rfl, (fun e => by rw [hno] at e; (cases e)), Nat.le_succ _⟩))
  ·have h1 := h1b
   try simp only [qqT, qqF, qqN, qqM, qqL, qqE] at h1
   refine VC.skip ?_
   refine VC.seq ?_
   refine VC.sr ?_
   refine VO.mv rfl rfl rfl rfl ?_
   refine VO.val rfl rfl (OpV.len_im rfl Tryz.underlying29 rfl) ?_
   refine VO.val rfl rfl (OpV.neq rfl rfl rfl) ?_
   refine VO.mv rfl rfl rfl rfl ?_
   refine VO.opG rfl rfl rfl rfl (fun aK3b => ?_) (fun aK3b => ?_)
   ·replace aK3b : _ = false := aK3b
    have aK3 := aK3b
    try simp only [qqT, qqF, qqN, qqM, qqL, qqE] at aK3
    refine OpE.val (W := NoB) (OpV.move (.inl rfl) rfl) rfl ?_
    refine VO.opY rfl rfl rfl rfl aK3b ?_
    refine OpE.val (W := NoB) (OpV.indexAddr_1 rfl Tryz.underlying29 Tryz.sizeOf9 rfl rfl (Int.toNat_of_nonneg (by omega)).symm (by omega)) rfl ?_
    refine VO.opY rfl rfl rfl rfl aK3b ?_
    refine OpE.val (W := NoB) (OpV.load_at rfl hB OutW.no Tryz.isAgg9 rfl rfl) rfl ?_
    refine VO.opY rfl rfl rfl rfl aK3b ?_
    refine OpE.val (W := NoB) (OpV.sneq rfl rfl rfl) rfl ?_
    refine VO.val rfl rfl (OpV.pickF rfl rfl rfl rfl aK3b) ?_
    refine VO.nil ?_
    refine VC.cond rfl (fun aH4b => ?_) (fun aH4b => ?_)
    ·have aH4 := aH4b
     try simp only [qqT, qqF, qqN, qqM, qqL, qqE] at aH4
     have hno : okPi i s = false := by rw [okPi_1 (by omega)]; exact okP1_n (.inr (.inr (by unfold w8; rw [hws]; exact not_true_false (by assumption))))
     refine VC.sr ?_
     refine VO.ma rfl rfl rfl rfl ?_
     refine VO.nil ?_
     refine VC.ret ?_
     exact Exists.intro _ (And.intro (RetV.one Tryz.results101 (ResV.tmp rfl)) (⟨u, p, by rw [hno], rfl, (fun e => by rw [hno] at e; (cases e)), Nat.le_succ _⟩))
    ·have aH4 := aH4b
     try simp only [qqT, qqF, qqN, qqM, qqL, qqE] at aH4
     have hi0 : i ≠ 0 := by omega
     have hl6 : ws.length = 6 := by omega
     have hok : okPi i s = numsB (ws.drop 3) := by
      rw [okPi_1 hi0, okP1_y (by rw [hwb, hwt]) (by rw [hws]; exact hl6) (by unfold w8; rw [hws]; exact not_false_true (by assumption)), hws]
     obtain ⟨wd, hwd⟩ : ∃ wd, ws.drop 3 = wd := ⟨_, rfl⟩
     have hd3 : wd.length = 3 := by rw [← hwd, List.length_drop]; omega
     have hdz : ∀ i, (wd.getD i ByteArray.empty).size ≤ s.size := fun i => by
      rw [← hwd, List.getD_eq_getElem?_getD, List.getElem?_drop, ← List.getD_eq_getElem?_getD]; exact hwz _
     rw [hwd] at hok
     refine VC.skip ?_
     refine VC.sr ?_
     refine VO.mv rfl rfl rfl rfl ?_
     refine VO.val rfl rfl (OpV.slice_strs (l := 3) rfl Tryz.underlying29 Tryz.sizeOf9 rfl ⟨_, _, rfl, rfl⟩ rfl (by omega) (by omega)) ?_
     refine VO.le _ (Le.recast (t := 67) (y := avStrs wd) rfl (fun w Z u h => by rw [← hwd]; first | exact h | (simp only [List.take_length] at h; exact h))) ?_
     refine VO.op rfl (OpE.call rfl hB rfl Tryz.call147 rfl (SpecN.spec (kit_Numbers (l := wd) (by omega) (fun i => Nat.le_trans (hdz i) (by omega)))) ?_)
     rintro _ rfl
     obtain ⟨nb, hnb⟩ : ∃ nb, numsB wd = nb := ⟨_, rfl⟩
     obtain ⟨ns, hns⟩ : ∃ ns, numsR wd = ns := ⟨_, rfl⟩
     have hnl : nb = true → ns.length = 3 := fun e => by rw [← hns, numsR_len (by rw [hnb, e]), hd3]
     rw [hnb, hns]
     rw [hnb] at hok
     refine VO.mv rfl rfl rfl rfl ?_
     refine VO.val rfl rfl (OpV.extract rfl rfl rfl) ?_
     refine VO.val rfl rfl (OpV.extract rfl rfl rfl) ?_
     refine VO.ma rfl rfl rfl rfl ?_
     refine VO.ma rfl rfl rfl rfl ?_
     refine VO.nil ?_
     refine VC.seq ?_
     refine VC.sr ?_
     refine VO.mv rfl rfl rfl rfl ?_
     refine VO.val rfl rfl (OpV.not rfl rfl) ?_
     refine VO.nil ?_
     refine VC.cond rfl (fun h5b => ?_) (fun h5b => ?_)
     ·have h5 := h5b
      try simp only [qqT, qqF, qqN, qqM, qqL, qqE] at h5
      have hno : okPi i s = false := by rw [hok]; simp_all
      refine VC.sr ?_
      refine VO.ma rfl rfl rfl rfl ?_
      refine VO.nil ?_
      refine VC.ret ?_
      exact Exists.intro _ (And.intro (RetV.one Tryz.results101 (ResV.tmp rfl)) (⟨u, p, by rw [hno], rfl, (fun e => by rw [hno] at e; (cases e)), Nat.le_succ _⟩))
     ·have h5 := h5b
      try simp only [qqT, qqF, qqN, qqM, qqL, qqE] at h5
      have hnbt : nb = true := by simp_all
      have hn3 := hnl hnbt
      refine VC.skip ?_
      refine VC.seq ?_
      obtain ⟨x, hx⟩ : ∃ x : PlaceS, x = ⟨ws.getD 1 ByteArray.empty, ws.getD 2 ByteArray.empty, ns.getD 0 0, ns.getD 1 0, ns.getD 2 0⟩ := ⟨_, rfl⟩
      have hxo : x = plOf s := by
       rw [hx]
       unfold plOf w8 n3p
       rw [hws, hwd, hns]
      refine VC.draw (fun j b => (j = 22 ∧ u.ownBlock = some b) ∨ (j = 25 ∧ b = g)) hB (by kernel_rfl) ?_
      refine VA.take (i := 0) rfl (by kernel_rfl) (by kernel_rfl) (by kernel_rfl) rfl rfl (OpV.move (.inl rfl) rfl) ?_
      refine VA.take (i := 1) rfl (by kernel_rfl) (by kernel_rfl) (by kernel_rfl) rfl rfl (OpV.move (.inl rfl) rfl) ?_
      refine VA.take (i := 2) rfl (by kernel_rfl) (by kernel_rfl) (by kernel_rfl) rfl rfl (OpV.nilCheck rfl rfl) ?_
      refine VA.take (i := 3) rfl (by kernel_rfl) (by kernel_rfl) (by kernel_rfl) rfl rfl (OpV.fieldAddrO 3 rfl Tryz.underlying65 rfl rfl Tryz.sizeOf63 rfl) ?_
      refine VA.takeT [4, 22, 25] (i := 4) (by kernel_rfl) (by kernel_rfl) rfl (by kernel_rfl) (by kernel_rfl) (by kernel_rfl) rfl rfl (OpV.load_own (i := 0) rfl hB Tryz.isAgg63 rfl rfl rfl (fun ⟨j, h1, h2⟩ => by rcases h2 with ⟨rfl, _⟩ | ⟨rfl, _⟩ <;> cases h1)) ?_
      refine VA.take (i := 5) rfl (by kernel_rfl) (by kernel_rfl) (by kernel_rfl) rfl rfl (OpV.move (.inl rfl) rfl) ?_
      refine VA.take (i := 6) rfl (by kernel_rfl) (by kernel_rfl) (by kernel_rfl) rfl rfl (OpV.indexAddr_1 rfl Tryz.underlying29 Tryz.sizeOf9 rfl rfl (Int.toNat_of_nonneg (by omega)).symm (by omega)) ?_
      refine VA.takeT [7, 20, 21, 22, 25] (i := 7) (by kernel_rfl) (by kernel_rfl) rfl (by kernel_rfl) (by kernel_rfl) (by kernel_rfl) rfl rfl (OpV.load_at rfl hB (fun b ⟨j, h1, h2⟩ => by rcases h2 with ⟨rfl, _⟩ | ⟨rfl, _⟩ <;> cases h1) Tryz.isAgg9 rfl rfl) ?_
      refine VA.take (i := 8) rfl (by kernel_rfl) (by kernel_rfl) (by kernel_rfl) rfl rfl (OpV.move (.inl rfl) rfl) ?_
      refine VA.take (i := 9) rfl (by kernel_rfl) (by kernel_rfl) (by kernel_rfl) rfl rfl (OpV.indexAddr_1 rfl Tryz.underlying29 Tryz.sizeOf9 rfl rfl (Int.toNat_of_nonneg (by omega)).symm (by omega)) ?_
      refine VA.takeT [10, 20, 21, 22, 25] (i := 10) (by kernel_rfl) (by kernel_rfl) rfl (by kernel_rfl) (by kernel_rfl) (by kernel_rfl) rfl rfl (OpV.load_at rfl hB (fun b ⟨j, h1, h2⟩ => by rcases h2 with ⟨rfl, _⟩ | ⟨rfl, _⟩ <;> cases h1) Tryz.isAgg9 rfl rfl) ?_
      refine VA.take (i := 11) rfl (by kernel_rfl) (by kernel_rfl) (by kernel_rfl) rfl rfl (OpV.move (.inl rfl) rfl) ?_
      refine VA.take (i := 12) rfl (by kernel_rfl) (by kernel_rfl) (by kernel_rfl) rfl rfl (OpV.indexAddr_1 rfl Tryz.underlying22 Tryz.sizeOf3 rfl rfl (Int.toNat_of_nonneg (by omega)).symm (by omega)) ?_
      refine VA.takeT [13, 20, 21, 22, 25] (i := 13) (by kernel_rfl) (by kernel_rfl) rfl (by kernel_rfl) (by kernel_rfl) (by kernel_rfl) rfl rfl (OpV.load_at rfl hB (fun b ⟨j, h1, h2⟩ => by rcases h2 with ⟨rfl, _⟩ | ⟨rfl, _⟩ <;> cases h1) Tryz.isAgg3 rfl rfl) ?_
      refine VA.take (i := 14) rfl (by kernel_rfl) (by kernel_rfl) (by kernel_rfl) rfl rfl (OpV.move (.inl rfl) rfl) ?_
      refine VA.take (i := 15) rfl (by kernel_rfl) (by kernel_rfl) (by kernel_rfl) rfl rfl (OpV.indexAddr_1 rfl Tryz.underlying22 Tryz.sizeOf3 rfl rfl (Int.toNat_of_nonneg (by omega)).symm (by omega)) ?_
      refine VA.takeT [16, 20, 21, 22, 25] (i := 16) (by kernel_rfl) (by kernel_rfl) rfl (by kernel_rfl) (by kernel_rfl) (by kernel_rfl) rfl rfl (OpV.load_at rfl hB (fun b ⟨j, h1, h2⟩ => by rcases h2 with ⟨rfl, _⟩ | ⟨rfl, _⟩ <;> cases h1) Tryz.isAgg3 rfl rfl) ?_
      refine VA.take (i := 17) rfl (by kernel_rfl) (by kernel_rfl) (by kernel_rfl) rfl rfl (OpV.move (.inl rfl) rfl) ?_
      refine VA.take (i := 18) rfl (by kernel_rfl) (by kernel_rfl) (by kernel_rfl) rfl rfl (OpV.indexAddr_1 rfl Tryz.underlying22 Tryz.sizeOf3 rfl rfl (Int.toNat_of_nonneg (by omega)).symm (by omega)) ?_
      refine VA.takeT [19, 20, 21, 22, 25] (i := 19) (by kernel_rfl) (by kernel_rfl) rfl (by kernel_rfl) (by kernel_rfl) (by kernel_rfl) rfl rfl (OpV.load_at rfl hB (fun b ⟨j, h1, h2⟩ => by rcases h2 with ⟨rfl, _⟩ | ⟨rfl, _⟩ <;> cases h1) Tryz.isAgg3 rfl rfl) ?_
      refine VA.take (i := 20) rfl (by kernel_rfl) (by kernel_rfl) (by kernel_rfl) rfl rfl (OpV.build (pls := #[(0, 1), (1, 1), (2, 1), (3, 1), (4, 1)]) rfl Tryz.zeroValue128 Tryz.underlying128 (fun w => by kernel_rfl) rfl rfl) ?_
      refine VA.le _ (Le.recast (t := 93) (y := avT x) rfl (fun w Z u h => by rw [hx]; exact h)) ?_
      refine VA.all (rs := [21]) (by kernel_rfl) (by decide) ?_
      refine ⟨⟨_, rfl, .inl rfl, ?_⟩, trivial⟩
      refine OpE.buildSlice (zc := #[.string ⟨#[]⟩, .string ⟨#[]⟩, .int .i64 0, .int .i64 0, .int .i64 0]) rfl hB rfl Tryz.underlying63 Tryz.sizeOf128 Tryz.zeroValue128 (by decide) (by decide) (by kernel_rfl) rfl rfl ?_
      refine VA.all (rs := [22]) (by kernel_rfl) (by decide) ?_
      refine ⟨⟨_, rfl, .inl rfl, ?_⟩, trivial⟩
      refine OpE.append1S (i := 1) rfl hB rfl Tryz.underlying63 (infoOf Tryz.t128 5 (by kernel_rfl) rfl rfl) rfl (by decide) (by decide) rfl rfl rfl rfl (rowL_snoc p.places x) (by omega) (fun g' hg => .inl ⟨rfl, hg⟩) ?_
      intro b95 c95
      refine VA.take (i := 23) rfl (by kernel_rfl) (by kernel_rfl) (by kernel_rfl) rfl rfl (OpV.nilCheck rfl rfl) ?_
      refine VA.take (i := 24) rfl (by kernel_rfl) (by kernel_rfl) (by kernel_rfl) rfl rfl (OpV.fieldAddrO 3 rfl Tryz.underlying65 rfl rfl Tryz.sizeOf63 rfl) ?_
      refine VA.all (rs := [25]) (by kernel_rfl) (by decide) ?_
      refine ⟨⟨_, rfl, .inl rfl, ?_⟩, trivial⟩
      refine OpE.store (i := 0) rfl hB rfl Tryz.sizeOf63 rfl rfl rfl rfl rfl rfl (Nle rfl) (.inr ⟨rfl, rfl⟩) ?_
      refine VA.done (by kernel_rfl) ?_
      refine VC.sr ?_
      refine VO.ma rfl rfl rfl rfl ?_
      refine VO.nil ?_
      refine VC.ret ?_
      exact Exists.intro _ (And.intro (RetV.one Tryz.results101 (ResV.tmp rfl)) (⟨_, ⟨p.key, p.wide, p.high, p.places ++ [x]⟩, by rw [hok, hnbt], rwPl_eq (p := ⟨p.key, p.wide, p.high, p.places ++ [x]⟩) (xs := p.places ++ [x]) (n := p.places.length + 1) (by simp), fun _ => by rw [stepP_1 hi0, hxo], by simp⟩))
   ·replace aK3b : _ = true := aK3b
    have aK3 := aK3b
    try simp only [qqT, qqF, qqN, qqM, qqL, qqE] at aK3
    refine VO.opX rfl rfl rfl rfl aK3b ?_
    refine VO.opX rfl rfl rfl rfl aK3b ?_
    refine VO.opX rfl rfl rfl rfl aK3b ?_
    refine VO.val rfl rfl (OpV.pickT rfl rfl rfl rfl aK3b) ?_
    refine VO.nil ?_
    refine VC.condT rfl rfl ?_
    have hno : okPi i s = false := by rw [okPi_1 (by omega)]; exact okP1_n (.inr (.inl (by rw [hws]; omega)))
    refine VC.sr ?_
    refine VO.ma rfl rfl rfl rfl ?_
    refine VO.nil ?_
    refine VC.ret ?_
    exact Exists.intro _ (And.intro (RetV.one Tryz.results101 (ResV.tmp rfl)) (⟨u, p, by rw [hno], rfl, (fun e => by rw [hno] at e; (cases e)), Nat.le_succ _⟩))
end Go.Proofs.YtbbgjeiefmiblaaGreatDoor
namespace Go.Proofs.YtbbgjeiefmiblaaGreatDoor
open Go.RowKit
set_option linter.unusedVariables false
set_option linter.unusedSimpArgs false
theorem prZ_out {a b : Int} {t : ProdS × Int × Int} (h : t = (prZ, a, b)) : AV.tup [avProd prZ, avI a, avI b] = AV.tup [avProd t.1, avI t.2.1, avI t.2.2] := by rw [h]
theorem nil_prZ {w : World} {Z : Nat → Prop} {u : Value} (h : Rep w Z (.agg [avS ⟨#[]⟩, avI 0, avI 0, .v (.slice none 0 0)]) u) : Rep w Z (avProd prZ) u := by
 cases h with
 | agg cs us hl hr =>
  refine .agg _ us hl fun j hj => ?_
  match j, hj with
  | 0, _ => exact hr 0 (by simp)
  | 1, _ => exact hr 1 (by simp)
  | 2, _ => exact hr 2 (by simp)
  | 3, _ =>
   have := hr 3 (by simp)
   show Rep w Z (.im 0 5 _) _
   rw [this.eq_v]; exact .nil _ _
theorem pr_out {p : ProdS} {a b : Int} {t : ProdS × Int × Int} (h : t = (p, a, b)) : AV.tup [avProd p, avI a, avI b] = AV.tup [avProd t.1, avI t.2.1, avI t.2.2] := by rw [h]
set_option maxRecDepth 100000 in
set_option maxHeartbeats 8000000 in
theorem panel_ReadP {text : ByteArray} (ht : text.size ≤ 900000) :
  Spec Tryz.prog 44 [avS text] (fun y => y = .tup [avProd (prRead text).1, avI (prRead text).2.1, avI (prRead text).2.2]) := by
 refine Spec.of_VC Tryz.func44 rfl Tryz.ntmps44 (Nle rfl) fun w A hB => ?_
 have hnew : True := trivial
 refine VC.sr ?_
 refine VO.op rfl (OpE.alloc rfl hB rfl Tryz.zeroValue65 rfl ?_)
 intro g2
 refine VO.ma rfl rfl rfl rfl ?_
 refine VO.ma rfl rfl rfl rfl ?_
 refine VO.nil ?_
 refine VC.seq ?_
 refine VC.sr ?_
 refine VO.mv rfl rfl rfl rfl ?_
 refine VO.val rfl rfl (OpV.len_s rfl Tryz.underlying9 rfl) ?_
 refine VO.val rfl rfl (OpV.gtr rfl rfl rfl) ?_
 refine VO.nil ?_
 refine VC.cond rfl (fun h0b => ?_) (fun h0b => ?_)
 ·have h0 := h0b
  try simp only [qqT, qqF, qqN, qqM, qqL, qqE] at h0
  refine VC.sr ?_
  refine VO.val rfl rfl (OpV.build (pls := #[(0, 1), (1, 1), (2, 1), (3, 1)]) rfl Tryz.zeroValue65 Tryz.underlying65 (fun w => by kernel_rfl) rfl rfl) ?_
  refine VO.le _ (Le.recast (t := 14) (y := avProd prZ) rfl (fun w Z u h => nil_prZ h)) ?_
  refine VO.op rfl (OpE.store (i := 0) rfl hB rfl Tryz.sizeOf65 rfl rfl rfl rfl rfl rfl (Nle rfl) trivial ?_)
  refine VO.ma rfl rfl rfl rfl ?_
  refine VO.ma rfl rfl rfl rfl ?_
  refine VO.nil ?_
  refine VC.ret ?_
  exact Exists.intro _ (And.intro (RetV.three Tryz.results44 ((by first | exact ResV.cellK (i := 0) Tryz.isAgg65 Tryz.sizeOf65 rfl rfl rfl)) (ResV.tmp rfl) (ResV.tmp rfl)) (prZ_out (prRead_2 (by omega))))
 ·have h0 := h0b
  try simp only [qqT, qqF, qqN, qqM, qqL, qqE] at h0
  refine VC.skip ?_
  refine VC.sr ?_
  refine VO.mv rfl rfl rfl rfl ?_
  refine VO.op rfl (OpE.call rfl hB rfl Tryz.call77 rfl (kit_Lines (by omega)) ?_)
  rintro _ rfl
  have hll := linesR_length text
  have hlg := linesR_get text
  obtain ⟨ls, hls⟩ : ∃ ls, linesR text = ls := ⟨_, rfl⟩
  obtain ⟨en, hen⟩ : ∃ en, linesE text = en := ⟨_, rfl⟩
  rw [hls] at hll hlg
  have hsm := prOf_Sm (ls := ls) (n := text.size) (by omega) (by omega) hlg
  refine VO.le _ (Le.recast (t := 17) (y := .tup [avStrs ls, avB en]) rfl (fun w Z u h => by rw [← hls, ← hen]; exact h)) ?_
  refine VO.mv rfl rfl rfl rfl ?_
  refine VO.val rfl rfl (OpV.extract rfl rfl rfl) ?_
  refine VO.val rfl rfl (OpV.extract rfl rfl rfl) ?_
  refine VO.ma rfl rfl rfl rfl ?_
  refine VO.ma rfl rfl rfl rfl ?_
  refine VO.nil ?_
  refine VC.seq ?_
  refine VC.sr ?_
  refine VO.mv rfl rfl rfl rfl ?_
  refine VO.val rfl rfl (OpV.len_im rfl Tryz.underlying29 rfl) ?_
  refine VO.val rfl rfl (OpV.eql rfl rfl rfl) ?_
  refine VO.nil ?_
  refine VC.cond rfl (fun h1b => ?_) (fun h1b => ?_)
  ·have h1 := h1b
   try simp only [qqT, qqF, qqN, qqM, qqL, qqE] at h1
   refine VC.sr ?_
   refine VO.val rfl rfl (OpV.build (pls := #[(0, 1), (1, 1), (2, 1), (3, 1)]) rfl Tryz.zeroValue65 Tryz.underlying65 (fun w => by kernel_rfl) rfl rfl) ?_
   refine VO.le _ (Le.recast (t := 23) (y := avProd prZ) rfl (fun w Z u h => nil_prZ h)) ?_
   refine VO.op rfl (OpE.store (i := 0) rfl hB rfl Tryz.sizeOf65 rfl rfl rfl rfl rfl rfl (Nle rfl) trivial ?_)
   refine VO.ma rfl rfl rfl rfl ?_
   refine VO.ma rfl rfl rfl rfl ?_
   refine VO.nil ?_
   refine VC.ret ?_
   exact Exists.intro _ (And.intro (RetV.three Tryz.results44 ((by first | exact ResV.cellK (i := 0) Tryz.isAgg65 Tryz.sizeOf65 rfl rfl rfl)) (ResV.tmp rfl) (ResV.tmp rfl)) (prZ_out (prRead_n (by omega) (by rw [hls]; omega))))
  ·have h1 := h1b
   try simp only [qqT, qqF, qqN, qqM, qqL, qqE] at h1
   refine VC.skip ?_
   refine VC.sr ?_
   refine VO.op rfl (OpE.alloc rfl hB rfl Tryz.zeroValue65 rfl ?_)
   intro g
   refine VO.nil ?_
   refine VC.seq ?_
   refine VC.sr ?_
   refine VO.mv rfl rfl rfl rfl ?_
   refine VO.val rfl rfl (OpV.len_im rfl Tryz.underlying29 rfl) ?_
   refine VO.mv rfl rfl rfl rfl ?_
   refine VO.nil ?_
   refine VC.block ?_
   refine VC.le _ (Le.nilRow 5 128) ?_
   refine VC.le _ (Le.pickH [1, 2, 0] rfl rfl) ?_
   refine VC.loopK [(2, _), (5, _), (6, _), (7, _), (24, _), (25, _)] ⟨rfl, rfl, rfl, rfl, rfl, rfl, trivial⟩ ({z : Value × Nat // z.2 ≤ ls.length ∧ ∀ j, j < z.2 → lnBad (okAt okPs ls) ls en j = false}) (fun (iZ : {z : Value × Nat // z.2 ≤ ls.length ∧ ∀ j, j < z.2 → lnBad (okAt okPs ls) ls en j = false}) => match iZ with | ⟨⟨u, q⟩, hq, hn⟩ => [(26, avI (q : Int))]) (fun (iZ : {z : Value × Nat // z.2 ≤ ls.length ∧ ∀ j, j < z.2 → lnBad (okAt okPs ls) ls en j = false}) => match iZ with | ⟨⟨u, q⟩, hq, hn⟩ => [bxPr g (prOf (ls.take q)) u, rwPl u (prOf (ls.take q)).places, bxPr g2 prZ (.slice none 0 0)]) (fun (iZ : {z : Value × Nat // z.2 ≤ ls.length ∧ ∀ j, j < z.2 → lnBad (okAt okPs ls) ls en j = false}) => match iZ with | ⟨⟨u, q⟩, hq, hn⟩ => 0) (fun (iZ : {z : Value × Nat // z.2 ≤ ls.length ∧ ∀ j, j < z.2 → lnBad (okAt okPs ls) ls en j = false}) => match iZ with | ⟨⟨u, q⟩, hq, hn⟩ => ls.length - q) ⟨(.slice none 0 0, 0), Nat.zero_le _, fun j hj => absurd hj (Nat.not_lt_zero j)⟩ (Le.mk hB [0, 1, 2] ⟨rfl, rfl, rfl, rfl, rfl, rfl, rfl, trivial⟩ rfl rfl (Nat.le_refl _)) ?_
   rintro ⟨⟨u, q⟩, hq, hn⟩
   show VC _ _ _ _ ⟨[(26, avI (q : Int))] ++ [(2, _), (5, _), (6, _), (7, _), (24, _), (25, _)], [bxPr g (prOf (ls.take q)) u, rwPl u (prOf (ls.take q)).places, bxPr g2 prZ (.slice none 0 0)], 0⟩
   simp only at hq hn
   have hpl := Nat.le_trans (prOf_len (ls.take q)) (List.length_take_le q ls)
   refine VC.sr ?_
   refine VO.val rfl rfl (OpV.lss rfl rfl rfl) ?_
   refine VO.nil ?_
   refine VC.seq ?_
   refine VC.cond rfl (fun aH1b => ?_) (fun aH1b => ?_)
   ·have aH1 := aH1b
    try simp only [qqT, qqF, qqN, qqM, qqL, qqE] at aH1
    refine VC.skip ?_
    refine VC.seq ?_
    refine VC.block ?_
    refine VC.sr ?_
    refine VO.mv rfl rfl rfl rfl ?_
    refine VO.val rfl rfl (OpV.indexAddr_1 rfl Tryz.underlying29 Tryz.sizeOf9 rfl rfl rfl (by omega)) ?_
    refine VO.val rfl rfl (OpV.load_at rfl hB OutW.no Tryz.isAgg9 rfl rfl) ?_
    refine VO.ma rfl rfl rfl rfl ?_
    refine VO.ma rfl rfl rfl rfl ?_
    refine VO.nil ?_
    refine VC.sr ?_
    refine VO.mv rfl rfl rfl rfl ?_
    refine VO.mv rfl rfl rfl rfl ?_
    refine VO.op rfl (OpE.callH (rest := [_]) rfl hB rfl Tryz.call101 rfl rfl (panel_readLine (s := ls.getD q ByteArray.empty) (i := q) (g := g) (p := prOf (ls.take q)) (u := u) (Nat.le_trans (hlg q) (by omega)) (by omega) (by omega)) (List.Perm.refl _) (fun _ _ => trivial) ?_)
    rintro _ _ ⟨u33, p33, rfl, rfl, hst, hpz⟩
    refine VO.val rfl rfl (OpV.not rfl rfl) ?_
    refine VO.mv rfl rfl rfl rfl ?_
    refine VO.opG rfl rfl rfl rfl (fun aK2b => ?_) (fun aK2b => ?_)
    ·replace aK2b : _ = false := aK2b
     have aK2 := aK2b
     try simp only [qqT, qqF, qqN, qqM, qqL, qqE] at aK2
     refine OpE.val (W := NoB) (OpV.move (.inl rfl) rfl) rfl ?_
     refine VO.opY rfl rfl rfl rfl aK2b ?_
     refine OpE.val (W := NoB) (OpV.not rfl rfl) rfl ?_
     refine VO.opY rfl rfl rfl rfl aK2b ?_
     refine OpE.val (W := NoB) (OpV.move (.inl rfl) rfl) rfl ?_
     refine VO.opG rfl rfl rfl rfl (fun aK3b => ?_) (fun aK3b => ?_)
     ·replace aK3b : _ = true := aK3b
      have aK3 := aK3b
      try simp only [qqT, qqF, qqN, qqM, qqL, qqE] at aK3
      refine OpE.val (W := NoB) (OpV.move (.inl rfl) rfl) rfl ?_
      refine VO.opY rfl rfl rfl rfl aK3b ?_
      refine OpE.val (W := NoB) (OpV.move (.inl rfl) rfl) rfl ?_
      refine VO.opY rfl rfl rfl rfl aK3b ?_
      refine OpE.val (W := NoB) (OpV.len_im rfl Tryz.underlying29 rfl) rfl ?_
      refine VO.opY rfl rfl rfl rfl aK3b ?_
      refine OpE.val (W := NoB) (OpV.sub rfl rfl rfl (by unfold fits; omega)) rfl ?_
      refine VO.opY rfl rfl rfl rfl aK3b ?_
      refine OpE.val (W := NoB) (OpV.eql rfl rfl rfl) rfl ?_
      refine VO.opY rfl rfl rfl rfl aK2b ?_
      refine OpE.val (W := NoB) (OpV.pickT rfl rfl rfl rfl aK3b) rfl ?_
      refine VO.val rfl rfl (OpV.pickF rfl rfl rfl rfl aK2b) ?_
      refine VO.nil ?_
      refine VC.cond rfl (fun h3b => ?_) (fun h3b => ?_)
      ·have h3 := h3b
       try simp only [qqT, qqF, qqN, qqM, qqL, qqE] at h3
       have hsome : prBad text = some q := by show lnF _ _ _ = _; rw [hls, hen]; exact lnF_some (by omega) (lpb2 (by omega) (not_true_false (by assumption)) (by omega)) hn
       refine VC.sr ?_
       refine VO.val rfl rfl (OpV.build (pls := #[(0, 1), (1, 1), (2, 1), (3, 1)]) rfl Tryz.zeroValue65 Tryz.underlying65 (fun w => by kernel_rfl) rfl rfl) ?_
       refine VO.le _ (Le.recast (t := 46) (y := avProd prZ) rfl (fun w Z u h => nil_prZ h)) ?_
       refine VO.mv rfl rfl rfl rfl ?_
       refine VO.op rfl (OpE.store (i := 2) rfl hB rfl Tryz.sizeOf65 rfl rfl rfl rfl rfl rfl (Nle rfl) trivial ?_)
       refine VO.ma rfl rfl rfl rfl ?_
       refine VO.ma rfl rfl rfl rfl ?_
       refine VO.nil ?_
       refine VC.ret ?_
       exact Exists.intro _ (And.intro (RetV.three Tryz.results44 ((by first | exact ResV.cellK (i := 0) Tryz.isAgg65 Tryz.sizeOf65 rfl rfl rfl | exact ResV.cellK (i := 1) Tryz.isAgg65 Tryz.sizeOf65 rfl rfl rfl | exact ResV.cellK (i := 2) Tryz.isAgg65 Tryz.sizeOf65 rfl rfl rfl)) (ResV.tmp rfl) (ResV.tmp rfl)) (prZ_out (prRead_9 (by omega) (by rw [hls]; omega) hsome)))
      ·have h3 := h3b
       try simp only [qqT, qqF, qqN, qqM, qqL, qqE] at h3
       have hnb : lnBad (okAt okPs ls) ls en q = false := lpb4 (by omega) (not_false_true (by assumption)) (by omega)
       obtain rfl := hst (not_false_true (by assumption))
       refine VC.skip ?_
       refine VC.region ?_
       refine VO.val rfl rfl (OpV.add rfl rfl rfl (by unfold fits; omega)) ?_
       refine VO.mv rfl rfl rfl rfl ?_
       refine VO.nil ?_
       exact Exists.intro (⟨(u33, q + 1), by show q + 1 ≤ _; omega, lt_succ_cases hn hnb⟩) (And.intro (Le.mk hB [0, 1, 2] ⟨rfl, rfl, rfl, rfl, rfl, rfl, rfl, trivial⟩ rfl (by dsimp only; rw [prOf_take (by omega)]; rfl) (Nat.le_refl _)) (by first | omega | (show _ < _; omega) | (simp only []; omega)))
     ·replace aK3b : _ = false := aK3b
      have aK3 := aK3b
      try simp only [qqT, qqF, qqN, qqM, qqL, qqE] at aK3
      refine VO.opX rfl rfl rfl rfl aK3b ?_
      refine VO.opX rfl rfl rfl rfl aK3b ?_
      refine VO.opX rfl rfl rfl rfl aK3b ?_
      refine VO.opX rfl rfl rfl rfl aK3b ?_
      refine VO.opY rfl rfl rfl rfl aK2b ?_
      refine OpE.val (W := NoB) (OpV.pickF rfl rfl rfl rfl aK3b) rfl ?_
      refine VO.val rfl rfl (OpV.pickF rfl rfl rfl rfl aK2b) ?_
      refine VO.nil ?_
      refine VC.condF rfl rfl ?_
      have hnb : lnBad (okAt okPs ls) ls en q = false := lpb3 (by omega) (not_false_true (by assumption)) (not_false_true (by assumption))
      obtain rfl := hst (not_false_true (by assumption))
      refine VC.skip ?_
      refine VC.region ?_
      refine VO.val rfl rfl (OpV.add rfl rfl rfl (by unfold fits; omega)) ?_
      refine VO.mv rfl rfl rfl rfl ?_
      refine VO.nil ?_
      exact Exists.intro (⟨(u33, q + 1), by show q + 1 ≤ _; omega, lt_succ_cases hn hnb⟩) (And.intro (Le.mk hB [0, 1, 2] ⟨rfl, rfl, rfl, rfl, rfl, rfl, rfl, trivial⟩ rfl (by dsimp only; rw [prOf_take (by omega)]; rfl) (Nat.le_refl _)) (by first | omega | (show _ < _; omega) | (simp only []; omega)))
    ·replace aK2b : _ = true := aK2b
     have aK2 := aK2b
     try simp only [qqT, qqF, qqN, qqM, qqL, qqE] at aK2
     refine VO.opX rfl rfl rfl rfl aK2b ?_
     refine VO.opX rfl rfl rfl rfl aK2b ?_
     refine VO.opU rfl rfl rfl rfl ?_
     refine VO.opU rfl rfl rfl rfl ?_
     refine VO.opU rfl rfl rfl rfl ?_
     refine VO.opU rfl rfl rfl rfl ?_
     refine VO.opU rfl rfl rfl rfl ?_
     refine VO.opX rfl rfl rfl rfl aK2b ?_
     refine VO.val rfl rfl (OpV.pickT rfl rfl rfl rfl aK2b) ?_
     refine VO.nil ?_
     refine VC.condT rfl rfl ?_
     have hsome : prBad text = some q := by show lnF _ _ _ = _; rw [hls, hen]; exact lnF_some (by omega) (lpb1 (by omega) (not_true_false (by assumption))) hn
     refine VC.sr ?_
     refine VO.val rfl rfl (OpV.build (pls := #[(0, 1), (1, 1), (2, 1), (3, 1)]) rfl Tryz.zeroValue65 Tryz.underlying65 (fun w => by kernel_rfl) rfl rfl) ?_
     refine VO.le _ (Le.recast (t := 46) (y := avProd prZ) rfl (fun w Z u h => nil_prZ h)) ?_
     refine VO.mv rfl rfl rfl rfl ?_
     refine VO.op rfl (OpE.store (i := 2) rfl hB rfl Tryz.sizeOf65 rfl rfl rfl rfl rfl rfl (Nle rfl) trivial ?_)
     refine VO.ma rfl rfl rfl rfl ?_
     refine VO.ma rfl rfl rfl rfl ?_
     refine VO.nil ?_
     refine VC.ret ?_
     exact Exists.intro _ (And.intro (RetV.three Tryz.results44 ((by first | exact ResV.cellK (i := 0) Tryz.isAgg65 Tryz.sizeOf65 rfl rfl rfl | exact ResV.cellK (i := 1) Tryz.isAgg65 Tryz.sizeOf65 rfl rfl rfl | exact ResV.cellK (i := 2) Tryz.isAgg65 Tryz.sizeOf65 rfl rfl rfl)) (ResV.tmp rfl) (ResV.tmp rfl)) (prZ_out (prRead_9 (by omega) (by rw [hls]; omega) hsome)))
   ·have aH1 := aH1b
    try simp only [qqT, qqF, qqN, qqM, qqL, qqE] at aH1
    obtain rfl : q = ls.length := by omega
    have hnone : prBad text = none := by show lnF _ _ _ = _; rw [hls, hen]; exact lnF_none hn
    rw [List.take_length]
    refine VC.le _ (Le.cellRow (i := 0) (k := 1) (j := 3) (y := avL (prOf ls).places) hB rfl rfl rfl (by omega) (fun w Z u h => Rep.rowL rfl h)) ?_
    refine VC.exit ?_
    refine VC.seq ?_
    refine VC.sr ?_
    refine VO.val rfl rfl (OpV.loadK_own (i := 0) rfl hB Tryz.isAgg65 Tryz.sizeOf65 rfl rfl rfl (fun h => h)) ?_
    refine VO.op rfl (OpE.call rfl hB rfl Tryz.call95 rfl (SpecN.spec (panel_CheckProduct hsm)) ?_)
    rintro _ rfl
    refine VO.ma rfl rfl rfl rfl ?_
    refine VO.nil ?_
    refine VC.sr ?_
    refine VO.mv rfl rfl rfl rfl ?_
    refine VO.val rfl rfl (OpV.neq rfl rfl rfl) ?_
    refine VO.nil ?_
    refine VC.cond rfl (fun h4b => ?_) (fun h4b => ?_)
    ·have h4 := h4b
     try simp only [qqT, qqF, qqN, qqM, qqL, qqE] at h4
     refine VC.sr ?_
     refine VO.val rfl rfl (OpV.build (pls := #[(0, 1), (1, 1), (2, 1), (3, 1)]) rfl Tryz.zeroValue65 Tryz.underlying65 (fun w => by kernel_rfl) rfl rfl) ?_
     refine VO.le _ (Le.recast (t := 53) (y := avProd prZ) rfl (fun w Z u h => nil_prZ h)) ?_
     refine VO.mv rfl rfl rfl rfl ?_
     refine VO.op rfl (OpE.store (i := 1) rfl hB rfl Tryz.sizeOf65 rfl rfl rfl rfl rfl rfl (Nle rfl) trivial ?_)
     refine VO.ma rfl rfl rfl rfl ?_
     refine VO.ma rfl rfl rfl rfl ?_
     refine VO.nil ?_
     refine VC.ret ?_
     exact Exists.intro _ (And.intro (RetV.three Tryz.results44 ((by first | exact ResV.cellK (i := 0) Tryz.isAgg65 Tryz.sizeOf65 rfl rfl rfl | exact ResV.cellK (i := 1) Tryz.isAgg65 Tryz.sizeOf65 rfl rfl rfl)) (ResV.tmp rfl) (ResV.tmp rfl)) (prZ_out (by rw [prRead_e (by omega) (by rw [hls]; omega) hnone (by rw [hls]; exact h4), hls])))
    ·have h4 := h4b
     try simp only [qqT, qqF, qqN, qqM, qqL, qqE] at h4
     refine VC.skip ?_
     refine VC.sr ?_
     refine VO.val rfl rfl (OpV.loadK_own (i := 0) rfl hB Tryz.isAgg65 Tryz.sizeOf65 rfl rfl rfl (fun h => h)) ?_
     refine VO.op rfl (OpE.store (i := 1) rfl hB rfl Tryz.sizeOf65 rfl rfl rfl rfl rfl rfl (Nle rfl) trivial ?_)
     refine VO.ma rfl rfl rfl rfl ?_
     refine VO.ma rfl rfl rfl rfl ?_
     refine VO.nil ?_
     refine VC.ret ?_
     exact Exists.intro _ (And.intro (RetV.three Tryz.results44 ((by first | exact ResV.cellK (i := 0) Tryz.isAgg65 Tryz.sizeOf65 rfl rfl rfl | exact ResV.cellK (i := 1) Tryz.isAgg65 Tryz.sizeOf65 rfl rfl rfl)) (ResV.tmp rfl) (ResV.tmp rfl)) (pr_out (by rw [prRead_0 (by omega) (by rw [hls]; omega) hnone (by rw [hls]; omega), hls])))
end Go.Proofs.YtbbgjeiefmiblaaGreatDoor
namespace Go.Proofs.YtbbgjeiefmiblaaGreatDoor
open Go.RowKit
set_option linter.unusedVariables false
set_option linter.unusedSimpArgs false
def hasN (p : ProdS) (k : ByteArray) : Bool := p.places.any fun x => sEq x.name k
def placeO (p : ProdS) (k : ByteArray) : PlaceS := (p.places.find? fun x => sEq x.name k).getD default
theorem placeE_name {p : ProdS} {i : Nat} (h : placeE p i = 0) (hi : 0 < i) : sLe (p.places.getD i default).name (p.places.getD (i - 1) default).name = false := by
 unfold placeE at h
 split at h
 ·cases h
 ·split at h
  ·cases h
  ·rename_i h2
   rw [decide_eq_true hi, Bool.true_and] at h2
   simpa using h2
theorem places_rise {p : ProdS} (h : prodF p = 0) : RiseK PlaceS.name p.places := fun j h0 hj => placeE_name ((prodOk h).all j hj) h0
theorem find_rise {α : Type} [Inhabited α] {key : α → ByteArray} {l : List α} (h : RiseK key l) {j : Nat} (hj : j < l.length) : (l.find? fun x => sEq (key x) (key (l.getD j default))).getD default = l.getD j default ∧ (l.any fun x => sEq (key x) (key (l.getD j default))) = true := by
 refine ⟨find_first l j hj (sEq_eq.2 rfl) fun i hi => ?_, List.any_eq_true.2 ⟨l[j], List.getElem_mem hj, ?_⟩⟩
 ·have := rise_lt h i j hi hj
  cases e : sEq (key (l.getD i default)) (key (l.getD j default)) with
  | false => rfl
  | true => rw [sEq_eq.1 e, sLt_irr] at this; cases this
 ·rw [List.getD_eq_getElem?_getD, List.getElem?_eq_getElem hj]; exact sEq_eq.2 rfl
end Go.Proofs.YtbbgjeiefmiblaaGreatDoor
namespace Go.Proofs.YtbbgjeiefmiblaaGreatDoor
open Go.RowKit
set_option linter.unusedVariables false
set_option linter.unusedSimpArgs false
set_option maxRecDepth 100000 in
theorem panel_placementAt1 {x : PlaceS} {k : ByteArray}  :
  SpecN Tryz.prog 141 [avT x, avS k] (fun y => y = avI (cmpB x.name k)) := by
 refine SpecN.of_VCN Tryz.func141 rfl Tryz.ntmps141 (Nle rfl) fun w A hB => ?_
 have hnew : True := trivial
 refine VC.sr ?_
 refine VO.op rfl (OpE.box rfl hB rfl rfl rfl ?_)
 intro g2
 refine VO.ma rfl rfl rfl rfl ?_
 refine VO.nil ?_
 refine VC.sr ?_
 refine VO.val rfl rfl (OpV.fieldAddrO 0 rfl Tryz.underlying128 rfl rfl Tryz.sizeOf9 rfl) ?_
 refine VO.val rfl rfl (OpV.load_own (i := 0) rfl hB Tryz.isAgg9 rfl rfl rfl (fun h => h)) ?_
 refine VO.mv rfl rfl rfl rfl ?_
 refine VO.op rfl (OpE.call rfl hB rfl Tryz.call142 rfl (SpecN.spec (strings_Compare_S)) ?_)
 rintro _ rfl
 refine VO.ma rfl rfl rfl rfl ?_
 refine VO.nil ?_
 refine VC.ret ?_
 exact Exists.intro _ (And.intro (RetN.one Tryz.results141 (ResN.v rfl)) (rfl))
set_option maxRecDepth 100000 in
theorem bsf_place {xs : List PlaceS} {t : ByteArray} {F : FuncId} {cs : List AV} {c : PlaceS → Int} {s0 : Nat} (hl : xs.length ≤ 1000000) (hcall : ∀ us w, (callFunc F us).run Tryz.prog w = .ok (.enter F us) w) (hF : ∀ x, Spec Tryz.prog F ([avT x, avS t] ++ cs) (fun y => y = avI (c x))) (hs : s0 ≤ xs.length) (hlo : ∀ j, j < s0 → c (xs.getD j default) < 0) (hhi : ∀ j, s0 ≤ j → j < xs.length → 0 ≤ c (xs.getD j default)) :
  SpecN Tryz.prog 140 [avL xs, avS t, .fn F cs] (fun y => y = .tup [avI (s0 : Int), avB (decide (s0 < xs.length) && decide (c (xs.getD s0 default) = 0))]) := by
 refine SpecN.of_VCN Tryz.func140 rfl Tryz.ntmps140 (Nle rfl) fun w A hB => ?_
 have hnew : True := trivial
 refine VC.sr ?_
 refine VO.ma rfl rfl rfl rfl ?_
 refine VO.ma rfl rfl rfl rfl ?_
 refine VO.nil ?_
 refine VC.sr ?_
 refine VO.mv rfl rfl rfl rfl ?_
 refine VO.val rfl rfl (OpV.len_im rfl Tryz.underlying63 rfl) ?_
 refine VO.ma rfl rfl rfl rfl ?_
 refine VO.nil ?_
 refine VC.sr ?_
 refine VO.mv rfl rfl rfl rfl ?_
 refine VO.ma rfl rfl rfl rfl ?_
 refine VO.ma rfl rfl rfl rfl ?_
 refine VO.nil ?_
 refine VC.seq ?_
 refine VC.block ?_
 refine VC.loopK [(0, _), (1, _), (2, _), (8, _)] ⟨rfl, rfl, rfl, rfl, trivial⟩ ({z : Nat × Nat // z.1 ≤ s0 ∧ s0 ≤ z.2 ∧ z.2 ≤ xs.length}) (fun (iZ : {z : Nat × Nat // z.1 ≤ s0 ∧ s0 ≤ z.2 ∧ z.2 ≤ xs.length}) => match iZ with | ⟨⟨i, j⟩, h1, h2, h3⟩ => [(9, avI (i : Int)), (10, avI (j : Int))]) (fun (iZ : {z : Nat × Nat // z.1 ≤ s0 ∧ s0 ≤ z.2 ∧ z.2 ≤ xs.length}) => match iZ with | ⟨⟨i, j⟩, h1, h2, h3⟩ => []) (fun (iZ : {z : Nat × Nat // z.1 ≤ s0 ∧ s0 ≤ z.2 ∧ z.2 ≤ xs.length}) => match iZ with | ⟨⟨i, j⟩, h1, h2, h3⟩ => 0) (fun (iZ : {z : Nat × Nat // z.1 ≤ s0 ∧ s0 ≤ z.2 ∧ z.2 ≤ xs.length}) => match iZ with | ⟨⟨i, j⟩, h1, h2, h3⟩ => j - i) ⟨(0, xs.length), Nat.zero_le _, hs, Nat.le_refl _⟩ (Le.mk hB [] ⟨rfl, rfl, rfl, rfl, rfl, rfl, trivial⟩ rfl rfl (Nat.le_refl _)) ?_
 rintro ⟨⟨i, j⟩, h1, h2, h3⟩
 show VC _ _ _ _ ⟨[(9, avI (i : Int)), (10, avI (j : Int))] ++ [(0, _), (1, _), (2, _), (8, _)], [], 0⟩
 simp only at h1 h2 h3
 refine VC.seq ?_
 refine VC.sr ?_
 refine VO.mv rfl rfl rfl rfl ?_
 refine VO.mv rfl rfl rfl rfl ?_
 refine VO.val rfl rfl (OpV.lss rfl rfl rfl) ?_
 refine VO.nil ?_
 refine VC.cond rfl (fun aH1b => ?_) (fun aH1b => ?_)
 ·have aH1 := aH1b
  try simp only [qqT, qqF, qqN, qqM, qqL, qqE] at aH1
  refine VC.skip ?_
  refine VC.block ?_
  refine VC.sr ?_
  refine VO.mv rfl rfl rfl rfl ?_
  refine VO.mv rfl rfl rfl rfl ?_
  refine VO.val rfl rfl (OpV.add rfl rfl rfl (by unfold fits; omega)) ?_
  refine VO.val rfl rfl (OpV.conv rfl Tryz.underlying3 Tryz.underlying90 rfl (IntWalk.u64_in _ (by omega))) ?_
  refine VO.val rfl rfl (OpV.shr1 rfl rfl rfl rfl (by omega)) ?_
  refine VO.val rfl rfl (OpV.conv rfl Tryz.underlying90 Tryz.underlying3 rfl (IntWalk.i64_in _ (by omega))) ?_
  refine VO.ma rfl rfl rfl rfl ?_
  refine VO.nil ?_
  refine VC.sr ?_
  refine VO.mv rfl rfl rfl rfl ?_
  refine VO.mv rfl rfl rfl rfl ?_
  refine VO.mv rfl rfl rfl rfl ?_
  refine VO.val rfl rfl (OpV.indexAddr_E rfl Tryz.underlying63 Tryz.sizeOf128 rfl rfl (Int.toNat_of_nonneg (by omega)).symm (by omega)) ?_
  refine VO.val rfl rfl (OpV.loadK_at rfl hB OutW.no Tryz.isAgg128 Tryz.sizeOf128 rfl rfl) ?_
  refine VO.mv rfl rfl rfl rfl ?_
  refine VO.op rfl (OpE.callF rfl hB rfl hcall rfl rfl (hF _) ?_)
  rintro _ rfl
  refine VO.val rfl rfl (OpV.lss rfl rfl rfl) ?_
  refine VO.nil ?_
  refine VC.cond rfl (fun hcb => ?_) (fun hcb => ?_)
  ·have hc := hcb
   try simp only [qqT, qqF, qqN, qqM, qqL, qqE] at hc
   refine VC.region ?_
   refine VO.mv rfl rfl rfl rfl ?_
   refine VO.val rfl rfl (OpV.add rfl rfl rfl (by unfold fits; omega)) ?_
   refine VO.ma rfl rfl rfl rfl ?_
   refine VO.nil ?_
   exact Exists.intro (⟨((((i : Int) + j) / 2).toNat + 1, j), bsf_lo hhi (by omega) hc, h2, h3⟩) (And.intro (Le.mk hB [] ⟨(by first | rfl | exact congrArg (fun z => some (avI z)) (by omega)), (by first | rfl | exact congrArg (fun z => some (avI z)) (by omega)), rfl, rfl, rfl, rfl, trivial⟩ rfl rfl (Nat.le_refl _)) (by first | omega | (show _ < _; omega) | (simp only []; omega)))
  ·have hc := hcb
   try simp only [qqT, qqF, qqN, qqM, qqL, qqE] at hc
   refine VC.region ?_
   refine VO.mv rfl rfl rfl rfl ?_
   refine VO.ma rfl rfl rfl rfl ?_
   refine VO.nil ?_
   exact Exists.intro (⟨(i, (((i : Int) + j) / 2).toNat), h1, bsf_hi (h := (((i : Int) + j) / 2).toNat) hlo hc, by show _ ≤ xs.length; omega⟩) (And.intro (Le.mk hB [] ⟨(by first | rfl | exact congrArg (fun z => some (avI z)) (by omega)), (by first | rfl | exact congrArg (fun z => some (avI z)) (by omega)), rfl, rfl, rfl, rfl, trivial⟩ rfl rfl (Nat.le_refl _)) (by first | omega | (show _ < _; omega) | (simp only []; omega)))
 ·have aH1 := aH1b
  try simp only [qqT, qqF, qqN, qqM, qqL, qqE] at aH1
  obtain rfl : i = s0 := by omega
  refine VC.exit ?_
  refine VC.sr ?_
  refine VO.mv rfl rfl rfl rfl ?_
  refine VO.mv rfl rfl rfl rfl ?_
  refine VO.mv rfl rfl rfl rfl ?_
  refine VO.val rfl rfl (OpV.lss rfl rfl rfl) ?_
  refine VO.mv rfl rfl rfl rfl ?_
  refine VO.opG rfl rfl rfl rfl (fun aK2b => ?_) (fun aK2b => ?_)
  ·replace aK2b : _ = true := aK2b
   have aK2 := aK2b
   try simp only [qqT, qqF, qqN, qqM, qqL, qqE] at aK2
   refine OpE.val (W := NoB) (OpV.move (.inl rfl) rfl) rfl ?_
   refine VO.opY rfl rfl rfl rfl aK2b ?_
   refine OpE.val (W := NoB) (OpV.move (.inl rfl) rfl) rfl ?_
   refine VO.opY rfl rfl rfl rfl aK2b ?_
   refine OpE.val (W := NoB) (OpV.move (.inl rfl) rfl) rfl ?_
   refine VO.opY rfl rfl rfl rfl aK2b ?_
   refine OpE.val (W := NoB) (OpV.indexAddr_E rfl Tryz.underlying63 Tryz.sizeOf128 rfl rfl rfl (by omega)) rfl ?_
   refine VO.opY rfl rfl rfl rfl aK2b ?_
   refine OpE.val (W := NoB) (OpV.loadK_at rfl hB OutW.no Tryz.isAgg128 Tryz.sizeOf128 rfl rfl) rfl ?_
   refine VO.opY rfl rfl rfl rfl aK2b ?_
   refine OpE.val (W := NoB) (OpV.move (.inl rfl) rfl) rfl ?_
   refine VO.opY rfl rfl rfl rfl aK2b ?_
   refine OpE.callF rfl hB rfl hcall rfl rfl (hF _) ?_
   rintro _ rfl
   refine VO.opY rfl rfl rfl rfl aK2b ?_
   refine OpE.val (W := NoB) (OpV.eql rfl rfl rfl) rfl ?_
   refine VO.val rfl rfl (OpV.pickT rfl rfl rfl rfl aK2b) ?_
   refine VO.ma rfl rfl rfl rfl ?_
   refine VO.ma rfl rfl rfl rfl ?_
   refine VO.nil ?_
   refine VC.ret ?_
   exact Exists.intro _ (And.intro (RetN.two Tryz.results140 (ResN.v rfl) (ResN.v rfl)) (by first | (rw [decide_eq_true (show i < xs.length by omega)]; rfl) | (rw [decide_eq_false (show ¬ i < xs.length by omega)]; rfl)))
  ·replace aK2b : _ = false := aK2b
   have aK2 := aK2b
   try simp only [qqT, qqF, qqN, qqM, qqL, qqE] at aK2
   refine VO.opX rfl rfl rfl rfl aK2b ?_
   refine VO.opX rfl rfl rfl rfl aK2b ?_
   refine VO.opX rfl rfl rfl rfl aK2b ?_
   refine VO.opX rfl rfl rfl rfl aK2b ?_
   refine VO.opX rfl rfl rfl rfl aK2b ?_
   refine VO.opX rfl rfl rfl rfl aK2b ?_
   refine VO.opX rfl rfl rfl rfl aK2b ?_
   refine VO.val rfl rfl (OpV.pickF rfl rfl rfl rfl aK2b) ?_
   refine VO.ma rfl rfl rfl rfl ?_
   refine VO.ma rfl rfl rfl rfl ?_
   refine VO.nil ?_
   refine VC.ret ?_
   exact Exists.intro _ (And.intro (RetN.two Tryz.results140 (ResN.v rfl) (ResN.v rfl)) (by first | (rw [decide_eq_true (show i < xs.length by omega)]; rfl) | (rw [decide_eq_false (show ¬ i < xs.length by omega)]; rfl)))
set_option maxRecDepth 100000 in
theorem panel_placementAt {l : List PlaceS} {k : ByteArray} (hl : l.length ≤ 1000000) (hr : RiseK PlaceS.name l) :
  SpecN Tryz.prog 96 [avL l, avS k] (fun y => y = .tup [avI (lowK PlaceS.name l k : Int), avB (l.any fun x => sEq x.name k)]) := by
 refine SpecN.of_VCN Tryz.func96 rfl Tryz.ntmps96 (Nle rfl) fun w A hB => ?_
 have hnew : True := trivial
 refine VC.sr ?_
 refine VO.ma rfl rfl rfl rfl ?_
 refine VO.ma rfl rfl rfl rfl ?_
 refine VO.nil ?_
 refine VC.sr ?_
 refine VO.mv rfl rfl rfl rfl ?_
 refine VO.mv rfl rfl rfl rfl ?_
 refine VO.op rfl (OpE.callL rfl hB rfl Tryz.call140 (bsf_place (c := fun x => cmpB x.name k) (s0 := lowK PlaceS.name l k) hl Tryz.call141 (fun x => panel_placementAt1.spec) lowK_le (lowK_cmp hr).1 (lowK_cmp hr).2) (ArgsP.cons (ArgP.ev rfl) (ArgsP.cons (ArgP.ev rfl) (ArgsP.cons (ArgP.fn0 rfl) (ArgsP.nil)))) ?_)
 rintro _ rfl
 refine VO.val rfl rfl (OpV.extract rfl rfl rfl) ?_
 refine VO.val rfl rfl (OpV.extract rfl rfl rfl) ?_
 refine VO.ma rfl rfl rfl rfl ?_
 refine VO.ma rfl rfl rfl rfl ?_
 refine VO.nil ?_
 refine VC.ret ?_
 exact Exists.intro _ (And.intro (RetN.two Tryz.results96 (ResN.v rfl) (ResN.v rfl)) (by rw [← lowK_any hr, ← cmp_zero]))



end Go.Proofs.YtbbgjeiefmiblaaGreatDoor
namespace Go.Proofs.YtbbgjeiefmiblaaGreatDoor
open Go.RowKit
set_option linter.unusedVariables false
set_option linter.unusedSimpArgs false
def zeroPl : PlaceS := ⟨⟨#[]⟩, ⟨#[]⟩, 0, 0, 0⟩
def atPl (p : ProdS) (k : ByteArray) : PlaceS := if hasN p k = true then placeO p k else zeroPl
end Go.Proofs.YtbbgjeiefmiblaaGreatDoor
namespace Go.Proofs.YtbbgjeiefmiblaaGreatDoor
open Go.RowKit
set_option linter.unusedVariables false
set_option linter.unusedSimpArgs false
def eqPl (x y : PlaceS) : Bool := sEq x.name y.name && (sEq x.part y.part && (decide (x.x = y.x) && (decide (x.y = y.y) && (decide (x.quarter = y.quarter) && true))))
theorem eqPl_self (x : PlaceS) : eqPl x x = true := by simp [eqPl, sEq_refl]
def selC (f : PlaceS → Bool) (l : List PlaceS) : List ByteArray := (l.filter f).map (·.name)
section
variable {f : PlaceS → Bool} {l : List PlaceS} {q : Nat}
theorem selC_y (hq : q < l.length) (h : f (l.getD q default) = true) : selC f (l.take (q + 1)) = selC f (l.take q) ++ [(l.getD q default).name] := by
 rw [take_snocD hq default, selC, selC, List.filter_append, List.map_append, List.filter_cons_of_pos h]; rfl
theorem selC_n (hq : q < l.length) (h : f (l.getD q default) = false) : selC f (l.take (q + 1)) = selC f (l.take q) := by
 rw [take_snocD hq default, selC, selC, List.filter_append, List.filter_cons_of_neg (by rw [h]; simp)]; simp
theorem selC_len : (selC f (l.take q)).length ≤ l.length := by
 unfold selC
 rw [List.length_map]
 have := List.length_filter_le f (l.take q)
 rw [List.length_take] at this
 omega
theorem selC_nil (h : ∀ j, j < l.length → f (l.getD j default) = false) : selC f l = [] := by
 unfold selC
 rw [List.filter_eq_nil_iff.2 fun x hx => ?_]
 ·rfl
 ·obtain ⟨j, hj, rfl⟩ := List.getElem_of_mem hx
  have := h j hj
  rw [List.getD_eq_getElem?_getD, List.getElem?_eq_getElem hj] at this
  simp at this
  simp [this]
end
def newC (y : ProdS) (a : PlaceS) : Bool := !hasN y a.name
def othC (y : ProdS) (a : PlaceS) : Bool := hasN y a.name && !eqPl a (atPl y a.name)
def pchF (x y : ProdS) : Int := if prodF x ≠ 0 then prodF x else prodF y
def pch1 (x y : ProdS) : List ByteArray := if pchF x y = 0 then selC (newC y) x.places else []
def pch2 (x y : ProdS) : List ByteArray := if pchF x y = 0 then selC (newC x) y.places else []
def pch3 (x y : ProdS) : List ByteArray := if pchF x y = 0 then selC (othC y) x.places else []
theorem pchF_1 {x y : ProdS} (h : prodF x ≠ 0) : pchF x y = prodF x := if_pos h
theorem pchF_2 {x y : ProdS} (h : prodF x = 0) : pchF x y = prodF y := if_neg (by omega)
theorem pch_no {x y : ProdS} (h : pchF x y ≠ 0) : pch1 x y = [] ∧ pch2 x y = [] ∧ pch3 x y = [] := ⟨if_neg h, if_neg h, if_neg h⟩
theorem pch_ok {x y : ProdS} (h : pchF x y = 0) : pch1 x y = selC (newC y) x.places ∧ pch2 x y = selC (newC x) y.places ∧ pch3 x y = selC (othC y) x.places := ⟨if_pos h, if_pos h, if_pos h⟩
theorem atPl_y {p : ProdS} {k : ByteArray} (h : hasN p k = true) : atPl p k = placeO p k := if_pos h
theorem newC_n {y : ProdS} {a : PlaceS} (h : hasN y a.name = true) : newC y a = false := by unfold newC; rw [h]; rfl
theorem newC_y {y : ProdS} {a : PlaceS} (h : hasN y a.name = false) : newC y a = true := by unfold newC; rw [h]; rfl
theorem othC_0 {y : ProdS} {a : PlaceS} (h : hasN y a.name = false) : othC y a = false := by unfold othC; rw [h]; rfl
theorem othC_1 {y : ProdS} {a b : PlaceS} (h : hasN y a.name = true) (hb : atPl y a.name = b) : othC y a = !eqPl a b := by unfold othC; rw [h, hb]; rfl
theorem pch_self {p : ProdS} (h : prodF p = 0) : pchF p p = 0 ∧ pch1 p p = [] ∧ pch2 p p = [] ∧ pch3 p p = [] := by
 have h0 : pchF p p = 0 := by rw [pchF_2 h]; exact h
 have hf := fun j (hj : j < p.places.length) => find_rise (places_rise h) hj
 have hh : ∀ j, j < p.places.length → hasN p (p.places.getD j default).name = true := fun j hj => (hf j hj).2
 have ha : ∀ j, j < p.places.length → atPl p (p.places.getD j default).name = p.places.getD j default := fun j hj => by
  rw [atPl_y (hh j hj)]; exact (hf j hj).1
 have e1 : selC (newC p) p.places = [] := selC_nil fun j hj => newC_n (hh j hj)
 have e3 : selC (othC p) p.places = [] := selC_nil fun j hj => by rw [othC_1 (hh j hj) (ha j hj), eqPl_self]; rfl
 obtain ⟨k1, k2, k3⟩ := pch_ok h0
 exact ⟨h0, by rw [k1, e1], by rw [k2, e1], by rw [k3, e3]⟩
theorem ind_zero {a : ByteArray} : ∀ {ks : List ByteArray}, a ∉ ks → (ks.map fun k => if a = k then (1 : Int) else 0).sum = 0
 | [], _ => rfl
 | k :: ks, h => by
  rw [List.map_cons, List.sum_cons, if_neg (fun e : a = k => h (by rw [e]; exact List.mem_cons_self ..)), ind_zero fun hm => h (List.mem_cons_of_mem _ hm)]; rfl
theorem ind_one {a : ByteArray} : ∀ {ks : List ByteArray}, ks.Nodup → a ∈ ks → (ks.map fun k => if a = k then (1 : Int) else 0).sum = 1
 | [], _, h => by cases h
 | k :: ks, hd, h => by
  obtain ⟨h1, h2⟩ := List.nodup_cons.1 hd
  rw [List.map_cons, List.sum_cons]
  by_cases e : a = k
  ·subst e
   rw [if_pos rfl, ind_zero h1]; rfl
  ·rw [if_neg e, ind_one h2 ((List.mem_cons.1 h).resolve_left e)]; rfl
theorem sum_add2 {ks : List ByteArray} {f g : ByteArray → Int} : (ks.map fun k => f k + g k).sum = (ks.map f).sum + (ks.map g).sum := by
 induction ks with
 | nil => rfl
 | cons k ks ih => simp only [List.map_cons, List.sum_cons, ih]; omega
theorem sum_parts {ks : List ByteArray} (hd : ks.Nodup) : ∀ (l : List PlaceS), (∀ x ∈ l, x.part ∈ ks) → (ks.map fun k => (((l.filter fun x => decide (x.part = k)).length : Nat) : Int)).sum = l.length
 | [], _ => by
  have : (ks.map fun k => (((([] : List PlaceS).filter fun x => decide (x.part = k)).length : Nat) : Int)) = ks.map fun _ => (0 : Int) := rfl
  rw [this]
  clear hd this
  induction ks with
  | nil => rfl
  | cons k ks ih => rw [List.map_cons, List.sum_cons, ih (fun x hx => by cases hx)]; rfl
 | x :: l, h => by
  have ih := sum_parts hd l fun y hy => h y (List.mem_cons_of_mem _ hy)
  have h1 := ind_one hd (h x (List.mem_cons_self ..))
  have e : (fun k => ((((x :: l).filter fun x => decide (x.part = k)).length : Nat) : Int)) = fun k => (if x.part = k then (1 : Int) else 0) + (((l.filter fun x => decide (x.part = k)).length : Nat) : Int) := by
   funext k
   by_cases hk : x.part = k
   ·rw [List.filter_cons_of_pos (by simpa using hk), if_pos hk, List.length_cons]; omega
   ·rw [List.filter_cons_of_neg (by simpa using hk), if_neg hk]; omega
  rw [e, sum_add2, h1, ih, List.length_cons]; omega
def cntS (l : List NeedS) : Int := (l.map (·.count)).sum
theorem cntS_snoc {l : List NeedS} {q : Nat} (h : q < l.length) : cntS (l.take (q + 1)) = cntS (l.take q) + (l.getD q default).count := by
 rw [take_snocD h default, cntS, cntS, List.map_append, List.sum_append]; simp
theorem needs_sum (p : ProdS) : cntS (needsL p) = p.places.length := by
 unfold cntS needsL
 rw [List.map_map]
 have hd : (sKeys (cntP p.places)).Nodup := (sKeys_srt (cntP_nodup p.places)).nd
 have h := sum_parts hd p.places fun x hx => sKeys_mem.2 (cntP_mem.2 ⟨x, hx, rfl⟩)
 rw [← h]
 congr 1
 refine List.map_congr_left fun k _ => ?_
 show mgetD (cntP p.places) k 0 = _
 rw [cntP_get]
theorem cntS_bd {l : List NeedS} (h : ∀ x ∈ l, 0 ≤ x.count) : 0 ≤ cntS l := by
 induction l with
 | nil => exact Int.le_refl _
 | cons x l ih =>
  have h1 := ih fun y hy => h y (List.mem_cons_of_mem _ hy)
  have h2 := h x (List.mem_cons_self ..)
  unfold cntS at *
  rw [List.map_cons, List.sum_cons]; omega
theorem cntS_app (a b : List NeedS) : cntS (a ++ b) = cntS a + cntS b := by unfold cntS; rw [List.map_append, List.sum_append]
theorem needs_pos {p : ProdS} : ∀ x ∈ needsL p, 0 ≤ x.count := fun x hx => by
 obtain ⟨k, hk, rfl⟩ := List.mem_map.1 hx
 exact (cntP_bd _ _).1
theorem needs_part (p : ProdS) (q : Nat) : 0 ≤ cntS ((needsL p).take q) ∧ cntS ((needsL p).take q) ≤ p.places.length := by
 have h := needs_sum p
 rw [← List.take_append_drop q (needsL p), cntS_app] at h
 have h1 := cntS_bd (l := (needsL p).take q) fun x hx => needs_pos x (List.mem_of_mem_take hx)
 have h2 := cntS_bd (l := (needsL p).drop q) fun x hx => needs_pos x (List.mem_of_mem_drop hx)
 omega
end Go.Proofs.YtbbgjeiefmiblaaGreatDoor
namespace Go.Proofs.YtbbgjeiefmiblaaGreatDoor
open Go.RowKit
set_option linter.unusedVariables false
set_option linter.unusedSimpArgs false
instance : Sxc ProdS where
 k := 4
 pos := by decide
 cell p j := match j with
  | 0 => avS p.key
  | 1 => avI p.wide
  | 2 => avI p.high
  | _ => avL p.places
section
variable {px py : ProdS} {q : Nat}
theorem two_sm (hx : SmP px) (hy : SmP py) (h : q < 2) : SmP ([px, py].getD q default) := by
 match q, h with
 | 0, _ => exact hx
 | 1, _ => exact hy
theorem pchF_at (hq : q < 2) (hn : ∀ j, j < q → prodF ([px, py].getD j default) = 0) (h : prodF ([px, py].getD q default) ≠ 0) : pchF px py = prodF ([px, py].getD q default) := by
 match q, hq, hn, h with
 | 0, _, _, h => exact pchF_1 h
 | 1, _, hn, h => exact pchF_2 (hn 0 (by decide))
theorem two_0 (hn : ∀ j, j < 2 → prodF ([px, py].getD j default) = 0) : prodF px = 0 ∧ prodF py = 0 := ⟨hn 0 (by decide), hn 1 (by decide)⟩
theorem lowK_has {p : ProdS} {k : ByteArray} (h : prodF p = 0) (hh : hasN p k = true) : lowK PlaceS.name p.places k < p.places.length ∧ p.places.getD (lowK PlaceS.name p.places k) default = atPl p k := by
 have h1 := (lowK_any (places_rise h) (k := k)).trans (show (p.places.any fun x => sEq x.name k) = true from hh)
 rw [Bool.and_eq_true, decide_eq_true_eq] at h1
 refine ⟨h1.1, ?_⟩
 rw [atPl_y hh]
 exact (lowK_find (places_rise h) h1.1 h1.2).symm
theorem pch_out0 {e : Int} (h : pchF px py ≠ 0) (he : pchF px py = e) : AV.tup [avStrs [], avStrs [], avStrs [], avI e] = AV.tup [avStrs (pch1 px py), avStrs (pch2 px py), avStrs (pch3 px py), avI (pchF px py)] := by
 obtain ⟨h1, h2, h3⟩ := pch_no h
 rw [h1, h2, h3, he]
theorem pch_out1 (h : pchF px py = 0) : AV.tup [avStrs (selC (newC py) px.places), avStrs (selC (newC px) py.places), avStrs (selC (othC py) px.places), avI 0] = AV.tup [avStrs (pch1 px py), avStrs (pch2 px py), avStrs (pch3 px py), avI (pchF px py)] := by
 obtain ⟨h1, h2, h3⟩ := pch_ok h
 rw [h1, h2, h3, h]
end
theorem nilStrs {w : World} {Z : Nat → Prop} {u : Value} (h : Rep w Z (.v (.slice none 0 0)) u) : Rep w Z (avStrs ([] : List ByteArray)) u := by rw [h.eq_v]; exact .nil _ _
abbrev rwS (u : Value) (l : List ByteArray) : Ent := .row u l.length 1 (strsL l) 9
set_option maxRecDepth 100000 in
set_option maxHeartbeats 16000000 in
theorem panel_Changed {px py : ProdS} (hx : SmP px) (hy : SmP py) :
  Spec Tryz.prog 38 [avProd px, avProd py] (fun y => y = .tup [avStrs (pch1 px py), avStrs (pch2 px py), avStrs (pch3 px py), avI (pchF px py)]) := by
 refine Spec.of_VC Tryz.func38 rfl Tryz.ntmps38 (Nle rfl) fun w A hB => ?_
 have hnew : True := trivial
 refine VC.sr ?_
 refine VO.op rfl (OpE.box rfl hB rfl rfl rfl ?_)
 intro gx
 refine VO.op rfl (OpE.box rfl hB rfl rfl rfl ?_)
 intro gy
 refine VO.ma rfl rfl rfl rfl ?_
 refine VO.ma rfl rfl rfl rfl ?_
 refine VO.ma rfl rfl rfl rfl ?_
 refine VO.ma rfl rfl rfl rfl ?_
 refine VO.nil ?_
 refine VC.seq ?_
 refine VC.seq ?_
 have hlx := hx.len
 have hly := hy.len
 have hll2 : ([px, py] : List ProdS).length = 2 := rfl
 refine VC.region ?_
 refine VO.val rfl rfl (OpV.loadK_own (i := 0) rfl hB Tryz.isAgg65 Tryz.sizeOf65 rfl rfl rfl (fun h => h)) ?_
 refine VO.val rfl rfl (OpV.loadK_own (i := 1) rfl hB Tryz.isAgg65 Tryz.sizeOf65 rfl rfl rfl (fun h => h)) ?_
 refine VO.op rfl (OpE.buildSlice (zc := #[.string ⟨#[]⟩, .int .i64 0, .int .i64 0, .slice none 0 0, .string ⟨#[]⟩, .int .i64 0, .int .i64 0, .slice none 0 0]) rfl hB rfl Tryz.underlying150 Tryz.sizeOf65 Tryz.zeroValue65 (by decide) (by decide) (by kernel_rfl) rfl rfl ?_)
 refine VO.le _ (Le.recast (t := 21) (y := avL [px, py]) rfl (fun w Z u h => Rep.rowL (xs := [px, py]) rfl h)) ?_
 refine VO.val rfl rfl (OpV.len_im rfl Tryz.underlying150 rfl) ?_
 refine VO.mv rfl rfl rfl rfl ?_
 refine VO.nil ?_
 refine VC.block ?_
 refine VC.loopK [(2, _), (3, _), (21, _), (22, _)] ⟨rfl, rfl, rfl, rfl, trivial⟩ ({q : Nat // q ≤ 2 ∧ ∀ j, j < q → prodF ([px, py].getD j default) = 0}) (fun (iZ : {q : Nat // q ≤ 2 ∧ ∀ j, j < q → prodF ([px, py].getD j default) = 0}) => match iZ with | ⟨q, hq, hn⟩ => [(4, .v (.slice none 0 0)), (5, .v (.slice none 0 0)), (6, .v (.slice none 0 0)), (23, avI (q : Int))]) (fun (iZ : {q : Nat // q ≤ 2 ∧ ∀ j, j < q → prodF ([px, py].getD j default) = 0}) => match iZ with | ⟨q, hq, hn⟩ => [boxProd gx px 65, boxProd gy py 65]) (fun (iZ : {q : Nat // q ≤ 2 ∧ ∀ j, j < q → prodF ([px, py].getD j default) = 0}) => match iZ with | ⟨q, hq, hn⟩ => 0) (fun (iZ : {q : Nat // q ≤ 2 ∧ ∀ j, j < q → prodF ([px, py].getD j default) = 0}) => match iZ with | ⟨q, hq, hn⟩ => 2 - q) ⟨0, Nat.zero_le _, fun j hj => absurd hj (Nat.not_lt_zero j)⟩ (Le.mk hB [0, 1] ⟨rfl, rfl, rfl, rfl, rfl, rfl, rfl, rfl, trivial⟩ rfl rfl (Nat.le_refl _)) ?_
 rintro ⟨q, hq, hn⟩
 show VC _ _ _ _ ⟨[(4, .v (.slice none 0 0)), (5, .v (.slice none 0 0)), (6, .v (.slice none 0 0)), (23, avI (q : Int))] ++ [(2, _), (3, _), (21, _), (22, _)], [boxProd gx px 65, boxProd gy py 65], 0⟩
 refine VC.sr ?_
 refine VO.val rfl rfl (OpV.lss rfl rfl rfl) ?_
 refine VO.nil ?_
 refine VC.seq ?_
 refine VC.cond rfl (fun aH1b => ?_) (fun aH1b => ?_)
 ·have aH1 := aH1b
  try simp only [qqT, qqF, qqN, qqM, qqL, qqE] at aH1
  refine VC.skip ?_
  refine VC.seq ?_
  refine VC.block ?_
  refine VC.sr ?_
  refine VO.val rfl rfl (OpV.indexAddr_E rfl Tryz.underlying150 Tryz.sizeOf65 rfl rfl rfl (by omega)) ?_
  refine VO.val rfl rfl (OpV.loadK_at rfl hB OutW.no Tryz.isAgg65 Tryz.sizeOf65 rfl rfl) ?_
  refine VO.op rfl (OpE.alloc rfl hB rfl Tryz.zeroValue65 rfl ?_)
  intro g9
  refine VO.op rfl (OpE.store (i := 2) rfl hB rfl Tryz.sizeOf65 rfl rfl rfl rfl rfl rfl (Nle rfl) trivial ?_)
  refine VO.nil ?_
  refine VC.sr ?_
  refine VO.val rfl rfl (OpV.loadK_own (i := 2) rfl hB Tryz.isAgg65 Tryz.sizeOf65 rfl rfl rfl (fun h => h)) ?_
  refine VO.op rfl (OpE.call rfl hB rfl Tryz.call95 rfl (SpecN.spec (panel_CheckProduct (two_sm hx hy (show q < 2 by omega)))) ?_)
  rintro _ rfl
  refine VO.ma rfl rfl rfl rfl ?_
  refine VO.nil ?_
  refine VC.sr ?_
  refine VO.mv rfl rfl rfl rfl ?_
  refine VO.val rfl rfl (OpV.neq rfl rfl rfl) ?_
  refine VO.nil ?_
  refine VC.cond rfl (fun h1b => ?_) (fun h1b => ?_)
  ·have h1 := h1b
   try simp only [qqT, qqF, qqN, qqM, qqL, qqE] at h1
   refine VC.sr ?_
   refine VO.mv rfl rfl rfl rfl ?_
   refine VO.ma rfl rfl rfl rfl ?_
   refine VO.ma rfl rfl rfl rfl ?_
   refine VO.ma rfl rfl rfl rfl ?_
   refine VO.ma rfl rfl rfl rfl ?_
   refine VO.nil ?_
   refine VC.le _ (Le.recast (t := 4) (y := avStrs []) rfl (fun w Z u h => nilStrs h)) ?_
   refine VC.le _ (Le.recast (t := 5) (y := avStrs []) rfl (fun w Z u h => nilStrs h)) ?_
   refine VC.le _ (Le.recast (t := 6) (y := avStrs []) rfl (fun w Z u h => nilStrs h)) ?_
   refine VC.ret ?_
   exact Exists.intro _ (And.intro (RetV.four Tryz.results38 (ResV.tmp rfl) (ResV.tmp rfl) (ResV.tmp rfl) (ResV.tmp rfl)) (pch_out0 (by rw [pchF_at (by omega) hn h1]; exact h1) (pchF_at (by omega) hn h1)))
  ·have h1 := h1b
   try simp only [qqT, qqF, qqN, qqM, qqL, qqE] at h1
   refine VC.skip ?_
   refine VC.region ?_
   refine VO.val rfl rfl (OpV.add rfl rfl rfl (by unfold fits; omega)) ?_
   refine VO.mv rfl rfl rfl rfl ?_
   refine VO.nil ?_
   exact Exists.intro (⟨q + 1, by omega, lt_succ_cases hn (by omega)⟩) (And.intro (Le.mk hB [0, 1] ⟨rfl, rfl, rfl, rfl, rfl, rfl, rfl, rfl, trivial⟩ rfl rfl (Nat.le_refl _)) (by first | omega | (show _ < _; omega) | (simp only []; omega)))
 ·have aH1 := aH1b
  try simp only [qqT, qqF, qqN, qqM, qqL, qqE] at aH1
  obtain rfl : q = 2 := by omega
  obtain ⟨hpx, hpy⟩ := two_0 hn
  have hc0 : pchF px py = 0 := by rw [pchF_2 hpx]; exact hpy
  refine VC.exit ?_
  refine VC.seq ?_
  refine VC.sr ?_
  refine VO.val rfl rfl (OpV.fieldAddrO 3 rfl Tryz.underlying65 rfl rfl Tryz.sizeOf63 rfl) ?_
  refine VO.val rfl rfl (OpV.load_own (i := 0) rfl hB Tryz.isAgg63 rfl rfl rfl (fun h => h)) ?_
  refine VO.val rfl rfl (OpV.len_im rfl Tryz.underlying63 rfl) ?_
  refine VO.mv rfl rfl rfl rfl ?_
  refine VO.nil ?_
  refine VC.block ?_
  refine VC.le _ (Le.nilRow 1 9) ?_
  refine VC.le _ (Le.nilRow 1 9) ?_
  refine VC.loopK [(2, _), (3, _), (5, _), (34, _), (35, _)] ⟨rfl, rfl, rfl, rfl, rfl, trivial⟩ ({z : (Value × Value) × Nat // z.2 ≤ px.places.length}) (fun (iZ : {z : (Value × Value) × Nat // z.2 ≤ px.places.length}) => match iZ with | ⟨⟨⟨u, v⟩, q⟩, hq⟩ => [(4, .v u), (6, .v v), (36, avI (q : Int))]) (fun (iZ : {z : (Value × Value) × Nat // z.2 ≤ px.places.length}) => match iZ with | ⟨⟨⟨u, v⟩, q⟩, hq⟩ => [boxProd gx px 65, boxProd gy py 65, rwS u (selC (newC py) (px.places.take q)), rwS v (selC (othC py) (px.places.take q))]) (fun (iZ : {z : (Value × Value) × Nat // z.2 ≤ px.places.length}) => match iZ with | ⟨⟨⟨u, v⟩, q⟩, hq⟩ => 0) (fun (iZ : {z : (Value × Value) × Nat // z.2 ≤ px.places.length}) => match iZ with | ⟨⟨⟨u, v⟩, q⟩, hq⟩ => px.places.length - q) ⟨((.slice none 0 0, .slice none 0 0), 0), Nat.zero_le _⟩ (Le.mk hB [0, 1, 2, 3] ⟨rfl, rfl, rfl, rfl, rfl, rfl, rfl, rfl, trivial⟩ rfl rfl (Nat.le_refl _)) ?_
  rintro ⟨⟨⟨u, v⟩, q⟩, hq⟩
  show VC _ _ _ _ ⟨[(4, .v u), (6, .v v), (36, avI (q : Int))] ++ [(2, _), (3, _), (5, _), (34, _), (35, _)], [boxProd gx px 65, boxProd gy py 65, rwS u (selC (newC py) (px.places.take q)), rwS v (selC (othC py) (px.places.take q))], 0⟩
  simp only at hq
  have hl1 := selC_len (f := newC py) (l := px.places) (q := q)
  have hl2 := selC_len (f := othC py) (l := px.places) (q := q)
  refine VC.sr ?_
  refine VO.val rfl rfl (OpV.lss rfl rfl rfl) ?_
  refine VO.nil ?_
  refine VC.seq ?_
  refine VC.cond rfl (fun aH2b => ?_) (fun aH2b => ?_)
  ·have aH2 := aH2b
   try simp only [qqT, qqF, qqN, qqM, qqL, qqE] at aH2
   refine VC.skip ?_
   refine VC.seq ?_
   refine VC.block ?_
   refine VC.sr ?_
   refine VO.val rfl rfl (OpV.indexAddr_E rfl Tryz.underlying63 Tryz.sizeOf128 rfl rfl rfl (by omega)) ?_
   refine VO.val rfl rfl (OpV.loadK_at rfl hB OutW.no Tryz.isAgg128 Tryz.sizeOf128 rfl rfl) ?_
   refine VO.op rfl (OpE.alloc rfl hB rfl Tryz.zeroValue128 rfl ?_)
   intro g12
   refine VO.op rfl (OpE.store (i := 4) rfl hB rfl Tryz.sizeOf128 rfl rfl rfl rfl rfl rfl (Nle rfl) trivial ?_)
   refine VO.nil ?_
   refine VC.sr ?_
   refine VO.val rfl rfl (OpV.fieldAddrO 3 rfl Tryz.underlying65 rfl rfl Tryz.sizeOf63 rfl) ?_
   refine VO.val rfl rfl (OpV.load_own (i := 1) rfl hB Tryz.isAgg63 rfl rfl rfl (fun h => h)) ?_
   refine VO.val rfl rfl (OpV.fieldAddrO 0 rfl Tryz.underlying128 rfl rfl Tryz.sizeOf9 rfl) ?_
   refine VO.val rfl rfl (OpV.load_own (i := 4) rfl hB Tryz.isAgg9 rfl rfl rfl (fun h => h)) ?_
   refine VO.op rfl (OpE.call rfl hB rfl Tryz.call96 rfl (SpecN.spec (panel_placementAt (l := py.places) (k := (px.places.getD q default).name) (by omega) (places_rise hpy))) ?_)
   rintro _ rfl
   refine VO.le _ (Le.recast (t := 45) (y := .tup [avI (lowK PlaceS.name py.places (px.places.getD q default).name : Int), avB (hasN py (px.places.getD q default).name)]) rfl (fun w Z u h => h)) ?_
   refine VO.mv rfl rfl rfl rfl ?_
   refine VO.val rfl rfl (OpV.extract rfl rfl rfl) ?_
   refine VO.val rfl rfl (OpV.extract rfl rfl rfl) ?_
   refine VO.ma rfl rfl rfl rfl ?_
   refine VO.ma rfl rfl rfl rfl ?_
   refine VO.nil ?_
   refine VC.sr ?_
   refine VO.mv rfl rfl rfl rfl ?_
   refine VO.val rfl rfl (OpV.not rfl rfl) ?_
   refine VO.nil ?_
   refine VC.cond rfl (fun h3b => ?_) (fun h3b => ?_)
   ·have h3 := h3b
    try simp only [qqT, qqF, qqN, qqM, qqL, qqE] at h3
    have hh : hasN py (px.places.getD q default).name = false := by simp_all
    have hf1 := newC_y hh
    have ho0 := othC_0 hh
    refine VC.region ?_
    refine VO.mv rfl rfl rfl rfl ?_
    refine VO.val rfl rfl (OpV.fieldAddrO 0 rfl Tryz.underlying128 rfl rfl Tryz.sizeOf9 rfl) ?_
    refine VO.val rfl rfl (OpV.load_own (i := 4) rfl hB Tryz.isAgg9 rfl rfl rfl (fun h => h)) ?_
    refine VO.op rfl (OpE.buildSlice (zc := #[.string ⟨#[]⟩]) rfl hB rfl Tryz.underlying29 Tryz.sizeOf9 Tryz.zeroValue9 (by decide) (by decide) (by kernel_rfl) rfl rfl ?_)
    refine VO.op rfl (OpE.append1 (i := 2) rfl hB rfl Tryz.underlying29 (infoOf Tryz.t9 1 (by kernel_rfl) rfl rfl) rfl (by decide) (by decide) rfl rfl rfl rfl (strsL_snoc _ _) (by omega) (fun _ _ => trivial) ?_)
    intro u54
    refine VO.ma rfl rfl rfl rfl ?_
    refine VO.nil ?_
    refine VC.region ?_
    refine VO.val rfl rfl (OpV.add rfl rfl rfl (by unfold fits; omega)) ?_
    refine VO.mv rfl rfl rfl rfl ?_
    refine VO.nil ?_
    exact Exists.intro (⟨((u54, v), q + 1), by show q + 1 ≤ _; omega⟩) (And.intro (Le.mk hB [0, 1, 2, 3] ⟨rfl, rfl, rfl, rfl, rfl, rfl, rfl, rfl, trivial⟩ rfl (by dsimp only [rwS]; first | (rw [selC_y (by omega) hf1, selC_n (by omega) ho0, List.length_append]; rfl) | (rw [selC_n (by omega) hf0, selC_y (by omega) ho1, List.length_append]; rfl) | (rw [selC_n (by omega) hf0, selC_n (by omega) ho0]; rfl)) (Nat.le_refl _)) (by first | omega | (show _ < _; omega) | (simp only []; omega)))
   ·have h3 := h3b
    try simp only [qqT, qqF, qqN, qqM, qqL, qqE] at h3
    have hh : hasN py (px.places.getD q default).name = true := by simp_all
    have hf0 := newC_n hh
    obtain ⟨hb1, hb2⟩ := lowK_has hpy hh
    refine VC.seq ?_
    refine VC.draw (fun _ => NoB) hB (by kernel_rfl) ?_
    refine VA.take (i := 0) rfl (by kernel_rfl) (by kernel_rfl) (by kernel_rfl) rfl rfl (OpV.loadK_own (i := 4) rfl hB Tryz.isAgg128 Tryz.sizeOf128 rfl rfl rfl Wi.not0) ?_
    refine VA.take (i := 1) rfl (by kernel_rfl) (by kernel_rfl) (by kernel_rfl) rfl rfl (OpV.fieldAddrO 3 rfl Tryz.underlying65 rfl rfl Tryz.sizeOf63 rfl) ?_
    refine VA.take (i := 2) rfl (by kernel_rfl) (by kernel_rfl) (by kernel_rfl) rfl rfl (OpV.load_own (i := 1) rfl hB Tryz.isAgg63 rfl rfl rfl Wi.not0) ?_
    refine VA.take (i := 3) rfl (by kernel_rfl) (by kernel_rfl) (by kernel_rfl) rfl rfl (OpV.move (.inl rfl) rfl) ?_
    refine VA.take (i := 4) rfl (by kernel_rfl) (by kernel_rfl) (by kernel_rfl) rfl rfl (OpV.indexAddr_E rfl Tryz.underlying63 Tryz.sizeOf128 rfl rfl rfl (by omega)) ?_
    refine VA.take (i := 5) rfl (by kernel_rfl) (by kernel_rfl) (by kernel_rfl) rfl rfl (OpV.loadK_at rfl hB OutW.wi0 Tryz.isAgg128 Tryz.sizeOf128 rfl rfl) ?_
    refine VA.take (i := 6) rfl (by kernel_rfl) (by kernel_rfl) (by kernel_rfl) rfl rfl (OpV.aneq rfl Tryz.underlying128 (by kernel_rfl) (by kernel_rfl) rfl rfl (EqFs.str Tryz.underlying9 Tryz.isAgg9 rfl (by decide) (EqFs.str Tryz.underlying9 Tryz.isAgg9 rfl (by decide) (EqFs.int Tryz.underlying3 Tryz.isAgg3 rfl (by decide) (EqFs.int Tryz.underlying3 Tryz.isAgg3 rfl (by decide) (EqFs.int Tryz.underlying3 Tryz.isAgg3 rfl (by decide) (EqFs.nil _))))))) ?_
    refine VA.done (by kernel_rfl) ?_
    refine VC.cond rfl (fun h4b => ?_) (fun h4b => ?_)
    ·have h4 := h4b
     try simp only [qqT, qqF, qqN, qqM, qqL, qqE] at h4
     have ho1 : othC py (px.places.getD q default) = true := by rw [othC_1 hh hb2.symm]; exact h4b
     refine VC.region ?_
     refine VO.mv rfl rfl rfl rfl ?_
     refine VO.val rfl rfl (OpV.fieldAddrO 0 rfl Tryz.underlying128 rfl rfl Tryz.sizeOf9 rfl) ?_
     refine VO.val rfl rfl (OpV.load_own (i := 4) rfl hB Tryz.isAgg9 rfl rfl rfl (fun h => h)) ?_
     refine VO.op rfl (OpE.buildSlice (zc := #[.string ⟨#[]⟩]) rfl hB rfl Tryz.underlying29 Tryz.sizeOf9 Tryz.zeroValue9 (by decide) (by decide) (by kernel_rfl) rfl rfl ?_)
     refine VO.op rfl (OpE.append1 (i := 3) rfl hB rfl Tryz.underlying29 (infoOf Tryz.t9 1 (by kernel_rfl) rfl rfl) rfl (by decide) (by decide) rfl rfl rfl rfl (strsL_snoc _ _) (by omega) (fun _ _ => trivial) ?_)
     intro v66
     refine VO.ma rfl rfl rfl rfl ?_
     refine VO.nil ?_
     refine VC.region ?_
     refine VO.val rfl rfl (OpV.add rfl rfl rfl (by unfold fits; omega)) ?_
     refine VO.mv rfl rfl rfl rfl ?_
     refine VO.nil ?_
     exact Exists.intro (⟨((u, v66), q + 1), by show q + 1 ≤ _; omega⟩) (And.intro (Le.mk hB [0, 1, 2, 3] ⟨rfl, rfl, rfl, rfl, rfl, rfl, rfl, rfl, trivial⟩ rfl (by dsimp only [rwS]; first | (rw [selC_y (by omega) hf1, selC_n (by omega) ho0, List.length_append]; rfl) | (rw [selC_n (by omega) hf0, selC_y (by omega) ho1, List.length_append]; rfl) | (rw [selC_n (by omega) hf0, selC_n (by omega) ho0]; rfl)) (Nat.le_refl _)) (by first | omega | (show _ < _; omega) | (simp only []; omega)))
    ·have h4 := h4b
     try simp only [qqT, qqF, qqN, qqM, qqL, qqE] at h4
     have ho0 : othC py (px.places.getD q default) = false := by rw [othC_1 hh hb2.symm]; exact h4b
     refine VC.skip ?_
     refine VC.region ?_
     refine VO.val rfl rfl (OpV.add rfl rfl rfl (by unfold fits; omega)) ?_
     refine VO.mv rfl rfl rfl rfl ?_
     refine VO.nil ?_
     exact Exists.intro (⟨((u, v), q + 1), by show q + 1 ≤ _; omega⟩) (And.intro (Le.mk hB [0, 1, 2, 3] ⟨rfl, rfl, rfl, rfl, rfl, rfl, rfl, rfl, trivial⟩ rfl (by dsimp only [rwS]; first | (rw [selC_y (by omega) hf1, selC_n (by omega) ho0, List.length_append]; rfl) | (rw [selC_n (by omega) hf0, selC_y (by omega) ho1, List.length_append]; rfl) | (rw [selC_n (by omega) hf0, selC_n (by omega) ho0]; rfl)) (Nat.le_refl _)) (by first | omega | (show _ < _; omega) | (simp only []; omega)))
  ·have aH2 := aH2b
   try simp only [qqT, qqF, qqN, qqM, qqL, qqE] at aH2
   obtain rfl : q = px.places.length := by omega
   rw [List.take_length]
   refine VC.exit ?_
   refine VC.seq ?_
   refine VC.sr ?_
   refine VO.val rfl rfl (OpV.fieldAddrO 3 rfl Tryz.underlying65 rfl rfl Tryz.sizeOf63 rfl) ?_
   refine VO.val rfl rfl (OpV.load_own (i := 1) rfl hB Tryz.isAgg63 rfl rfl rfl (fun h => h)) ?_
   refine VO.val rfl rfl (OpV.len_im rfl Tryz.underlying63 rfl) ?_
   refine VO.mv rfl rfl rfl rfl ?_
   refine VO.nil ?_
   refine VC.block ?_
   refine VC.le _ (Le.nilRow 1 9) ?_
   refine VC.le _ (Le.pickH [0, 2, 3, 4] rfl rfl) ?_
   refine VC.loopK [(2, _), (4, _), (6, _), (69, _), (70, _)] ⟨rfl, rfl, rfl, rfl, rfl, trivial⟩ ({z : Value × Nat // z.2 ≤ py.places.length}) (fun (iZ : {z : Value × Nat // z.2 ≤ py.places.length}) => match iZ with | ⟨⟨u5, r⟩, hr⟩ => [(5, .v u5), (71, avI (r : Int))]) (fun (iZ : {z : Value × Nat // z.2 ≤ py.places.length}) => match iZ with | ⟨⟨u5, r⟩, hr⟩ => [boxProd gx px 65, rwS u (selC (newC py) px.places), rwS v (selC (othC py) px.places), rwS u5 (selC (newC px) (py.places.take r))]) (fun (iZ : {z : Value × Nat // z.2 ≤ py.places.length}) => match iZ with | ⟨⟨u5, r⟩, hr⟩ => 0) (fun (iZ : {z : Value × Nat // z.2 ≤ py.places.length}) => match iZ with | ⟨⟨u5, r⟩, hr⟩ => py.places.length - r) ⟨(.slice none 0 0, 0), Nat.zero_le _⟩ (Le.mk hB [0, 1, 2, 3] ⟨rfl, rfl, rfl, rfl, rfl, rfl, rfl, trivial⟩ rfl rfl (Nat.le_refl _)) ?_
   rintro ⟨⟨u5, r⟩, hr⟩
   show VC _ _ _ _ ⟨[(5, .v u5), (71, avI (r : Int))] ++ [(2, _), (4, _), (6, _), (69, _), (70, _)], [boxProd gx px 65, rwS u (selC (newC py) px.places), rwS v (selC (othC py) px.places), rwS u5 (selC (newC px) (py.places.take r))], 0⟩
   simp only at hr
   have hl3 := selC_len (f := newC px) (l := py.places) (q := r)
   refine VC.sr ?_
   refine VO.val rfl rfl (OpV.lss rfl rfl rfl) ?_
   refine VO.nil ?_
   refine VC.seq ?_
   refine VC.cond rfl (fun aH3b => ?_) (fun aH3b => ?_)
   ·have aH3 := aH3b
    try simp only [qqT, qqF, qqN, qqM, qqL, qqE] at aH3
    refine VC.skip ?_
    refine VC.seq ?_
    refine VC.block ?_
    refine VC.sr ?_
    refine VO.val rfl rfl (OpV.indexAddr_E rfl Tryz.underlying63 Tryz.sizeOf128 rfl rfl rfl (by omega)) ?_
    refine VO.val rfl rfl (OpV.loadK_at rfl hB OutW.no Tryz.isAgg128 Tryz.sizeOf128 rfl rfl) ?_
    refine VO.op rfl (OpE.alloc rfl hB rfl Tryz.zeroValue128 rfl ?_)
    intro g16
    refine VO.op rfl (OpE.store (i := 4) rfl hB rfl Tryz.sizeOf128 rfl rfl rfl rfl rfl rfl (Nle rfl) trivial ?_)
    refine VO.nil ?_
    refine VC.sr ?_
    refine VO.val rfl rfl (OpV.fieldAddrO 3 rfl Tryz.underlying65 rfl rfl Tryz.sizeOf63 rfl) ?_
    refine VO.val rfl rfl (OpV.load_own (i := 0) rfl hB Tryz.isAgg63 rfl rfl rfl (fun h => h)) ?_
    refine VO.val rfl rfl (OpV.fieldAddrO 0 rfl Tryz.underlying128 rfl rfl Tryz.sizeOf9 rfl) ?_
    refine VO.val rfl rfl (OpV.load_own (i := 4) rfl hB Tryz.isAgg9 rfl rfl rfl (fun h => h)) ?_
    refine VO.op rfl (OpE.call rfl hB rfl Tryz.call96 rfl (SpecN.spec (panel_placementAt (l := px.places) (k := (py.places.getD r default).name) (by omega) (places_rise hpx))) ?_)
    rintro _ rfl
    refine VO.le _ (Le.recast (t := 80) (y := .tup [avI (lowK PlaceS.name px.places (py.places.getD r default).name : Int), avB (hasN px (py.places.getD r default).name)]) rfl (fun w Z u h => h)) ?_
    refine VO.mv rfl rfl rfl rfl ?_
    refine VO.val rfl rfl (OpV.extract rfl rfl rfl) ?_
    refine VO.val rfl rfl (OpV.extract rfl rfl rfl) ?_
    refine VO.ma rfl rfl rfl rfl ?_
    refine VO.ma rfl rfl rfl rfl ?_
    refine VO.nil ?_
    refine VC.sr ?_
    refine VO.mv rfl rfl rfl rfl ?_
    refine VO.val rfl rfl (OpV.not rfl rfl) ?_
    refine VO.nil ?_
    refine VC.cond rfl (fun h6b => ?_) (fun h6b => ?_)
    ·have h6 := h6b
     try simp only [qqT, qqF, qqN, qqM, qqL, qqE] at h6
     have hh : hasN px (py.places.getD r default).name = false := by simp_all
     have hf1 := newC_y hh
     refine VC.region ?_
     refine VO.mv rfl rfl rfl rfl ?_
     refine VO.val rfl rfl (OpV.fieldAddrO 0 rfl Tryz.underlying128 rfl rfl Tryz.sizeOf9 rfl) ?_
     refine VO.val rfl rfl (OpV.load_own (i := 4) rfl hB Tryz.isAgg9 rfl rfl rfl (fun h => h)) ?_
     refine VO.op rfl (OpE.buildSlice (zc := #[.string ⟨#[]⟩]) rfl hB rfl Tryz.underlying29 Tryz.sizeOf9 Tryz.zeroValue9 (by decide) (by decide) (by kernel_rfl) rfl rfl ?_)
     refine VO.op rfl (OpE.append1 (i := 3) rfl hB rfl Tryz.underlying29 (infoOf Tryz.t9 1 (by kernel_rfl) rfl rfl) rfl (by decide) (by decide) rfl rfl rfl rfl (strsL_snoc _ _) (by omega) (fun _ _ => trivial) ?_)
     intro u89
     refine VO.ma rfl rfl rfl rfl ?_
     refine VO.nil ?_
     refine VC.region ?_
     refine VO.val rfl rfl (OpV.add rfl rfl rfl (by unfold fits; omega)) ?_
     refine VO.mv rfl rfl rfl rfl ?_
     refine VO.nil ?_
     exact Exists.intro (⟨(u89, r + 1), by show r + 1 ≤ _; omega⟩) (And.intro (Le.mk hB [0, 1, 2, 3] ⟨rfl, rfl, rfl, rfl, rfl, rfl, rfl, trivial⟩ rfl (by dsimp only [rwS]; first | (rw [selC_y (by omega) hf1, List.length_append]; rfl) | (rw [selC_n (by omega) hf0]; rfl)) (Nat.le_refl _)) (by first | omega | (show _ < _; omega) | (simp only []; omega)))
    ·have h6 := h6b
     try simp only [qqT, qqF, qqN, qqM, qqL, qqE] at h6
     have hh : hasN px (py.places.getD r default).name = true := by simp_all
     have hf0 := newC_n hh
     refine VC.skip ?_
     refine VC.region ?_
     refine VO.val rfl rfl (OpV.add rfl rfl rfl (by unfold fits; omega)) ?_
     refine VO.mv rfl rfl rfl rfl ?_
     refine VO.nil ?_
     exact Exists.intro (⟨(u5, r + 1), by show r + 1 ≤ _; omega⟩) (And.intro (Le.mk hB [0, 1, 2, 3] ⟨rfl, rfl, rfl, rfl, rfl, rfl, rfl, trivial⟩ rfl (by dsimp only [rwS]; first | (rw [selC_y (by omega) hf1, List.length_append]; rfl) | (rw [selC_n (by omega) hf0]; rfl)) (Nat.le_refl _)) (by first | omega | (show _ < _; omega) | (simp only []; omega)))
   ·have aH3 := aH3b
    try simp only [qqT, qqF, qqN, qqM, qqL, qqE] at aH3
    obtain rfl : r = py.places.length := by omega
    rw [List.take_length]
    refine VC.exit ?_
    refine VC.sr ?_
    refine VO.mv rfl rfl rfl rfl ?_
    refine VO.mv rfl rfl rfl rfl ?_
    refine VO.mv rfl rfl rfl rfl ?_
    refine VO.ma rfl rfl rfl rfl ?_
    refine VO.ma rfl rfl rfl rfl ?_
    refine VO.ma rfl rfl rfl rfl ?_
    refine VO.ma rfl rfl rfl rfl ?_
    refine VO.nil ?_
    refine VC.le _ (Le.rowS (t := 4) (i := 1) (xs := selC (newC py) px.places) hB hnew rfl rfl rfl) ?_
    refine VC.le _ (Le.rowS (t := 5) (i := 2) (xs := selC (newC px) py.places) hB hnew rfl rfl rfl) ?_
    refine VC.le _ (Le.rowS (t := 6) (i := 1) (xs := selC (othC py) px.places) hB hnew rfl rfl rfl) ?_
    refine VC.ret ?_
    exact Exists.intro _ (And.intro (RetV.four Tryz.results38 (ResV.tmp rfl) (ResV.tmp rfl) (ResV.tmp rfl) (ResV.tmp rfl)) (pch_out1 hc0))
end Go.Proofs.YtbbgjeiefmiblaaGreatDoor
namespace Go.Proofs.YtbbgjeiefmiblaaGreatDoor
open Go.RowKit
set_option linter.unusedVariables false
set_option linter.unusedSimpArgs false
set_option maxRecDepth 100000 in
theorem slices_Equal_place {xs ys : List PlaceS} (hl : xs.length ≤ 1000000000) (hl' : ys.length ≤ 1000000000) :
  SpecN Tryz.prog 105 [avL xs, avL ys] (fun y => y = avB (eqLs eqPl xs ys)) := by
 refine SpecN.of_VCN Tryz.func105 rfl Tryz.ntmps105 (Nle rfl) fun w A hB => ?_
 have hnew : True := trivial
 refine VC.sr ?_
 refine VO.ma rfl rfl rfl rfl ?_
 refine VO.nil ?_
 refine VC.seq ?_
 refine VC.sr ?_
 refine VO.mv rfl rfl rfl rfl ?_
 refine VO.val rfl rfl (OpV.len_im rfl Tryz.underlying63 rfl) ?_
 refine VO.mv rfl rfl rfl rfl ?_
 refine VO.val rfl rfl (OpV.len_im rfl Tryz.underlying63 rfl) ?_
 refine VO.val rfl rfl (OpV.neq rfl rfl rfl) ?_
 refine VO.nil ?_
 refine VC.cond rfl (fun aH1b => ?_) (fun aH1b => ?_)
 ·have aH1 := aH1b
  try simp only [qqT, qqF, qqN, qqM, qqL, qqE] at aH1
  refine VC.sr ?_
  refine VO.ma rfl rfl rfl rfl ?_
  refine VO.nil ?_
  refine VC.ret ?_
  exact Exists.intro _ (And.intro (RetN.one Tryz.results105 (ResN.v rfl)) (by first | rw [eqLs_len (by omega)] | rw [eqLs_at (d := default) (q := q) (by omega) (not_true_false h2b)] | rw [eqLs_all (d := default) (by omega) (fun j hj => hn j (by omega))]))
 ·have aH1 := aH1b
  try simp only [qqT, qqF, qqN, qqM, qqL, qqE] at aH1
  refine VC.skip ?_
  refine VC.seq ?_
  refine VC.sr ?_
  refine VO.mv rfl rfl rfl rfl ?_
  refine VO.val rfl rfl (OpV.len_im rfl Tryz.underlying63 rfl) ?_
  refine VO.mv rfl rfl rfl rfl ?_
  refine VO.nil ?_
  refine VC.block ?_
  refine VC.loopK [(0, _), (1, _), (12, _)] ⟨rfl, rfl, rfl, trivial⟩ ({q : Nat // q ≤ xs.length ∧ ∀ j, j < q → eqPl (xs.getD j default) (ys.getD j default) = true}) (fun (iZ : {q : Nat // q ≤ xs.length ∧ ∀ j, j < q → eqPl (xs.getD j default) (ys.getD j default) = true}) => match iZ with | ⟨q, hq, hn⟩ => [(13, avI (q : Int))]) (fun (iZ : {q : Nat // q ≤ xs.length ∧ ∀ j, j < q → eqPl (xs.getD j default) (ys.getD j default) = true}) => match iZ with | ⟨q, hq, hn⟩ => []) (fun (iZ : {q : Nat // q ≤ xs.length ∧ ∀ j, j < q → eqPl (xs.getD j default) (ys.getD j default) = true}) => match iZ with | ⟨q, hq, hn⟩ => 0) (fun (iZ : {q : Nat // q ≤ xs.length ∧ ∀ j, j < q → eqPl (xs.getD j default) (ys.getD j default) = true}) => match iZ with | ⟨q, hq, hn⟩ => xs.length - q) ⟨0, Nat.zero_le _, fun j hj => absurd hj (Nat.not_lt_zero j)⟩ (Le.mk hB [] ⟨rfl, rfl, rfl, rfl, trivial⟩ rfl rfl (Nat.le_refl _)) ?_
  rintro ⟨q, hq, hn⟩
  show VC _ _ _ _ ⟨[(13, avI (q : Int))] ++ [(0, _), (1, _), (12, _)], [], 0⟩
  refine VC.sr ?_
  refine VO.val rfl rfl (OpV.lss rfl rfl rfl) ?_
  refine VO.nil ?_
  refine VC.seq ?_
  refine VC.cond rfl (fun aH2b => ?_) (fun aH2b => ?_)
  ·have aH2 := aH2b
   try simp only [qqT, qqF, qqN, qqM, qqL, qqE] at aH2
   refine VC.skip ?_
   refine VC.seq ?_
   refine VC.block ?_
   refine VC.sr ?_
   refine VO.mv rfl rfl rfl rfl ?_
   refine VO.ma rfl rfl rfl rfl ?_
   refine VO.nil ?_
   refine VC.seq ?_
   refine VC.draw (fun _ => NoB) hB (by kernel_rfl) ?_
   refine VA.take (i := 0) rfl (by kernel_rfl) (by kernel_rfl) (by kernel_rfl) rfl rfl (OpV.move (.inl rfl) rfl) ?_
   refine VA.take (i := 1) rfl (by kernel_rfl) (by kernel_rfl) (by kernel_rfl) rfl rfl (OpV.move (.inl rfl) rfl) ?_
   refine VA.take (i := 2) rfl (by kernel_rfl) (by kernel_rfl) (by kernel_rfl) rfl rfl (OpV.indexAddr_E rfl Tryz.underlying63 Tryz.sizeOf128 rfl rfl rfl (by omega)) ?_
   refine VA.take (i := 3) rfl (by kernel_rfl) (by kernel_rfl) (by kernel_rfl) rfl rfl (OpV.loadK_at rfl hB OutW.wi0 Tryz.isAgg128 Tryz.sizeOf128 rfl rfl) ?_
   refine VA.take (i := 4) rfl (by kernel_rfl) (by kernel_rfl) (by kernel_rfl) rfl rfl (OpV.move (.inl rfl) rfl) ?_
   refine VA.take (i := 5) rfl (by kernel_rfl) (by kernel_rfl) (by kernel_rfl) rfl rfl (OpV.move (.inl rfl) rfl) ?_
   refine VA.take (i := 6) rfl (by kernel_rfl) (by kernel_rfl) (by kernel_rfl) rfl rfl (OpV.indexAddr_E rfl Tryz.underlying63 Tryz.sizeOf128 rfl rfl rfl (by omega)) ?_
   refine VA.take (i := 7) rfl (by kernel_rfl) (by kernel_rfl) (by kernel_rfl) rfl rfl (OpV.loadK_at rfl hB OutW.wi0 Tryz.isAgg128 Tryz.sizeOf128 rfl rfl) ?_
   refine VA.take (i := 8) rfl (by kernel_rfl) (by kernel_rfl) (by kernel_rfl) rfl rfl (OpV.aneq rfl Tryz.underlying128 (by kernel_rfl) (by kernel_rfl) rfl rfl (EqFs.str Tryz.underlying9 Tryz.isAgg9 rfl (by decide) (EqFs.str Tryz.underlying9 Tryz.isAgg9 rfl (by decide) (EqFs.int Tryz.underlying3 Tryz.isAgg3 rfl (by decide) (EqFs.int Tryz.underlying3 Tryz.isAgg3 rfl (by decide) (EqFs.int Tryz.underlying3 Tryz.isAgg3 rfl (by decide) (EqFs.nil _))))))) ?_
   refine VA.done (by kernel_rfl) ?_
   refine VC.cond rfl (fun h2b => ?_) (fun h2b => ?_)
   ·have h2 := h2b
    try simp only [qqT, qqF, qqN, qqM, qqL, qqE] at h2
    refine VC.sr ?_
    refine VO.ma rfl rfl rfl rfl ?_
    refine VO.nil ?_
    refine VC.ret ?_
    exact Exists.intro _ (And.intro (RetN.one Tryz.results105 (ResN.v rfl)) (by first | rw [eqLs_len (by omega)] | rw [eqLs_at (d := default) (q := q) (by omega) (not_true_false h2b)] | rw [eqLs_all (d := default) (by omega) (fun j hj => hn j (by omega))]))
   ·have h2 := h2b
    try simp only [qqT, qqF, qqN, qqM, qqL, qqE] at h2
    refine VC.skip ?_
    refine VC.region ?_
    refine VO.val rfl rfl (OpV.add rfl rfl rfl (by unfold fits; omega)) ?_
    refine VO.mv rfl rfl rfl rfl ?_
    refine VO.nil ?_
    exact Exists.intro (⟨q + 1, by omega, lt_succ_cases hn (not_false_true h2b)⟩) (And.intro (Le.mk hB [] ⟨rfl, rfl, rfl, rfl, trivial⟩ rfl rfl (Nat.le_refl _)) (by first | omega | (show _ < _; omega) | (simp only []; omega)))
  ·have aH2 := aH2b
   try simp only [qqT, qqF, qqN, qqM, qqL, qqE] at aH2
   refine VC.exit ?_
   refine VC.sr ?_
   refine VO.ma rfl rfl rfl rfl ?_
   refine VO.nil ?_
   refine VC.ret ?_
   exact Exists.intro _ (And.intro (RetN.one Tryz.results105 (ResN.v rfl)) (by first | rw [eqLs_len (by omega)] | rw [eqLs_at (d := default) (q := q) (by omega) (not_true_false h2b)] | rw [eqLs_all (d := default) (by omega) (fun j hj => hn j (by omega))]))
def sameP (a b : ProdS) : Bool := sEq a.key b.key && (decide (a.wide = b.wide) && (decide (a.high = b.high) && eqLs eqPl a.places b.places))
theorem sameP_self (a : ProdS) : sameP a a = true := by
 unfold sameP
 rw [sEq_refl, decide_eq_true rfl, decide_eq_true rfl, eqLs_self eqPl_self]; rfl
set_option maxRecDepth 100000 in
theorem rf_SameProduct {px py : ProdS} (hlx : px.places.length ≤ 1000000) (hly : py.places.length ≤ 1000000) :
  SpecN Tryz.prog 46 [avProd px, avProd py] (fun y => y = avB (sameP px py)) := by
 refine SpecN.of_VCN Tryz.func46 rfl Tryz.ntmps46 (Nle rfl) fun w A hB => ?_
 have hnew : True := trivial
 refine VC.sr ?_
 refine VO.op rfl (OpE.box rfl hB rfl rfl rfl ?_)
 intro g2
 refine VO.op rfl (OpE.box rfl hB rfl rfl rfl ?_)
 intro g3
 refine VO.ma rfl rfl rfl rfl ?_
 refine VO.nil ?_
 refine VC.sr ?_
 refine VO.val rfl rfl (OpV.fieldAddrO 0 rfl Tryz.underlying65 rfl rfl Tryz.sizeOf9 rfl) ?_
 refine VO.val rfl rfl (OpV.load_own (i := 0) rfl hB Tryz.isAgg9 rfl rfl rfl (fun h => h)) ?_
 refine VO.val rfl rfl (OpV.fieldAddrO 0 rfl Tryz.underlying65 rfl rfl Tryz.sizeOf9 rfl) ?_
 refine VO.val rfl rfl (OpV.load_own (i := 1) rfl hB Tryz.isAgg9 rfl rfl rfl (fun h => h)) ?_
 refine VO.val rfl rfl (OpV.seql rfl rfl rfl) ?_
 refine VO.mv rfl rfl rfl rfl ?_
 refine VO.opG rfl rfl rfl rfl (fun aK1b => ?_) (fun aK1b => ?_)
 ·replace aK1b : _ = true := aK1b
  have aK1 := aK1b
  try simp only [qqT, qqF, qqN, qqM, qqL, qqE] at aK1
  refine OpE.val (W := NoB) (OpV.fieldAddrO 1 rfl Tryz.underlying65 rfl rfl Tryz.sizeOf3 rfl) rfl ?_
  refine VO.opY rfl rfl rfl rfl aK1b ?_
  refine OpE.val (W := NoB) (OpV.load_own (i := 0) rfl hB Tryz.isAgg3 rfl rfl rfl (fun h => h)) rfl ?_
  refine VO.opY rfl rfl rfl rfl aK1b ?_
  refine OpE.val (W := NoB) (OpV.fieldAddrO 1 rfl Tryz.underlying65 rfl rfl Tryz.sizeOf3 rfl) rfl ?_
  refine VO.opY rfl rfl rfl rfl aK1b ?_
  refine OpE.val (W := NoB) (OpV.load_own (i := 1) rfl hB Tryz.isAgg3 rfl rfl rfl (fun h => h)) rfl ?_
  refine VO.opY rfl rfl rfl rfl aK1b ?_
  refine OpE.val (W := NoB) (OpV.eql rfl rfl rfl) rfl ?_
  refine VO.val rfl rfl (OpV.pickT rfl rfl rfl rfl aK1b) ?_
  refine VO.mv rfl rfl rfl rfl ?_
  refine VO.opG rfl rfl rfl rfl (fun aK2b => ?_) (fun aK2b => ?_)
  ·replace aK2b : _ = true := aK2b
   have aK2 := aK2b
   try simp only [qqT, qqF, qqN, qqM, qqL, qqE] at aK2
   refine OpE.val (W := NoB) (OpV.fieldAddrO 2 rfl Tryz.underlying65 rfl rfl Tryz.sizeOf3 rfl) rfl ?_
   refine VO.opY rfl rfl rfl rfl aK2b ?_
   refine OpE.val (W := NoB) (OpV.load_own (i := 0) rfl hB Tryz.isAgg3 rfl rfl rfl (fun h => h)) rfl ?_
   refine VO.opY rfl rfl rfl rfl aK2b ?_
   refine OpE.val (W := NoB) (OpV.fieldAddrO 2 rfl Tryz.underlying65 rfl rfl Tryz.sizeOf3 rfl) rfl ?_
   refine VO.opY rfl rfl rfl rfl aK2b ?_
   refine OpE.val (W := NoB) (OpV.load_own (i := 1) rfl hB Tryz.isAgg3 rfl rfl rfl (fun h => h)) rfl ?_
   refine VO.opY rfl rfl rfl rfl aK2b ?_
   refine OpE.val (W := NoB) (OpV.eql rfl rfl rfl) rfl ?_
   refine VO.val rfl rfl (OpV.pickT rfl rfl rfl rfl aK2b) ?_
   refine VO.mv rfl rfl rfl rfl ?_
   refine VO.opG rfl rfl rfl rfl (fun aK3b => ?_) (fun aK3b => ?_)
   ·replace aK3b : _ = true := aK3b
    have aK3 := aK3b
    try simp only [qqT, qqF, qqN, qqM, qqL, qqE] at aK3
    refine OpE.val (W := NoB) (OpV.fieldAddrO 3 rfl Tryz.underlying65 rfl rfl Tryz.sizeOf63 rfl) rfl ?_
    refine VO.opY rfl rfl rfl rfl aK3b ?_
    refine OpE.val (W := NoB) (OpV.load_own (i := 0) rfl hB Tryz.isAgg63 rfl rfl rfl (fun h => h)) rfl ?_
    refine VO.opY rfl rfl rfl rfl aK3b ?_
    refine OpE.val (W := NoB) (OpV.fieldAddrO 3 rfl Tryz.underlying65 rfl rfl Tryz.sizeOf63 rfl) rfl ?_
    refine VO.opY rfl rfl rfl rfl aK3b ?_
    refine OpE.val (W := NoB) (OpV.load_own (i := 1) rfl hB Tryz.isAgg63 rfl rfl rfl (fun h => h)) rfl ?_
    refine VO.opY rfl rfl rfl rfl aK3b ?_
    refine OpE.call rfl hB rfl Tryz.call105 rfl (SpecN.spec (slices_Equal_place (xs := px.places) (ys := py.places) (by omega) (by omega))) ?_
    rintro _ rfl
    refine VO.val rfl rfl (OpV.pickT rfl rfl rfl rfl aK3b) ?_
    refine VO.ma rfl rfl rfl rfl ?_
    refine VO.nil ?_
    refine VC.ret ?_
    exact Exists.intro _ (And.intro (RetN.one Tryz.results46 (ResN.v rfl)) (by unfold sameP; simp_all))
   ·replace aK3b : _ = false := aK3b
    have aK3 := aK3b
    try simp only [qqT, qqF, qqN, qqM, qqL, qqE] at aK3
    refine VO.opX rfl rfl rfl rfl aK3b ?_
    refine VO.opX rfl rfl rfl rfl aK3b ?_
    refine VO.opX rfl rfl rfl rfl aK3b ?_
    refine VO.opX rfl rfl rfl rfl aK3b ?_
    refine VO.val rfl rfl (OpV.pickF rfl rfl rfl rfl aK3b) ?_
    refine VO.ma rfl rfl rfl rfl ?_
    refine VO.nil ?_
    refine VC.ret ?_
    exact Exists.intro _ (And.intro (RetN.one Tryz.results46 (ResN.v rfl)) (by unfold sameP; simp_all))
  ·replace aK2b : _ = false := aK2b
   have aK2 := aK2b
   try simp only [qqT, qqF, qqN, qqM, qqL, qqE] at aK2
   refine VO.opX rfl rfl rfl rfl aK2b ?_
   refine VO.opX rfl rfl rfl rfl aK2b ?_
   refine VO.opX rfl rfl rfl rfl aK2b ?_
   refine VO.opX rfl rfl rfl rfl aK2b ?_
   refine VO.val rfl rfl (OpV.pickF rfl rfl rfl rfl aK2b) ?_
   refine VO.mv rfl rfl rfl rfl ?_
   refine VO.opX rfl rfl rfl rfl rfl ?_
   refine VO.opX rfl rfl rfl rfl rfl ?_
   refine VO.opX rfl rfl rfl rfl rfl ?_
   refine VO.opX rfl rfl rfl rfl rfl ?_
   refine VO.opX rfl rfl rfl rfl rfl ?_
   refine VO.val rfl rfl (OpV.pickF rfl rfl rfl rfl rfl) ?_
   refine VO.ma rfl rfl rfl rfl ?_
   refine VO.nil ?_
   refine VC.ret ?_
   exact Exists.intro _ (And.intro (RetN.one Tryz.results46 (ResN.v rfl)) (by unfold sameP; simp_all))
 ·replace aK1b : _ = false := aK1b
  have aK1 := aK1b
  try simp only [qqT, qqF, qqN, qqM, qqL, qqE] at aK1
  refine VO.opX rfl rfl rfl rfl aK1b ?_
  refine VO.opX rfl rfl rfl rfl aK1b ?_
  refine VO.opX rfl rfl rfl rfl aK1b ?_
  refine VO.opX rfl rfl rfl rfl aK1b ?_
  refine VO.val rfl rfl (OpV.pickF rfl rfl rfl rfl aK1b) ?_
  refine VO.mv rfl rfl rfl rfl ?_
  refine VO.opX rfl rfl rfl rfl rfl ?_
  refine VO.opX rfl rfl rfl rfl rfl ?_
  refine VO.opX rfl rfl rfl rfl rfl ?_
  refine VO.opX rfl rfl rfl rfl rfl ?_
  refine VO.opX rfl rfl rfl rfl rfl ?_
  refine VO.val rfl rfl (OpV.pickF rfl rfl rfl rfl rfl) ?_
  refine VO.mv rfl rfl rfl rfl ?_
  refine VO.opX rfl rfl rfl rfl rfl ?_
  refine VO.opX rfl rfl rfl rfl rfl ?_
  refine VO.opX rfl rfl rfl rfl rfl ?_
  refine VO.opX rfl rfl rfl rfl rfl ?_
  refine VO.opX rfl rfl rfl rfl rfl ?_
  refine VO.val rfl rfl (OpV.pickF rfl rfl rfl rfl rfl) ?_
  refine VO.ma rfl rfl rfl rfl ?_
  refine VO.nil ?_
  refine VC.ret ?_
  exact Exists.intro _ (And.intro (RetN.one Tryz.results46 (ResN.v rfl)) (by unfold sameP; simp_all))
end Go.Proofs.YtbbgjeiefmiblaaGreatDoor
