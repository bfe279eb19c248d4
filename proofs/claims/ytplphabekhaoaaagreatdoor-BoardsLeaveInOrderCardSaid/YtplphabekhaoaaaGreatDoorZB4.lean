/- Part 4 of a proof: the walks and laws that it needs. -/
import Derived.Test.YtplphabekhaoaaaGreatDoorProg
import Derived.Shelf.Abstract
import Derived.Deep.QuietTactic
import Derived.BigQuiet
import Derived.BigRegion
import Derived.Deep.RegionLaw
import Derived.Deep.LoopGhost
import Derived.Deep.DeepCutAuto
import Derived.Test.YtplphabekhaoaaaGreatDoorZB3
namespace Go.Proofs.YtplphabekhaoaaaGreatDoor
open Go.RowKit
set_option linter.unusedVariables false
set_option linter.unusedSimpArgs false

theorem missF_mem {s p : List ByteArray} {x : ByteArray} : x ∈ missF s p ↔ x ∈ p ∧ x ∉ s := by
 unfold missF
 rw [List.mem_filter]
 constructor
 ·rintro ⟨h1, h2⟩; exact ⟨h1, has_not.1 (by simpa using h2)⟩
 ·rintro ⟨h1, h2⟩; exact ⟨h1, by rw [has_not.2 h2]; rfl⟩
theorem missF_nodup {s p : List ByteArray} (h : p.Nodup) : (missF s p).Nodup := h.sublist List.filter_sublist
theorem missF_len (s p : List ByteArray) : (missF s p).length ≤ p.length := List.length_filter_le _ _
section
variable {parts : List ByteArray} {later : List (List ByteArray)}
theorem nextL_mem : ∀ (l s : List ByteArray) (x : ByteArray), x ∈ nextL parts later s l → x ∈ s ∨ x ∈ l
 | [], s, x, h => .inl h
 | y :: l, s, x, h => by
  rcases nextL_mem l _ x h with h1 | h1
  ·rcases List.mem_or_eq_of_mem_set h1 with h2 | h2
   ·exact .inl h2
   ·exact .inr (by simp [h2])
  ·exact .inr (by simp [h1])
theorem nextL_take_succ {s l : List ByteArray} {q : Nat} (h : q < l.length) : nextL parts later s (l.take (q + 1)) = (nextL parts later s (l.take q)).set (slotF (nextL parts later s (l.take q)) parts later).toNat (l.getD q ByteArray.empty) := by
 rw [take_succ_getD (d := ByteArray.empty) h, nextL_snoc]
theorem nextL_fits {s l : List ByteArray} (hf : Fits s parts) (hl : l.Nodup) (hs : ∀ x ∈ l, x ∉ s) : ∀ q, q ≤ l.length → Fits (nextL parts later s (l.take q)) parts
 | 0, _ => by simpa [nextL] using hf
 | q + 1, hq => by
  rw [nextL_take_succ (by omega)]
  refine (nextL_fits hf hl hs q (by omega)).set (fun hc => ?_) _
  have hx : l.getD q ByteArray.empty ∈ l := by simp [show q < l.length by omega]
  rcases nextL_mem _ _ _ hc with h1 | h1
  ·exact hs _ hx h1
  ·obtain ⟨j, hj, e⟩ := List.mem_iff_getElem.1 h1
   have hj' : j < q ∧ j < l.length := by simp at hj; omega
   rw [List.getElem_take] at e
   have hd := List.pairwise_iff_getElem.1 hl j q hj'.2 (by omega) hj'.1
   apply hd
   rw [e]
   simp [show q < l.length by omega]
theorem nextL_not {s l : List ByteArray} (hl : l.Nodup) (hs : ∀ x ∈ l, x ∉ s) {q : Nat} (hq : q < l.length) : l.getD q ByteArray.empty ∉ nextL parts later s (l.take q) := fun hc => by
 have hx : l.getD q ByteArray.empty ∈ l := by simp [hq]
 rcases nextL_mem _ _ _ hc with h1 | h1
 ·exact hs _ hx h1
 ·obtain ⟨j, hj, e⟩ := List.mem_iff_getElem.1 h1
  have hj' : j < q ∧ j < l.length := by simp at hj; omega
  rw [List.getElem_take] at e
  have hd := List.pairwise_iff_getElem.1 hl j q hj'.2 (by omega) hj'.1
  apply hd
  rw [e]
  simp [hq]
end
theorem slotF_of_neg {s parts : List ByteArray} {later : List (List ByteArray)} (h : fidx (fun x => sEq ε x) s < 0) : slotF s parts later = (vic s parts later s.length).1 := by rw [slotF, if_pos h]
theorem slotF_of_pos {s parts : List ByteArray} {later : List (List ByteArray)} (h : 0 ≤ fidx (fun x => sEq ε x) s) : slotF s parts later = fidx (fun x => sEq ε x) s := by rw [slotF, if_neg (by omega)]
theorem keyF_size {x : ByteArray} (h : keyF x = true) : 1 ≤ x.size ∧ x.size ≤ 40 := by
 unfold keyF at h
 simp only [Bool.and_eq_true, decide_eq_true_eq] at h
 exact ⟨h.1.1.1, h.1.1.2⟩
theorem canE_key {l : List ByteArray} {i : Nat} (h : canE l i = 0) : keyF (l.getD i ByteArray.empty) = true := by
 cases hk : keyF (l.getD i ByteArray.empty) with
 | true => rfl
 | false => rw [canE_5 hk] at h; cases h
theorem canE_lt {l : List ByteArray} {i : Nat} (h : canE l i = 0) (h0 : 0 < i) : sLt (l.getD (i - 1) ByteArray.empty) (l.getD i ByteArray.empty) = true := by
 have hk := canE_key h
 cases hs : sLe (l.getD i ByteArray.empty) (l.getD (i - 1) ByteArray.empty) with
 | true => rw [canE_7 hk h0 hs] at h; cases h
 | false => exact sLt_of_not hs
theorem can_sort {l : List ByteArray} (h : ∀ j, j < l.length → canE l j = 0) : SortS l := by
 intro a b hab hb
 induction b with
 | zero => omega
 | succ b ih =>
  have h1 := canE_lt (h (b + 1) hb) (by omega)
  simp only [Nat.add_sub_cancel] at h1
  by_cases e : a = b
  ·subst e; exact h1
  ·exact sLt_trans (ih (by omega) (by omega)) h1
theorem sort_nodup {l : List ByteArray} (h : SortS l) : l.Nodup := by
 rw [List.Nodup, List.pairwise_iff_getElem]
 intro i j hi hj hij e
 have := h i j hij hj
 simp only [List.getD_eq_getElem?_getD, List.getElem?_eq_getElem hi, List.getElem?_eq_getElem hj, Option.getD_some, e] at this
 rw [sLt_irr] at this; cases this
theorem getD_mem {l : List ByteArray} {x : ByteArray} (h : x ∈ l) : ∃ j, j < l.length ∧ l.getD j ByteArray.empty = x := by
 obtain ⟨j, hj, rfl⟩ := List.mem_iff_getElem.1 h
 exact ⟨j, hj, by simp [hj]⟩
theorem size_getD {l : List ByteArray} {m : Nat} (h : ∀ x ∈ l, x.size ≤ m) (i : Nat) : (l.getD i ByteArray.empty).size ≤ m := by
 by_cases hi : i < l.length
 ·have := h _ (List.getElem_mem hi)
  simpa [hi] using this
 ·simp [List.getD_eq_getElem?_getD, List.getElem?_eq_none (by omega : l.length ≤ i)]
structure RightP (n : Nat) (l : List ByteArray) : Prop where
 len : l.length ≤ n
 can : ∀ j, j < l.length → canE l j = 0
theorem RightP.of {n : Int} {m : Nat} (hn : n = m) {p : List (List ByteArray)} (h : partsF n p = 0) {q : Nat} (hq : q < p.length) : RightP m (p.getD q default) := by
 obtain ⟨_, _, h3⟩ := partsF_zero h
 obtain ⟨k1, k2⟩ := partE_zero (h3 q hq)
 exact ⟨by omega, k2⟩
theorem RightP.nil (n : Nat) : RightP n [] := ⟨by simp, fun j hj => by simp at hj⟩
section
variable {n : Nat} {l s : List ByteArray}
theorem RightP.keys (h : RightP n l) : ∀ x ∈ l, 1 ≤ x.size ∧ x.size ≤ 40 := fun x hx => by
 obtain ⟨j, hj, rfl⟩ := getD_mem hx
 exact keyF_size (canE_key (h.can j hj))
theorem RightP.sms (h : RightP n l) (hn : n ≤ 1000000000) : SmS l := ⟨by have := h.len; omega, size_getD fun x hx => by have := h.keys x hx; omega⟩
theorem setup_once (h : setupF s = 0) : ∀ i j, i < j → j < s.length → s.getD i ByteArray.empty = s.getD j ByteArray.empty → s.getD j ByteArray.empty = ε := fun i j hij hj e => by
 have h0 := setupF_zero h j hj
 cases he : sEq (s.getD j ByteArray.empty) ε with
 | true => exact sEq_eq.1 he
 | false =>
  exfalso
  cases hk : keyF (s.getD j ByteArray.empty) with
  | false => rw [setupE_5 he hk] at h0; cases h0
  | true =>
   have hh : has (s.take j) (s.getD j ByteArray.empty) = true := by
    rw [has_iff, ← e]
    have hi : i < (s.take j).length := by simp; omega
    have : (s.take j)[i] = s.getD i ByteArray.empty := by simp [show i < s.length by omega]
    rw [← this]; exact List.getElem_mem hi
   rw [setupE_6 he hk hh] at h0; cases h0
theorem setup_size (h : setupF s = 0) : ∀ x ∈ s, x.size ≤ 40 := fun x hx => by
 obtain ⟨j, hj, rfl⟩ := getD_mem hx
 have h0 := setupF_zero h j hj
 cases he : sEq (s.getD j ByteArray.empty) ε with
 | true => rw [sEq_eq.1 he]; decide
 | false =>
  cases hk : keyF (s.getD j ByteArray.empty) with
  | false => rw [setupE_5 he hk] at h0; cases h0
  | true => exact (keyF_size hk).2
theorem RightP.fits (h : RightP s.length l) (ho : ∀ i j, i < j → j < s.length → s.getD i ByteArray.empty = s.getD j ByteArray.empty → s.getD j ByteArray.empty = ε) : Fits s l :=
 ⟨ho, h.len, fun x hx e => by have := h.keys x hx; rw [e] at this; exact absurd this.1 (by decide), sort_nodup (can_sort h.can)⟩
end
structure Good' (s : List ByteArray) : Prop where
 pos : 0 < s.length
 len : s.length ≤ 100
 once : ∀ i j, i < j → j < s.length → s.getD i ByteArray.empty = s.getD j ByteArray.empty → s.getD j ByteArray.empty = ε
 size : ∀ x ∈ s, x.size ≤ 40
theorem Good'.of {s : List ByteArray} (h : setupF s = 0) : Good' s := ⟨(setupF_len h).1, (setupF_len h).2, setup_once h, setup_size h⟩
theorem Good'.sms {s : List ByteArray} (h : Good' s) : SmS s := ⟨by have := h.len; omega, size_getD fun x hx => by have := h.size x hx; omega⟩
theorem Good'.next {s l : List ByteArray} (h : Good' s) (hl : RightP s.length l) (later : List (List ByteArray)) (q : Nat) (hq : q ≤ (missF s l).length) : Good' (nextL l later s ((missF s l).take q)) := by
 have hf := hl.fits h.once
 have hn := nextL_fits (later := later) hf (missF_nodup hf.pnd) (fun x hx => (missF_mem.1 hx).2) q hq
 refine ⟨by rw [nextL_len]; exact h.pos, by rw [nextL_len]; exact h.len, hn.once, fun x hx => ?_⟩
 rcases nextL_mem _ _ _ hx with h1 | h1
 ·exact h.size x h1
 ·exact (hl.keys x (missF_mem.1 (List.mem_of_mem_take h1)).1).2
theorem Good'.nextF {s l : List ByteArray} (h : Good' s) (hl : RightP s.length l) (later : List (List ByteArray)) : Good' (nextF s l later) := by
 have := h.next hl later (missF s l).length (Nat.le_refl _)
 rwa [List.take_length] at this
theorem nextF_len (s l : List ByteArray) (later : List (List ByteArray)) : (nextF s l later).length = s.length := nextL_len _ _ _ _
def stF (s : List ByteArray) (p : List (List ByteArray)) : Nat → List ByteArray
 | 0 => s
 | q + 1 => nextF (stF s p q) (p.getD q default) (p.drop (q + 1))
def totF (s : List ByteArray) (p : List (List ByteArray)) : Nat → Int
 | 0 => 0
 | q + 1 => totF s p q + (missF (stF s p q) (p.getD q default)).length
theorem stF_len (s : List ByteArray) (p : List (List ByteArray)) : ∀ q, (stF s p q).length = s.length
 | 0 => rfl
 | q + 1 => by rw [stF, nextF_len, stF_len s p q]
theorem stF_good {s : List ByteArray} {p : List (List ByteArray)} (h : Good' s) (hp : ∀ q, q < p.length → RightP s.length (p.getD q default)) : ∀ q, q ≤ p.length → Good' (stF s p q)
 | 0, _ => h
 | q + 1, hq => (stF_good h hp q (by omega)).nextF (by rw [stF_len]; exact hp q (by omega)) _
theorem totF_in {s : List ByteArray} {p : List (List ByteArray)} (hs : s.length ≤ 100) (hp : ∀ q, q < p.length → RightP s.length (p.getD q default)) : ∀ q, q ≤ p.length → 0 ≤ totF s p q ∧ totF s p q ≤ 100 * q
 | 0, _ => by simp [totF]
 | q + 1, hq => by
  have ih := totF_in hs hp q (by omega)
  have h1 := missF_len (stF s p q) (p.getD q default)
  have h2 := (hp q (by omega)).len
  rw [totF]
  omega
theorem totF_mono {s : List ByteArray} {p : List (List ByteArray)} {a b : Nat} (h : a ≤ b) : totF s p a ≤ totF s p b := by
 induction b with
 | zero => rw [show a = 0 by omega]; exact Int.le_refl _
 | succ b ih =>
  by_cases e : a = b + 1
  ·rw [e]; exact Int.le_refl _
  ·have := ih (by omega)
   rw [totF]; omega
def totalF (s : List ByteArray) (p : List (List ByteArray)) (most : Int) : Int := if p.length = 0 then 0 else if most ≤ totF s p p.length then most else totF s p p.length
end Go.Proofs.YtplphabekhaoaaaGreatDoor
namespace Go.Proofs.YtplphabekhaoaaaGreatDoor
open Go.RowKit
set_option linter.unusedVariables false
set_option linter.unusedSimpArgs false
set_option maxRecDepth 100000 in
theorem slices_IndexFunc_LL {xs : List (List ByteArray)} {F : FuncId} {cs : List AV} {p : List ByteArray → Bool} (hl : xs.length ≤ 1000000000) (hcall : ∀ us w, (callFunc F us).run Tryz.prog w = .ok (.enter F us) w) (hF : ∀ i, i < xs.length → Spec Tryz.prog F ([avStrs (xs.getD i default)] ++ cs) (fun y => y = avB (p (xs.getD i default)))) :
  SpecN Tryz.prog 261 [avM xs, .fn F cs] (fun y => y = avI (fidx p xs)) := by
 refine SpecN.of_VCN Tryz.func261 rfl Tryz.ntmps261 (Nle rfl) fun w A hB => ?_
 have hnew : True := trivial
 refine VC.sr ?_
 refine VO.ma rfl rfl rfl rfl ?_
 refine VO.nil ?_
 refine VC.seq ?_
 refine VC.sr ?_
 refine VO.mv rfl rfl rfl rfl ?_
 refine VO.val rfl rfl (OpV.len_im rfl Tryz.underlying91 rfl) ?_
 refine VO.mv rfl rfl rfl rfl ?_
 refine VO.nil ?_
 refine VC.block ?_
 refine VC.loopK [(0, _), (1, _), (7, _)] ⟨rfl, rfl, rfl, trivial⟩ ({q : Nat // q ≤ xs.length ∧ ∀ j, j < q → p (xs.getD j default) = false}) (fun (iZ : {q : Nat // q ≤ xs.length ∧ ∀ j, j < q → p (xs.getD j default) = false}) => match iZ with | ⟨q, hq, hn⟩ => [(8, avI (q : Int))]) (fun (iZ : {q : Nat // q ≤ xs.length ∧ ∀ j, j < q → p (xs.getD j default) = false}) => match iZ with | ⟨q, hq, hn⟩ => []) (fun (iZ : {q : Nat // q ≤ xs.length ∧ ∀ j, j < q → p (xs.getD j default) = false}) => match iZ with | ⟨q, hq, hn⟩ => 0) (fun (iZ : {q : Nat // q ≤ xs.length ∧ ∀ j, j < q → p (xs.getD j default) = false}) => match iZ with | ⟨q, hq, hn⟩ => xs.length - q) ⟨0, Nat.zero_le _, fun j hj => absurd hj (Nat.not_lt_zero j)⟩ (Le.mk hB [] ⟨rfl, rfl, rfl, rfl, trivial⟩ rfl rfl (Nat.le_refl _)) ?_
 rintro ⟨q, hq, hn⟩
 show VC _ _ _ _ ⟨[(8, avI (q : Int))] ++ [(0, _), (1, _), (7, _)], [], 0⟩
 refine VC.sr ?_
 refine VO.val rfl rfl (OpV.lss rfl rfl rfl) ?_
 refine VO.nil ?_
 refine VC.seq ?_
 refine VC.cond rfl (fun aH1b => ?_) (fun aH1b => ?_)
 ·have aH1 := aH1b
  try simp only [qqT, qqF, qqN, qqM, qqL, qqE] at aH1
  refine VC.skip ?_
  refine VC.seq ?_
  refine VC.block ?_
  refine VC.sr ?_
  refine VO.mv rfl rfl rfl rfl ?_
  refine VO.ma rfl rfl rfl rfl ?_
  refine VO.nil ?_
  refine VC.sr ?_
  refine VO.mv rfl rfl rfl rfl ?_
  refine VO.mv rfl rfl rfl rfl ?_
  refine VO.mv rfl rfl rfl rfl ?_
  refine VO.val rfl rfl (OpV.indexAddr_1 rfl Tryz.underlying91 Tryz.sizeOf94 rfl rfl rfl (by omega)) ?_
  refine VO.val rfl rfl (OpV.load_at rfl hB OutW.no Tryz.isAgg94 rfl rfl) ?_
  refine VO.op rfl (OpE.callF rfl hB rfl hcall rfl rfl (hF q (by omega)) ?_)
  rintro _ rfl
  refine VO.nil ?_
  refine VC.cond rfl (fun aH2b => ?_) (fun aH2b => ?_)
  ·have aH2 := aH2b
   try simp only [qqT, qqF, qqN, qqM, qqL, qqE] at aH2
   refine VC.sr ?_
   refine VO.mv rfl rfl rfl rfl ?_
   refine VO.ma rfl rfl rfl rfl ?_
   refine VO.nil ?_
   refine VC.ret ?_
   exact Exists.intro _ (And.intro (RetN.one Tryz.results261 (ResN.v rfl)) (by first | (rw [fidx_found (d := default) (q := q) (by omega) hn (by assumption)]) | (rw [fidx_none (d := default) (fun j hj => hn j (by omega))])))
  ·have aH2 := aH2b
   try simp only [qqT, qqF, qqN, qqM, qqL, qqE] at aH2
   refine VC.skip ?_
   refine VC.region ?_
   refine VO.val rfl rfl (OpV.add rfl rfl rfl (by unfold fits; omega)) ?_
   refine VO.mv rfl rfl rfl rfl ?_
   refine VO.nil ?_
   exact Exists.intro (⟨q + 1, by omega, lt_succ_cases hn (by assumption)⟩) (And.intro (Le.mk hB [] ⟨rfl, rfl, rfl, rfl, trivial⟩ rfl rfl (Nat.le_refl _)) (by first | omega | (show _ < _; omega) | (simp only []; omega)))
 ·have aH1 := aH1b
  try simp only [qqT, qqF, qqN, qqM, qqL, qqE] at aH1
  refine VC.exit ?_
  refine VC.sr ?_
  refine VO.ma rfl rfl rfl rfl ?_
  refine VO.nil ?_
  refine VC.ret ?_
  exact Exists.intro _ (And.intro (RetN.one Tryz.results261 (ResN.v rfl)) (by first | (rw [fidx_found (d := default) (q := q) (by omega) hn (by assumption)]) | (rw [fidx_none (d := default) (fun j hj => hn j (by omega))])))
set_option maxRecDepth 100000 in
theorem setup_needed1 {l : List ByteArray} {x : ByteArray} (hl : l.length ≤ 1000000000) :
  SpecN Tryz.prog 262 [avStrs l, .at_ 1 (fun _ => avS x)] (fun y => y = avB (has l x)) := by
 refine SpecN.of_VCN Tryz.func262 rfl Tryz.ntmps262 (Nle rfl) fun w A hB => ?_
 have hnew : True := trivial
 refine VC.sr ?_
 refine VO.ma rfl rfl rfl rfl ?_
 refine VO.nil ?_
 refine VC.sr ?_
 refine VO.mv rfl rfl rfl rfl ?_
 refine VO.val rfl rfl (OpV.load_at rfl hB OutW.no Tryz.isAgg9 rfl rfl) ?_
 refine VO.op rfl (OpE.call rfl hB rfl Tryz.call77 rfl (SpecN.spec (slices_Contains_str hl)) ?_)
 rintro _ rfl
 refine VO.ma rfl rfl rfl rfl ?_
 refine VO.nil ?_
 refine VC.ret ?_
 exact Exists.intro _ (And.intro (RetN.one Tryz.results262 (ResN.v rfl)) (rfl))
set_option maxRecDepth 100000 in
theorem setup_needed {x : ByteArray} {later : List (List ByteArray)} (hp : SmSS later) :
  SpecN Tryz.prog 231 [avS x, avM later] (fun y => y = avI (needF x later)) := by
 have hl := hp.1
 refine SpecN.of_VCN Tryz.func231 rfl Tryz.ntmps231 (Nle rfl) fun w A hB => ?_
 have hnew : True := trivial
 refine VC.sr ?_
 refine VO.op rfl (OpE.box rfl hB rfl rfl rfl ?_)
 intro g2
 refine VO.ma rfl rfl rfl rfl ?_
 refine VO.nil ?_
 refine VC.seq ?_
 refine VC.sr ?_
 refine VO.mv rfl rfl rfl rfl ?_
 refine VO.val rfl rfl (OpV.makeFunc1 rfl rfl) ?_
 refine VO.op rfl (OpE.callL rfl hB rfl Tryz.call261 (slices_IndexFunc_LL (p := fun l => has l x) hl Tryz.call262 (fun i hi => (setup_needed1 (hp.2 i).1).spec)) (ArgsP.cons (ArgP.ev rfl) (ArgsP.cons (ArgP.fn1 (i := 0) (m := 1) (f := fun _ => avS x) rfl rfl (Nle rfl) (lt1 rfl)) (ArgsP.nil))) ?_)
 rintro _ rfl
 refine VO.ma rfl rfl rfl rfl ?_
 refine VO.nil ?_
 refine VC.sr ?_
 refine VO.mv rfl rfl rfl rfl ?_
 refine VO.val rfl rfl (OpV.geq rfl rfl rfl) ?_
 refine VO.nil ?_
 refine VC.cond rfl (fun h0b => ?_) (fun h0b => ?_)
 ·have h0 := h0b
  try simp only [qqT, qqF, qqN, qqM, qqL, qqE] at h0
  refine VC.sr ?_
  refine VO.mv rfl rfl rfl rfl ?_
  refine VO.ma rfl rfl rfl rfl ?_
  refine VO.nil ?_
  refine VC.ret ?_
  exact Exists.intro _ (And.intro (RetN.one Tryz.results231 (ResN.v rfl)) (by first | rw [needF, if_pos h0] | rw [needF, if_neg (by omega)]))
 ·have h0 := h0b
  try simp only [qqT, qqF, qqN, qqM, qqL, qqE] at h0
  refine VC.skip ?_
  refine VC.sr ?_
  refine VO.mv rfl rfl rfl rfl ?_
  refine VO.val rfl rfl (OpV.len_im rfl Tryz.underlying91 rfl) ?_
  refine VO.ma rfl rfl rfl rfl ?_
  refine VO.nil ?_
  refine VC.ret ?_
  exact Exists.intro _ (And.intro (RetN.one Tryz.results231 (ResN.v rfl)) (by first | rw [needF, if_pos h0] | rw [needF, if_neg (by omega)]))
set_option maxRecDepth 100000 in
theorem setup_victim {s parts : List ByteArray} {later : List (List ByteArray)} (hs : s.length ≤ 1000000000) (hp : parts.length ≤ 1000000000) (hl : SmSS later) :
  SpecN Tryz.prog 187 [avStrs s, avStrs parts, avM later] (fun y => y = avI (vic s parts later s.length).1) := by
 have hll := hl.1
 refine SpecN.of_VCN Tryz.func187 rfl Tryz.ntmps187 (Nle rfl) fun w A hB => ?_
 have hnew : True := trivial
 refine VC.sr ?_
 refine VO.ma rfl rfl rfl rfl ?_
 refine VO.nil ?_
 refine VC.sr ?_
 refine VO.ma rfl rfl rfl rfl ?_
 refine VO.ma rfl rfl rfl rfl ?_
 refine VO.nil ?_
 refine VC.seq ?_
 refine VC.sr ?_
 refine VO.mv rfl rfl rfl rfl ?_
 refine VO.val rfl rfl (OpV.len_im rfl Tryz.underlying94 rfl) ?_
 refine VO.mv rfl rfl rfl rfl ?_
 refine VO.nil ?_
 refine VC.block ?_
 refine VC.loopK [(0, _), (1, _), (2, _), (12, _), (13, _)] ⟨rfl, rfl, rfl, rfl, rfl, trivial⟩ ({q : Nat // q ≤ s.length}) (fun (iZ : {q : Nat // q ≤ s.length}) => match iZ with | ⟨q, hq⟩ => [(7, avI (vic s parts later q).1), (8, avI (vic s parts later q).2), (14, avI (q : Int))]) (fun (iZ : {q : Nat // q ≤ s.length}) => match iZ with | ⟨q, hq⟩ => []) (fun (iZ : {q : Nat // q ≤ s.length}) => match iZ with | ⟨q, hq⟩ => 0) (fun (iZ : {q : Nat // q ≤ s.length}) => match iZ with | ⟨q, hq⟩ => s.length - q) ⟨0, Nat.zero_le _⟩ (Le.mk hB [] ⟨rfl, rfl, rfl, rfl, rfl, rfl, rfl, rfl, trivial⟩ rfl rfl (Nat.le_refl _)) ?_
 rintro ⟨q, hq⟩
 show VC _ _ _ _ ⟨[(7, avI (vic s parts later q).1), (8, avI (vic s parts later q).2), (14, avI (q : Int))] ++ [(0, _), (1, _), (2, _), (12, _), (13, _)], [], 0⟩
 refine VC.sr ?_
 refine VO.val rfl rfl (OpV.lss rfl rfl rfl) ?_
 refine VO.nil ?_
 refine VC.seq ?_
 refine VC.cond rfl (fun aH1b => ?_) (fun aH1b => ?_)
 ·have aH1 := aH1b
  try simp only [qqT, qqF, qqN, qqM, qqL, qqE] at aH1
  refine VC.skip ?_
  refine VC.seq ?_
  refine VC.block ?_
  refine VC.sr ?_
  refine VO.mv rfl rfl rfl rfl ?_
  refine VO.val rfl rfl (OpV.indexAddr_1 rfl Tryz.underlying94 Tryz.sizeOf9 rfl rfl rfl (by omega)) ?_
  refine VO.val rfl rfl (OpV.load_at rfl hB OutW.no Tryz.isAgg9 rfl rfl) ?_
  refine VO.ma rfl rfl rfl rfl ?_
  refine VO.ma rfl rfl rfl rfl ?_
  refine VO.nil ?_
  refine VC.seq ?_
  refine VC.sr ?_
  refine VO.mv rfl rfl rfl rfl ?_
  refine VO.mv rfl rfl rfl rfl ?_
  refine VO.op rfl (OpE.call rfl hB rfl Tryz.call77 rfl (SpecN.spec (slices_Contains_str hp)) ?_)
  rintro _ rfl
  refine VO.nil ?_
  refine VC.cond rfl (fun h1b => ?_) (fun h1b => ?_)
  ·have h1 := h1b
   try simp only [qqT, qqF, qqN, qqM, qqL, qqE] at h1
   refine VC.exit ?_
   refine VC.region ?_
   refine VO.val rfl rfl (OpV.add rfl rfl rfl (by unfold fits; omega)) ?_
   refine VO.mv rfl rfl rfl rfl ?_
   refine VO.nil ?_
   exact Exists.intro (⟨q + 1, by omega⟩) (And.intro (Le.mk hB [] ⟨(by dsimp only; first | (rw [vic_has h1]; rfl) | (rw [vic_new h1 (.inl (by assumption))]; rfl) | (rw [vic_new h1 (.inr ⟨by assumption, not_true_false h2b⟩)]; rfl) | (rw [vic_old (s := s) (parts := parts) (later := later) (q := q) h1 (by rintro (h8 | ⟨h8, h9⟩); exact absurd h8 (by omega); exact absurd (h9.symm.trans (not_false_true h2b)) Bool.false_ne_true)]; rfl) | (rw [vic_old (s := s) (parts := parts) (later := later) (q := q) h1 (by rintro (h8 | ⟨h8, h9⟩); omega; omega)]; rfl)), (by dsimp only; first | (rw [vic_has h1]; rfl) | (rw [vic_new h1 (.inl (by assumption))]; rfl) | (rw [vic_new h1 (.inr ⟨by assumption, not_true_false h2b⟩)]; rfl) | (rw [vic_old (s := s) (parts := parts) (later := later) (q := q) h1 (by rintro (h8 | ⟨h8, h9⟩); exact absurd h8 (by omega); exact absurd (h9.symm.trans (not_false_true h2b)) Bool.false_ne_true)]; rfl) | (rw [vic_old (s := s) (parts := parts) (later := later) (q := q) h1 (by rintro (h8 | ⟨h8, h9⟩); omega; omega)]; rfl)), rfl, rfl, rfl, rfl, rfl, rfl, trivial⟩ rfl rfl (Nat.le_refl _)) (by first | omega | (show _ < _; omega) | (simp only []; omega)))
  ·have h1 := h1b
   try simp only [qqT, qqF, qqN, qqM, qqL, qqE] at h1
   refine VC.skip ?_
   refine VC.sr ?_
   refine VO.mv rfl rfl rfl rfl ?_
   refine VO.mv rfl rfl rfl rfl ?_
   refine VO.op rfl (OpE.call rfl hB rfl Tryz.call231 rfl (SpecN.spec (setup_needed hl)) ?_)
   rintro _ rfl
   refine VO.ma rfl rfl rfl rfl ?_
   refine VO.nil ?_
   refine VC.sr ?_
   refine VO.mv rfl rfl rfl rfl ?_
   refine VO.mv rfl rfl rfl rfl ?_
   refine VO.val rfl rfl (OpV.gtr rfl rfl rfl) ?_
   refine VO.mv rfl rfl rfl rfl ?_
   refine VO.opG rfl rfl rfl rfl (fun aK2b => ?_) (fun aK2b => ?_)
   ·replace aK2b : _ = false := aK2b
    have aK2 := aK2b
    try simp only [qqT, qqF, qqN, qqM, qqL, qqE] at aK2
    refine OpE.val (W := NoB) (OpV.move (.inl rfl) rfl) rfl ?_
    refine VO.opY rfl rfl rfl rfl aK2b ?_
    refine OpE.val (W := NoB) (OpV.move (.inl rfl) rfl) rfl ?_
    refine VO.opY rfl rfl rfl rfl aK2b ?_
    refine OpE.val (W := NoB) (OpV.eql rfl rfl rfl) rfl ?_
    refine VO.opY rfl rfl rfl rfl aK2b ?_
    refine OpE.val (W := NoB) (OpV.move (.inl rfl) rfl) rfl ?_
    refine VO.opG rfl rfl rfl rfl (fun aK3b => ?_) (fun aK3b => ?_)
    ·replace aK3b : _ = true := aK3b
     have aK3 := aK3b
     try simp only [qqT, qqF, qqN, qqM, qqL, qqE] at aK3
     refine OpE.val (W := NoB) (OpV.move (.inl rfl) rfl) rfl ?_
     refine VO.opY rfl rfl rfl rfl aK3b ?_
     refine OpE.val (W := NoB) (OpV.move (.inl rfl) rfl) rfl ?_
     refine VO.opY rfl rfl rfl rfl aK3b ?_
     refine OpE.val (W := NoB) (OpV.move (.inl rfl) rfl) rfl ?_
     refine VO.opY rfl rfl rfl rfl aK3b ?_
     refine OpE.val (W := NoB) (OpV.indexAddr_1 rfl Tryz.underlying94 Tryz.sizeOf9 rfl rfl (Int.toNat_of_nonneg (vic_tie (by assumption)).1).symm (by have h7 := vic_tie (s := s) (parts := parts) (by assumption); omega)) rfl ?_
     refine VO.opY rfl rfl rfl rfl aK3b ?_
     refine OpE.val (W := NoB) (OpV.load_at rfl hB OutW.no Tryz.isAgg9 rfl rfl) rfl ?_
     refine VO.opY rfl rfl rfl rfl aK3b ?_
     refine OpE.val (W := NoB) (OpV.sgtr rfl rfl rfl) rfl ?_
     refine VO.opY rfl rfl rfl rfl aK2b ?_
     refine OpE.val (W := NoB) (OpV.pickT rfl rfl rfl rfl aK3b) rfl ?_
     refine VO.val rfl rfl (OpV.pickF rfl rfl rfl rfl aK2b) ?_
     refine VO.nil ?_
     refine VC.cond rfl (fun h2b => ?_) (fun h2b => ?_)
     ·have h2 := h2b
      try simp only [qqT, qqF, qqN, qqM, qqL, qqE] at h2
      refine VC.region ?_
      refine VO.mv rfl rfl rfl rfl ?_
      refine VO.mv rfl rfl rfl rfl ?_
      refine VO.ma rfl rfl rfl rfl ?_
      refine VO.ma rfl rfl rfl rfl ?_
      refine VO.nil ?_
      refine VC.region ?_
      refine VO.val rfl rfl (OpV.add rfl rfl rfl (by unfold fits; omega)) ?_
      refine VO.mv rfl rfl rfl rfl ?_
      refine VO.nil ?_
      exact Exists.intro (⟨q + 1, by omega⟩) (And.intro (Le.mk hB [] ⟨(by dsimp only; first | (rw [vic_has h1]; rfl) | (rw [vic_new h1 (.inl (by assumption))]; rfl) | (rw [vic_new h1 (.inr ⟨by assumption, not_true_false h2b⟩)]; rfl) | (rw [vic_old (s := s) (parts := parts) (later := later) (q := q) h1 (by rintro (h8 | ⟨h8, h9⟩); exact absurd h8 (by omega); exact absurd (h9.symm.trans (not_false_true h2b)) Bool.false_ne_true)]; rfl) | (rw [vic_old (s := s) (parts := parts) (later := later) (q := q) h1 (by rintro (h8 | ⟨h8, h9⟩); omega; omega)]; rfl)), (by dsimp only; first | (rw [vic_has h1]; rfl) | (rw [vic_new h1 (.inl (by assumption))]; rfl) | (rw [vic_new h1 (.inr ⟨by assumption, not_true_false h2b⟩)]; rfl) | (rw [vic_old (s := s) (parts := parts) (later := later) (q := q) h1 (by rintro (h8 | ⟨h8, h9⟩); exact absurd h8 (by omega); exact absurd (h9.symm.trans (not_false_true h2b)) Bool.false_ne_true)]; rfl) | (rw [vic_old (s := s) (parts := parts) (later := later) (q := q) h1 (by rintro (h8 | ⟨h8, h9⟩); omega; omega)]; rfl)), rfl, rfl, rfl, rfl, rfl, rfl, trivial⟩ rfl rfl (Nat.le_refl _)) (by first | omega | (show _ < _; omega) | (simp only []; omega)))
     ·have h2 := h2b
      try simp only [qqT, qqF, qqN, qqM, qqL, qqE] at h2
      refine VC.skip ?_
      refine VC.region ?_
      refine VO.val rfl rfl (OpV.add rfl rfl rfl (by unfold fits; omega)) ?_
      refine VO.mv rfl rfl rfl rfl ?_
      refine VO.nil ?_
      exact Exists.intro (⟨q + 1, by omega⟩) (And.intro (Le.mk hB [] ⟨(by dsimp only; first | (rw [vic_has h1]; rfl) | (rw [vic_new h1 (.inl (by assumption))]; rfl) | (rw [vic_new h1 (.inr ⟨by assumption, not_true_false h2b⟩)]; rfl) | (rw [vic_old (s := s) (parts := parts) (later := later) (q := q) h1 (by rintro (h8 | ⟨h8, h9⟩); exact absurd h8 (by omega); exact absurd (h9.symm.trans (not_false_true h2b)) Bool.false_ne_true)]; rfl) | (rw [vic_old (s := s) (parts := parts) (later := later) (q := q) h1 (by rintro (h8 | ⟨h8, h9⟩); omega; omega)]; rfl)), (by dsimp only; first | (rw [vic_has h1]; rfl) | (rw [vic_new h1 (.inl (by assumption))]; rfl) | (rw [vic_new h1 (.inr ⟨by assumption, not_true_false h2b⟩)]; rfl) | (rw [vic_old (s := s) (parts := parts) (later := later) (q := q) h1 (by rintro (h8 | ⟨h8, h9⟩); exact absurd h8 (by omega); exact absurd (h9.symm.trans (not_false_true h2b)) Bool.false_ne_true)]; rfl) | (rw [vic_old (s := s) (parts := parts) (later := later) (q := q) h1 (by rintro (h8 | ⟨h8, h9⟩); omega; omega)]; rfl)), rfl, rfl, rfl, rfl, rfl, rfl, trivial⟩ rfl rfl (Nat.le_refl _)) (by first | omega | (show _ < _; omega) | (simp only []; omega)))
    ·replace aK3b : _ = false := aK3b
     have aK3 := aK3b
     try simp only [qqT, qqF, qqN, qqM, qqL, qqE] at aK3
     refine VO.opX rfl rfl rfl rfl aK3b ?_
     refine VO.opX rfl rfl rfl rfl aK3b ?_
     refine VO.opX rfl rfl rfl rfl aK3b ?_
     refine VO.opX rfl rfl rfl rfl aK3b ?_
     refine VO.opX rfl rfl rfl rfl aK3b ?_
     refine VO.opY rfl rfl rfl rfl aK2b ?_
     refine OpE.val (W := NoB) (OpV.pickF rfl rfl rfl rfl aK3b) rfl ?_
     refine VO.val rfl rfl (OpV.pickF rfl rfl rfl rfl aK2b) ?_
     refine VO.nil ?_
     refine VC.condF rfl rfl ?_
     refine VC.skip ?_
     refine VC.region ?_
     refine VO.val rfl rfl (OpV.add rfl rfl rfl (by unfold fits; omega)) ?_
     refine VO.mv rfl rfl rfl rfl ?_
     refine VO.nil ?_
     exact Exists.intro (⟨q + 1, by omega⟩) (And.intro (Le.mk hB [] ⟨(by dsimp only; first | (rw [vic_has h1]; rfl) | (rw [vic_new h1 (.inl (by assumption))]; rfl) | (rw [vic_new h1 (.inr ⟨by assumption, not_true_false h2b⟩)]; rfl) | (rw [vic_old (s := s) (parts := parts) (later := later) (q := q) h1 (by rintro (h8 | ⟨h8, h9⟩); exact absurd h8 (by omega); exact absurd (h9.symm.trans (not_false_true h2b)) Bool.false_ne_true)]; rfl) | (rw [vic_old (s := s) (parts := parts) (later := later) (q := q) h1 (by rintro (h8 | ⟨h8, h9⟩); omega; omega)]; rfl)), (by dsimp only; first | (rw [vic_has h1]; rfl) | (rw [vic_new h1 (.inl (by assumption))]; rfl) | (rw [vic_new h1 (.inr ⟨by assumption, not_true_false h2b⟩)]; rfl) | (rw [vic_old (s := s) (parts := parts) (later := later) (q := q) h1 (by rintro (h8 | ⟨h8, h9⟩); exact absurd h8 (by omega); exact absurd (h9.symm.trans (not_false_true h2b)) Bool.false_ne_true)]; rfl) | (rw [vic_old (s := s) (parts := parts) (later := later) (q := q) h1 (by rintro (h8 | ⟨h8, h9⟩); omega; omega)]; rfl)), rfl, rfl, rfl, rfl, rfl, rfl, trivial⟩ rfl rfl (Nat.le_refl _)) (by first | omega | (show _ < _; omega) | (simp only []; omega)))
   ·replace aK2b : _ = true := aK2b
    have aK2 := aK2b
    try simp only [qqT, qqF, qqN, qqM, qqL, qqE] at aK2
    refine VO.opX rfl rfl rfl rfl aK2b ?_
    refine VO.opX rfl rfl rfl rfl aK2b ?_
    refine VO.opX rfl rfl rfl rfl aK2b ?_
    refine VO.opU rfl rfl rfl rfl ?_
    refine VO.opU rfl rfl rfl rfl ?_
    refine VO.opU rfl rfl rfl rfl ?_
    refine VO.opU rfl rfl rfl rfl ?_
    refine VO.opU rfl rfl rfl rfl ?_
    refine VO.opU rfl rfl rfl rfl ?_
    refine VO.opX rfl rfl rfl rfl aK2b ?_
    refine VO.val rfl rfl (OpV.pickT rfl rfl rfl rfl aK2b) ?_
    refine VO.nil ?_
    refine VC.condT rfl rfl ?_
    refine VC.region ?_
    refine VO.mv rfl rfl rfl rfl ?_
    refine VO.mv rfl rfl rfl rfl ?_
    refine VO.ma rfl rfl rfl rfl ?_
    refine VO.ma rfl rfl rfl rfl ?_
    refine VO.nil ?_
    refine VC.region ?_
    refine VO.val rfl rfl (OpV.add rfl rfl rfl (by unfold fits; omega)) ?_
    refine VO.mv rfl rfl rfl rfl ?_
    refine VO.nil ?_
    exact Exists.intro (⟨q + 1, by omega⟩) (And.intro (Le.mk hB [] ⟨(by dsimp only; first | (rw [vic_has h1]; rfl) | (rw [vic_new h1 (.inl (by assumption))]; rfl) | (rw [vic_new h1 (.inr ⟨by assumption, not_true_false h2b⟩)]; rfl) | (rw [vic_old (s := s) (parts := parts) (later := later) (q := q) h1 (by rintro (h8 | ⟨h8, h9⟩); exact absurd h8 (by omega); exact absurd (h9.symm.trans (not_false_true h2b)) Bool.false_ne_true)]; rfl) | (rw [vic_old (s := s) (parts := parts) (later := later) (q := q) h1 (by rintro (h8 | ⟨h8, h9⟩); omega; omega)]; rfl)), (by dsimp only; first | (rw [vic_has h1]; rfl) | (rw [vic_new h1 (.inl (by assumption))]; rfl) | (rw [vic_new h1 (.inr ⟨by assumption, not_true_false h2b⟩)]; rfl) | (rw [vic_old (s := s) (parts := parts) (later := later) (q := q) h1 (by rintro (h8 | ⟨h8, h9⟩); exact absurd h8 (by omega); exact absurd (h9.symm.trans (not_false_true h2b)) Bool.false_ne_true)]; rfl) | (rw [vic_old (s := s) (parts := parts) (later := later) (q := q) h1 (by rintro (h8 | ⟨h8, h9⟩); omega; omega)]; rfl)), rfl, rfl, rfl, rfl, rfl, rfl, trivial⟩ rfl rfl (Nat.le_refl _)) (by first | omega | (show _ < _; omega) | (simp only []; omega)))
 ·have aH1 := aH1b
  try simp only [qqT, qqF, qqN, qqM, qqL, qqE] at aH1
  refine VC.exit ?_
  refine VC.sr ?_
  refine VO.mv rfl rfl rfl rfl ?_
  refine VO.ma rfl rfl rfl rfl ?_
  refine VO.nil ?_
  refine VC.ret ?_
  exact Exists.intro _ (And.intro (RetN.one Tryz.results187 (ResN.v rfl)) (by rw [show q = s.length by omega]))
end Go.Proofs.YtplphabekhaoaaaGreatDoor
namespace Go.Proofs.YtplphabekhaoaaaGreatDoor
open Go.RowKit
set_option linter.unusedVariables false
set_option linter.unusedSimpArgs false
set_option maxRecDepth 100000 in
theorem setup_next {s parts : List ByteArray} {later : List (List ByteArray)} {u : Value} (hg : Good' s) (hp : RightP s.length parts) (hl : SmSS later) :
  SpecH Tryz.prog 135 [.v u, avStrs parts, avM later] [.row u s.length 1 (strsL s) 9] (fun y hp' => y = avI (missF s parts).length ∧ hp' = [.row u s.length 1 (strsL (nextF s parts later)) 9]) := by
 have hls := hg.len
 have hlp := hp.len
 have hps := hp.sms (by omega)
 have hml := missF_len s parts
 have hf := hp.fits hg.once
 have hnd := missF_nodup (s := s) hf.pnd
 have hns : ∀ x ∈ missF s parts, x ∉ s := fun x hx => (missF_mem.1 hx).2
 refine SpecH.of_VC Tryz.func135 rfl Tryz.ntmps135 (Nle rfl) fun w A hB => ?_
 have hnew : True := trivial
 refine VC.sr ?_
 refine VO.ma rfl rfl rfl rfl ?_
 refine VO.nil ?_
 refine VC.sr ?_
 refine VO.mv rfl rfl rfl rfl ?_
 refine VO.mv rfl rfl rfl rfl ?_
 refine VO.op rfl (OpE.callL rfl hB rfl Tryz.call150 (setup_missing_N hg.sms hps) (ArgsP.cons (ArgP.rowS (i := 0) rfl rfl rfl) (ArgsP.cons (ArgP.ev rfl) (ArgsP.nil))) ?_)
 rintro _ rfl
 refine VO.ma rfl rfl rfl rfl ?_
 refine VO.nil ?_
 refine VC.seq ?_
 refine VC.sr ?_
 refine VO.mv rfl rfl rfl rfl ?_
 refine VO.val rfl rfl (OpV.len_im rfl Tryz.underlying94 rfl) ?_
 refine VO.mv rfl rfl rfl rfl ?_
 refine VO.nil ?_
 refine VC.block ?_
 refine VC.loopK [(0, _), (1, _), (2, _), (7, _), (14, _), (15, _)] ⟨rfl, rfl, rfl, rfl, rfl, rfl, trivial⟩ ({q : Nat // q ≤ (missF s parts).length}) (fun (iZ : {q : Nat // q ≤ (missF s parts).length}) => match iZ with | ⟨q, hq⟩ => [(16, avI (q : Int))]) (fun (iZ : {q : Nat // q ≤ (missF s parts).length}) => match iZ with | ⟨q, hq⟩ => [.row u s.length 1 (strsL (nextL parts later s ((missF s parts).take q))) 9]) (fun (iZ : {q : Nat // q ≤ (missF s parts).length}) => match iZ with | ⟨q, hq⟩ => 0) (fun (iZ : {q : Nat // q ≤ (missF s parts).length}) => match iZ with | ⟨q, hq⟩ => (missF s parts).length - q) ⟨0, Nat.zero_le _⟩ (Le.mk hB [0] ⟨rfl, rfl, rfl, rfl, rfl, rfl, rfl, trivial⟩ rfl rfl (Nat.le_refl _)) ?_
 rintro ⟨q, hq⟩
 show VC _ _ _ _ ⟨[(16, avI (q : Int))] ++ [(0, _), (1, _), (2, _), (7, _), (14, _), (15, _)], [.row u s.length 1 (strsL (nextL parts later s ((missF s parts).take q))) 9], 0⟩
 refine VC.sr ?_
 refine VO.val rfl rfl (OpV.lss rfl rfl rfl) ?_
 refine VO.nil ?_
 refine VC.seq ?_
 refine VC.cond rfl (fun aH1b => ?_) (fun aH1b => ?_)
 ·have aH1 := aH1b
  try simp only [qqT, qqF, qqN, qqM, qqL, qqE] at aH1
  have hq' : q < (missF s parts).length := by omega
  have hcur := hg.next hp later q (by omega)
  have hcl : (nextL parts later s ((missF s parts).take q)).length = s.length := nextL_len _ _ _ _
  have hx := nextL_not (parts := parts) (later := later) hnd hns hq'
  have hxp : (missF s parts).getD q ByteArray.empty ∈ parts := (missF_mem.1 (by simp [hq'] : (missF s parts).getD q ByteArray.empty ∈ missF s parts)).1
  obtain ⟨k1, k2, k3⟩ := slotF_in (later := later) (nextL_fits (later := later) hf hnd hns q (by omega)) hxp hx
  rw [hcl] at k2
  refine VC.asBox (i := 0) rfl (by omega) (fun g cap hu hcap hmx => ?_)
  subst hu
  refine VC.skip ?_
  refine VC.seq ?_
  refine VC.block ?_
  refine VC.sr ?_
  refine VO.val rfl rfl (OpV.indexAddr_1 rfl Tryz.underlying94 Tryz.sizeOf9 rfl rfl rfl (by omega)) ?_
  refine VO.val rfl rfl (OpV.load_at rfl hB OutW.no Tryz.isAgg9 rfl rfl) ?_
  refine VO.ma rfl rfl rfl rfl ?_
  refine VO.nil ?_
  refine VC.sr ?_
  refine VO.mv rfl rfl rfl rfl ?_
  refine VO.op rfl (OpE.callL rfl hB rfl Tryz.call151 (slices_Index_str (by rw [hcl]; omega)) (ArgsP.cons (ArgP.boxS (i := 0) rfl rfl hcl.symm hcap hmx) (ArgsP.cons (ArgP.ev rfl) (ArgsP.nil))) ?_)
  rintro _ rfl
  refine VO.ma rfl rfl rfl rfl ?_
  refine VO.nil ?_
  refine VC.seq ?_
  refine VC.sr ?_
  refine VO.mv rfl rfl rfl rfl ?_
  refine VO.val rfl rfl (OpV.lss rfl rfl rfl) ?_
  refine VO.nil ?_
  refine VC.cond rfl (fun h1b => ?_) (fun h1b => ?_)
  ·have h1 := h1b
   try simp only [qqT, qqF, qqN, qqM, qqL, qqE] at h1
   have hsl := slotF_of_neg (parts := parts) (later := later) h1
   rw [hsl] at k1 k2 k3
   refine VC.region ?_
   refine VO.mv rfl rfl rfl rfl ?_
   refine VO.mv rfl rfl rfl rfl ?_
   refine VO.mv rfl rfl rfl rfl ?_
   refine VO.op rfl (OpE.callL rfl hB rfl Tryz.call187 (setup_victim (by rw [hcl]; omega) hps.1 hl) (ArgsP.cons (ArgP.boxS (i := 0) rfl rfl hcl.symm hcap hmx) (ArgsP.cons (ArgP.ev rfl) (ArgsP.cons (ArgP.ev rfl) (ArgsP.nil)))) ?_)
   rintro _ rfl
   refine VO.ma rfl rfl rfl rfl ?_
   refine VO.nil ?_
   refine VC.region ?_
   refine VO.mv rfl rfl rfl rfl ?_
   refine VO.mv rfl rfl rfl rfl ?_
   refine VO.mv rfl rfl rfl rfl ?_
   refine VO.val rfl rfl (OpV.indexAddr_o rfl Tryz.underlying94 Tryz.sizeOf9 rfl rfl (Int.toNat_of_nonneg k1).symm (by omega)) ?_
   refine VO.op rfl (OpE.store1 (i := 0) rfl hB rfl Tryz.sizeOf9 rfl rfl rfl rfl rfl rfl (by rw [strsL_len]; omega) (strsL_set _ _ _) trivial ?_)
   refine VO.nil ?_
   refine VC.le _ (Le.boxRow (i := 0) (n := s.length) (sz := 1) (cap := cap) rfl (by rw [strsL_len, List.length_set]; omega) hcap hmx) ?_
   have e1 := nextL_take_succ (parts := parts) (later := later) (s := s) hq'
   rw [hsl] at e1
   refine VC.region ?_
   refine VO.val rfl rfl (OpV.add rfl rfl rfl (by unfold fits; omega)) ?_
   refine VO.mv rfl rfl rfl rfl ?_
   refine VO.nil ?_
   exact Exists.intro (⟨q + 1, by omega⟩) (And.intro (Le.mk hB [0] ⟨rfl, rfl, rfl, rfl, rfl, rfl, rfl, trivial⟩ rfl (by dsimp only; rw [e1]; first | rfl | (rw [hcl]; rfl)) (Nat.le_refl _)) (by first | omega | (show _ < _; omega) | (simp only []; omega)))
  ·have h1 := h1b
   try simp only [qqT, qqF, qqN, qqM, qqL, qqE] at h1
   have hsl := slotF_of_pos (parts := parts) (later := later) h1
   rw [hsl] at k1 k2 k3
   refine VC.skip ?_
   refine VC.region ?_
   refine VO.mv rfl rfl rfl rfl ?_
   refine VO.mv rfl rfl rfl rfl ?_
   refine VO.mv rfl rfl rfl rfl ?_
   refine VO.val rfl rfl (OpV.indexAddr_o rfl Tryz.underlying94 Tryz.sizeOf9 rfl rfl (Int.toNat_of_nonneg k1).symm (by omega)) ?_
   refine VO.op rfl (OpE.store1 (i := 0) rfl hB rfl Tryz.sizeOf9 rfl rfl rfl rfl rfl rfl (by rw [strsL_len]; omega) (strsL_set _ _ _) trivial ?_)
   refine VO.nil ?_
   refine VC.le _ (Le.boxRow (i := 0) (n := s.length) (sz := 1) (cap := cap) rfl (by rw [strsL_len, List.length_set]; omega) hcap hmx) ?_
   have e1 := nextL_take_succ (parts := parts) (later := later) (s := s) hq'
   rw [hsl] at e1
   refine VC.region ?_
   refine VO.val rfl rfl (OpV.add rfl rfl rfl (by unfold fits; omega)) ?_
   refine VO.mv rfl rfl rfl rfl ?_
   refine VO.nil ?_
   exact Exists.intro (⟨q + 1, by omega⟩) (And.intro (Le.mk hB [0] ⟨rfl, rfl, rfl, rfl, rfl, rfl, rfl, trivial⟩ rfl (by dsimp only; rw [e1]; first | rfl | (rw [hcl]; rfl)) (Nat.le_refl _)) (by first | omega | (show _ < _; omega) | (simp only []; omega)))
 ·have aH1 := aH1b
  try simp only [qqT, qqF, qqN, qqM, qqL, qqE] at aH1
  obtain rfl : q = (missF s parts).length := by omega
  refine VC.exit ?_
  refine VC.sr ?_
  refine VO.mv rfl rfl rfl rfl ?_
  refine VO.val rfl rfl (OpV.len_im rfl Tryz.underlying94 rfl) ?_
  refine VO.ma rfl rfl rfl rfl ?_
  refine VO.nil ?_
  refine VC.ret ?_
  exact Exists.intro _ (And.intro (RetV.one Tryz.results135 (ResV.tmp rfl)) (⟨rfl, by rw [nextF, List.take_length]; rfl⟩))
theorem SmSS.drop {p : List (List ByteArray)} (h : SmSS p) (k : Nat) : SmSS (p.drop k) := ⟨by have := h.1; simp; omega, fun i => by
 have : (p.drop k).getD i default = p.getD (k + i) default := by simp [List.getD_eq_getElem?_getD]
 rw [this]; exact h.2 _⟩
theorem SmSS.take {p : List (List ByteArray)} (h : SmSS p) (k : Nat) : SmSS (p.take k) := ⟨by have := h.1; simp; omega, fun i => by
 by_cases hi : i < k
 ·have : (p.take k).getD i default = p.getD i default := by simp [List.getD_eq_getElem?_getD, List.getElem?_take, hi]
  rw [this]; exact h.2 _
 ·have : (p.take k).getD i default = default := by simp [List.getD_eq_getElem?_getD, List.getElem?_take, hi]
  rw [this]; exact SmS.nil⟩
set_option maxRecDepth 100000 in
theorem setup_total {s : List ByteArray} {p : List (List ByteArray)} {most : Int} (hg : Good' s) (hp : ∀ q, q < p.length → RightP s.length (p.getD q default)) (hl : SmSS p) (hl2 : p.length ≤ 200) (hmost : -1000000 ≤ most ∧ most ≤ 1000000) :
  SpecN Tryz.prog 149 [avStrs s, avM p, avI most] (fun y => y = avI (totalF s p most)) := by
 have hls := hg.len
 refine SpecN.of_VCN Tryz.func149 rfl Tryz.ntmps149 (Nle rfl) fun w A hB => ?_
 have hnew : True := trivial
 refine VC.sr ?_
 refine VO.ma rfl rfl rfl rfl ?_
 refine VO.nil ?_
 refine VC.sr ?_
 refine VO.mv rfl rfl rfl rfl ?_
 refine VO.op rfl (OpE.callR rfl hB rfl Tryz.call130 (slices_CloneS_R (by omega)) (ArgsP.cons (ArgP.ev rfl) (ArgsP.nil)) ?_)
 intro u
 refine VO.ma rfl rfl rfl rfl ?_
 refine VO.nil ?_
 refine VC.sr ?_
 refine VO.ma rfl rfl rfl rfl ?_
 refine VO.nil ?_
 refine VC.seq ?_
 refine VC.sr ?_
 refine VO.mv rfl rfl rfl rfl ?_
 refine VO.val rfl rfl (OpV.len_im rfl Tryz.underlying91 rfl) ?_
 refine VO.mv rfl rfl rfl rfl ?_
 refine VO.nil ?_
 refine VC.block ?_
 refine VC.loopK [(0, _), (1, _), (2, _), (12, _), (13, _)] ⟨rfl, rfl, rfl, rfl, rfl, trivial⟩ ({q : Nat // q ≤ p.length ∧ (q = 0 ∨ totF s p q < most)}) (fun (iZ : {q : Nat // q ≤ p.length ∧ (q = 0 ∨ totF s p q < most)}) => match iZ with | ⟨q, hq, hlt⟩ => [(7, avI (totF s p q)), (14, avI (q : Int))]) (fun (iZ : {q : Nat // q ≤ p.length ∧ (q = 0 ∨ totF s p q < most)}) => match iZ with | ⟨q, hq, hlt⟩ => [.row u (stF s p q).length 1 (strsL (stF s p q)) 9]) (fun (iZ : {q : Nat // q ≤ p.length ∧ (q = 0 ∨ totF s p q < most)}) => match iZ with | ⟨q, hq, hlt⟩ => 0) (fun (iZ : {q : Nat // q ≤ p.length ∧ (q = 0 ∨ totF s p q < most)}) => match iZ with | ⟨q, hq, hlt⟩ => p.length - q) ⟨0, Nat.zero_le _, .inl rfl⟩ (Le.mk hB [0] ⟨rfl, rfl, rfl, rfl, rfl, rfl, rfl, trivial⟩ rfl rfl (Nat.le_refl _)) ?_
 rintro ⟨q, hq, hlt⟩
 show VC _ _ _ _ ⟨[(7, avI (totF s p q)), (14, avI (q : Int))] ++ [(0, _), (1, _), (2, _), (12, _), (13, _)], [.row u (stF s p q).length 1 (strsL (stF s p q)) 9], 0⟩
 refine VC.sr ?_
 refine VO.val rfl rfl (OpV.lss rfl rfl rfl) ?_
 refine VO.nil ?_
 refine VC.seq ?_
 refine VC.cond rfl (fun aH1b => ?_) (fun aH1b => ?_)
 ·have aH1 := aH1b
  try simp only [qqT, qqF, qqN, qqM, qqL, qqE] at aH1
  have hst := stF_good hg hp q (by omega)
  have hsl := stF_len s p q
  have hti := totF_in hls hp q (by omega)
  have hms := missF_len (stF s p q) (p.getD q default)
  have hpl := (hp q (by omega)).len
  refine VC.skip ?_
  refine VC.seq ?_
  refine VC.block ?_
  refine VC.sr ?_
  refine VO.mv rfl rfl rfl rfl ?_
  refine VO.val rfl rfl (OpV.indexAddr_1 rfl Tryz.underlying91 Tryz.sizeOf94 rfl rfl rfl (by omega)) ?_
  refine VO.val rfl rfl (OpV.load_at rfl hB OutW.no Tryz.isAgg94 rfl rfl) ?_
  refine VO.ma rfl rfl rfl rfl ?_
  refine VO.ma rfl rfl rfl rfl ?_
  refine VO.nil ?_
  refine VC.sr ?_
  refine VO.mv rfl rfl rfl rfl ?_
  refine VO.mv rfl rfl rfl rfl ?_
  refine VO.mv rfl rfl rfl rfl ?_
  refine VO.mv rfl rfl rfl rfl ?_
  refine VO.mv rfl rfl rfl rfl ?_
  refine VO.val rfl rfl (OpV.add rfl rfl rfl (by unfold fits; omega)) ?_
  refine VO.val rfl rfl (OpV.slice_M (l := q + 1) rfl Tryz.underlying91 Tryz.sizeOf94 rfl ⟨_, _, rfl, (by omega)⟩ rfl (by omega) (by omega)) ?_
  refine VO.op rfl (OpE.callH0 rfl hB rfl Tryz.call135 rfl rfl (setup_next hst (by rw [hsl]; exact hp q (by omega)) ((hl.take _).drop _)) (List.Perm.refl _) (fun _ _ => trivial) ?_)
  rintro _ _ ⟨rfl, rfl⟩
  refine VO.val rfl rfl (OpV.add rfl rfl rfl (by unfold fits; omega)) ?_
  refine VO.ma rfl rfl rfl rfl ?_
  refine VO.nil ?_
  refine VC.sr ?_
  refine VO.mv rfl rfl rfl rfl ?_
  refine VO.mv rfl rfl rfl rfl ?_
  refine VO.val rfl rfl (OpV.geq rfl rfl rfl) ?_
  refine VO.nil ?_
  refine VC.cond rfl (fun h1b => ?_) (fun h1b => ?_)
  ·have h1 := h1b
   try simp only [qqT, qqF, qqN, qqM, qqL, qqE] at h1
   have hmono := totF_mono (s := s) (p := p) (a := q + 1) (b := p.length) (by omega)
   have h1' : most ≤ totF s p (q + 1) := h1
   refine VC.sr ?_
   refine VO.mv rfl rfl rfl rfl ?_
   refine VO.ma rfl rfl rfl rfl ?_
   refine VO.nil ?_
   refine VC.ret ?_
   exact Exists.intro _ (And.intro (RetN.one Tryz.results149 (ResN.v rfl)) (by rw [totalF, if_neg (by omega), if_pos (by omega)]))
  ·have h1 := h1b
   try simp only [qqT, qqF, qqN, qqM, qqL, qqE] at h1
   refine VC.skip ?_
   refine VC.region ?_
   refine VO.val rfl rfl (OpV.add rfl rfl rfl (by unfold fits; omega)) ?_
   refine VO.mv rfl rfl rfl rfl ?_
   refine VO.nil ?_
   exact Exists.intro (⟨q + 1, by omega, .inr h1⟩) (And.intro (Le.mk hB [0] ⟨rfl, rfl, rfl, rfl, rfl, rfl, rfl, trivial⟩ rfl (by dsimp only; rw [List.take_length, show (stF s p (q + 1)).length = (stF s p q).length by rw [stF_len, stF_len]]; rfl) (Nat.le_refl _)) (by first | omega | (show _ < _; omega) | (simp only []; omega)))
 ·have aH1 := aH1b
  try simp only [qqT, qqF, qqN, qqM, qqL, qqE] at aH1
  obtain rfl : q = p.length := by omega
  refine VC.exit ?_
  refine VC.sr ?_
  refine VO.mv rfl rfl rfl rfl ?_
  refine VO.ma rfl rfl rfl rfl ?_
  refine VO.nil ?_
  refine VC.ret ?_
  exact Exists.intro _ (And.intro (RetN.one Tryz.results149 (ResN.v rfl)) (by rw [totalF]; split; (rw [show p.length = 0 by assumption]; rfl); rw [if_neg (by omega)]))
def totE (s : List ByteArray) (p : List (List ByteArray)) : Int := if setsF s p = 0 then totF s p p.length else 0
theorem setsF_zero {s : List ByteArray} {p : List (List ByteArray)} (h : setsF s p = 0) : setupF s = 0 ∧ Good' s ∧ p.length ≤ 200 ∧ (∀ q, q < p.length → RightP s.length (p.getD q default)) ∧ partsF s.length p = 0 := by
 rw [setsF] at h
 split at h
 ·rename_i h1; exact absurd h h1
 ·rename_i h1
  have h0 : setupF s = 0 := by omega
  exact ⟨h0, Good'.of h0, (partsF_zero h).2.1, fun q hq => RightP.of rfl h hq, h⟩
theorem totalF_big {s : List ByteArray} {p : List (List ByteArray)} (hs : s.length ≤ 100) (hl : p.length ≤ 200) (hp : ∀ q, q < p.length → RightP s.length (p.getD q default)) : totalF s p 20001 = totF s p p.length := by
 have := totF_in hs hp p.length (Nat.le_refl _)
 rw [totalF]
 split
 ·rename_i h; rw [h]; rfl
 ·rw [if_neg (by omega)]
set_option maxRecDepth 100000 in
theorem setup_Total {s : List ByteArray} {p : List (List ByteArray)} (hs : SmS s) (hl : SmSS p) :
  SpecN Tryz.prog 76 [avStrs s, avM p] (fun y => y = .tup [avI (totE s p), avI (setsF s p)]) := by
 refine SpecN.of_VCN Tryz.func76 rfl Tryz.ntmps76 (Nle rfl) fun w A hB => ?_
 have hnew : True := trivial
 refine VC.sr ?_
 refine VO.ma rfl rfl rfl rfl ?_
 refine VO.ma rfl rfl rfl rfl ?_
 refine VO.nil ?_
 refine VC.seq ?_
 refine VC.sr ?_
 refine VO.mv rfl rfl rfl rfl ?_
 refine VO.mv rfl rfl rfl rfl ?_
 refine VO.op rfl (OpE.call rfl hB rfl Tryz.call146 rfl (SpecN.spec (setup_fault hs hl)) ?_)
 rintro _ rfl
 refine VO.ma rfl rfl rfl rfl ?_
 refine VO.nil ?_
 refine VC.sr ?_
 refine VO.mv rfl rfl rfl rfl ?_
 refine VO.val rfl rfl (OpV.neq rfl rfl rfl) ?_
 refine VO.nil ?_
 refine VC.cond rfl (fun h0b => ?_) (fun h0b => ?_)
 ·have h0 := h0b
  try simp only [qqT, qqF, qqN, qqM, qqL, qqE] at h0
  refine VC.sr ?_
  refine VO.mv rfl rfl rfl rfl ?_
  refine VO.ma rfl rfl rfl rfl ?_
  refine VO.ma rfl rfl rfl rfl ?_
  refine VO.nil ?_
  refine VC.ret ?_
  exact Exists.intro _ (And.intro (RetN.two Tryz.results76 (ResN.v rfl) (ResN.v rfl)) (by rw [totE, if_neg h0]))
 ·have h0 := h0b
  try simp only [qqT, qqF, qqN, qqM, qqL, qqE] at h0
  obtain ⟨z1, z2, z3, z4, z5⟩ := setsF_zero (s := s) (p := p) (by omega)
  refine VC.skip ?_
  refine VC.sr ?_
  refine VO.mv rfl rfl rfl rfl ?_
  refine VO.mv rfl rfl rfl rfl ?_
  refine VO.op rfl (OpE.call rfl hB rfl Tryz.call149 rfl (SpecN.spec (setup_total z2 z4 hl z3 (by decide))) ?_)
  rintro _ rfl
  refine VO.ma rfl rfl rfl rfl ?_
  refine VO.ma rfl rfl rfl rfl ?_
  refine VO.nil ?_
  refine VC.ret ?_
  exact Exists.intro _ (And.intro (RetN.two Tryz.results76 (ResN.v rfl) (ResN.v rfl)) (by rw [totE, if_pos (by omega), totalF_big z2.len z3 z4, show setsF s p = 0 by omega]))
end Go.Proofs.YtplphabekhaoaaaGreatDoor
namespace Go.Proofs.YtplphabekhaoaaaGreatDoor
open Go.RowKit
set_option linter.unusedVariables false
set_option linter.unusedSimpArgs false
theorem two_sms {a b : List ByteArray} (ha : SmS a) (hb : SmS b) (q : Nat) : SmS ([a, b].getD q default) := by
 match q with
 | 0 => exact ha
 | 1 => exact hb
 | q + 2 => exact SmS.nil
set_option maxRecDepth 100000 in
theorem setup_Changes {a b : List ByteArray} (ha : SmS a) (hb : SmS b) :
  SpecH Tryz.prog 79 [avStrs a, avStrs b] [] (fun y hp' => ∃ u, y = .tup [.v u, avI (changesE a b)] ∧ hp' = [.row u ((changesF a b).length) (3) (rowL (changesF a b)) (175)]) := by
 have hl2 : [a, b].length = 2 := rfl
 refine SpecH.of_VC Tryz.func79 rfl Tryz.ntmps79 (Nle rfl) fun w A hB => ?_
 have hnew : True := trivial
 refine VC.sr ?_
 refine VO.ma rfl rfl rfl rfl ?_
 refine VO.ma rfl rfl rfl rfl ?_
 refine VO.nil ?_
 refine VC.seq ?_
 refine VC.sr ?_
 refine VO.mv rfl rfl rfl rfl ?_
 refine VO.mv rfl rfl rfl rfl ?_
 refine VO.op rfl (OpE.buildSlice (zc := #[.slice none 0 0, .slice none 0 0]) rfl hB rfl Tryz.underlying91 Tryz.sizeOf94 Tryz.zeroValue94 (by decide) (by decide) (by kernel_rfl) rfl rfl ?_)
 refine VO.le _ (Le.recast (t := 13) (y := avM [a, b]) rfl (fun w Z u h => Rep.listM (xs := [a, b]) rfl h)) ?_
 refine VO.val rfl rfl (OpV.len_im rfl Tryz.underlying91 rfl) ?_
 refine VO.mv rfl rfl rfl rfl ?_
 refine VO.nil ?_
 refine VC.block ?_
 refine VC.loopK [(0, _), (1, _), (13, _), (14, _)] ⟨rfl, rfl, rfl, rfl, trivial⟩ ({q : Nat // q ≤ [a, b].length ∧ ∀ j, j < q → setupF ([a, b].getD j default) = 0}) (fun (iZ : {q : Nat // q ≤ [a, b].length ∧ ∀ j, j < q → setupF ([a, b].getD j default) = 0}) => match iZ with | ⟨q, hq, hn⟩ => [(15, avI (q : Int))]) (fun (iZ : {q : Nat // q ≤ [a, b].length ∧ ∀ j, j < q → setupF ([a, b].getD j default) = 0}) => match iZ with | ⟨q, hq, hn⟩ => []) (fun (iZ : {q : Nat // q ≤ [a, b].length ∧ ∀ j, j < q → setupF ([a, b].getD j default) = 0}) => match iZ with | ⟨q, hq, hn⟩ => 0) (fun (iZ : {q : Nat // q ≤ [a, b].length ∧ ∀ j, j < q → setupF ([a, b].getD j default) = 0}) => match iZ with | ⟨q, hq, hn⟩ => [a, b].length - q) ⟨0, Nat.zero_le _, fun j hj => absurd hj (Nat.not_lt_zero j)⟩ (Le.mk hB [] ⟨rfl, rfl, rfl, rfl, rfl, trivial⟩ rfl rfl (Nat.le_refl _)) ?_
 rintro ⟨q, hq, hn⟩
 show VC _ _ _ _ ⟨[(15, avI (q : Int))] ++ [(0, _), (1, _), (13, _), (14, _)], [], 0⟩
 refine VC.sr ?_
 refine VO.val rfl rfl (OpV.lss rfl rfl rfl) ?_
 refine VO.nil ?_
 refine VC.seq ?_
 refine VC.cond rfl (fun aH1b => ?_) (fun aH1b => ?_)
 ·have aH1 := aH1b
  try simp only [qqT, qqF, qqN, qqM, qqL, qqE] at aH1
  refine VC.skip ?_
  refine VC.seq ?_
  refine VC.block ?_
  refine VC.sr ?_
  refine VO.val rfl rfl (OpV.indexAddr_1 rfl Tryz.underlying91 Tryz.sizeOf94 rfl rfl rfl (by omega)) ?_
  refine VO.val rfl rfl (OpV.load_at rfl hB OutW.no Tryz.isAgg94 rfl rfl) ?_
  refine VO.ma rfl rfl rfl rfl ?_
  refine VO.nil ?_
  refine VC.sr ?_
  refine VO.mv rfl rfl rfl rfl ?_
  refine VO.op rfl (OpE.call rfl hB rfl Tryz.call80 rfl (SpecN.spec (setup_CheckSetup (two_sms ha hb _))) ?_)
  rintro _ rfl
  refine VO.ma rfl rfl rfl rfl ?_
  refine VO.nil ?_
  refine VC.sr ?_
  refine VO.mv rfl rfl rfl rfl ?_
  refine VO.val rfl rfl (OpV.neq rfl rfl rfl) ?_
  refine VO.nil ?_
  refine VC.cond rfl (fun h1b => ?_) (fun h1b => ?_)
  ·have h1 := h1b
   try simp only [qqT, qqF, qqN, qqM, qqL, qqE] at h1
   have he : changesE a b = setupF ([a, b].getD q default) := by
    have hq2 : q = 0 ∨ q = 1 := by omega
    rcases hq2 with rfl | rfl
    ·have h1' : setupF a ≠ 0 := h1
     rw [changesE, if_pos h1']; rfl
    ·have h1' : setupF b ≠ 0 := h1
     have h0' : setupF a = 0 := hn 0 (by omega)
     rw [changesE, if_neg (fun h => h h0'), if_pos h1']; rfl
   have hcf : changesF a b = [] := by rw [changesF, if_neg (by rw [he]; exact h1)]
   rw [hcf, he]
   refine VC.sr ?_
   refine VO.mv rfl rfl rfl rfl ?_
   refine VO.ma rfl rfl rfl rfl ?_
   refine VO.ma rfl rfl rfl rfl ?_
   refine VO.nil ?_
   refine VC.le _ (Le.nilRow 3 175) ?_
   refine VC.le ⟨[(4, _), (5, _)], [_], 0⟩ (Le.pick hB [0] ⟨rfl, rfl, trivial⟩ rfl rfl (Nat.le_refl _)) ?_
   refine VC.ret ?_
   exact Exists.intro _ (And.intro (RetV.two Tryz.results79 (ResV.tmp rfl) (ResV.tmp rfl)) (⟨_, rfl, rfl⟩))
  ·have h1 := h1b
   try simp only [qqT, qqF, qqN, qqM, qqL, qqE] at h1
   refine VC.skip ?_
   refine VC.region ?_
   refine VO.val rfl rfl (OpV.add rfl rfl rfl (by unfold fits; omega)) ?_
   refine VO.mv rfl rfl rfl rfl ?_
   refine VO.nil ?_
   exact Exists.intro (⟨q + 1, by omega, lt_succ_cases hn (by omega)⟩) (And.intro (Le.mk hB [] ⟨rfl, rfl, rfl, rfl, rfl, trivial⟩ rfl rfl (Nat.le_refl _)) (by first | omega | (show _ < _; omega) | (simp only []; omega)))
 ·have aH1 := aH1b
  try simp only [qqT, qqF, qqN, qqM, qqL, qqE] at aH1
  have e0 : setupF a = 0 := hn 0 (by omega)
  have e1 : setupF b = 0 := hn 1 (by omega)
  refine VC.exit ?_
  refine VC.seq ?_
  refine VC.sr ?_
  refine VO.mv rfl rfl rfl rfl ?_
  refine VO.val rfl rfl (OpV.len_im rfl Tryz.underlying94 rfl) ?_
  refine VO.mv rfl rfl rfl rfl ?_
  refine VO.val rfl rfl (OpV.len_im rfl Tryz.underlying94 rfl) ?_
  refine VO.val rfl rfl (OpV.neq rfl rfl rfl) ?_
  refine VO.nil ?_
  refine VC.cond rfl (fun h2b => ?_) (fun h2b => ?_)
  ·have h2 := h2b
   try simp only [qqT, qqF, qqN, qqM, qqL, qqE] at h2
   have he : changesE a b = 3 := by rw [changesE, if_neg (by omega), if_neg (by omega), if_pos (by omega)]
   have hcf : changesF a b = [] := by rw [changesF, if_neg (by rw [he]; decide)]
   rw [hcf, he]
   refine VC.sr ?_
   refine VO.ma rfl rfl rfl rfl ?_
   refine VO.ma rfl rfl rfl rfl ?_
   refine VO.nil ?_
   refine VC.le _ (Le.nilRow 3 175) ?_
   refine VC.le ⟨[(4, _), (5, _)], [_], 0⟩ (Le.pick hB [0] ⟨rfl, rfl, trivial⟩ rfl rfl (Nat.le_refl _)) ?_
   refine VC.ret ?_
   exact Exists.intro _ (And.intro (RetV.two Tryz.results79 (ResV.tmp rfl) (ResV.tmp rfl)) (⟨_, rfl, rfl⟩))
  ·have h2 := h2b
   try simp only [qqT, qqF, qqN, qqM, qqL, qqE] at h2
   have he : changesE a b = 0 := by rw [changesE, if_neg (by omega), if_neg (by omega), if_neg (by omega)]
   have hcf : changesF a b = chgF a b a.length := by rw [changesF, if_pos he]
   rw [hcf, he]
   have hla := ha.1
   refine VC.skip ?_
   refine VC.sr ?_
   refine VO.ma rfl rfl rfl rfl ?_
   refine VO.nil ?_
   refine VC.seq ?_
   refine VC.sr ?_
   refine VO.mv rfl rfl rfl rfl ?_
   refine VO.val rfl rfl (OpV.len_im rfl Tryz.underlying94 rfl) ?_
   refine VO.mv rfl rfl rfl rfl ?_
   refine VO.nil ?_
   refine VC.block ?_
   refine VC.le _ (Le.nilRow 3 175) ?_
   refine VC.loopK [(0, _), (1, _), (31, _)] ⟨rfl, rfl, rfl, trivial⟩ ({zz : Value × Nat // zz.2 ≤ a.length}) (fun (iZ : {zz : Value × Nat // zz.2 ≤ a.length}) => match iZ with | ⟨⟨u, r⟩, hq1⟩ => [(9, .v u), (32, avI (r : Int))]) (fun (iZ : {zz : Value × Nat // zz.2 ≤ a.length}) => match iZ with | ⟨⟨u, r⟩, hq1⟩ => [.row u (chgF a b r).length 3 (rowL (chgF a b r)) 175]) (fun (iZ : {zz : Value × Nat // zz.2 ≤ a.length}) => match iZ with | ⟨⟨u, r⟩, hq1⟩ => 0) (fun (iZ : {zz : Value × Nat // zz.2 ≤ a.length}) => match iZ with | ⟨⟨u, r⟩, hq1⟩ => a.length - r) ⟨(.slice none 0 0, 0), Nat.zero_le _⟩ (Le.mk hB [0] ⟨rfl, rfl, rfl, rfl, rfl, trivial⟩ rfl rfl (Nat.le_refl _)) ?_
   rintro ⟨⟨u, r⟩, hq1⟩
   show VC _ _ _ _ ⟨[(9, .v u), (32, avI (r : Int))] ++ [(0, _), (1, _), (31, _)], [.row u (chgF a b r).length 3 (rowL (chgF a b r)) 175], 0⟩
   simp only at hq1
   refine VC.sr ?_
   refine VO.val rfl rfl (OpV.lss rfl rfl rfl) ?_
   refine VO.nil ?_
   refine VC.seq ?_
   refine VC.cond rfl (fun aH1b => ?_) (fun aH1b => ?_)
   ·have aH1 := aH1b
    try simp only [qqT, qqF, qqN, qqM, qqL, qqE] at aH1
    refine VC.skip ?_
    refine VC.seq ?_
    refine VC.block ?_
    refine VC.sr ?_
    refine VO.mv rfl rfl rfl rfl ?_
    refine VO.ma rfl rfl rfl rfl ?_
    refine VO.nil ?_
    refine VC.seq ?_
    refine VC.draw (fun _ => NoB) hB (by kernel_rfl) ?_
    refine VA.take (i := 0) rfl (by kernel_rfl) (by kernel_rfl) (by kernel_rfl) rfl rfl (OpV.move (.inl rfl) rfl) ?_
    refine VA.take (i := 1) rfl (by kernel_rfl) (by kernel_rfl) (by kernel_rfl) rfl rfl (OpV.move (.inl rfl) rfl) ?_
    refine VA.take (i := 2) rfl (by kernel_rfl) (by kernel_rfl) (by kernel_rfl) rfl rfl (OpV.indexAddr_1 rfl Tryz.underlying94 Tryz.sizeOf9 rfl rfl rfl (by omega)) ?_
    refine VA.take (i := 3) rfl (by kernel_rfl) (by kernel_rfl) (by kernel_rfl) rfl rfl (OpV.load_at rfl hB OutW.wi0 Tryz.isAgg9 rfl rfl) ?_
    refine VA.take (i := 4) rfl (by kernel_rfl) (by kernel_rfl) (by kernel_rfl) rfl rfl (OpV.move (.inl rfl) rfl) ?_
    refine VA.take (i := 5) rfl (by kernel_rfl) (by kernel_rfl) (by kernel_rfl) rfl rfl (OpV.move (.inl rfl) rfl) ?_
    refine VA.take (i := 6) rfl (by kernel_rfl) (by kernel_rfl) (by kernel_rfl) rfl rfl (OpV.indexAddr_1 rfl Tryz.underlying94 Tryz.sizeOf9 rfl rfl rfl (by omega)) ?_
    refine VA.take (i := 7) rfl (by kernel_rfl) (by kernel_rfl) (by kernel_rfl) rfl rfl (OpV.load_at rfl hB OutW.wi0 Tryz.isAgg9 rfl rfl) ?_
    refine VA.take (i := 8) rfl (by kernel_rfl) (by kernel_rfl) (by kernel_rfl) rfl rfl (OpV.sneq rfl rfl rfl) ?_
    refine VA.done (by kernel_rfl) ?_
    refine VC.cond rfl (fun h4b => ?_) (fun h4b => ?_)
    ·have h4 := h4b
     try simp only [qqT, qqF, qqN, qqM, qqL, qqE] at h4
     have e4 := chgF_yes (a := a) (b := b) (q := r) h4
     have hm1 := chgF_len a b r
     refine VC.draw (fun j b => j = 12 ∧ u.ownBlock = some b) hB (by kernel_rfl) ?_
     refine VA.take (i := 0) rfl (by kernel_rfl) (by kernel_rfl) (by kernel_rfl) rfl rfl (OpV.move (.inl rfl) rfl) ?_
     refine VA.take (i := 1) rfl (by kernel_rfl) (by kernel_rfl) (by kernel_rfl) rfl rfl (OpV.move (.inl rfl) rfl) ?_
     refine VA.take (i := 2) rfl (by kernel_rfl) (by kernel_rfl) (by kernel_rfl) rfl rfl (OpV.move (.inl rfl) rfl) ?_
     refine VA.take (i := 3) rfl (by kernel_rfl) (by kernel_rfl) (by kernel_rfl) rfl rfl (OpV.move (.inl rfl) rfl) ?_
     refine VA.take (i := 4) rfl (by kernel_rfl) (by kernel_rfl) (by kernel_rfl) rfl rfl (OpV.indexAddr_1 rfl Tryz.underlying94 Tryz.sizeOf9 rfl rfl rfl (by omega)) ?_
     refine VA.take (i := 5) rfl (by kernel_rfl) (by kernel_rfl) (by kernel_rfl) rfl rfl (OpV.load_at rfl hB (by first | exact OutW.wiU (k := 0) rfl) Tryz.isAgg9 rfl rfl) ?_
     refine VA.take (i := 6) rfl (by kernel_rfl) (by kernel_rfl) (by kernel_rfl) rfl rfl (OpV.move (.inl rfl) rfl) ?_
     refine VA.take (i := 7) rfl (by kernel_rfl) (by kernel_rfl) (by kernel_rfl) rfl rfl (OpV.move (.inl rfl) rfl) ?_
     refine VA.take (i := 8) rfl (by kernel_rfl) (by kernel_rfl) (by kernel_rfl) rfl rfl (OpV.indexAddr_1 rfl Tryz.underlying94 Tryz.sizeOf9 rfl rfl rfl (by omega)) ?_
     refine VA.take (i := 9) rfl (by kernel_rfl) (by kernel_rfl) (by kernel_rfl) rfl rfl (OpV.load_at rfl hB (by first | exact OutW.wiU (k := 0) rfl) Tryz.isAgg9 rfl rfl) ?_
     refine VA.take (i := 10) rfl (by kernel_rfl) (by kernel_rfl) (by kernel_rfl) rfl rfl (OpV.build (pls := #[(0, 1), (1, 1), (2, 1)]) rfl Tryz.zeroValue175 Tryz.underlying175 (fun w => by kernel_rfl) rfl rfl) ?_
     refine VA.all (rs := [11]) (by kernel_rfl) (by decide) ?_
     refine ⟨⟨_, rfl, .inl rfl, ?_⟩, trivial⟩
     refine OpE.buildSlice (zc := #[.int .i64 0, .string ⟨#[]⟩, .string ⟨#[]⟩]) rfl hB rfl Tryz.underlying116 Tryz.sizeOf175 Tryz.zeroValue175 (by decide) (by decide) (by kernel_rfl) rfl rfl ?_
     refine VA.all (rs := [12]) (by kernel_rfl) (by decide) ?_
     refine ⟨⟨_, rfl, .inl rfl, ?_⟩, trivial⟩
     refine OpE.append1 (i := 0) rfl hB rfl Tryz.underlying116 (infoOf Tryz.t175 3 (by kernel_rfl) rfl rfl) rfl (by decide) (by decide) rfl rfl rfl rfl (rowL_snoc (chgF a b r) (⟨(r : Int), a.getD r ByteArray.empty, b.getD r ByteArray.empty⟩ : ChgS)) (by omega) (fun _ h => ⟨rfl, h⟩) ?_
     intro u2
     refine VA.take (i := 13) rfl (by kernel_rfl) (by kernel_rfl) (by kernel_rfl) rfl rfl (OpV.move (.inr rfl) rfl) ?_
     refine VA.done (by kernel_rfl) ?_
     refine VC.region ?_
     refine VO.val rfl rfl (OpV.add rfl rfl rfl (by unfold fits; omega)) ?_
     refine VO.mv rfl rfl rfl rfl ?_
     refine VO.nil ?_
     exact Exists.intro (⟨(u2, r + 1), by show _ ≤ _; omega⟩) (And.intro (Le.mk hB [0] ⟨rfl, rfl, rfl, rfl, rfl, trivial⟩ rfl (by dsimp only; first | (rw [e4]; rfl) | (rw [e4, List.length_append]; rfl)) (Nat.le_refl _)) (by first | omega | (show _ < _; omega) | (simp only []; omega)))
    ·have h4 := h4b
     try simp only [qqT, qqF, qqN, qqM, qqL, qqE] at h4
     have e4 := chgF_no (a := a) (b := b) (q := r) h4
     refine VC.skip ?_
     refine VC.region ?_
     refine VO.val rfl rfl (OpV.add rfl rfl rfl (by unfold fits; omega)) ?_
     refine VO.mv rfl rfl rfl rfl ?_
     refine VO.nil ?_
     exact Exists.intro (⟨(u, r + 1), by show _ ≤ _; omega⟩) (And.intro (Le.mk hB [0] ⟨rfl, rfl, rfl, rfl, rfl, trivial⟩ rfl (by dsimp only; first | (rw [e4]; rfl) | (rw [e4, List.length_append]; rfl)) (Nat.le_refl _)) (by first | omega | (show _ < _; omega) | (simp only []; omega)))
   ·have aH1 := aH1b
    try simp only [qqT, qqF, qqN, qqM, qqL, qqE] at aH1
    obtain rfl : r = a.length := by omega
    refine VC.exit ?_
    refine VC.sr ?_
    refine VO.mv rfl rfl rfl rfl ?_
    refine VO.ma rfl rfl rfl rfl ?_
    refine VO.ma rfl rfl rfl rfl ?_
    refine VO.nil ?_
    refine VC.le ⟨[(4, _), (5, _)], [_], 0⟩ (Le.pick hB [0] ⟨rfl, rfl, trivial⟩ rfl rfl (Nat.le_refl _)) ?_
    refine VC.ret ?_
    exact Exists.intro _ (And.intro (RetV.two Tryz.results79 (ResV.tmp rfl) (ResV.tmp rfl)) (⟨_, rfl, rfl⟩))
theorem changesF_len (a b : List ByteArray) : (changesF a b).length ≤ a.length := by
 unfold changesF
 split
 ·exact chgF_len _ _ _
 ·simp
theorem loadN_take {l : List ChgS} {q : Nat} (h : q < l.length) : loadN (l.take (q + 1)) = loadN (l.take q) + (if sEq (l.getD q default).inn ε = true then 0 else 1) := by
 rw [take_succ_getD (d := default) h, loadN_snoc]
theorem loadN_in : ∀ l : List ChgS, 0 ≤ loadN l ∧ loadN l ≤ l.length
 | [] => by simp [loadN]
 | c :: r => by have := loadN_in r; simp only [loadN, List.length_cons]; split <;> omega
set_option maxRecDepth 100000 in
theorem setup_Loads {a b : List ByteArray} (ha : SmS a) (hb : SmS b) :
  SpecN Tryz.prog 63 [avStrs a, avStrs b] (fun y => y = .tup [avI (loadN (changesF a b)), avI (changesE a b)]) := by
 have hla := ha.1
 have hcl := changesF_len a b
 refine SpecN.of_VCN Tryz.func63 rfl Tryz.ntmps63 (Nle rfl) fun w A hB => ?_
 have hnew : True := trivial
 refine VC.sr ?_
 refine VO.ma rfl rfl rfl rfl ?_
 refine VO.ma rfl rfl rfl rfl ?_
 refine VO.nil ?_
 refine VC.sr ?_
 refine VO.mv rfl rfl rfl rfl ?_
 refine VO.mv rfl rfl rfl rfl ?_
 refine VO.op rfl (OpE.callH (hp := []) (rest := _) rfl hB rfl Tryz.call79 rfl rfl (setup_Changes ha hb) (List.Perm.refl _) (fun _ h => by obtain ⟨e, he, _⟩ := h; cases he) ?_)
 rintro _ _ ⟨u14, rfl, rfl⟩
 refine VO.mv rfl rfl rfl rfl ?_
 refine VO.val rfl rfl (OpV.extract rfl rfl rfl) ?_
 refine VO.le _ (Le.rowT (t := 15) (i := 0) hB hnew rfl rfl (by first | rfl | simp)) ?_
 refine VO.val rfl rfl (OpV.extract rfl rfl rfl) ?_
 refine VO.ma rfl rfl rfl rfl ?_
 refine VO.ma rfl rfl rfl rfl ?_
 refine VO.nil ?_
 refine VC.sr ?_
 refine VO.ma rfl rfl rfl rfl ?_
 refine VO.nil ?_
 refine VC.seq ?_
 refine VC.sr ?_
 refine VO.mv rfl rfl rfl rfl ?_
 refine VO.val rfl rfl (OpV.len_im rfl Tryz.underlying116 rfl) ?_
 refine VO.mv rfl rfl rfl rfl ?_
 refine VO.nil ?_
 refine VC.block ?_
 refine VC.loopK [(7, _), (17, _), (18, _)] ⟨rfl, rfl, rfl, trivial⟩ ({q : Nat // q ≤ (changesF a b).length}) (fun (iZ : {q : Nat // q ≤ (changesF a b).length}) => match iZ with | ⟨q, hq⟩ => [(8, avI (loadN ((changesF a b).take q))), (19, avI (q : Int))]) (fun (iZ : {q : Nat // q ≤ (changesF a b).length}) => match iZ with | ⟨q, hq⟩ => []) (fun (iZ : {q : Nat // q ≤ (changesF a b).length}) => match iZ with | ⟨q, hq⟩ => 0) (fun (iZ : {q : Nat // q ≤ (changesF a b).length}) => match iZ with | ⟨q, hq⟩ => (changesF a b).length - q) ⟨0, Nat.zero_le _⟩ (Le.mk hB [] ⟨rfl, rfl, rfl, rfl, rfl, trivial⟩ rfl rfl (Nat.le_refl _)) ?_
 rintro ⟨q, hq⟩
 show VC _ _ _ _ ⟨[(8, avI (loadN ((changesF a b).take q))), (19, avI (q : Int))] ++ [(7, _), (17, _), (18, _)], [], 0⟩
 refine VC.sr ?_
 refine VO.val rfl rfl (OpV.lss rfl rfl rfl) ?_
 refine VO.nil ?_
 refine VC.seq ?_
 refine VC.cond rfl (fun aH1b => ?_) (fun aH1b => ?_)
 ·have aH1 := aH1b
  try simp only [qqT, qqF, qqN, qqM, qqL, qqE] at aH1
  have hli := loadN_in ((changesF a b).take q)
  have hlt : ((changesF a b).take q).length ≤ q := by simp; omega
  refine VC.skip ?_
  refine VC.seq ?_
  refine VC.block ?_
  refine VC.sr ?_
  refine VO.val rfl rfl (OpV.indexAddr_E rfl Tryz.underlying116 Tryz.sizeOf175 rfl rfl rfl (by omega)) ?_
  refine VO.val rfl rfl (OpV.loadK_at rfl hB OutW.no Tryz.isAgg175 Tryz.sizeOf175 rfl rfl) ?_
  refine VO.op rfl (OpE.alloc rfl hB rfl Tryz.zeroValue175 rfl ?_)
  intro g10
  refine VO.op rfl (OpE.store (i := 0) rfl hB rfl Tryz.sizeOf175 rfl rfl rfl rfl rfl rfl (Nle rfl) trivial ?_)
  refine VO.nil ?_
  refine VC.sr ?_
  refine VO.val rfl rfl (OpV.fieldAddrO 2 rfl Tryz.underlying175 rfl rfl Tryz.sizeOf9 rfl) ?_
  refine VO.val rfl rfl (OpV.load_own (i := 0) rfl hB Tryz.isAgg9 rfl rfl rfl (fun h => h)) ?_
  refine VO.val rfl rfl (OpV.sneq rfl rfl rfl) ?_
  refine VO.nil ?_
  refine VC.cond rfl (fun h1b => ?_) (fun h1b => ?_)
  ·have h1 := h1b
   try simp only [qqT, qqF, qqN, qqM, qqL, qqE] at h1
   refine VC.region ?_
   refine VO.mv rfl rfl rfl rfl ?_
   refine VO.val rfl rfl (OpV.add rfl rfl rfl (by unfold fits; omega)) ?_
   refine VO.ma rfl rfl rfl rfl ?_
   refine VO.nil ?_
   refine VC.region ?_
   refine VO.val rfl rfl (OpV.add rfl rfl rfl (by unfold fits; omega)) ?_
   refine VO.mv rfl rfl rfl rfl ?_
   refine VO.nil ?_
   exact Exists.intro (⟨q + 1, by omega⟩) (And.intro (Le.mk hB [] ⟨(by dsimp only; rw [loadN_take (by omega)]; first | (rw [if_neg (by simp_all)]; rfl) | (rw [if_pos (by simp_all)]; rw [Int.add_zero]; rfl)), rfl, rfl, rfl, rfl, trivial⟩ rfl rfl (Nat.le_refl _)) (by first | omega | (show _ < _; omega) | (simp only []; omega)))
  ·have h1 := h1b
   try simp only [qqT, qqF, qqN, qqM, qqL, qqE] at h1
   refine VC.skip ?_
   refine VC.region ?_
   refine VO.val rfl rfl (OpV.add rfl rfl rfl (by unfold fits; omega)) ?_
   refine VO.mv rfl rfl rfl rfl ?_
   refine VO.nil ?_
   exact Exists.intro (⟨q + 1, by omega⟩) (And.intro (Le.mk hB [] ⟨(by dsimp only; rw [loadN_take (by omega)]; first | (rw [if_neg (by simp_all)]; rfl) | (rw [if_pos (by simp_all)]; rw [Int.add_zero]; rfl)), rfl, rfl, rfl, rfl, trivial⟩ rfl rfl (Nat.le_refl _)) (by first | omega | (show _ < _; omega) | (simp only []; omega)))
 ·have aH1 := aH1b
  try simp only [qqT, qqF, qqN, qqM, qqL, qqE] at aH1
  refine VC.exit ?_
  refine VC.sr ?_
  refine VO.mv rfl rfl rfl rfl ?_
  refine VO.mv rfl rfl rfl rfl ?_
  refine VO.ma rfl rfl rfl rfl ?_
  refine VO.ma rfl rfl rfl rfl ?_
  refine VO.nil ?_
  refine VC.ret ?_
  exact Exists.intro _ (And.intro (RetN.two Tryz.results63 (ResN.v rfl) (ResN.v rfl)) (by rw [List.take_of_length_le (by omega)]))

def loadS : List ByteArray := [ε]
def loadP : List (List ByteArray) := [[⟨#[97]⟩], [⟨#[98]⟩]]
theorem load_sms : SmS loadS := ⟨by decide, fun i => by cases i with | zero => decide | succ i => simp [loadS]⟩
theorem load_smss : SmSS loadP := ⟨by decide, fun i => by
 match i with
 | 0 => exact ⟨by decide, fun i => by cases i with | zero => decide | succ i => simp [loadP]⟩
 | 1 => exact ⟨by decide, fun i => by cases i with | zero => decide | succ i => simp [loadP]⟩
 | i + 2 => exact SmS.nil⟩
theorem load_ok : setsF loadS loadP = 0 := by decide +kernel
theorem load_two : totE loadS loadP = 2 := by decide +kernel

end Go.Proofs.YtplphabekhaoaaaGreatDoor
namespace Go.Proofs.YtplphabekhaoaaaGreatDoor
open Go.RowKit
set_option linter.unusedVariables false
set_option linter.unusedSimpArgs false

section
variable {P : Program} {α : Type} [Enc α]

theorem append1_run (w : World) (c1 : Array Value) (T ty e : TypeId) (i : TypeInfo) (z : Value) (bytes : Nat) (h1 : P.underlying T = some (.slice e)) (h2 : P.info? e = some i)
    (h3 : i.zero = some z) (h4 : i.size = Enc.sz α) (h5 : i.bytes = bytes) (hz : z.cells.size = Enc.sz α) (hby : bytes ≤ 4096)
    (lo : Nat) (v : Value) (xs : List α) (y : α) (hown : Own w lo e v xs) (hlo : lo ≤ w.heap.size) (hlen : xs.length ≤ 1000000000)
    (hy : Enc.Is w (fun k => lo ≤ k ∧ v.ownBlock ≠ some k) y (fun j => c1[j]?)) (hc1 : c1.size = Enc.sz α) :
    ∃ g cap w', (Builtin.append_ #[T, T] ty #[v, .slice (some ⟨w.heap.size, 0, none⟩) 1 1]).run P (w.alloc (.cells c1 e)) = .ok (.slice (some ⟨g, 0, none⟩) (xs.length + 1) cap) w' ∧
      Own w' lo e (.slice (some ⟨g, 0, none⟩) (xs.length + 1) cap) (xs ++ [y]) ∧ Chg (blk v) w w' ∧ (v.ownBlock = some g ∨ w.heap.size ≤ g) ∧ lo ≤ g := by
  obtain ⟨cs, hrow, hel⟩ := hown
  have hsz : 0 < Enc.sz α := Enc.pos
  have hnews : ∀ j u, c1.toList[j]? = some u → (w.alloc (.cells c1 e)).cell? ((⟨w.heap.size, 0, none⟩ : Addr).add j) = some u := by
    intro j u hu
    have hadd : (⟨w.heap.size, 0, none⟩ : Addr).add j = ⟨w.heap.size, j, none⟩ := by unfold Addr.add; split <;> simp_all
    rw [hadd, cell_of_row _ w.heap.size j c1 e (0, 0) (heap_alloc_new w _)]
    simpa using hu
  have hone : ∀ u ∈ c1.toList, u.oneCell' = true := by
    intro u hu
    obtain ⟨j, hj, rfl⟩ := List.mem_iff_getElem.1 hu
    obtain ⟨u', h', h''⟩ := Enc.one hy j (by simpa [hc1] using hj)
    simp at hj
    simp [hj] at h'
    simpa [h'] using h''
  have hl1 : c1.toList.length = 1 * i.size := by simp [hc1, h4]
  have hlen' : (cs ++ c1.toList).length = (xs.length + 1) * Enc.sz α := by rw [List.length_append, hrow.1, Nat.add_mul]; simp [hc1]
  have hl2 : (xs ++ [y]).length = xs.length + 1 := by simp
  have hmx : xs.length + 1 ≤ maxLen := by simp only [maxLen]; omega
  have hb47 : (xs.length + 1) * i.bytes ≤ 140737488355328 := by
    rw [h5]
    exact Nat.le_trans (Nat.mul_le_mul_left _ hby) (by omega)
  -- the elements behind the step, whatever block they end in
  have helem : ∀ (w' : World) (g cap : Nat), Chg (blk v) w w' → (v.ownBlock = some g ∨ w.heap.size ≤ g) →
      ∀ j, (h : j < (xs ++ [y]).length) → Enc.Is w' (fun k => lo ≤ k ∧ (Value.slice (some ⟨g, 0, none⟩) (xs.length + 1) cap).ownBlock ≠ some k) (xs ++ [y])[j] (fun q => (cs ++ c1.toList)[j * Enc.sz α + q]?) := by
    intro w' g cap hch hg j hj
    have hA : ∀ k, ((lo ≤ k ∧ v.ownBlock ≠ some k) ∧ k < w.heap.size) → (lo ≤ k ∧ (Value.slice (some ⟨g, 0, none⟩) (xs.length + 1) cap).ownBlock ≠ some k) := by
      intro k hk
      refine ⟨hk.1.1, ?_⟩
      simp only [Value.ownBlock, ne_eq, Option.some.injEq]
      rintro rfl
      rcases hg with hg | hg
      · exact hk.1.2 hg
      · omega
    have hgo : ∀ (x : α) (f : Nat → Option Value), Enc.Is w (fun k => lo ≤ k ∧ v.ownBlock ≠ some k) x f →
        Enc.Is w' (fun k => lo ≤ k ∧ (Value.slice (some ⟨g, 0, none⟩) (xs.length + 1) cap).ownBlock ≠ some k) x f := by
      intro x f hx
      exact Enc.low (Enc.keep (Enc.low (A' := fun k => (lo ≤ k ∧ v.ownBlock ≠ some k) ∧ k < w.heap.size) hx fun k hk hl => ⟨hk, hl⟩) hch fun k hk hl => hk.1.2) fun k hk _ => hA k hk
    by_cases hjx : j < xs.length
    · rw [List.getElem_append_left hjx]
      refine hgo _ _ (Enc.ext (hel j hjx) fun q hq => ?_)
      have : j * Enc.sz α + q < cs.length := by
        rw [hrow.1]
        have := Nat.mul_le_mul_right (Enc.sz α) (show j + 1 ≤ xs.length from hjx)
        rw [Nat.add_mul] at this; omega
      rw [List.getElem?_append_left this]
    · obtain rfl : j = xs.length := by simp at hj; omega
      rw [List.getElem_append_right (by omega)]
      simp only [Nat.sub_self, List.getElem_cons_zero]
      refine hgo _ _ (Enc.ext hy fun q hq => ?_)
      rw [List.getElem?_append_right (by rw [hrow.1]; omega), hrow.1, Nat.add_sub_cancel_left]
      simp
  rcases hrow.2 with ⟨rfl, h0⟩ | ⟨g, cap, cur, rfl, hbg, hg, hnc, hcm, hcs, htake⟩
  · have hx : xs = [] := List.eq_nil_of_length_eq_zero h0
    subst hx
    have hcs0 : cs = [] := List.eq_nil_of_length_eq_zero (by simpa using hrow.1)
    subst hcs0
    have hr := run_append_nil (P := P) (w.alloc (.cells c1 e)) T ty e i z h1 h2 h3 ⟨w.heap.size, 0, none⟩ 1 1 c1.toList hl1 hnews (by omega) (by omega) (by have := hb47; simp at this; omega)
    have hge := grownCap_ge (w.alloc (.cells c1 e)) 1 0 e
    have hcm := grownCap_le_maxLen (w.alloc (.cells c1 e)) 1 0 e (by simp [maxLen])
    have hch : Chg (blk (.slice none 0 0)) w ((w.alloc (.cells c1 e)).drew.alloc (.cells (c1.toList.toArray ++ Builtin.zeroCells z.cells (grownCap (w.alloc (.cells c1 e)) 1 0 e - 1)) e)) :=
      (((Chg.refl _ w).alloc _).drew).alloc _
    refine ⟨_, _, _, hr, ⟨[] ++ c1.toList, ⟨by rw [hl2]; exact hlen', .inr ⟨_, _, _, by rw [hl2]; rfl, ?_, heap_alloc_new _ _, ?_, hcm, ?_, ?_⟩⟩, helem _ _ _ hch (.inr (by simp))⟩, hch, .inr (by simp), by simp; omega⟩
    · simp; omega
    · simpa using hge
    · simp only [Array.size_append, List.size_toArray, size_zeroCells, hz, Array.length_toList, hc1, List.nil_append]
      rw [Nat.sub_mul, Nat.one_mul]
      have : Enc.sz α ≤ grownCap (w.alloc (.cells c1 e)) 1 0 e * Enc.sz α := Nat.le_mul_of_pos_left _ (by omega)
      omega
    · simp [hc1]
  · by_cases hroom : xs.length + 1 ≤ cap
    · have hgs := (Array.getElem?_eq_some_iff.1 hg).1
      have hg' : (w.alloc (.cells c1 e)).heap[g]? = some (.cells cur e (0, 0)) := (Below.heap_alloc w _ g hgs).trans hg
      have hfit : xs.length * i.size + c1.toList.length ≤ cur.size := by
        rw [hl1, hcs, ← Nat.add_mul, h4]; exact Nat.mul_le_mul_right _ hroom
      have hr := run_append_room (P := P) (w.alloc (.cells c1 e)) T ty e i h1 h2 g xs.length cap cur hg' ⟨w.heap.size, 0, none⟩ 1 1 c1.toList hl1 hnews hone hroom hfit
      have hch : Chg (blk (.slice (some ⟨g, 0, none⟩) xs.length cap)) w ((w.alloc (.cells c1 e)).setRow g (cur.toList.take (xs.length * i.size) ++ c1.toList ++ cur.toList.drop (xs.length * i.size + c1.toList.length)).toArray) :=
        ((Chg.refl _ w).alloc _).grown (row := some g) ⟨rfl, rfl, rfl, by simp, fun k _ hk => setRow_other _ g k _ (fun e => hk (by simp [e]))⟩ (fun k hk _ => by cases hk; rfl)
      refine ⟨_, _, _, hr, ⟨cs ++ c1.toList, ⟨by rw [hl2]; exact hlen', .inr ⟨g, cap, _, by rw [hl2], hbg, setRow_heap _ g cur _ e _ hg', by simpa using hroom, hcm, ?_, ?_⟩⟩, helem _ _ _ hch (.inl rfl)⟩, hch, .inl rfl, hbg⟩
      · simp only [List.size_toArray, List.length_append, List.length_take, List.length_drop, Array.length_toList] at hfit ⊢
        omega
      · rw [h4, htake]
        have : (xs ++ [y]).length * Enc.sz α = (cs ++ c1.toList).length := by rw [hlen']; simp
        rw [this]
        exact List.take_left
    · have holds : ∀ j u, cs[j]? = some u → (w.alloc (.cells c1 e)).cell? ((⟨g, 0, none⟩ : Addr).add j) = some u := by
        intro j u hu
        have hgs := (Array.getElem?_eq_some_iff.1 hg).1
        have h := hrow.cells (g := g) rfl j u hu
        have hadd : ((⟨g, 0, none⟩ : Addr).add j).block = g := by unfold Addr.add; split <;> rfl
        exact (World.cell?_of_block (by rw [hadd]; exact Below.heap_alloc w _ g hgs)).trans h
      have hr := run_append_grow (P := P) (w.alloc (.cells c1 e)) T ty e i z h1 h2 h3 ⟨g, 0, none⟩ xs.length cap cs (by rw [hrow.1, h4]) holds ⟨w.heap.size, 0, none⟩ 1 1 c1.toList hl1 hnews (by omega) (by omega) (growslice_fits (by omega) hb47)
      have hge := grownCap_ge (w.alloc (.cells c1 e)) (xs.length + 1) cap e
      have hcm' := grownCap_le_maxLen (w.alloc (.cells c1 e)) (xs.length + 1) cap e hmx
      have hch : Chg (blk (.slice (some ⟨g, 0, none⟩) xs.length cap)) w ((w.alloc (.cells c1 e)).drew.alloc (.cells (cs.toArray ++ c1.toList.toArray ++ Builtin.zeroCells z.cells (grownCap (w.alloc (.cells c1 e)) (xs.length + 1) cap e - (xs.length + 1))) e)) :=
        (((Chg.refl _ w).alloc _).drew).alloc _
      refine ⟨_, _, _, hr, ⟨cs ++ c1.toList, ⟨by rw [hl2]; exact hlen', .inr ⟨_, _, _, by rw [hl2]; rfl, ?_, heap_alloc_new _ _, ?_, hcm', ?_, ?_⟩⟩, helem _ _ _ hch (.inr (by simp))⟩, hch, .inr (by simp), by simp; omega⟩
      · simp; omega
      · simpa using hge
      · simp only [Array.size_append, List.size_toArray, size_zeroCells, hz, Array.length_toList, hc1, hrow.1]
        rw [Nat.sub_mul, Nat.add_mul, Nat.one_mul]
        have := Nat.mul_le_mul_right (Enc.sz α) hge
        rw [Nat.add_mul, Nat.one_mul] at this
        omega
      · have : (xs ++ [y]).length * Enc.sz α = (cs ++ c1.toList).length := by rw [hlen']; simp
        rw [this]
        simp only [Array.toList_append, List.toList_toArray, ← List.append_assoc]
        exact List.take_left

theorem wpl_append1 {ops : Array Oper} {rest : List Oper} {o : Oper} {a : Act} {Q : Exit → Act → World → Prop} (w : World) (c1 : Array Value)
  (hg : o.guard = none) (s x : Operand) (T e : TypeId) (hop : o.op = Op.call { callee := Callee.builtin Builtin.append, args := #[s, x], argTypes := #[T, T] })
  (i : TypeInfo) (z : Value) (bytes : Nat) (h1 : P.underlying T = some (.slice e)) (h2 : P.info? e = some i)
  (h3 : i.zero = some z) (h4 : i.size = Enc.sz α) (h5 : i.bytes = bytes) (hz : z.cells.size = Enc.sz α) (hby : bytes ≤ 4096)
  (lo : Nat) (v : Value) (xs : List α) (y : α) (hown : Own w lo e v xs) (hlo : lo ≤ w.heap.size) (hlen : xs.length ≤ 1000000000)
  (hy : Enc.Is w (fun k => lo ≤ k ∧ v.ownBlock ≠ some k) y (fun j => c1[j]?)) (hc1 : c1.size = Enc.sz α)
  (hs : a.eval s = v) (hx : a.eval x = .slice (some ⟨w.heap.size, 0, none⟩) 1 1)
  (hK : ∀ g cap w', Own w' lo e (.slice (some ⟨g, 0, none⟩) (xs.length + 1) cap) (xs ++ [y]) → Chg (blk v) w w' → (v.ownBlock = some g ∨ w.heap.size ≤ g) → lo ≤ g →
   wpList P ops Q rest (a.put o.dst (.slice (some ⟨g, 0, none⟩) (xs.length + 1) cap)) w') : wpList P ops Q (o :: rest) a (w.alloc (.cells c1 e)) := by
 refine wpList_plain hg fun K hK' => ?_
 obtain ⟨g, cap, w', hr, r1, r2, r3, r4⟩ := append1_run (P := P) w c1 T o.type e i z bytes h1 h2 h3 h4 h5 hz hby lo v xs y hown hlo hlen hy hc1
 unfold Oper.wp execOp
 simp only [hop, resolve, invoke, builtin, Sem.run_bind, Sem.run_pure, Result.andThen_ok, List.map_toArray, List.map_cons, List.map_nil, hs, hx, hr]
 exact hK' _ _ (hK g cap w' r1 r2 r3 r4)

theorem wpl_append_int {ops : Array Oper} {rest : List Oper} {o : Oper} {a : Act} {Q : Exit → Act → World → Prop} (w : World)
  (hg : o.guard = none) (s x : Operand) (T e : TypeId) (hop : o.op = Op.call { callee := Callee.builtin Builtin.append, args := #[s, x], argTypes := #[T, T] })
  (h1 : P.underlying T = some (.slice e)) (hinfo : (P.info? e).map (fun i => (i.zero, i.size, i.bytes)) = some (some (.int .i64 0), 1, 8))
  (lo : Nat) (v : Value) (xs : List Int) (y : Int) (hown : Own w lo e v xs) (hlo : lo ≤ w.heap.size) (hlen : xs.length ≤ 1000000000)
  (hs : a.eval s = v) (hx : a.eval x = .slice (some ⟨w.heap.size, 0, none⟩) 1 1)
  (hK : ∀ g cap w', Own w' lo e (.slice (some ⟨g, 0, none⟩) (xs.length + 1) cap) (xs ++ [y]) → Chg (blk v) w w' → (v.ownBlock = some g ∨ w.heap.size ≤ g) → lo ≤ g →
   wpList P ops Q rest (a.put o.dst (.slice (some ⟨g, 0, none⟩) (xs.length + 1) cap)) w') : wpList P ops Q (o :: rest) a (w.alloc (.cells #[.int .i64 y] e)) := by
 obtain ⟨i, hi, hz0, hz1, hz2⟩ := info_parts hinfo
 exact wpl_append1 (α := Int) w _ hg s x T e hop i (.int .i64 0) 8 h1 hi hz0 hz1 hz2 rfl (by decide) lo v xs y hown hlo hlen rfl rfl hs hx hK

theorem wpl_append_intB {ops : Array Oper} {rest : List Oper} {o : Oper} {a : Act} {Q : Exit → Act → World → Prop} (w : World)
  (hg : o.guard = none) (s x : Operand) (T e : TypeId) (hop : o.op = Op.call { callee := Callee.builtin Builtin.append, args := #[s, x], argTypes := #[T, T] })
  (h1 : P.underlying T = some (.slice e)) (hinfo : (P.info? e).map (fun i => (i.zero, i.size, i.bytes)) = some (some (.int .i64 0), 1, 8))
  (lo : Nat) (v : Value) (xs : List Int) (y : Int) (hown : Own w lo e v xs) (hlo : lo ≤ w.heap.size) (hlen : xs.length ≤ 1000000000)
  (B : Nat) (hB : B = w.heap.size) (n : Nat) (hn : xs.length = n) (hs : a.eval s = v) (hx : a.eval x = .slice (some ⟨B, 0, none⟩) 1 1)
  (hK : ∀ g cap w', Own w' lo e (.slice (some ⟨g, 0, none⟩) (n + 1) cap) (xs ++ [y]) → Chg (blk v) w w' → (v.ownBlock = some g ∨ w.heap.size ≤ g) → lo ≤ g →
   wpList P ops Q rest (a.put o.dst (.slice (some ⟨g, 0, none⟩) (n + 1) cap)) w') : wpList P ops Q (o :: rest) a (w.alloc (.cells #[.int .i64 y] e)) := by
 subst hB; subst hn
 exact wpl_append_int w hg s x T e hop h1 hinfo lo v xs y hown hlo hlen hs hx hK

end

theorem wpl_make_raw {P : Program} {ops : Array Oper} {rest : List Oper} {o : Oper} {a : Act} {Q : Exit → Act → World → Prop} (w : World)
  (hg : o.guard = none) (l c : Operand) (T e : TypeId) (hop : o.op = Op.makeSlice T l c)
  (z : Value) (bytes : Nat) (h1 : P.underlying T = some (.slice e)) (hinfo : (P.info? e).map (fun i => (i.zero, i.size, i.bytes)) = some (some z, 1, bytes)) (hz : z.cells = #[z]) (hby : bytes ≤ 4096)
  (kl kc : IntKind) (C D : Int) (hl : a.eval l = .int kl C) (hc : a.eval c = .int kc D) (n : Nat) (hC : C = n) (hD : D = n) (hn : n ≤ 1000000000)
  (hK : wpList P ops Q rest (a.put o.dst (.slice (some ⟨w.heap.size, 0, none⟩) n n)) (w.alloc (.cells (Array.replicate n z) e))) :
  wpList P ops Q (o :: rest) a w := by
 subst hC; subst hD
 obtain ⟨i, hi, hz0, hz1, hz2⟩ := info_parts hinfo
 refine wpList_plain hg fun K hK' => ?_
 have hb : (i.bytes : Int) * (n : Int) ≤ 281474976710656 := by
  have h : ((i.bytes * n : Nat) : Int) ≤ 281474976710656 := by
   have : i.bytes * n ≤ 4096 * 1000000000 := by rw [hz2]; exact Nat.mul_le_mul hby hn
   omega
  rwa [Int.natCast_mul] at h
 have hr := run_make (P := P) w T e i z h1 hi hz0 kl kc n n (by omega) (Int.le_refl _) hb (by omega)
 simp only [Int.toNat_natCast] at hr
 have he : madeCells z.cells (n * i.size) = Array.replicate n z := by
  rw [hz, hz1, Nat.mul_one]
  exact Array.ext' (by rw [toList_madeCells_one]; simp)
 rw [he] at hr
 unfold Oper.wp
 simp [execOp, hop, hl, hc, hr, Result.andThen]
 exact hK' _ _ hK

theorem step_append1 {P : Program} {α : Type} [Enc α] {ops : Array Oper} {o : Oper} {a : Act} {K : Act → World → Prop} {Q : Exit → Act → World → Prop} {E : Prop} (w : World) (c1 : Array Value)
  (hg : o.guard = none) (s x : Operand) (T e : TypeId) (hop : o.op = Op.call { callee := Callee.builtin Builtin.append, args := #[s, x], argTypes := #[T, T] })
  (i : TypeInfo) (z : Value) (bytes : Nat) (h1 : P.underlying T = some (.slice e)) (h2 : P.info? e = some i)
  (h3 : i.zero = some z) (h4 : i.size = Enc.sz α) (h5 : i.bytes = bytes) (hz : z.cells.size = Enc.sz α) (hby : bytes ≤ 4096)
  (lo : Nat) (v : Value) (xs : List α) (y : α) (hown : Own w lo e v xs) (hlo : lo ≤ w.heap.size) (hlen : xs.length ≤ 1000000000)
  (hy : Enc.Is w (fun k => lo ≤ k ∧ v.ownBlock ≠ some k) y (fun j => c1[j]?)) (hc1 : c1.size = Enc.sz α)
  (hs : a.eval s = v) (hx : a.eval x = .slice (some ⟨w.heap.size, 0, none⟩) 1 1)
  (hK : ∀ g cap w', Own w' lo e (.slice (some ⟨g, 0, none⟩) (xs.length + 1) cap) (xs ++ [y]) → Chg (blk v) w w' → (v.ownBlock = some g ∨ w.heap.size ≤ g) → lo ≤ g →
   K (a.put o.dst (.slice (some ⟨g, 0, none⟩) (xs.length + 1) cap)) w') :
  if Region.wanted o (yielded ops a.tmps) = true then Oper.wp P o a (w.alloc (.cells c1 e)) K Q else E := by
 have hw : Region.wanted o (yielded ops a.tmps) = true := by simp [Region.wanted, hg]
 rw [if_pos hw]
 obtain ⟨g, cap, w', hr, r1, r2, r3, r4⟩ := append1_run (P := P) w c1 T o.type e i z bytes h1 h2 h3 h4 h5 hz hby lo v xs y hown hlo hlen hy hc1
 unfold Oper.wp execOp
 simp only [hop, resolve, invoke, builtin, Sem.run_bind, Sem.run_pure, Result.andThen_ok, List.map_toArray, List.map_cons, List.map_nil, hs, hx, hr]
 exact hK g cap w' r1 r2 r3 r4

theorem Own.set {w : World} {lo e g n cap : Nat} {xs : List Int} (h : Own w lo e (.slice (some ⟨g, 0, none⟩) n cap) xs) (i : Nat) (hi : i < xs.length) (x : Int) :
  Own (w.setCell ⟨g, i, none⟩ (.int .i64 x)) lo e (.slice (some ⟨g, 0, none⟩) n cap) (xs.set i x) := by
 obtain ⟨cs, h1, h2⟩ := h
 obtain ⟨h3, h4⟩ := h1
 rcases h4 with ⟨hv, _⟩ | ⟨g', cap', cur, hv, hb, hg, hc, hm, hs, ht⟩
 ·cases hv
 ·cases hv
  refine ⟨cs.set i (.int .i64 x), ⟨by simpa using h3, .inr ⟨g, cap, cur.setIfInBounds i (.int .i64 x), by simp, hb, ?_, by simpa using hc, hm, by simpa using hs, ?_⟩⟩, fun j hj => ?_⟩
  ·simp [World.setCell, Array.getElem?_modify, hg]
  ·rw [← ht]; simp [List.take_set]
  ·simp at hj
   have := h2 j hj
   simp only [Enc.Is, Enc.sz, Nat.mul_one, Nat.add_zero] at this ⊢ h3
   rw [List.getElem?_set, List.getElem_set]
   by_cases hij : i = j
   ·subst hij; simp; omega
   ·simp [hij, this]

theorem isSl_lit (w : World) (xs : List Int) (e : TypeId) (hm : xs.length ≤ maxLen) :
  IsSl (w.alloc (.cells (xs.map (Value.int .i64)).toArray e)) (fun k => w.heap.size ≤ k) (.slice (some ⟨w.heap.size, 0, none⟩) xs.length xs.length) xs := by
 refine .inr ⟨w.heap.size, 0, xs.length, _, e, rfl, Nat.le_refl _, Nat.le_refl _, hm, heap_alloc_new w _, fun i hi => ?_⟩
 simp [Enc.Is, Enc.sz, hi]

end Go.Proofs.YtplphabekhaoaaaGreatDoor
namespace Go.Proofs.YtplphabekhaoaaaGreatDoor
open Go.RowKit
set_option linter.unusedVariables false
set_option linter.unusedSimpArgs false

theorem infoInt : (Tryz.prog.info? 3).map (fun i => (i.zero, i.size, i.bytes)) = some (some (.int .i64 0), 1, 8) := by kernel_rfl

def SmallL (n : Nat) (xs : List Int) : Prop := xs.length ≤ n ∧ ∀ x ∈ xs, -1 ≤ x ∧ x ≤ 10000001

theorem pick_mem (L : List Int) (k : Nat) (xs : List Int) (h : 0 < xs.length) : pick L k xs ∈ xs := by
 have b1 := nxt_lo L k xs.length
 have b2 := nxt_lt L k xs.length (by omega)
 unfold pick
 have hl : (nxt L k xs.length).toNat < xs.length := by omega
 simp [List.getD, hl]

def PB (p B : Nat) : Nat → Prop := fun k => k = p ∨ B ≤ k

theorem smallL_snoc {n : Nat} {xs : List Int} {x : Int} (h : SmallL n xs) (hx : -1 ≤ x ∧ x ≤ 10000001) : SmallL (n + 1) (xs ++ [x]) :=
 ⟨by simpa using h.1, fun y hy => by rcases List.mem_append.1 hy with hy | hy; exact h.2 y hy; simp at hy; subst hy; exact hx⟩
theorem smallL_set {n : Nat} {xs : List Int} {x : Int} (i : Nat) (h : SmallL n xs) (hx : -1 ≤ x ∧ x ≤ 10000001) : SmallL n (xs.set i x) :=
 ⟨by simpa using h.1, fun y hy => by rcases List.mem_or_eq_of_mem_set hy with hy | hy; exact h.2 y hy; subst hy; exact hx⟩

set_option maxHeartbeats 1000000 in
theorem line_any (p : Nat) (L : List Int) (k : Nat) (w : World) (h : Strm w p L k) (hk : k ≤ 900000) :
    Calls Tryz.prog 48 #[.pointer (some ⟨p, 0, none⟩)] w fun e w' => ∃ v1 v2 k', e = .returned (.tuple #[v1, v2]) ∧ ∃ c b, IsSl w' (fun j => w.heap.size ≤ j) v1 c ∧ IsSl w' (fun j => w.heap.size ≤ j) v2 b ∧
      SmallL 4 c ∧ SmallL 4 b ∧ Strm w' p L k' ∧ k' ≤ k + 20 ∧ Chg (AtB p) w w' := by
  have hp := h.lt
  have r1 := rng_lo L k 1 4
  have r2 := rng_hi L k 1 4 (by omega)
  obtain ⟨n, hn⟩ : ∃ n : Nat, rng L k 1 4 = n := ⟨(rng L k 1 4).toNat, by omega⟩
  have HN := hid hn
  have hn1 : 1 ≤ n := by omega
  have hn4 : n ≤ 4 := by omega
  clear r1 r2 hn
  go_enter Tryz.func48, Tryz.ntmps48
  go_wp2_with (go_at_call 49; refine (range_any _ _ _ _ _ _ h (by omega) (by omega) (by omega) (by omega)).mono ?_; rw [HN.out]; rintro e w1 ⟨rfl, hs1, hc1⟩)
  have hsz1 := hc1.size
  go_loopw [4, 8] (fun v i wr => ∃ (j : Nat) (c : List Int), j ≤ n ∧ i = .int .i64 j ∧ c.length = j ∧ SmallL j c ∧ Own wr w.heap.size 3 v c ∧ Strm wr p L (k + 1 + j) ∧ Chg (PB p w.heap.size) w wr)
    (fun _ i _ => n - (intOf i).toNat)
  case atStart => exact ⟨0, [], by omega, rfl, rfl, ⟨by simp, by simp⟩, Own.nil _ _ _, hs1, hc1.mono fun q _ x => .inl x⟩
  case round =>
    obtain ⟨j, c, hj, rfl, hcl, hsm, hown, hs, hch⟩ := hrel
    obtain ⟨a, cap, rfl, _, _⟩ := hown.shape
    have hszr := hch.size
    by_cases hjn : j < n
    · have hpm := pick_mem L (k + 1 + j) [10, 10, 15, 30, 7] (by simp)
      have hpb : -1 ≤ pick L (k + 1 + j) [10, 10, 15, 30, 7] ∧ pick L (k + 1 + j) [10, 10, 15, 30, 7] ≤ 10000001 := by
        generalize pick L (k + 1 + j) [10, 10, 15, 30, 7] = x at hpm ⊢
        simp at hpm; omega
      clear hpm
      have HPB := hid hpb; clear hpb
      have hcl4 : c.length ≤ n := by omega
      have HCL := hid hcl; clear hcl
      go_wp2_with fail
      refine (pick_any p L _ (fun q => wr.heap.size ≤ q) _ [10, 10, 15, 30, 7] _ (hs.keep ((Chg.refl NoB wr).alloc _) fun _ _ x => x) (by omega) (isSl_lit wr [10, 10, 15, 30, 7] 3 (by simp [maxLen])) (by omega) (by simp) (by simp)).mono ?_
      rintro e w2 ⟨rfl, hs2, hc2⟩
      have hc2' : Chg (AtB p) wr w2 := ((Chg.refl _ wr).alloc _).trans hc2
      have hown2 := hown.keep hc2' (fun q h1 h2 h3 => by unfold AtB at h3; omega)
      have hsz2 := hc2'.size
      go_wp2_with (at_builtin; go_loud (refine wpl_append_int w2 rfl _ _ 22 3 rfl Tryz.underlying22 infoInt w.heap.size _ c _ hown2 (by omega) (by omega) rfl rfl ?_); intro g cap' w3 hown3 hc3 hg3 hlg)
      have hc13 : Chg (PB p w.heap.size) w w3 := (hch.trans (hc2'.mono fun q _ x => .inl x)).trans (hc3.mono fun q hq x => .inr (hown2.lt q x).1)
      have hs3 : Strm w3 p L (k + 1 + (j + 1)) := hs2.keep hc3 fun q hq x => by have := (hown2.lt q x).1; omega
      go_roundw
      case rel => exact ⟨j + 1, c ++ [pick L (k + 1 + j) [10, 10, 15, 30, 7]], by omega, by go_num, by rw [List.length_append, HCL.out]; rfl, smallL_snoc hsm HPB.out, hown3, hs3, hc13⟩
      case measure => simp [intOf]; omega
    · obtain rfl : j = n := by omega
      have hcl1 : 1 ≤ c.length := by omega
      have hcl4 : c.length ≤ 4 := by omega
      have hsm4 : SmallL 4 c := ⟨hcl4, hsm.2⟩
      clear hcl hsm hj
      have hcb0 := hown.lt
      obtain ⟨w2, rfl⟩ : ∃ w2 : World, w2 = wr := ⟨_, rfl⟩
      have hp2 : p < w2.heap.size := hs.lt
      go_wp2_with fail
      go_loopw [5, 20] (fun v i wr => ∃ (q : Nat) (b : List Int), q + 1 ≤ c.length ∧ i = .int .i64 q ∧ b.length ≤ q ∧ SmallL q b ∧ Own wr w2.heap.size 3 v b ∧ Strm wr p L (k + 1 + j + q) ∧ Chg (PB p w2.heap.size) w2 wr)
        (fun _ i _ => c.length - (intOf i).toNat)
      case atStart => exact ⟨0, [], by omega, rfl, by simp, ⟨by simp, by simp⟩, Own.nil _ _ _, hs, Chg.refl _ _⟩
      case round =>
        obtain ⟨q, b, hq, rfl, hbl, hbsm, hbown, hbs, hbch⟩ := hrel
        obtain ⟨ab, capb, rfl, _, _⟩ := hbown.shape
        have hszb := hbch.size
        by_cases hqm : q + 1 < c.length
        · have hpm := pick_mem L (k + 1 + j + q) [0, 0, 1, 2] (by simp)
          have hpb : -1 ≤ pick L (k + 1 + j + q) [0, 0, 1, 2] ∧ pick L (k + 1 + j + q) [0, 0, 1, 2] ≤ 10000001 := by
            generalize pick L (k + 1 + j + q) [0, 0, 1, 2] = x at hpm ⊢
            simp at hpm; omega
          clear hpm
          have HPB := hid hpb; clear hpb
          go_wp2_with fail
          refine (pick_any p L _ (fun q => wr.heap.size ≤ q) _ [0, 0, 1, 2] _ (hbs.keep ((Chg.refl NoB wr).alloc _) fun _ _ x => x) (by omega) (isSl_lit wr [0, 0, 1, 2] 3 (by simp [maxLen])) (by omega) (by simp) (by simp)).mono ?_
          rintro e w3 ⟨rfl, hs3, hc3⟩
          have hc3' : Chg (AtB p) wr w3 := ((Chg.refl _ wr).alloc _).trans hc3
          have hbown3 := hbown.keep hc3' (fun q h1 h2 h3 => by unfold AtB at h3; omega)
          have hsz3 := hc3'.size
          go_wp2_with (at_builtin; refine wpl_append_int w3 rfl _ _ 22 3 rfl Tryz.underlying22 infoInt w2.heap.size _ b _ hbown3 (by omega) (by omega) rfl rfl ?_; intro g cap' w4 hown4 hc4 hg4 hlg)
          have hc14 : Chg (PB p w2.heap.size) w2 w4 := (hbch.trans (hc3'.mono fun q _ x => .inl x)).trans (hc4.mono fun q hq x => .inr (hbown3.lt q x).1)
          have hs4 : Strm w4 p L (k + 1 + j + (q + 1)) := hs3.keep hc4 fun q hq x => by have := (hbown3.lt q x).1; omega
          go_roundw
          case rel => exact ⟨q + 1, b ++ [pick L (k + 1 + j + q) [0, 0, 1, 2]], by omega, by go_num, by simp; omega, smallL_snoc hbsm HPB.out, hown4, hs4, hc14⟩
          case measure => simp [intOf]; omega
        · have hcb : ∀ q, (Value.slice a c.length cap).ownBlock = some q → q < w2.heap.size := fun q hq => (hcb0 q hq).2
          have hp3 : p < wr.heap.size := hbs.lt
          have hcw : Own wr w.heap.size 3 _ c := hown.keep hbch fun q h1 h2 h3 => by unfold PB at h3; omega
          have hchw : Chg (PB p w.heap.size) w wr := hch.trans (hbch.mono fun q _ x => x.imp id fun y => by omega)
          obtain ⟨k3, hk3⟩ : ∃ k3, k3 = k + 1 + j + q := ⟨_, rfl⟩
          have hk3' : k3 ≤ k + 8 := by omega
          rw [← hk3] at hbs
          have hb4 : b.length ≤ 4 := by omega
          have hbsm4 : SmallL 4 b := ⟨hb4, hbsm.2⟩
          have hbsm3 : SmallL 3 b := ⟨by omega, hbsm.2⟩
          clear hk3 hbsm hbl hs hown hch hbch
          go_wp2_with fail
          refine (flip_any p L _ _ _ hbs (by omega) (by omega)).mono ?_
          rintro e w3 ⟨rfl, hs3, hc3⟩
          have hc3s := hc3.size
          have hcw3 := hcw.keep hc3 fun q h1 h2 h3 => by unfold AtB at h3; omega
          have hbw3 := hbown.keep hc3 fun q h1 h2 h3 => by unfold AtB at h3; omega
          have hchw3 : Chg (PB p w.heap.size) w w3 := hchw.trans (hc3.mono fun q _ x => .inl x)
          clear hcw hbown hchw hc3 hbs
          generalize (nxt L k3 12 == 0) = f
          cases f
          · go_wp2_with fail
            refine (flip_any p L _ _ _ hs3 (by omega) (by omega)).mono ?_
            rintro e w9 ⟨rfl, hs9, hc9⟩
            have hcw9 := (hcw3).keep hc9 fun q h1 h2 h3 => by unfold AtB at h3; omega
            have hbw9 := (hbw3).keep hc9 fun q h1 h2 h3 => by unfold AtB at h3; omega
            have hchw9 : Chg (AtB p) w w9 := (hchw3).mono (fun q hq x => by unfold PB at x; unfold AtB; omega) |>.trans hc9
            generalize (nxt L (k3 + 1) 60 == 0) = f9
            cases f9
            · go_wp2_with fail
              go_ret2
              exact ⟨_, _, _, rfl, _, _, hcw9.isSl, hbw9.isSl.low fun q hq _ => by omega, hsm4, hbsm4, hs9, by omega, hchw9⟩
            · go_wp2_with fail
              go_ret2
              exact ⟨_, _, _, rfl, [], [], IsSl.nil _ _, IsSl.nil _ _, ⟨by simp, by simp⟩, ⟨by simp, by simp⟩, hs9, by omega, hchw9⟩
          · go_wp2_with fail
            refine (next_any p L _ _ _ hs3 (by omega) (by omega)).mono ?_
            rintro e w4 ⟨rfl, hs4, hc4⟩
            have hc4s := hc4.size
            have hcw4 := hcw3.keep hc4 fun q h1 h2 h3 => by unfold AtB at h3; omega
            have hbw4 := hbw3.keep hc4 fun q h1 h2 h3 => by unfold AtB at h3; omega
            have hchw4 : Chg (PB p w.heap.size) w w4 := hchw3.trans (hc4.mono fun q _ x => .inl x)
            have b1 := nxt_lo L (k3 + 1) 3
            have b2 := nxt_lt L (k3 + 1) 3 (by omega)
            generalize nxt L (k3 + 1) 3 = r at b1 b2 ⊢
            clear hcw3 hbw3 hchw3 hc4 hs3
            rcases (show r = 0 ∨ r = 1 ∨ r = 2 by omega) with rfl | rfl | rfl
            · have hlen : 0 < c.length := by omega
              go_wp2_with fail
              refine (next_any p L _ _ _ hs4 (by omega) (by omega)).mono ?_
              rintro e w5 ⟨rfl, hs5, hc5⟩
              have hc5s := hc5.size
              have hcw5 := hcw4.keep hc5 fun q h1 h2 h3 => by unfold AtB at h3; omega
              have hbw5 := hbw4.keep hc5 fun q h1 h2 h3 => by unfold AtB at h3; omega
              have hchw5 : Chg (PB p w.heap.size) w w5 := hchw4.trans (hc5.mono fun q _ x => .inl x)
              have d1 := nxt_lo L (k3 + 1 + 1) (c.length : Int)
              have d2 := nxt_lt L (k3 + 1 + 1) (c.length : Int) (by omega)
              obtain ⟨t, ht⟩ : ∃ t : Nat, nxt L (k3 + 1 + 1) (c.length : Int) = t := ⟨(nxt L (k3 + 1 + 1) (c.length : Int)).toNat, by omega⟩
              rw [ht] at d1 d2 ⊢
              clear hcw4 hbw4 hchw4 hc5 hs4 ht
              go_wp2_with fail
              refine (pick_any p L _ (fun q => w5.heap.size ≤ q) _ [0, -1, 10000000, 10000001] _ (hs5.keep ((Chg.refl NoB w5).alloc _) fun _ _ x => x) (by omega) (isSl_lit w5 [0, -1, 10000000, 10000001] 3 (by simp [maxLen])) (by omega) (by simp) (by simp)).mono ?_
              rintro e w6 ⟨rfl, hs6, hc6⟩
              have hc6' : Chg (AtB p) w5 w6 := ((Chg.refl _ w5).alloc _).trans hc6
              have hc6s := hc6'.size
              have hcw6 := hcw5.keep hc6' fun q h1 h2 h3 => by unfold AtB at h3; omega
              have hbw6 := hbw5.keep hc6' fun q h1 h2 h3 => by unfold AtB at h3; omega
              have hchw6 : Chg (PB p w.heap.size) w w6 := hchw5.trans (hc6'.mono fun q _ x => .inl x)
              clear hcw5 hbw5 hchw5 hc6 hc6' hs5
              have htl : t < c.length := by omega
              obtain ⟨g, rfl, hg1, hg2⟩ := hcw6.head (by omega)
              have hcell := hcw6.icell t htl
              have hfr := hcw6.froz t
              have hpk := pick_mem L (k3 + 1 + 1 + 1) [0, -1, 10000000, 10000001] (by simp)
              have hpb : -1 ≤ (pick L (k3 + 1 + 1 + 1) [0, -1, 10000000, 10000001]) ∧ (pick L (k3 + 1 + 1 + 1) [0, -1, 10000000, 10000001]) ≤ 10000001 := by
                generalize (pick L (k3 + 1 + 1 + 1) [0, -1, 10000000, 10000001]) = x at hpk ⊢
                simp at hpk; omega
              have hst : Chg (AtB g) w6 (w6.setCell ⟨g, t, none⟩ (.int .i64 (pick L (k3 + 1 + 1 + 1) [0, -1, 10000000, 10000001]))) := Chg.setAt _ _ _ _
              have HT := hcw6.set t htl (pick L (k3 + 1 + 1 + 1) [0, -1, 10000000, 10000001])
              have HO := hbw6.keepF hst fun q hq x => by unfold AtB at x; have := (hbw6.lt q hq).1; have := hcb g rfl; omega
              have hs7 := hs6.keep hst fun q hq x => by unfold AtB at x; omega
              have hchw7 : Chg (PB p w.heap.size) w _ := hchw6.trans (hst.mono fun q _ x => by unfold AtB at x; exact .inr (by omega))
              have HPB := hid hpb
              clear hpk hpb hcw6 hbw6 hchw6 hs6 hst
              go_wp2_with fail
              refine (flip_any p L _ _ _ hs7 (by omega) (by omega)).mono ?_
              rintro e w9 ⟨rfl, hs9, hc9⟩
              have hcw9 := (HT).keep hc9 fun q h1 h2 h3 => by unfold AtB at h3; omega
              have hbw9 := (HO).keep hc9 fun q h1 h2 h3 => by unfold AtB at h3; omega
              have hchw9 : Chg (AtB p) w w9 := (hchw7).mono (fun q hq x => by unfold PB at x; unfold AtB; omega) |>.trans hc9
              generalize (nxt L (k3 + 1 + 1 + 1 + 1) 60 == 0) = f9
              cases f9
              · go_wp2_with fail
                go_ret2
                exact ⟨_, _, _, rfl, _, _, hcw9.isSl, hbw9.isSl.low fun q hq _ => by omega, smallL_set t hsm4 HPB.out, hbsm4, hs9, by omega, hchw9⟩
              · go_wp2_with fail
                go_ret2
                exact ⟨_, _, _, rfl, [], [], IsSl.nil _ _, IsSl.nil _ _, ⟨by simp, by simp⟩, ⟨by simp, by simp⟩, hs9, by omega, hchw9⟩
            · go_wp2_with fail
              refine (pick_any p L _ (fun q => w4.heap.size ≤ q) _ [0, -1] _ (hs4.keep ((Chg.refl NoB w4).alloc _) fun _ _ x => x) (by omega) (isSl_lit w4 [0, -1] 3 (by simp [maxLen])) (by omega) (by simp) (by simp)).mono ?_
              rintro e w6 ⟨rfl, hs6, hc6⟩
              have hc6' : Chg (AtB p) w4 w6 := ((Chg.refl _ w4).alloc _).trans hc6
              have hc6s := hc6'.size
              have hcw6 := hcw4.keep hc6' fun q h1 h2 h3 => by unfold AtB at h3; omega
              have hbw6 := hbw4.keep hc6' fun q h1 h2 h3 => by unfold AtB at h3; omega
              have hchw6 : Chg (PB p w.heap.size) w w6 := hchw4.trans (hc6'.mono fun q _ x => .inl x)
              have hpk := pick_mem L (k3 + 1 + 1) [0, -1] (by simp)
              have hpb : -1 ≤ pick L (k3 + 1 + 1) [0, -1] ∧ pick L (k3 + 1 + 1) [0, -1] ≤ 10000001 := by
                generalize pick L (k3 + 1 + 1) [0, -1] = x at hpk ⊢
                simp at hpk; omega
              have HPB := hid hpb
              clear hpk hpb hcw4 hbw4 hchw4 hc6 hc6' hs4
              go_wp2_with (at_builtin; refine wpl_append_int w6 rfl _ _ 22 3 rfl Tryz.underlying22 infoInt w2.heap.size _ b _ hbw6 (by omega) (by omega) rfl rfl ?_; intro g cap' w7 HT hst hg4 hlg)
              have hst' : Chg (NewB w2.heap.size) w6 w7 := hst.mono fun q hq x => (hbw6.lt q x).1
              have hst7 := hst.size
              have HO := hcw6.keepF hst' fun q hq x => by unfold NewB at x; have := hcb q hq; omega
              have hs7 := hs6.keep hst' fun q hq x => by unfold NewB at x; omega
              have hchw7 : Chg (PB p w.heap.size) w w7 := hchw6.trans (hst'.mono fun q _ x => by unfold NewB at x; exact .inr (by omega))
              clear hcw6 hbw6 hchw6 hs6 hst hst'
              refine (flip_any p L _ _ _ hs7 (by omega) (by omega)).mono ?_
              rintro e w9 ⟨rfl, hs9, hc9⟩
              have hcw9 := (HO).keep hc9 fun q h1 h2 h3 => by unfold AtB at h3; omega
              have hbw9 := (HT).keep hc9 fun q h1 h2 h3 => by unfold AtB at h3; omega
              have hchw9 : Chg (AtB p) w w9 := (hchw7).mono (fun q hq x => by unfold PB at x; unfold AtB; omega) |>.trans hc9
              generalize (nxt L (k3 + 1 + 1 + 1) 60 == 0) = f9
              cases f9
              · go_wp2_with fail
                go_ret2
                exact ⟨_, _, _, rfl, _, _, hcw9.isSl, hbw9.isSl.low fun q hq _ => by omega, hsm4, smallL_snoc hbsm3 HPB.out, hs9, by omega, hchw9⟩
              · go_wp2_with fail
                go_ret2
                exact ⟨_, _, _, rfl, [], [], IsSl.nil _ _, IsSl.nil _ _, ⟨by simp, by simp⟩, ⟨by simp, by simp⟩, hs9, by omega, hchw9⟩
            · by_cases hbl : 0 < b.length
              · go_wp2_with fail
                refine (next_any p L _ _ _ hs4 (by omega) (by omega)).mono ?_
                rintro e w5 ⟨rfl, hs5, hc5⟩
                have hc5s := hc5.size
                have hcw5 := hcw4.keep hc5 fun q h1 h2 h3 => by unfold AtB at h3; omega
                have hbw5 := hbw4.keep hc5 fun q h1 h2 h3 => by unfold AtB at h3; omega
                have hchw5 : Chg (PB p w.heap.size) w w5 := hchw4.trans (hc5.mono fun q _ x => .inl x)
                have d1 := nxt_lo L (k3 + 1 + 1) (b.length : Int)
                have d2 := nxt_lt L (k3 + 1 + 1) (b.length : Int) (by omega)
                obtain ⟨t, ht⟩ : ∃ t : Nat, nxt L (k3 + 1 + 1) (b.length : Int) = t := ⟨(nxt L (k3 + 1 + 1) (b.length : Int)).toNat, by omega⟩
                rw [ht] at d1 d2 ⊢
                clear hcw4 hbw4 hchw4 hc5 hs4 ht
                go_wp2_with fail
                refine (pick_any p L _ (fun q => w5.heap.size ≤ q) _ [-1, 2000, 2001] _ (hs5.keep ((Chg.refl NoB w5).alloc _) fun _ _ x => x) (by omega) (isSl_lit w5 [-1, 2000, 2001] 3 (by simp [maxLen])) (by omega) (by simp) (by simp)).mono ?_
                rintro e w6 ⟨rfl, hs6, hc6⟩
                have hc6' : Chg (AtB p) w5 w6 := ((Chg.refl _ w5).alloc _).trans hc6
                have hc6s := hc6'.size
                have hcw6 := hcw5.keep hc6' fun q h1 h2 h3 => by unfold AtB at h3; omega
                have hbw6 := hbw5.keep hc6' fun q h1 h2 h3 => by unfold AtB at h3; omega
                have hchw6 : Chg (PB p w.heap.size) w w6 := hchw5.trans (hc6'.mono fun q _ x => .inl x)
                clear hcw5 hbw5 hchw5 hc6 hc6' hs5
                have htl : t < b.length := by omega
                obtain ⟨g, rfl, hg1, hg2⟩ := hbw6.head (by omega)
                have hcell := hbw6.icell t htl
                have hfr := hbw6.froz t
                have hpk := pick_mem L (k3 + 1 + 1 + 1) [-1, 2000, 2001] (by simp)
                have hpb : -1 ≤ (pick L (k3 + 1 + 1 + 1) [-1, 2000, 2001]) ∧ (pick L (k3 + 1 + 1 + 1) [-1, 2000, 2001]) ≤ 10000001 := by
                  generalize (pick L (k3 + 1 + 1 + 1) [-1, 2000, 2001]) = x at hpk ⊢
                  simp at hpk; omega
                have hst : Chg (AtB g) w6 (w6.setCell ⟨g, t, none⟩ (.int .i64 (pick L (k3 + 1 + 1 + 1) [-1, 2000, 2001]))) := Chg.setAt _ _ _ _
                have HT := hbw6.set t htl (pick L (k3 + 1 + 1 + 1) [-1, 2000, 2001])
                have HO := hcw6.keepF hst fun q hq x => by unfold AtB at x; have := hcb q hq; omega
                have hs7 := hs6.keep hst fun q hq x => by unfold AtB at x; omega
                have hchw7 : Chg (PB p w.heap.size) w _ := hchw6.trans (hst.mono fun q _ x => by unfold AtB at x; exact .inr (by omega))
                have HPB := hid hpb
                clear hpk hpb hcw6 hbw6 hchw6 hs6 hst
                go_wp2_with fail
                refine (flip_any p L _ _ _ hs7 (by omega) (by omega)).mono ?_
                rintro e w9 ⟨rfl, hs9, hc9⟩
                have hcw9 := (HO).keep hc9 fun q h1 h2 h3 => by unfold AtB at h3; omega
                have hbw9 := (HT).keep hc9 fun q h1 h2 h3 => by unfold AtB at h3; omega
                have hchw9 : Chg (AtB p) w w9 := (hchw7).mono (fun q hq x => by unfold PB at x; unfold AtB; omega) |>.trans hc9
                generalize (nxt L (k3 + 1 + 1 + 1 + 1) 60 == 0) = f9
                cases f9
                · go_wp2_with fail
                  go_ret2
                  exact ⟨_, _, _, rfl, _, _, hcw9.isSl, hbw9.isSl.low fun q hq _ => by omega, hsm4, smallL_set t hbsm4 HPB.out, hs9, by omega, hchw9⟩
                · go_wp2_with fail
                  go_ret2
                  exact ⟨_, _, _, rfl, [], [], IsSl.nil _ _, IsSl.nil _ _, ⟨by simp, by simp⟩, ⟨by simp, by simp⟩, hs9, by omega, hchw9⟩
              · go_wp2_with fail
                refine (flip_any p L _ _ _ hs4 (by omega) (by omega)).mono ?_
                rintro e w9 ⟨rfl, hs9, hc9⟩
                have hcw9 := (hcw4).keep hc9 fun q h1 h2 h3 => by unfold AtB at h3; omega
                have hbw9 := (hbw4).keep hc9 fun q h1 h2 h3 => by unfold AtB at h3; omega
                have hchw9 : Chg (AtB p) w w9 := (hchw4).mono (fun q hq x => by unfold PB at x; unfold AtB; omega) |>.trans hc9
                generalize (nxt L (k3 + 1 + 1) 60 == 0) = f9
                cases f9
                · go_wp2_with fail
                  go_ret2
                  exact ⟨_, _, _, rfl, _, _, hcw9.isSl, hbw9.isSl.low fun q hq _ => by omega, hsm4, hbsm4, hs9, by omega, hchw9⟩
                · go_wp2_with fail
                  go_ret2
                  exact ⟨_, _, _, rfl, [], [], IsSl.nil _ _, IsSl.nil _ _, ⟨by simp, by simp⟩, ⟨by simp, by simp⟩, hs9, by omega, hchw9⟩
end Go.Proofs.YtplphabekhaoaaaGreatDoor
namespace Go.Proofs.YtplphabekhaoaaaGreatDoor
set_option linter.unusedVariables false
set_option linter.unusedSimpArgs false

structure Pass where
 taken : Int
 left : Int

instance : Enc Pass where
 sz := 2
 Is _ _ p f := f 0 = some (.int .i64 p.taken) ∧ f 1 = some (.int .i64 p.left)
 keep h _ _ := h
 low h _ := h
 ext h e := ⟨(e 0 (by omega)) ▸ h.1, (e 1 (by omega)) ▸ h.2⟩
 one h j hj := by
  rcases (show j = 0 ∨ j = 1 by omega) with rfl | rfl
  ·exact ⟨_, h.1, rfl⟩
  ·exact ⟨_, h.2, rfl⟩
 pos := by omega
instance : Flat Pass := ⟨fun h => h⟩

def at' (l : List Int) (k : Nat) : Int := l.getD k 0

def pas (c bf : List Int) (b k : Nat) : Pass :=
  let here : Int := if hk : k = 0 then 0 else (pas c bf b (k - 1)).left
  let taken : Int := if hb : b = 0 then here else max here (pas c bf (b - 1) k).left
  let left : Int := taken + at' c k
  ⟨taken, if k + 1 < c.length then
      (if at' bf k = 0 then (if hb : b = 0 then left else max left (pas c bf (b - 1) (k + 1)).left)
       else if hr : 0 < at' bf k ∧ at' bf k ≤ b then max left (pas c bf (b - (at' bf k).toNat) (k + 1)).taken else left)
    else left⟩
termination_by (b, k)
decreasing_by
  all_goals simp_wf
  all_goals first
    | (apply Prod.Lex.right; omega)
    | (apply Prod.Lex.left; omega)

def here (c bf : List Int) (b k : Nat) : Int := if k = 0 then 0 else (pas c bf b (k - 1)).left

theorem pas_taken (c bf : List Int) (b k : Nat) : (pas c bf b k).taken = if b = 0 then here c bf b k else max (here c bf b k) (pas c bf (b - 1) k).left := by
 rw [pas]; simp only [here]; split <;> simp_all
theorem pas_left (c bf : List Int) (b k : Nat) : (pas c bf b k).left =
    if k + 1 < c.length then
      (if at' bf k = 0 then (if b = 0 then (pas c bf b k).taken + at' c k else max ((pas c bf b k).taken + at' c k) (pas c bf (b - 1) (k + 1)).left)
       else if 0 < at' bf k ∧ at' bf k ≤ b then max ((pas c bf b k).taken + at' c k) (pas c bf (b - (at' bf k).toNat) (k + 1)).taken else (pas c bf b k).taken + at' c k)
    else (pas c bf b k).taken + at' c k := by
  conv => lhs; rw [pas]
  conv => rhs; rw [pas_taken]
  simp only [here]
  repeat' split
  all_goals simp_all

structure RightLine (c bf : List Int) : Prop where
 len : c.length ≤ 6
 pos : 0 < c.length
 c1 : ∀ k, k < c.length → 1 ≤ at' c k ∧ at' c k ≤ 10000000
 b0 : ∀ k, 0 ≤ at' bf k
 bl : bf.length + 1 = c.length

theorem pas_bd {c bf : List Int} (h : RightLine c bf) (b : Nat) : ∀ k, k < c.length →
  0 ≤ (pas c bf b k).taken ∧ (pas c bf b k).taken + at' c k ≤ (pas c bf b k).left ∧ (pas c bf b k).left ≤ 10000000 * (b + k + 1) := by
 induction b using Nat.strongRecOn with
 | _ b ihb =>
  intro k
  induction k with
  | zero =>
   intro hk
   have hc := h.c1 0 hk
   have ht := pas_taken c bf b 0
   have hl := pas_left c bf b 0
   have hh : here c bf b 0 = 0 := by simp [here]
   rw [hh] at ht
   have h1 : 0 < b → _ := fun hb => ihb (b - 1) (by omega) 0 hk
   have h2 : 0 < b → 1 < c.length → _ := fun hb hk1 => ihb (b - 1) (by omega) 1 hk1
   have h3 : 0 < at' bf 0 ∧ at' bf 0 ≤ b → 1 < c.length → _ := fun hb hk1 => ihb (b - (at' bf 0).toNat) (by omega) 1 hk1
   have hc1 := h.c1 1
   split at ht <;> (split at hl <;> (try split at hl) <;> (try split at hl)) <;> grind
  | succ k ihk =>
   intro hk
   have hc := h.c1 (k + 1) hk
   have hcp := h.c1 k (by omega)
   have hp := ihk (by omega)
   have ht := pas_taken c bf b (k + 1)
   have hl := pas_left c bf b (k + 1)
   have hh : here c bf b (k + 1) = (pas c bf b k).left := by simp [here]
   rw [hh] at ht
   have h1 : 0 < b → _ := fun hb => ihb (b - 1) (by omega) (k + 1) hk
   have h2 : 0 < b → k + 2 < c.length → _ := fun hb hk1 => ihb (b - 1) (by omega) (k + 2) hk1
   have h3 : 0 < at' bf (k + 1) ∧ at' bf (k + 1) ≤ b → k + 2 < c.length → _ := fun hb hk1 => ihb (b - (at' bf (k + 1)).toNat) (by omega) (k + 2) hk1
   have hc1 := h.c1 (k + 2)
   split at ht <;> (split at hl <;> (try split at hl) <;> (try split at hl)) <;> grind

def mov (c bf : List Int) (b k : Nat) : Pass :=
 let t0 : Int := if hb : b = 0 then 0 else (mov c bf (b - 1) k).left
 let taken : Int := if hk : k = 0 then t0 else max t0 (mov c bf b (k - 1)).left
 let left : Int := taken + at' c k
 ⟨taken, if h : k + 1 < c.length ∧ 0 ≤ at' bf k ∧ at' bf k < b then max left (mov c bf (b - (at' bf k).toNat - 1) (k + 1)).left else left⟩
termination_by (b, k)
decreasing_by
 all_goals simp_wf
 all_goals first
  | (apply Prod.Lex.right; omega)
  | (apply Prod.Lex.left; omega)

theorem mov_taken (c bf : List Int) (b k : Nat) : (mov c bf b k).taken =
  if k = 0 then (if b = 0 then 0 else (mov c bf (b - 1) k).left) else max (if b = 0 then 0 else (mov c bf (b - 1) k).left) (mov c bf b (k - 1)).left := by
 rw [mov]; simp only; split <;> simp_all
theorem mov_left (c bf : List Int) (b k : Nat) : (mov c bf b k).left =
  if k + 1 < c.length ∧ 0 ≤ at' bf k ∧ at' bf k < b then max ((mov c bf b k).taken + at' c k) (mov c bf (b - (at' bf k).toNat - 1) (k + 1)).left else (mov c bf b k).taken + at' c k := by
 conv => lhs; rw [mov]
 conv => rhs; rw [mov_taken]
 simp only
 repeat' split
 all_goals simp_all

theorem pas_up {c bf : List Int} (h : RightLine c bf) (k : Nat) (hk : k < c.length) (b b' : Nat) (hb : b ≤ b') : (pas c bf b k).left ≤ (pas c bf b' k).left := by
  induction b' with
  | zero => obtain rfl : b = 0 := by omega
            omega
  | succ n ih =>
    by_cases hbn : b = n + 1
    · subst hbn; omega
    · have h1 := ih (by omega)
      have h2 := pas_taken c bf (n + 1) k
      have h3 := pas_bd h (n + 1) k hk
      have h4 := h.c1 k hk
      simp only [Nat.add_sub_cancel, Nat.add_eq_zero_iff, Nat.one_ne_zero, and_false, if_false] at h2
      omega

theorem pas_mov_left {c bf : List Int} (h : RightLine c bf) (b k : Nat) (hk : k < c.length) (e1 : (pas c bf b k).taken = (mov c bf b k).taken)
  (ih : ∀ b', b' < b → ∀ k, k < c.length → (pas c bf b' k).left = (mov c bf b' k).left) : (pas c bf b k).left = (mov c bf b k).left := by
 have hl := pas_left c bf b k
 have hm := mov_left c bf b k
 have h0 := h.b0 k
 have hc := h.c1 k hk
 by_cases hk1 : k + 1 < c.length
 ·by_cases hr : at' bf k = 0
  ·by_cases hb : b = 0
   ·rw [if_pos hk1, if_pos hr, if_pos hb] at hl
    rw [if_neg (by omega)] at hm
    omega
   ·rw [if_pos hk1, if_pos hr, if_neg hb] at hl
    rw [if_pos ⟨hk1, h0, by omega⟩, hr] at hm
    simp only [Int.toNat_zero, Nat.sub_zero] at hm
    rw [hl, hm, e1, ih (b - 1) (by omega) (k + 1) hk1]
  ·by_cases hrb : at' bf k ≤ b
   ·rw [if_pos hk1, if_neg hr, if_pos ⟨by omega, hrb⟩] at hl
    have ht := pas_taken c bf (b - (at' bf k).toNat) (k + 1)
    have hh : here c bf (b - (at' bf k).toNat) (k + 1) = (pas c bf (b - (at' bf k).toNat) k).left := by simp [here]
    rw [hh] at ht
    have hup := pas_up h k hk (b - (at' bf k).toNat) (b - 1) (by omega)
    have htk := pas_taken c bf b k
    rw [if_neg (by omega)] at htk
    by_cases hbe : at' bf k < b
    ·rw [if_pos ⟨hk1, h0, hbe⟩] at hm
     rw [if_neg (by omega)] at ht
     have := ih (b - (at' bf k).toNat - 1) (by omega) (k + 1) hk1
     rw [hl, hm, ht, this, e1]
     omega
    ·rw [if_neg (by omega)] at hm
     rw [if_pos (by omega)] at ht
     rw [hl, hm, ht]
     omega
   ·rw [if_pos hk1, if_neg hr, if_neg (by omega)] at hl
    rw [if_neg (by omega)] at hm
    omega
 ·rw [if_neg hk1] at hl
  rw [if_neg (by omega)] at hm
  omega

theorem pas_mov {c bf : List Int} (h : RightLine c bf) (b : Nat) : ∀ k, k < c.length → (pas c bf b k).taken = (mov c bf b k).taken ∧ (pas c bf b k).left = (mov c bf b k).left := by
 induction b using Nat.strongRecOn with
 | _ b ihb =>
  intro k
  induction k with
  | zero =>
   intro hk
   have ht := pas_taken c bf b 0
   have hm := mov_taken c bf b 0
   have hh : here c bf b 0 = 0 := by simp [here]
   rw [hh] at ht
   have h1 : 0 < b → _ := fun hb => ihb (b - 1) (by omega) 0 hk
   have hbd := pas_bd h (b - 1) 0 hk
   have hc := h.c1 0 hk
   have e1 : (pas c bf b 0).taken = (mov c bf b 0).taken := by grind
   exact ⟨e1, pas_mov_left h b 0 hk e1 fun b' hb' k hk => (ihb b' hb' k hk).2⟩
  | succ k ihk =>
   intro hk
   have ht := pas_taken c bf b (k + 1)
   have hm := mov_taken c bf b (k + 1)
   have hh : here c bf b (k + 1) = (pas c bf b k).left := by simp [here]
   rw [hh, (ihk (by omega)).2] at ht
   have h1 : 0 < b → _ := fun hb => ihb (b - 1) (by omega) (k + 1) hk
   have hbd := pas_bd h b k (by omega)
   have hc := h.c1 k (by omega)
   have e1 : (pas c bf b (k + 1)).taken = (mov c bf b (k + 1)).taken := by
    rw [if_neg (by omega)] at hm
    simp only [Nat.add_sub_cancel] at hm
    by_cases hb : b = 0
    ·subst hb
     simp only [if_true] at ht hm
     have := ihk (by omega)
     omega
    ·rw [if_neg hb] at ht hm
     have := h1 (by omega)
     omega
   exact ⟨e1, pas_mov_left h b (k + 1) hk e1 fun b' hb' k hk => (ihb b' hb' k hk).2⟩
end Go.Proofs.YtplphabekhaoaaaGreatDoor
namespace Go.Proofs.YtplphabekhaoaaaGreatDoor
open Go.RowKit
set_option linter.unusedVariables false
set_option linter.unusedSimpArgs false

def PredI (F : FuncId) (caps : Array Value) (pr : Int → Bool) (w : World) (xs : List Int) : Prop :=
 (∀ args w, (callFunc F args).run Tryz.prog w = .ok (.enter F args) w) ∧
 ∀ x ∈ xs, ∀ w1, Chg NoB w w1 → Calls Tryz.prog F (#[.int .i64 x] ++ caps) w1 fun e w2 => e = .returned (.bool (pr x)) ∧ Chg NoB w1 w2

def idx {α : Type} (pr : α → Bool) (xs : List α) : Int := match xs.findIdx? pr with
 | some i => i
 | none => -1

theorem idx_none {α : Type} {pr : α → Bool} {xs : List α} (h : ∀ j, (hj : j < xs.length) → pr xs[j] = false) : idx pr xs = -1 := by
 have : xs.findIdx? pr = none := by
  rw [List.findIdx?_eq_none_iff]
  intro x hx
  obtain ⟨j, hj, rfl⟩ := List.mem_iff_getElem.1 hx
  exact h j hj
 rw [idx, this]
theorem idx_some {α : Type} {pr : α → Bool} {xs : List α} {i : Nat} (hi : i < xs.length) (hp : pr xs[i] = true) (h : ∀ j, (hj : j < i) → pr (xs[j]'(by omega)) = false) : idx pr xs = i := by
 have : xs.findIdx? pr = some i := by
  rw [List.findIdx?_eq_some_iff_getElem]
  exact ⟨hi, hp, fun j hj => by simp [h j hj]⟩
 rw [idx, this]
theorem idx_any {α : Type} (pr : α → Bool) (xs : List α) : decide (0 ≤ idx pr xs) = xs.any pr := by
 unfold idx
 cases h : xs.findIdx? pr with
 | none =>
  rw [List.findIdx?_eq_none_iff] at h
  symm
  simp [List.any_eq_false]
  intro x hx
  simp [h x hx]
 | some i =>
  rw [List.findIdx?_eq_some_iff_getElem] at h
  obtain ⟨hi, hp, _⟩ := h
  symm
  simp only [Int.natCast_nonneg, decide_true, List.any_eq_true]
  exact ⟨xs[i], List.getElem_mem _, hp⟩

set_option maxHeartbeats 400000 in
theorem indexFuncI (v : Value) (xs : List Int) (F : FuncId) (caps : Array Value) (pr : Int → Bool) (A : Nat → Prop) (w : World) (hv : IsSl w A v xs) (hF : PredI F caps pr w xs) :
  Calls Tryz.prog 176 #[v, .func (.func F) #[] caps] w fun e w' => e = .returned (.int .i64 (idx pr xs)) ∧ Chg NoB w w' := by
 obtain ⟨hcf, hF⟩ := hF
 obtain ⟨a, cap, rfl, hc1, hc2⟩ := hv.shape
 unfold maxLen at hc2
 go_enter Tryz.func176, Tryz.ntmps176
 go_wp2_with fail
 go_loopw [5, 8] (fun _ i wr => ∃ j : Nat, j ≤ xs.length ∧ i = .int .i64 j ∧ Hid (∀ q, (hq : q < j) → (hq' : q < xs.length) → pr xs[q] = false) ∧ Chg NoB w wr)
  (fun _ i _ => xs.length - (intOf i).toNat)
 case atStart => exact ⟨0, by omega, rfl, hid fun q hq => by omega, Chg.refl _ _⟩
 case round =>
  obtain ⟨j, hj, rfl, hno, hch⟩ := hrel
  by_cases hjn : j < xs.length
  ·obtain ⟨b, off, rfl, hb, hcells⟩ := hv.ints (by omega)
   have hcell := hch.cell (hcells j hjn) (fun x => x)
   clear hcells
   have HF := hid (hF xs[j] (List.getElem_mem _) wr hch)
   clear hF
   go_wp2_with fail
   refine HF.out.mono ?_
   rintro e w2 ⟨rfl, hc3⟩
   go_wp2_with fail
   ·have hp : pr xs[j] = true := by assumption
    go_ret
    exact ⟨ret_int (idx_some hjn hp fun q hq => hno.out q hq (by omega)).symm, hch.trans hc3⟩
   ·have hp : pr xs[j] = false := by assumption
    go_roundw
    case rel => exact ⟨j + 1, by omega, by go_num, hid fun q hq hq' => by
     by_cases h : q < j
     ·exact hno.out q h hq'
     ·obtain rfl : q = j := by omega
      exact hp, hch.trans hc3⟩
    case measure => simp [intOf]; omega
  ·go_wp2_with fail
   go_ret
   exact ⟨ret_int (idx_none fun q hq => hno.out q (by omega) hq).symm, hch⟩

set_option maxHeartbeats 400000 in
theorem containsFuncI (v : Value) (xs : List Int) (F : FuncId) (caps : Array Value) (pr : Int → Bool) (A : Nat → Prop) (w : World) (hv : IsSl w A v xs) (hF : PredI F caps pr w xs) :
  Calls Tryz.prog 122 #[v, .func (.func F) #[] caps] w fun e w' => e = .returned (.bool (xs.any pr)) ∧ Chg NoB w w' := by
 have hc := indexFuncI v xs F caps pr A w hv hF
 have HC := hid hc; clear hc hF
 go_enter Tryz.func122, Tryz.ntmps122
 go_wp2_with (go_at_call 176; refine HC.out.mono ?_; rintro e w1 ⟨rfl, hc1⟩)
 go_ret
 exact ⟨ret_bool (idx_any pr xs), hc1⟩

set_option maxHeartbeats 400000 in
theorem outside_any (n lo hi : Int) (w : World) :
  Calls Tryz.prog 101 #[.int .i64 n, .int .i64 lo, .int .i64 hi] w fun e w' => e = .returned (.bool (decide (n < lo) || decide (hi < n))) ∧ w = w' := by
 by_cases h : n < lo
 ·go_enter Tryz.func101, Tryz.ntmps101
  go_wp2_with fail
  go_ret
  exact ⟨ret_bool (by simp [h]), rfl⟩
 ·go_enter Tryz.func101, Tryz.ntmps101
  go_wp2_with fail
  go_ret
  exact ⟨ret_bool (by simp; omega), rfl⟩

set_option maxHeartbeats 400000 in
theorem in_any (n lo hi : Int) (w : World) :
  Calls Tryz.prog 94 #[.int .i64 n, .int .i64 lo, .int .i64 hi] w fun e w' => e = .returned (.bool (decide (lo ≤ n) && decide (n ≤ hi))) ∧ w = w' := by
 by_cases h : lo ≤ n
 ·go_enter Tryz.func94, Tryz.ntmps94
  go_wp2_with fail
  go_ret
  exact ⟨ret_bool (by simp [h]), rfl⟩
 ·go_enter Tryz.func94, Tryz.ntmps94
  go_wp2_with fail
  go_ret
  exact ⟨ret_bool (by simp; omega), rfl⟩

end Go.Proofs.YtplphabekhaoaaaGreatDoor
namespace Go.Proofs.YtplphabekhaoaaaGreatDoor
open Go.RowKit
set_option linter.unusedVariables false
set_option linter.unusedSimpArgs false

def outB (lo hi x : Int) : Bool := decide (x < lo) || decide (hi < x)
theorem outB_in (lo hi x : Int) : (!(decide (lo ≤ x) && decide (x ≤ hi))) = outB lo hi x := by
 unfold outB
 by_cases h1 : lo ≤ x <;> by_cases h2 : x ≤ hi <;> simp [h1, h2] <;> omega

def cycF (c : List Int) : Int := if c.length = 0 then 8 else if 6 < c.length then 2 else if c.any (outB 1 10000000) then 1 else 0
def flowF (c b : List Int) (n : Int) : Int :=
 if cycF c ≠ 0 then cycF c else if (b.length : Int) ≠ c.length - 1 then 3 else if b.any (outB 0 2000) || outB 1 2000 n then 1 else 0

theorem outside_b (n lo hi : Int) (w : World) :
  Calls Tryz.prog 101 #[.int .i64 n, .int .i64 lo, .int .i64 hi] w fun e w' => e = .returned (.bool (outB lo hi n)) ∧ w = w' := outside_any n lo hi w
theorem in_b (n lo hi : Int) (w : World) :
  Calls Tryz.prog 94 #[.int .i64 n, .int .i64 lo, .int .i64 hi] w fun e w' => e = .returned (.bool (!outB lo hi n)) ∧ w = w' :=
 (in_any n lo hi w).mono fun e w' h => ⟨by rw [h.1, ← outB_in]; simp, h.2⟩

set_option maxHeartbeats 400000 in
theorem cycPred1 (w : World) (xs : List Int) : PredI 188 #[] (outB 1 10000000) w xs := by
 refine ⟨enters_of Tryz.func188 (by kernel_rfl) rfl, fun x hx w1 hc => ?_⟩
 go_enter Tryz.func188, Tryz.ntmps188
 go_wp2_with (go_at_call 101; refine (outside_b _ _ _ _).mono ?_; rintro e w' ⟨rfl, rfl⟩)
 go_ret
 exact ⟨rfl, Chg.refl _ _⟩
set_option maxHeartbeats 400000 in
theorem flowPred (w : World) (xs : List Int) : PredI 183 #[] (outB 0 2000) w xs := by
 refine ⟨enters_of Tryz.func183 (by kernel_rfl) rfl, fun x hx w1 hc => ?_⟩
 go_enter Tryz.func183, Tryz.ntmps183
 go_wp2_with (go_at_call 101; refine (outside_b _ _ _ _).mono ?_; rintro e w' ⟨rfl, rfl⟩)
 go_ret
 exact ⟨ret_bool (rfl), Chg.refl _ _⟩

set_option maxHeartbeats 400000 in
theorem refPred1 (w : World) (xs : List Int) : PredI 123 #[] (outB 1 10000000) w xs := by
 refine ⟨enters_of Tryz.func123 (by kernel_rfl) rfl, fun x hx w1 hc => ?_⟩
 go_enter Tryz.func123, Tryz.ntmps123
 go_wp2_with (go_at_call 94; refine (in_b _ _ _ _).mono ?_; rintro e w' ⟨rfl, rfl⟩)
 go_ret
 exact ⟨ret_bool (by simp), Chg.refl _ _⟩

set_option maxHeartbeats 400000 in
theorem refPred2 (w : World) (xs : List Int) : PredI 124 #[] (outB 0 2000) w xs := by
 refine ⟨enters_of Tryz.func124 (by kernel_rfl) rfl, fun x hx w1 hc => ?_⟩
 go_enter Tryz.func124, Tryz.ntmps124
 go_wp2_with (go_at_call 94; refine (in_b _ _ _ _).mono ?_; rintro e w' ⟨rfl, rfl⟩)
 go_ret
 exact ⟨ret_bool (by simp), Chg.refl _ _⟩


set_option maxHeartbeats 400000 in
theorem cyclesFault_any (v : Value) (c : List Int) (A : Nat → Prop) (w : World) (hv : IsSl w A v c) :
  Calls Tryz.prog 136 #[v] w fun e w' => e = .returned (.int .i64 (cycF c)) ∧ Chg NoB w w' := by
 have hcf := containsFuncI v c _ _ _ A w hv (cycPred1 w c)
 have HC := hid hcf; clear hcf
 obtain ⟨a, cap, rfl, h1, h2⟩ := hv.shape
 unfold maxLen at h2
 by_cases h0 : c.length = 0
 ·have hb : ((c.length : Int) == 0) = true := by simp [h0]
  have H0 := hid h0; clear h0
  go_enter Tryz.func136, Tryz.ntmps136
  go_wp2_with fail
  go_ret
  exact ⟨ret_int (by rw [cycF, if_pos H0.out]), Chg.refl _ _⟩
 ·have hb : ((c.length : Int) == 0) = false := beq_eq_false_iff_ne.2 (by omega)
  by_cases h6 : 6 < c.length
  ·go_enter Tryz.func136, Tryz.ntmps136
   go_wp2_with fail
   go_ret
   exact ⟨ret_int (by rw [cycF, if_neg h0, if_pos h6]), Chg.refl _ _⟩
  ·obtain ⟨q, hq⟩ : ∃ q, q = c.any (outB 1 10000000) := ⟨_, rfl⟩
   have HF : Hid (cycF c = if q then 1 else 0) := by rw [hq, cycF, if_neg h0, if_neg h6]; rfl
   rw [← hq] at HC
   clear hq
   cases q <;>
   ·go_enter Tryz.func136, Tryz.ntmps136
    go_wp2_with (go_at_call 122; refine HC.out.mono ?_; rintro e w1 ⟨rfl, hc1⟩)
    go_ret
    exact ⟨ret_int HF.out.symm, hc1⟩

set_option maxHeartbeats 400000 in
theorem flowFault_any (v1 v2 : Value) (c b : List Int) (n : Int) (A1 A2 : Nat → Prop) (w : World) (h1 : IsSl w A1 v1 c) (h2 : IsSl w A2 v2 b) :
  Calls Tryz.prog 127 #[v1, v2, .int .i64 n] w fun e w' => e = .returned (.int .i64 (flowF c b n)) ∧ Chg NoB w w' := by
 have HY := hid (cyclesFault_any v1 c A1 w h1)
 have HC : Hid (∀ w1, Chg NoB w w1 → _) := hid fun w1 (hc : Chg NoB w w1) => containsFuncI v2 b _ _ _ A2 w1 (h2.keepN hc) (flowPred w1 b)
 obtain ⟨a1, cap1, rfl, g1, g2⟩ := h1.shape
 obtain ⟨a2, cap2, rfl, g3, g4⟩ := h2.shape
 unfold maxLen at g2 g4
 obtain ⟨f, hf⟩ : ∃ f, f = cycF c := ⟨_, rfl⟩
 rw [← hf] at HY
 by_cases hf0 : f = 0
 ·subst hf0
  by_cases hl : (b.length : Int) = c.length - 1
  ·have hb : ((b.length : Int) != (c.length : Int) - 1) = false := by simp [hl]
   obtain ⟨q, hq⟩ : ∃ q, q = b.any (outB 0 2000) := ⟨_, rfl⟩
   obtain ⟨r, hr⟩ : ∃ r, r = outB 1 2000 n := ⟨_, rfl⟩
   have HR := hid hr
   have HF : Hid (flowF c b n = if q || r then 1 else 0) := by rw [hq, hr, flowF, if_neg (by simpa using hf.symm), if_neg (by simpa using hl)]; rfl
   rw [← hq] at HC
   clear hq hr hf hl
   cases q <;> cases r <;>
   ·go_enter Tryz.func127, Tryz.ntmps127
    go_wp2_with (first | (go_at_call 136; refine HY.out.mono ?_; rintro e w1 ⟨rfl, hc1⟩) | (go_at_call 122; refine (HC.out _ (by assumption)).mono ?_; rintro e w2 ⟨rfl, hc2⟩) | (go_at_call 101; refine (outside_b _ _ _ _).mono ?_; rw [← HR.out]; rintro e w3 ⟨rfl, rfl⟩))
    go_ret
    exact ⟨ret_int HF.out.symm, by first | exact (by assumption : Chg NoB w _) | exact Chg.trans (by assumption) (by assumption)⟩
  ·have hb : ((b.length : Int) != (c.length : Int) - 1) = true := by simp [hl]
   have HF : Hid (flowF c b n = 3) := by unfold Hid; rw [flowF, if_neg (by simpa using hf.symm), if_pos hl]
   clear hf hl
   go_enter Tryz.func127, Tryz.ntmps127
   go_wp2_with (go_at_call 136; refine HY.out.mono ?_; rintro e w1 ⟨rfl, hc1⟩)
   go_ret
   exact ⟨ret_int HF.out.symm, hc1⟩
 ·have hb : (f != 0) = true := by simp [hf0]
  have HF : Hid (flowF c b n = f) := by unfold Hid; rw [flowF, if_pos (by rw [← hf]; exact hf0), hf]
  clear hf hf0
  go_enter Tryz.func127, Tryz.ntmps127
  go_wp2_with (go_at_call 136; refine HY.out.mono ?_; rintro e w1 ⟨rfl, hc1⟩)
  go_ret
  exact ⟨ret_int HF.out.symm, hc1⟩

set_option maxHeartbeats 600000 in
theorem boardsFault_any (v1 v2 : Value) (c b : List Int) (n : Int) (A1 A2 : Nat → Prop) (w : World) (h1 : IsSl w A1 v1 c) (h2 : IsSl w A2 v2 b) :
  Calls Tryz.prog 50 #[v1, v2, .int .i64 n] w fun e w' => e = .returned (.int .i64 (flowF c b n)) ∧ Chg NoB w w' := by
 have H1 := hid (containsFuncI v1 c _ _ _ A1 w h1 (refPred1 w c))
 have H2 : Hid (∀ w1, Chg NoB w w1 → _) := hid fun w1 (hc : Chg NoB w w1) => containsFuncI v2 b _ _ _ A2 w1 (h2.keepN hc) (refPred2 w1 b)
 obtain ⟨a1, cap1, rfl, g1, g2⟩ := h1.shape
 obtain ⟨a2, cap2, rfl, g3, g4⟩ := h2.shape
 unfold maxLen at g2 g4
 by_cases h0 : c.length = 0
 ·have hb : ((c.length : Int) == 0) = true := by simp [h0]
  have HF : Hid (flowF c b n = 8) := by unfold Hid; simp [flowF, cycF, h0]
  clear h0
  go_enter Tryz.func50, Tryz.ntmps50
  go_wp2_with fail
  go_ret
  exact ⟨ret_int HF.out.symm, Chg.refl _ _⟩
 ·have hb : ((c.length : Int) == 0) = false := beq_eq_false_iff_ne.2 (by omega)
  by_cases h6 : 6 < c.length
  ·have HF : Hid (flowF c b n = 2) := by unfold Hid; simp [flowF, cycF, h0, h6]
   go_enter Tryz.func50, Tryz.ntmps50
   go_wp2_with fail
   go_ret
   exact ⟨ret_int HF.out.symm, Chg.refl _ _⟩
  ·obtain ⟨f, hf⟩ : ∃ f, f = c.any (outB 1 10000000) := ⟨_, rfl⟩
   rw [← hf] at H1
   cases f
   ·have hy : cycF c = 0 := by rw [cycF, if_neg h0, if_neg h6, ← hf]; rfl
    clear hf
    by_cases hl : (b.length : Int) = c.length - 1
    ·have hb2 : ((b.length : Int) != (c.length : Int) - 1) = false := by simp [hl]
     obtain ⟨q, hq⟩ : ∃ q, q = b.any (outB 0 2000) := ⟨_, rfl⟩
     obtain ⟨r, hr⟩ : ∃ r, r = outB 1 2000 n := ⟨_, rfl⟩
     have HR := hid hr
     have HF : Hid (flowF c b n = if q || r then 1 else 0) := by rw [hq, hr, flowF, if_neg (by simpa using hy), if_neg (by simpa using hl)]; rfl
     rw [← hq] at H2
     clear hq hr hl hy
     cases q <;> cases r <;>
     ·go_enter Tryz.func50, Tryz.ntmps50
      go_wp2_with fail
      refine H1.out.mono ?_
      rintro e w1 ⟨rfl, hc1⟩
      go_wp2_with fail
      refine (H2.out _ hc1).mono ?_
      rintro e w2 ⟨rfl, hc2⟩
      go_wp2_with (go_at_call 94; refine (in_b _ _ _ _).mono ?_; rw [← HR.out]; rintro e w3 ⟨rfl, rfl⟩)
      go_ret
      exact ⟨ret_int HF.out.symm, hc1.trans hc2⟩
    ·have hb2 : ((b.length : Int) != (c.length : Int) - 1) = true := by simp [hl]
     have HF : Hid (flowF c b n = 3) := by unfold Hid; rw [flowF, if_neg (by simpa using hy), if_pos hl]
     clear hl hy
     go_enter Tryz.func50, Tryz.ntmps50
     go_wp2_with fail
     refine H1.out.mono ?_
     rintro e w1 ⟨rfl, hc1⟩
     go_wp2_with fail
     go_ret
     exact ⟨ret_int HF.out.symm, hc1⟩
   ·have hy : cycF c = 1 := by rw [cycF, if_neg h0, if_neg h6, ← hf]; rfl
    have HF : Hid (flowF c b n = 1) := by unfold Hid; rw [flowF, if_pos (by rw [hy]; decide), hy]
    clear hf hy
    go_enter Tryz.func50, Tryz.ntmps50
    go_wp2_with fail
    refine H1.out.mono ?_
    rintro e w1 ⟨rfl, hc1⟩
    go_wp2_with fail
    go_ret
    exact ⟨ret_int HF.out.symm, hc1⟩
end Go.Proofs.YtplphabekhaoaaaGreatDoor
namespace Go.Proofs.YtplphabekhaoaaaGreatDoor
open Go.RowKit
set_option linter.unusedVariables false
set_option linter.unusedSimpArgs false

structure Mat {α : Type} [Enc α] (w : World) (lo g n : Nat) (eo ei : TypeId) (V : Nat → Value) (R : Nat → List α) : Prop where
 low : lo ≤ g
 ex : ∃ cur, w.heap[g]? = some (.cells cur eo (0, 0)) ∧ cur.size = n ∧ ∀ k, k < n → cur[k]? = some (V k)
 own : ∀ k, k < n → Own w lo ei (V k) (R k)
 out : ∀ k, k < n → (V k).ownBlock ≠ some g
 sep : ∀ j k, j < n → k < n → j ≠ k → ∀ q, (V j).ownBlock = some q → (V k).ownBlock ≠ some q

namespace Mat
variable {α : Type} [Enc α] {w w' : World} {lo g n : Nat} {eo ei : TypeId} {V : Nat → Value} {R R' : Nat → List α}
theorem lt (h : Mat w lo g n eo ei V R) : g < w.heap.size := by obtain ⟨cur, h1, _⟩ := h.ex; exact (Array.getElem?_eq_some_iff.1 h1).1
theorem start (w : World) (lo n : Nat) (eo ei : TypeId) (hlo : lo ≤ w.heap.size) : Mat (α := α) (w.alloc (.cells (Array.replicate n (.slice none 0 0)) eo)) lo w.heap.size n eo ei (fun _ => .slice none 0 0) (fun _ => []) :=
 ⟨hlo, ⟨_, heap_alloc_new w _, by simp, fun k hk => by simp [hk]⟩, fun k hk => Own.nil _ _ _, fun k hk => by simp [Value.ownBlock], fun j k _ _ _ q h => by simp [Value.ownBlock] at h⟩
theorem congr (h : Mat w lo g n eo ei V R) (e : ∀ k, k < n → R k = R' k) : Mat w lo g n eo ei V R' :=
 ⟨h.low, h.ex, fun k hk => e k hk ▸ h.own k hk, h.out, h.sep⟩
theorem keep {S : Nat → Prop} (h : Mat w lo g n eo ei V R) (c : Chg S w w') (hs : ∀ k, lo ≤ k → k < w.heap.size → ¬ S k) : Mat w' lo g n eo ei V R := by
 obtain ⟨cur, h1, h2, h3⟩ := h.ex
 exact ⟨h.low, ⟨cur, (c.block g h.lt (hs g h.low h.lt)).trans h1, h2, h3⟩, fun k hk => (h.own k hk).keep c hs, h.out, h.sep⟩
theorem cell (h : Mat w lo g n eo ei V R) (k : Nat) (hk : k < n) : w.cell? ⟨g, k, none⟩ = some (V k) := by
 obtain ⟨cur, h1, h2, h3⟩ := h.ex
 simp [World.cell?, h1, h3 k hk]
theorem froz (h : Mat w lo g n eo ei V R) (k : Nat) : w.frozen? ⟨g, k, none⟩ = false := by
 obtain ⟨cur, h1, h2, h3⟩ := h.ex
 simp [World.frozen?, h1]
theorem step [Flat α] (h : Mat w lo g n eo ei V R) (k : Nat) (hk : k < n) (v' : Value) (xs : List α) (ho : Own w' lo ei v' xs) (c : Chg (blk (V k)) w w')
  (hb : ∀ q, v'.ownBlock = some q → (V k).ownBlock = some q ∨ w.heap.size ≤ q) :
  Mat (w'.setCell ⟨g, k, none⟩ v') lo g n eo ei (fun j => if j = k then v' else V j) (fun j => if j = k then xs else R j) := by
 obtain ⟨cur, h1, h2, h3⟩ := h.ex
 have hg : w'.heap[g]? = some (.cells cur eo (0, 0)) := (c.block g h.lt (h.out k hk)).trans h1
 have hs : Chg (AtB g) w' (w'.setCell ⟨g, k, none⟩ v') := Chg.setAt _ _ _ _
 have hvg : v'.ownBlock ≠ some g := by
  intro e
  rcases hb g e with e | e
  ·exact h.out k hk e
  ·have := h.lt; omega
 refine ⟨h.low, ⟨cur.setIfInBounds k v', ?_, by simpa using h2, ?_⟩, ?_, ?_, ?_⟩
 ·simp [World.setCell, Array.getElem?_modify, hg]
 ·intro j hj
  rw [Array.getElem?_setIfInBounds]
  by_cases hjk : k = j
  ·subst hjk; simp [h2, hk]
  ·rw [if_neg hjk, if_neg (fun e => hjk e.symm)]; exact h3 j hj
 ·intro j hj
  by_cases hjk : j = k
  ·subst hjk
   simp only [if_true]
   exact ho.keepF hs fun q hq x => by unfold AtB at x; subst x; exact hvg hq
  ·simp only [if_neg hjk]
   refine ((h.own j hj).keepF c fun q hq x => h.sep j k hj hk hjk q hq x).keepF hs fun q hq x => ?_
   unfold AtB at x; subst x; exact h.out j hj hq
 ·intro j hj
  by_cases hjk : j = k
  ·subst hjk; simpa using hvg
  ·simp only [if_neg hjk]; exact h.out j hj
 ·intro j i hj hi hne q hq
  by_cases hjk : j = k
  ·subst hjk
   simp only [if_true, if_neg (fun e : i = j => hne e.symm)] at hq ⊢
   rcases hb q hq with e | e
   ·exact h.sep j i hk hi hne q e
   ·intro e2
    have := ((h.own i hi).lt q e2).2
    omega
  ·simp only [if_neg hjk] at hq
   by_cases hik : i = k
   ·subst hik
    simp only [if_true]
    intro e
    rcases hb q e with e | e
    ·exact h.sep j i hj hi hjk q hq e
    ·have := ((h.own j hj).lt q hq).2
     omega
   ·simp only [if_neg hik]; exact h.sep j i hj hi hne q hq
theorem isSl (h : Mat w lo g n eo ei V R) (hm : n ≤ maxLen) : IsSl w (fun k => lo ≤ k) (.slice (some ⟨g, 0, none⟩) n n) ((List.range n).map R) := by
 obtain ⟨cur, h1, h2, h3⟩ := h.ex
 refine .inr ⟨g, 0, n, cur, eo, by simp, h.low, by simp, hm, h1, fun i hi => ?_⟩
 simp at hi
 refine ⟨V i, ?_, ?_⟩
 ·simpa [Enc.sz] using h3 i hi
 ·simpa using (h.own i hi).isSl
end Mat

theorem Own.pcell {w : World} {lo e g n cap : Nat} {xs : List Pass} (h : Own w lo e (.slice (some ⟨g, 0, none⟩) n cap) xs) (i : Nat) (hi : i < xs.length) :
  w.cell? ⟨g, i * 2, none⟩ = some (.int .i64 xs[i].taken) ∧ w.cell? ⟨g, i * 2 + 1, none⟩ = some (.int .i64 xs[i].left) := by
 obtain ⟨b, off, ha, hb, hc⟩ := h.isSl.cells.2 (by omega)
 cases ha
 have := hc i hi
 simp only [Enc.Is, Enc.sz, Nat.zero_add, Nat.add_zero] at this
 exact this

theorem infoPass : (Tryz.prog.info? 169).map (fun i => (i.zero, i.size, i.bytes)) = some (some (.agg #[.int .i64 0, .int .i64 0]), 2, 16) := by kernel_rfl
theorem infoSlPass : (Tryz.prog.info? 167).map (fun i => (i.zero, i.size, i.bytes)) = some (some (.slice none 0 0), 1, 24) := by kernel_rfl

def PBlk (w : World) (P : Nat) (x y : Int) : Prop := w.heap[P]? = some (.cells #[.int .i64 x, .int .i64 y] 169 (0, 0))
theorem PBlk.new (w : World) (x y : Int) : PBlk (w.alloc (.cells #[.int .i64 x, .int .i64 y] 169)) w.heap.size x y := heap_alloc_new w _
theorem PBlk.facts {w : World} {P : Nat} {x y : Int} (h : PBlk w P x y) : w.cell? ⟨P, 0, none⟩ = some (.int .i64 x) ∧ w.cell? ⟨P, 1, none⟩ = some (.int .i64 y) ∧ w.frozen? ⟨P, 0, none⟩ = false ∧ w.frozen? ⟨P, 1, none⟩ = false := by
 unfold PBlk at h
 simp [World.cell?, World.frozen?, h]
theorem PBlk.set1 {w : World} {P : Nat} {x y : Int} (h : PBlk w P x y) (z : Int) : PBlk (w.setCell ⟨P, 1, none⟩ (.int .i64 z)) P x z := by
 unfold PBlk at h ⊢; simp [World.setCell, Array.getElem?_modify, h]

def rowP (c bf : List Int) (b k j : Nat) : List Pass := (List.range (if j < k then b + 1 else b)).map fun q => pas c bf q j


theorem flow_step {c bf : List Int} {w wr w5 w6 : World} {V : Nat → Value} {b k g6 cap6 : Nat} {ak : Option Addr} {capk : Nat} {T Z : Int} (hkl : k < c.length)
  (hmx : Mat w5 w.heap.size w.heap.size c.length 167 169 V (rowP c bf b k)) (hT : T = (pas c bf b k).taken) (hZ : Z = (pas c bf b k).left)
  (hv : V k = .slice ak b capk) (hown : Own w6 w.heap.size 169 (.slice (some ⟨g6, 0, none⟩) ((rowP c bf b k k).length + 1) cap6) (rowP c bf b k k ++ [⟨T, Z⟩]))
  (hc6 : Chg (blk (.slice ak b capk)) w5.drew w6) (hg6 : (Value.slice ak b capk).ownBlock = some g6 ∨ w5.drew.heap.size ≤ g6)
  (hch : Chg (NewB w.heap.size) w wr) (hcx : Chg (NewB wr.heap.size) wr w5) :
  Mat (w6.setCell ⟨w.heap.size, k, none⟩ (.slice (some ⟨g6, 0, none⟩) ((rowP c bf b k k).length + 1) cap6)) w.heap.size w.heap.size c.length 167 169
    (fun j => if j = k then .slice (some ⟨g6, 0, none⟩) ((rowP c bf b k k).length + 1) cap6 else V j) (rowP c bf b (k + 1)) ∧
   Chg (NewB w.heap.size) w (w6.setCell ⟨w.heap.size, k, none⟩ (.slice (some ⟨g6, 0, none⟩) ((rowP c bf b k k).length + 1) cap6)) ∧ here c bf b (k + 1) = Z := by
 rw [← hv] at hc6 hg6
 refine ⟨(hmx.step k hkl _ _ hown hc6.ofDrew fun q hq => ?_).congr fun j hj => ?_, ?_, ?_⟩
 ·simp only [Value.ownBlock, Option.some.injEq] at hq
  subst hq; exact hg6
 ·by_cases hjk : j = k
  ·subst hjk
   simp only [if_true, rowP, Nat.lt_irrefl, if_false, Nat.lt_succ_self, List.range_succ, List.map_append, List.map_cons, List.map_nil]
   rw [hT, hZ]
  ·simp only [if_neg hjk, rowP]
   have : j < k + 1 ↔ j < k := by omega
   simp only [this]
 ·have h1 : Chg (NewB w.heap.size) w w5 := hch.trans (hcx.mono fun q hq x => by have := hch.size; unfold NewB at x ⊢; omega)
  exact (h1.trans (hc6.ofDrew.mono fun q hq x => ((hmx.own k hkl).lt q x).1)).setCell (a := ⟨w.heap.size, k, none⟩) (fun _ => Nat.le_refl _) _
 ·simp [here, hZ]

set_option maxHeartbeats 2000000 in
set_option maxRecDepth 100000 in
theorem flow_any (v1 v2 : Value) (c bf : List Int) (n : Nat) (A1 A2 : Nat → Prop) (w : World) (h1 : IsSl w A1 v1 c) (h2 : IsSl w A2 v2 bf) (hr : RightLine c bf) (hn : n ≤ 2000) :
    Calls Tryz.prog 128 #[v1, v2, .int .i64 n] w fun e w' => ∃ v, e = .returned v ∧ IsSl w' (fun k => w.heap.size ≤ k) v ((List.range c.length).map fun k => (List.range n).map fun q => pas c bf q k) ∧ Chg NoB w w' := by
  obtain ⟨a1, cap1, rfl, g1, g2⟩ := h1.shape
  obtain ⟨a2, cap2, rfl, g3, g4⟩ := h2.shape
  unfold maxLen at g2 g4
  have hlen := hr.len
  have hpos := hr.pos
  have hbl := hr.bl
  have HR := hid hr; clear hr
  go_enter Tryz.func128, Tryz.ntmps128
  go_wp2_with (at_make; refine wpl_make_raw w rfl _ _ 165 167 rfl (.slice none 0 0) 24 Tryz.underlying165 infoSlPass rfl (by decide) .i64 .i64 _ _ rfl rfl c.length rfl rfl (by omega) ?_)
  have hst := Mat.start (α := Pass) w w.heap.size c.length 167 169 (Nat.le_refl _)
  obtain ⟨w0, hw0⟩ : ∃ w0, w0 = w.alloc (.cells (Array.replicate c.length (.slice none 0 0)) 167) := ⟨_, rfl⟩
  have hc0 : Chg NoB w w0 := by rw [hw0]; exact (Chg.refl _ _).alloc _
  rw [← hw0] at hst ⊢
  clear hw0
  go_loopw [8, 18] (fun _ i wr => ∃ (b : Nat) (V : Nat → Value), b ≤ n ∧ i = .int .i64 b ∧ Mat wr w.heap.size w.heap.size c.length 167 169 V (rowP c bf b 0) ∧ Chg (NewB w.heap.size) w wr)
    (fun _ i _ => n - (intOf i).toNat)
  case atStart => exact ⟨0, _, by omega, rfl, hst.congr fun k hk => by simp [rowP], hc0.any⟩
  case round =>
    obtain ⟨b, V, hb, rfl, hmat, hch⟩ := hrel
    by_cases hbn : b < n
    · obtain ⟨wo, rfl⟩ : ∃ wo : World, wo = wr := ⟨_, rfl⟩
      go_wp2_with fail
      go_loopw [9, 10, 11, 13, 23] (fun h _ _ _ i wr => ∃ (k : Nat) (V : Nat → Value), k ≤ c.length ∧ i = .int .i64 k ∧ h = .int .i64 (here c bf b k) ∧ Mat wr w.heap.size w.heap.size c.length 167 169 V (rowP c bf b k) ∧ Chg (NewB w.heap.size) w wr)
        (fun _ _ _ _ i _ => c.length - (intOf i).toNat)
      case atStart => exact ⟨0, _, by omega, rfl, rfl, hmat, hch⟩
      case round =>
        clear hmat hch
        obtain ⟨k, V, hk, rfl, rfl, hmat, hch⟩ := hrel
        by_cases hkl : k < c.length
        · have hszr := hch.size
          have hgl := hmat.lt
          obtain ⟨bc, oc, rfl, _, hcc⟩ := h1.ints (by omega)
          have hcell := hch.cellNew (Nat.le_refl _) (hcc k hkl)
          have hbd := pas_bd HR.out b k hkl
          have hck := HR.out.c1 k hkl
          have hac : at' c k = c[k] := by simp [at', hkl]
          rw [hac] at hbd hck
          obtain ⟨T, hT⟩ : ∃ T, T = (pas c bf b k).taken := ⟨_, rfl⟩
          obtain ⟨Z, hZ⟩ : ∃ Z, Z = (pas c bf b k).left := ⟨_, rfl⟩
          rw [← hT, ← hZ] at hbd
          have HT := hid hT; clear hT
          have HZ := hid hZ; clear hZ
          have HAC := hid hac; clear hac
          have HCC := hid hcc; clear hcc
          go_upto_if 31 with (fail)
          go_cut [] (fun wx => PBlk wx wr.heap.size T 0 ∧ Chg (NewB wr.heap.size) wr wx)
          case first =>
            have htk := pas_taken c bf b k
            rw [← HT.out] at htk
            by_cases hb0 : 0 < b
            · rw [if_neg (by omega)] at htk
              obtain ⟨q, rfl⟩ : ∃ q, b = q + 1 := ⟨b - 1, by omega⟩
              simp only [Nat.add_sub_cancel] at htk
              have HTK := hid htk; clear htk
              have hVk : (rowP c bf (q + 1) k k).length = q + 1 := by simp [rowP]
              have hok := hmat.own k hkl
              obtain ⟨ak, capk, hav, _, _⟩ := hok.shape
              rw [hav] at hok
              obtain ⟨gk, rfl, hgk1, hgk2⟩ := hok.head (by omega)
              have hov := hmat.cell k hkl
              rw [hav] at hov
              have hpk := (hok.pcell q (by omega)).2
              have e1 : (rowP c bf (q + 1) k k)[q]'(by omega) = pas c bf q k := by simp [rowP]
              rw [e1] at hpk
              rw [hVk] at hov
              clear e1 hVk hav
              go_wp2_with fail
              go_meet
              case rel =>
                rw [HTK.out]
                exact ⟨PBlk.new _ _ _, (Chg.refl _ _).alloc _⟩
            · rw [if_pos (by omega)] at htk
              have HTK := hid htk; clear htk
              go_wp2_with fail
              go_meet
              case rel =>
                rw [HTK.out]
                exact ⟨PBlk.new _ _ _, (Chg.refl _ _).alloc _⟩
          case rest =>
            obtain ⟨hpb, hcx⟩ := hcut
            obtain ⟨f0, f1, f2, f3⟩ := hpb.facts
            have hszx := hcx.size
            have hcell1 := hcx.cellNew (Nat.le_refl _) hcell
            go_upto_if 53 with (fail)
            have hpb1 := hpb.set1 (T + c[k])
            have hcx1 : Chg (NewB wr.heap.size) wr (wc.setCell ⟨wr.heap.size, 1, none⟩ (.int .i64 (T + c[k]))) := hcx.setCell (a := ⟨wr.heap.size, 1, none⟩) (fun _ => Nat.le_refl _) _
            go_cut [] (fun wx => PBlk wx wr.heap.size T Z ∧ Chg (NewB wr.heap.size) wr wx)
            case first =>
              have hlf := pas_left c bf b k
              rw [← HT.out, ← HZ.out, HAC.out] at hlf
              obtain ⟨f0', f1', f2', f3'⟩ := hpb1.facts
              by_cases hk1 : k + 1 < c.length
              · rw [if_pos hk1] at hlf
                obtain ⟨bb, ob, rfl, _, hbc⟩ := h2.ints (by omega)
                have hbcell := hcx1.cell (hch.cellNew (Nat.le_refl _) (hbc k (by omega))) (Nat.not_le_of_lt (World.block_lt_of_cell? _ _ (hch.cellNew (Nat.le_refl _) (hbc k (by omega)))))
                have hb0k := HR.out.b0 k
                have hbk : at' bf k = bf[k]'(by omega) := by simp [at', show k < bf.length by omega]
                obtain ⟨r, hr⟩ : ∃ r : Nat, bf[k]'(by omega) = (r : Int) := ⟨(bf[k]'(by omega)).toNat, by omega⟩
                rw [hr] at hbcell hbk
                rw [hbk] at hlf
                clear hbc hb0k hbk hr f0 f1 f2 f3
                by_cases hr0 : r = 0
                · subst hr0
                  rw [if_pos (by simp)] at hlf
                  by_cases hb0 : 0 < b
                  · obtain ⟨q, rfl⟩ : ∃ q, b = q + 1 := ⟨b - 1, by omega⟩
                    rw [if_neg (by omega)] at hlf
                    simp only [Nat.add_sub_cancel] at hlf
                    have HLF := hid hlf; clear hlf
                    have hVn : (rowP c bf (q + 1) k (k + 1)).length = q + 1 := by simp [rowP]
                    have hon := hmat.own (k + 1) hk1
                    obtain ⟨an, capn, han, _, _⟩ := hon.shape
                    rw [han] at hon
                    obtain ⟨gn, rfl, hgn1, hgn2⟩ := hon.head (by omega)
                    have hovn := hcx1.cell (hmat.cell (k + 1) hk1) (Nat.not_le_of_lt hgl)
                    rw [han, hVn] at hovn
                    have hpn := hcx1.cell (hon.pcell q (by omega)).2 (Nat.not_le_of_lt hgn2)
                    have e1 : (rowP c bf (q + 1) k (k + 1))[q]'(by omega) = pas c bf q (k + 1) := by simp [rowP]
                    rw [e1] at hpn
                    clear e1 hVn han
                    go_wp2_with fail
                    go_region
                    all_goals go_wp2_with fail
                    all_goals go_meet
                    case rel => rw [HLF.out]; exact ⟨hpb1.set1 _, (hcx1.setCell (a := ⟨wr.heap.size, 1, none⟩) (fun _ => Nat.le_refl _) _).drew⟩
                  · rw [if_pos (by omega)] at hlf
                    have HLF := hid hlf; clear hlf
                    have hb1 : b = 0 := by omega
                    subst hb1
                    go_wp2_with fail
                    go_meet
                    case rel => rw [HLF.out]; exact ⟨hpb1, hcx1⟩
                · rw [if_neg (by omega)] at hlf
                  by_cases hrb : r ≤ b
                  · rw [if_pos (by omega)] at hlf
                    have hr1 : ((r : Int) == 0) = false := by simp; omega
                    obtain ⟨t, rfl⟩ : ∃ t, b = t + r := ⟨b - r, by omega⟩
                    have ht1 : ((t + r : Nat) : Int) - ((r : Int)) = (t : Int) := by omega
                    have ht2 : t + r - (r : Int).toNat = t := by omega
                    rw [ht2] at hlf
                    have HLF := hid hlf; clear hlf ht2
                    have hVn : (rowP c bf (t + r) k (k + 1)).length = t + r := by simp [rowP]
                    have hon := hmat.own (k + 1) hk1
                    obtain ⟨an, capn, han, _, _⟩ := hon.shape
                    rw [han] at hon
                    obtain ⟨gn, rfl, hgn1, hgn2⟩ := hon.head (by omega)
                    have hovn := hcx1.cell (hmat.cell (k + 1) hk1) (Nat.not_le_of_lt hgl)
                    rw [han, hVn] at hovn
                    have hpn := hcx1.cell (hon.pcell t (by omega)).1 (Nat.not_le_of_lt hgn2)
                    have e1 : (rowP c bf (t + r) k (k + 1))[t]'(by omega) = pas c bf t (k + 1) := by simp [rowP]
                    rw [e1] at hpn
                    clear e1 hVn han
                    go_wp2_with fail
                    go_region
                    all_goals go_wp2_with fail
                    all_goals go_meet
                    case rel => rw [HLF.out]; exact ⟨hpb1.set1 _, (hcx1.setCell (a := ⟨wr.heap.size, 1, none⟩) (fun _ => Nat.le_refl _) _).drew⟩
                  · rw [if_neg (by omega)] at hlf
                    have HLF := hid hlf; clear hlf
                    have hr1 : ((r : Int) == 0) = false := by simp; omega
                    go_wp2_with fail
                    go_meet
                    case rel => rw [HLF.out]; exact ⟨hpb1, hcx1⟩
              · rw [if_neg hk1] at hlf
                have HLF := hid hlf; clear hlf
                go_wp2_with fail
                go_meet
                case rel => rw [HLF.out]; exact ⟨hpb1, hcx1⟩
            case rest =>
              clear hpb hcx f0 f1 f2 f3 hcell1 hpb1 hcx1 hszx
              obtain ⟨hpb, hcx⟩ := hcut
              obtain ⟨w5, rfl⟩ : ∃ w5 : World, w5 = wc := ⟨_, rfl⟩
              obtain ⟨f0, f1, f2, f3⟩ := hpb.facts
              have hszx := hcx.size
              have hVk : (rowP c bf b k k).length = b := by simp [rowP]
              have hmx : Mat w5 w.heap.size w.heap.size c.length 167 169 V (rowP c bf b k) := hmat.keep hcx fun q _ h2 h3 => Nat.not_le_of_lt h2 h3
              have hok := hmx.own k hkl
              obtain ⟨ak, capk, hav, _, _⟩ := hok.shape
              have hov := hmx.cell k hkl
              have hfz := hmx.froz k
              rw [hav] at hok
              rw [hav, hVk] at hov
              rw [hVk] at hok
              obtain ⟨i0, hi, hz0, hz1, hz2⟩ := info_parts infoPass
              have HI := hid hi; clear hi
              have HZ0 := hid hz0; clear hz0
              have HZ1 := hid hz1; clear hz1
              have HZ2 := hid hz2; clear hz2
              have HOUT := hid (hmx.out k hkl)
              rw [hav, hVk] at HOUT
              have HAV : Hid (V k = .slice ak b capk) := by unfold Hid; rw [hav, hVk]
              clear hav
              have hpout : ¬ blk (.slice ak b capk) wr.heap.size := fun x => by
                have := ((hmat.own k hkl).lt wr.heap.size (by rw [HAV.out]; exact x)).2
                omega
              have HPO := hid hpout; clear hpout
              have hlo5 : w.heap.size ≤ w5.heap.size := by omega
              have hlt5 : w.heap.size < w5.heap.size := hmx.lt
              have hVk' : (rowP c bf b k k).length ≤ 1000000000 := by omega
              have hHV := hid hVk; clear hVk
              go_wp2_with fail
              go_region_law ((refine step_append1 (α := Pass) w5.drew #[.int .i64 T, .int .i64 Z] rfl (.tmp 107) (.tmp 109) 167 169 rfl i0 (.agg #[.int .i64 0, .int .i64 0]) 16 Tryz.underlying167 HI.out HZ0.out HZ1.out HZ2.out rfl (by decide) w.heap.size (.slice ak b capk) (rowP c bf b k k) ⟨T, Z⟩ hok hlo5 hVk' ⟨rfl, rfl⟩ rfl rfl rfl ?_; intro g6 cap6 w6 hown6 hc6 hg6 hl6; have hov6 := hc6.cell hov (fun x => HOUT.out x); have hfz6 := (hc6.froz (a := ⟨w.heap.size, k, none⟩) hlt5 (fun x => HOUT.out x)).trans hfz; have hp6 := hc6.cell f1 (fun x => HPO.out x)))
              all_goals go_wp2_with fail
              all_goals
                have hfs := flow_step hkl hmx HT.out HZ.out HAV.out hown6 hc6 hg6 hch hcx
                go_roundw
                case rel => exact ⟨k + 1, _, by omega, by go_num, by rw [hfs.2.2], hfs.1, hfs.2.1⟩
                case measure => simp [intOf]; omega
        · go_wp2_with fail
          go_roundw
          case rel => exact ⟨b + 1, V, by omega, by go_num, hmat.congr fun j hj => by simp [rowP, show j < k by omega], hch⟩
          case measure => simp [intOf]; omega
    · obtain rfl : b = n := by omega
      go_wp2_with fail
      go_ret
      refine ⟨_, rfl, ?_, hch.mono fun q h1 h2 => by unfold NewB at h2; omega⟩
      have := hmat.isSl (by simp only [maxLen]; omega)
      have e : rowP c bf b 0 = fun k => (List.range b).map fun q => pas c bf q k := by funext k; simp [rowP]
      rwa [e] at this
end Go.Proofs.YtplphabekhaoaaaGreatDoor
namespace Go.Proofs.YtplphabekhaoaaaGreatDoor
open Go.RowKit
set_option linter.unusedVariables false
set_option linter.unusedSimpArgs false

theorem any_false {lo hi : Int} {xs : List Int} (h : xs.any (outB lo hi) = false) : ∀ k, k < xs.length → lo ≤ at' xs k ∧ at' xs k ≤ hi := by
 intro k hk
 rw [List.any_eq_false] at h
 have := h xs[k] (List.getElem_mem _)
 simp only [outB, Bool.or_eq_true, decide_eq_true_eq, not_or] at this
 simp only [at', List.getD, List.getElem?_eq_getElem hk, Option.getD_some]
 omega

theorem flowF_right {c b : List Int} {n : Int} (h : flowF c b n = 0) : RightLine c b ∧ 1 ≤ n ∧ n ≤ 2000 := by
 unfold flowF at h
 by_cases hc : cycF c ≠ 0
 ·rw [if_pos hc] at h; exact absurd h hc
 ·rw [if_neg hc] at h
  have hc' : cycF c = 0 := by simpa using hc
  unfold cycF at hc'
  by_cases h0 : c.length = 0
  ·rw [if_pos h0] at hc'; omega
  ·rw [if_neg h0] at hc'
   by_cases h6 : 6 < c.length
   ·rw [if_pos h6] at hc'; omega
   ·rw [if_neg h6] at hc'
    cases ha : c.any (outB 1 10000000) with
    | true => rw [ha] at hc'; simp at hc'
    | false =>
     by_cases hl : (b.length : Int) ≠ c.length - 1
     ·rw [if_pos hl] at h; omega
     ·rw [if_neg hl] at h
      cases hb : b.any (outB 0 2000) with
      | true => rw [hb] at h; simp at h
      | false =>
       cases hn : outB 1 2000 n with
       | true => rw [hn] at h; simp at h
       | false =>
        simp only [outB, Bool.or_eq_false_iff, decide_eq_false_iff_not] at hn
        refine ⟨⟨by omega, by omega, any_false ha, fun k => ?_, by omega⟩, by omega, by omega⟩
        by_cases hk : k < b.length
        ·exact (any_false hb k hk).1
        ·simp [at', List.getD, List.getElem?_eq_none (show b.length ≤ k by omega)]

theorem IsSl.rows {α : Type} [Enc α] {w : World} {A : Nat → Prop} {a : Option Addr} {n cap : Nat} {xs : List (List α)} (h : IsSl w A (.slice a n cap) xs) (hp : 0 < xs.length) :
  ∃ b off, a = some ⟨b, off, none⟩ ∧ A b ∧ ∀ i, (hi : i < xs.length) → ∃ v, w.cell? ⟨b, off + i, none⟩ = some v ∧ IsSl w A v xs[i] := by
 obtain ⟨b, off, ha, hb, hc⟩ := h.cells.2 hp
 refine ⟨b, off, ha, hb, fun i hi => ?_⟩
 have := hc i hi
 simpa [Enc.Is, Enc.sz] using this
theorem IsSl.passes {w : World} {A : Nat → Prop} {a : Option Addr} {n cap : Nat} {xs : List Pass} (h : IsSl w A (.slice a n cap) xs) (hp : 0 < xs.length) :
  ∃ b off, a = some ⟨b, off, none⟩ ∧ A b ∧ ∀ i, (hi : i < xs.length) → w.cell? ⟨b, off + i * 2, none⟩ = some (.int .i64 xs[i].taken) ∧ w.cell? ⟨b, off + i * 2 + 1, none⟩ = some (.int .i64 xs[i].left) := by
 obtain ⟨b, off, ha, hb, hc⟩ := h.cells.2 hp
 refine ⟨b, off, ha, hb, fun i hi => ?_⟩
 have := hc i hi
 simpa [Enc.Is, Enc.sz] using this

def leaves (c bf : List Int) (n : Nat) : List Int := (List.range n).map fun q => (pas c bf q (c.length - 1)).left
def leavesF (c bf : List Int) (n : Int) : List Int := if flowF c bf n = 0 then leaves c bf n.toNat else []

set_option maxHeartbeats 1000000 in
theorem leave_any (v1 v2 : Value) (c bf : List Int) (n : Int) (A1 A2 : Nat → Prop) (w : World) (h1 : IsSl w A1 v1 c) (h2 : IsSl w A2 v2 bf) :
  Calls Tryz.prog 52 #[v1, v2, .int .i64 n] w fun e w' => ∃ v, e = .returned (.tuple #[v, .int .i64 (flowF c bf n)]) ∧ IsSl w' (fun k => w.heap.size ≤ k) v (leavesF c bf n) ∧ Chg NoB w w' := by
 have HF := hid (flowFault_any v1 v2 c bf n A1 A2 w h1 h2)
 by_cases hf : flowF c bf n = 0
 ·obtain ⟨hr, hn1, hn2⟩ := flowF_right hf
  obtain ⟨m, rfl⟩ : ∃ m : Nat, n = m := ⟨n.toNat, by omega⟩
  have HL : Hid (leavesF c bf m = leaves c bf m) := by unfold Hid; rw [leavesF, if_pos hf]; simp
  have HFL : Hid (∀ w1, Chg NoB w w1 → _) := hid fun w1 (hc : Chg NoB w w1) => flow_any v1 v2 c bf m A1 A2 w1 (h1.keepN hc) (h2.keepN hc) hr (by omega)
  have hpos := hr.pos
  have hlen := hr.len
  rw [hf] at HF ⊢
  have HR := hid hr; clear hr hf
  go_enter Tryz.func52, Tryz.ntmps52
  go_wp2_with fail
  refine HF.out.mono ?_
  rintro e w1 ⟨rfl, hc1⟩
  go_wp2_with fail
  refine (HFL.out w1 hc1).mono ?_
  rintro e w2 ⟨v, rfl, hv, hc2⟩
  obtain ⟨a, cap, rfl, g1, g2⟩ := hv.shape
  obtain ⟨b, off, rfl, hb, hrows⟩ := hv.rows (by simp; omega)
  obtain ⟨vr, hcell, hrow⟩ := hrows (c.length - 1) (by simp; omega)
  obtain ⟨ar, capr, rfl, g3, g4⟩ := hrow.shape
  simp only [List.getElem_map, List.getElem_range, List.length_map, List.length_range] at hcell hrow g1 g3 ⊢
  have hc12 := hc1.trans hc2
  have hsz2 := hc12.size
  go_wp2_with fail
  go_loopw [10, 12, 31] (fun v _ i wr => ∃ (j : Nat), j ≤ m ∧ i = .int .i64 j ∧ Own wr w2.heap.size 3 v ((List.range j).map fun q => (pas c bf q (c.length - 1)).left) ∧ Chg (NewB w2.heap.size) w2 wr)
   (fun _ _ i _ => m - (intOf i).toNat)
  case atStart => exact ⟨0, by omega, rfl, Own.nil _ _ _, Chg.refl _ _⟩
  case round =>
   obtain ⟨j, hj, rfl, hown, hch⟩ := hrel
   have hszr := hch.size
   by_cases hjm : j < m
   ·obtain ⟨br, offr, rfl, _, hps⟩ := hrow.passes (by simp; omega)
    obtain ⟨p0, p1⟩ := hps j (by simp; omega)
    simp only [List.getElem_map, List.getElem_range] at p0 p1
    have p0' := hch.cellNew (Nat.le_refl _) p0
    have p1' := hch.cellNew (Nat.le_refl _) p1
    clear hps p0 p1
    obtain ⟨X, hX⟩ : ∃ X, X = (pas c bf j (c.length - 1)).left := ⟨_, rfl⟩
    obtain ⟨Y, hY⟩ : ∃ Y, Y = (pas c bf j (c.length - 1)).taken := ⟨_, rfl⟩
    rw [← hX] at p1'
    rw [← hY] at p0'
    have HX := hid hX; clear hX hY
    obtain ⟨av, capv, hv', _, _⟩ := hown.shape
    simp only [List.length_map, List.length_range] at hv'
    subst hv'
    have hal := hown.keep (S := NoB) ((Chg.refl NoB wr).alloc (.cells #[.int .i64 Y, .int .i64 X] 169)) (fun _ _ _ x => x)
    go_wp2_with (at_builtin; refine wpl_append_intB (wr.alloc (.cells #[.int .i64 Y, .int .i64 X] 169)) rfl _ _ 22 3 rfl Tryz.underlying22 infoInt w2.heap.size _ _ _ hal (by simp; omega) (by simp; omega) _ (by simp) j (by simp) rfl rfl ?_; intro g cap' w3 hown3 hc3 hg3 hlg)
    have hc23 : Chg (NewB w2.heap.size) w2 w3 := (hch.trans ((Chg.refl _ wr).alloc _)).trans (hc3.mono fun q hq x => (hal.lt q x).1)
    go_roundw
    case rel => exact ⟨j + 1, by omega, by go_num, by rw [List.range_succ, List.map_append]; simpa [HX.out] using hown3, hc23⟩
    case measure => simp [intOf]; omega
   ·obtain rfl : j = m := by omega
    go_wp2_with fail
    go_ret2
    exact ⟨_, rfl, by rw [HL.out]; exact hown.isSl.low fun q hq _ => by omega, hc12.trans (hch.mono fun q h1 h2 => by unfold NewB at h2; omega)⟩
 ·have hb : (flowF c bf n != 0) = true := by simp [hf]
  have HL : Hid (leavesF c bf n = []) := by unfold Hid; rw [leavesF, if_neg hf]
  clear hf
  go_enter Tryz.func52, Tryz.ntmps52
  go_wp2_with fail
  refine HF.out.mono ?_
  rintro e w1 ⟨rfl, hc1⟩
  go_wp2_with fail
  go_ret2
  exact ⟨_, rfl, by rw [HL.out]; exact IsSl.nil _ _, hc1⟩
end Go.Proofs.YtplphabekhaoaaaGreatDoor
namespace Go.Proofs.YtplphabekhaoaaaGreatDoor
open Go.RowKit
set_option linter.unusedVariables false
set_option linter.unusedSimpArgs false

theorem lined_flow : flowF [10, 30] [0] 2 = 0 := by decide +kernel
theorem lined_leaves : leavesF [10, 30] [0] 2 = [40, 70] := by
 rw [leavesF, if_pos lined_flow]
 have a00 : (pas [10, 30] [0] 0 0).taken = 0 := by rw [pas_taken]; simp [here]
 have b00 : (pas [10, 30] [0] 0 0).left = 10 := by rw [pas_left, a00]; simp [at']
 have a01 : (pas [10, 30] [0] 0 1).taken = 10 := by rw [pas_taken]; simp [here, b00]
 have b01 : (pas [10, 30] [0] 0 1).left = 40 := by rw [pas_left, a01]; simp [at']
 have a10 : (pas [10, 30] [0] 1 0).taken = 10 := by rw [pas_taken]; simp [here, b00]; decide
 have b10 : (pas [10, 30] [0] 1 0).left = 40 := by rw [pas_left, a10]; simp [at', b01]; decide
 have a11 : (pas [10, 30] [0] 1 1).taken = 40 := by rw [pas_taken]; simp [here, b10, b01]
 have b11 : (pas [10, 30] [0] 1 1).left = 70 := by rw [pas_left, a11]; simp [at']
 simp [leaves, List.range_succ, b01, b11]

end Go.Proofs.YtplphabekhaoaaaGreatDoor
namespace Go.Proofs.YtplphabekhaoaaaGreatDoor
open Go.RowKit
set_option linter.unusedVariables false
set_option linter.unusedSimpArgs false

theorem isSl_of_rep {w : World} {Z : Nat → Prop} {xs : List Int} {v : Value} (h : Rep w Z (avInts xs) v) : IsSl w Z v xs := by
 change Rep w Z (.im xs.length 1 fun j => avI (xs.getD j 0)) v at h
 generalize hn : xs.length = n at h
 cases h with
 | nil => exact .inl ⟨rfl, List.eq_nil_of_length_eq_zero hn⟩
 | im n sz f b off cap c e u hZ h1 h2 hb hc hr =>
  refine .inr ⟨b, off, cap, c, e, by rw [hn], hZ, by omega, h2, hb, fun i hi => ?_⟩
  show c[off + i * 1 + 0]? = some (.int .i64 xs[i])
  have k1 := hc i (by omega)
  have k2 := (hr i (by omega)).eq_v
  rw [k2] at k1
  simpa [hi] using k1
theorem rep_of_isSl {w : World} {A : Nat → Prop} {v : Value} {xs : List Int} (h : IsSl w A v xs) : Rep w A (avInts xs) v := by
 rcases h with ⟨rfl, rfl⟩ | ⟨b, off, cap, c, e, rfl, hb, hl, hm, hh, hi⟩
 ·exact .nil _ _
 ·refine .im _ 1 _ b off cap c e (fun j => .int .i64 (xs.getD j 0)) hb hl hm hh (fun j hj => ?_) fun j hj => .v _
  have : c[off + j * 1 + 0]? = some (.int .i64 (xs[j]'(by omega))) := hi j (by omega)
  have hj' : j < xs.length := by omega
  simpa [hj'] using this
theorem argsLLv {x y : AV} {u : Value} {w : World} {A : Nat → Prop} {us : Array Value} (h : Args w A [x, y, .v u] us) : ∃ v1 v2, us = #[v1, v2, u] ∧ Rep w (fun b => b < w.heap.size ∧ A b) x v1 ∧ Rep w (fun b => b < w.heap.size ∧ A b) y v2 := by
 obtain ⟨h1, h2⟩ := h
 have e2 := (h2 2 (by simp)).eq_v
 refine ⟨us.getD 0 undef, us.getD 1 undef, ?_, h2 0 (by simp), h2 1 (by simp)⟩
 apply Array.ext (by simpa using h1)
 intro i hi hi'
 simp at hi'
 rw [h1] at hi
 match i, hi' with
 | 0, _ => simp [Array.getD_eq_getD_getElem?, h1]
 | 1, _ => simp [Array.getD_eq_getD_getElem?, h1]
 | 2, _ => simpa [Array.getD_eq_getD_getElem?, h1] using e2
theorem argsL {x : AV} {w : World} {A : Nat → Prop} {us : Array Value} (h : Args w A [x] us) : ∃ v1, us = #[v1] ∧ Rep w (fun b => b < w.heap.size ∧ A b) x v1 := by
 obtain ⟨h1, h2⟩ := h
 refine ⟨us.getD 0 undef, ?_, h2 0 (by simp)⟩
 apply Array.ext (by simpa using h1)
 intro i hi hi'
 simp at hi'
 subst hi'
 simp [Array.getD_eq_getD_getElem?, h1]
theorem line_Leave_S {c b : List Int} {n : Int} : SpecN Tryz.prog 52 [avInts c, avInts b, avI n] (fun y => y = .tup [avInts (leavesF c b n), avI (flowF c b n)]) := by
 intro w us ha
 obtain ⟨v1, v2, rfl, q1, q2⟩ := argsLLv ha
 refine (leave_any v1 v2 c b n _ _ w (isSl_of_rep q1) (isSl_of_rep q2)).mono ?_
 rintro e w' ⟨v, rfl, hv, hc⟩
 refine ⟨_, _, rfl, rfl, .tup _ _ rfl fun j hj => ?_, hc, trivial⟩
 match j, hj with
 | 0, _ => exact (rep_of_isSl hv).keep fun b hb hl => ⟨rfl, hl, fun h => absurd h (Nat.not_lt.2 hb)⟩
 | 1, _ => exact .v _
end Go.Proofs.YtplphabekhaoaaaGreatDoor
namespace Go.Proofs.YtplphabekhaoaaaGreatDoor
open Go.RowKit
set_option linter.unusedVariables false
set_option linter.unusedSimpArgs false
set_option maxRecDepth 100000 in
theorem rk_errs {xs : List Int} (hl : xs.length ≤ 1000000000) :
  SpecN Tryz.prog 56 [avInts xs] (fun y => y = avI (errsF xs)) := by
 refine SpecN.of_VCN Tryz.func56 rfl Tryz.ntmps56 (Nle rfl) fun w A hB => ?_
 have hnew : True := trivial
 refine VC.sr ?_
 refine VO.ma rfl rfl rfl rfl ?_
 refine VO.nil ?_
 refine VC.seq ?_
 refine VC.sr ?_
 refine VO.mv rfl rfl rfl rfl ?_
 refine VO.val rfl rfl (OpV.len_im rfl Tryz.underlying130 rfl) ?_
 refine VO.mv rfl rfl rfl rfl ?_
 refine VO.nil ?_
 refine VC.block ?_
 refine VC.loopK [(5, _), (6, _)] ⟨rfl, rfl, trivial⟩ ({q : Nat // q ≤ xs.length ∧ ∀ j, j < q → xs.getD j 0 = 0}) (fun (iZ : {q : Nat // q ≤ xs.length ∧ ∀ j, j < q → xs.getD j 0 = 0}) => match iZ with | ⟨q, hq, hn⟩ => [(7, avI (q : Int))]) (fun (iZ : {q : Nat // q ≤ xs.length ∧ ∀ j, j < q → xs.getD j 0 = 0}) => match iZ with | ⟨q, hq, hn⟩ => []) (fun (iZ : {q : Nat // q ≤ xs.length ∧ ∀ j, j < q → xs.getD j 0 = 0}) => match iZ with | ⟨q, hq, hn⟩ => 0) (fun (iZ : {q : Nat // q ≤ xs.length ∧ ∀ j, j < q → xs.getD j 0 = 0}) => match iZ with | ⟨q, hq, hn⟩ => xs.length - q) ⟨0, Nat.zero_le _, fun j hj => absurd hj (Nat.not_lt_zero j)⟩ (Le.mk hB [] ⟨rfl, rfl, rfl, trivial⟩ rfl rfl (Nat.le_refl _)) ?_
 rintro ⟨q, hq, hn⟩
 show VC _ _ _ _ ⟨[(7, avI (q : Int))] ++ [(5, _), (6, _)], [], 0⟩
 refine VC.sr ?_
 refine VO.val rfl rfl (OpV.lss rfl rfl rfl) ?_
 refine VO.nil ?_
 refine VC.seq ?_
 refine VC.cond rfl (fun aH1b => ?_) (fun aH1b => ?_)
 ·have aH1 := aH1b
  try simp only [qqT, qqF, qqN, qqM, qqL, qqE] at aH1
  refine VC.skip ?_
  refine VC.seq ?_
  refine VC.block ?_
  refine VC.sr ?_
  refine VO.val rfl rfl (OpV.indexAddr_1 rfl Tryz.underlying130 Tryz.sizeOf38 rfl rfl rfl (by omega)) ?_
  refine VO.val rfl rfl (OpV.load_at rfl hB OutW.no Tryz.isAgg38 rfl rfl) ?_
  refine VO.ma rfl rfl rfl rfl ?_
  refine VO.nil ?_
  refine VC.sr ?_
  refine VO.mv rfl rfl rfl rfl ?_
  refine VO.val rfl rfl (OpV.neq rfl rfl rfl) ?_
  refine VO.nil ?_
  refine VC.cond rfl (fun h1b => ?_) (fun h1b => ?_)
  ·have h1 := h1b
   try simp only [qqT, qqF, qqN, qqM, qqL, qqE] at h1
   refine VC.sr ?_
   refine VO.mv rfl rfl rfl rfl ?_
   refine VO.ma rfl rfl rfl rfl ?_
   refine VO.nil ?_
   refine VC.ret ?_
   exact Exists.intro _ (And.intro (RetN.one Tryz.results56 (ResN.v rfl)) (by rw [errsF_at (q := q) (by omega) hn h1]))
  ·have h1 := h1b
   try simp only [qqT, qqF, qqN, qqM, qqL, qqE] at h1
   refine VC.skip ?_
   refine VC.region ?_
   refine VO.val rfl rfl (OpV.add rfl rfl rfl (by unfold fits; omega)) ?_
   refine VO.mv rfl rfl rfl rfl ?_
   refine VO.nil ?_
   exact Exists.intro (⟨q + 1, by omega, lt_succ_cases hn ((by omega))⟩) (And.intro (Le.mk hB [] ⟨rfl, rfl, rfl, trivial⟩ rfl rfl (Nat.le_refl _)) (by first | omega | (show _ < _; omega) | (simp only []; omega)))
 ·have aH1 := aH1b
  try simp only [qqT, qqF, qqN, qqM, qqL, qqE] at aH1
  refine VC.exit ?_
  refine VC.sr ?_
  refine VO.ma rfl rfl rfl rfl ?_
  refine VO.nil ?_
  refine VC.ret ?_
  exact Exists.intro _ (And.intro (RetN.one Tryz.results56 (ResN.v rfl)) (by rw [errsF_none (fun j hj => hn j (by omega))]))
def rdL : List LookS := [⟨⟨#[98]⟩, ⟨#[99]⟩, 0, 1, true, ⟨#[109]⟩, ⟨#[110]⟩, ⟨#[114]⟩⟩]
theorem one_sz {α : Type} [Inhabited α] {f : α → ByteArray} {x : α} (h : (f x).size ≤ 1000000) (h0 : (f default).size ≤ 1000000) (i : Nat) : (f ([x].getD i default)).size ≤ 1000000 := by
 match i with
 | 0 => exact h
 | i + 1 => exact h0
theorem rdL_sm : SmLk rdL := ⟨by decide, one_sz (f := LookS.board) (by decide) (by decide), one_sz (f := LookS.name) (by decide) (by decide), one_sz (f := LookS.machine) (by decide) (by decide), one_sz (f := LookS.nozzle) (by decide) (by decide), one_sz (f := LookS.reel) (by decide) (by decide)⟩
theorem rdL_ok : millE rdL = 0 := by decide +kernel
theorem rdL_n : (millN rdL).1 = 1000000 := by decide +kernel
def rdP : List PaceS := [⟨⟨#[112]⟩, 10, []⟩]
def rdO : List OrdrS := [⟨⟨#[111]⟩, ⟨#[112]⟩, 3, 0, 5⟩]
theorem rdP_sm : SmPc rdP := ⟨by decide, one_sz (f := PaceS.product) (by decide) (by decide), fun i => by
 match i with
 | 0 => decide
 | i + 1 => show ([] : List NeedS).length ≤ _; decide, fun i j => by
 match i with
 | 0 => show (([] : List NeedS).getD j default).key.size ≤ _; simp; decide
 | i + 1 => show (([] : List NeedS).getD j default).key.size ≤ _; simp; decide⟩
theorem rdO_sm : SmOr rdO := ⟨by decide, one_sz (f := OrdrS.key) (by decide) (by decide), one_sz (f := OrdrS.product) (by decide) (by decide)⟩
theorem rd_sch : scheF rdP rdO [0] 1 0 = 0 := by decide +kernel
theorem rd_from : fromP rdP rdO [0] 1 0 0 = 1 := by decide +kernel
theorem rd_end : endP rdP rdO [0] 1 0 0 = 31 := by decide +kernel
theorem rd_times : timesR rdP rdO [0] 1 0 = [⟨1, 31⟩] := by
 rw [timesR, if_pos rd_sch]
 show [winP rdP rdO [0] 1 0 0] = _
 rw [winP, rd_from, rd_end]
theorem pace_nil {w : World} {Z : Nat → Prop} {u : Value} {a : ByteArray} {b : Int} (h : Rep w Z (.agg [avS a, avI b, .v (.slice none 0 0)]) u) : Rep w Z (avPc ⟨a, b, []⟩) u := by
 cases h with
 | agg cs us hl hr =>
  refine .agg _ us hl fun j hj => ?_
  match j, hj with
  | 0, _ => exact hr 0 (by simp)
  | 1, _ => exact hr 1 (by simp)
  | 2, _ =>
   have := hr 2 (by simp)
   show Rep w Z (.im 0 2 _) _
   rw [this.eq_v]; exact .nil _ _
set_option maxRecDepth 100000 in
set_option maxHeartbeats 4000000 in
theorem rk_ready   :
  SpecN Tryz.prog 51 [] (fun y => y = avB true) := by
 refine SpecN.of_VCN Tryz.func51 rfl Tryz.ntmps51 (Nle rfl) fun w A hB => ?_
 have hnew : True := trivial
 refine VC.sr ?_
 refine VO.ma rfl rfl rfl rfl ?_
 refine VO.nil ?_
 refine VC.sr ?_
 refine VO.val rfl rfl (OpV.build (pls := #[(0, 1), (1, 1), (2, 1), (3, 1), (4, 1)]) rfl Tryz.zeroValue154 Tryz.underlying154 (fun w => by kernel_rfl) rfl rfl) ?_
 refine VO.op rfl (OpE.buildSlice (zc := #[.string ⟨#[]⟩, .string ⟨#[]⟩, .int .i64 0, .int .i64 0, .int .i64 0]) rfl hB rfl Tryz.underlying155 Tryz.sizeOf154 Tryz.zeroValue154 (by decide) (by decide) (by kernel_rfl) rfl rfl ?_)
 refine VO.le _ (Le.recast (t := 13) (y := avL panL) rfl (fun w Z u h => Rep.rowL (xs := panL) rfl h)) ?_
 refine VO.val rfl rfl (OpV.build (pls := #[(0, 1), (1, 1), (2, 1), (3, 1)]) rfl Tryz.zeroValue157 Tryz.underlying157 (fun w => by kernel_rfl) rfl rfl) ?_
 refine VO.op rfl (OpE.call rfl hB rfl Tryz.call125 rfl (SpecN.spec (panel_Needs (p := panP) panP_sm)) ?_)
 rintro _ rfl
 refine VO.le _ (Le.recast (t := 15) (y := .tup [avL ([⟨⟨#[99, 97, 112]⟩, 1⟩] : List NeedS), avI 0]) rfl (fun w Z u h => by rw [← panP_needs, ← panP_ok]; exact h)) ?_
 refine VO.mv rfl rfl rfl rfl ?_
 refine VO.val rfl rfl (OpV.extract rfl rfl rfl) ?_
 refine VO.val rfl rfl (OpV.extract rfl rfl rfl) ?_
 refine VO.ma rfl rfl rfl rfl ?_
 refine VO.ma rfl rfl rfl rfl ?_
 refine VO.nil ?_
 refine VC.sr ?_
 refine VO.op rfl (OpE.buildSlice (zc := #[.string ⟨#[]⟩]) rfl hB rfl Tryz.underlying94 Tryz.sizeOf9 Tryz.zeroValue9 (by decide) (by decide) (by kernel_rfl) rfl rfl ?_)
 refine VO.le _ (Le.recast (t := 19) (y := avStrs loadS) rfl (fun w Z u h => Rep.strs (xs := loadS) rfl h)) ?_
 refine VO.op rfl (OpE.buildSlice (zc := #[.string ⟨#[]⟩]) rfl hB rfl Tryz.underlying94 Tryz.sizeOf9 Tryz.zeroValue9 (by decide) (by decide) (by kernel_rfl) rfl rfl ?_)
 refine VO.le _ (Le.recast (t := 20) (y := avStrs [⟨#[97]⟩]) rfl (fun w Z u h => Rep.strs (xs := [⟨#[97]⟩]) rfl h)) ?_
 refine VO.op rfl (OpE.buildSlice (zc := #[.string ⟨#[]⟩]) rfl hB rfl Tryz.underlying94 Tryz.sizeOf9 Tryz.zeroValue9 (by decide) (by decide) (by kernel_rfl) rfl rfl ?_)
 refine VO.le _ (Le.recast (t := 21) (y := avStrs [⟨#[98]⟩]) rfl (fun w Z u h => Rep.strs (xs := [⟨#[98]⟩]) rfl h)) ?_
 refine VO.op rfl (OpE.buildSlice (zc := #[.slice none 0 0, .slice none 0 0]) rfl hB rfl Tryz.underlying91 Tryz.sizeOf94 Tryz.zeroValue94 (by decide) (by decide) (by kernel_rfl) rfl rfl ?_)
 refine VO.le _ (Le.recast (t := 22) (y := avM loadP) rfl (fun w Z u h => Rep.listM (xs := loadP) rfl h)) ?_
 refine VO.op rfl (OpE.call rfl hB rfl Tryz.call76 rfl (SpecN.spec (setup_Total load_sms load_smss)) ?_)
 rintro _ rfl
 refine VO.le _ (Le.recast (t := 23) (y := .tup [avI 2, avI 0]) rfl (fun w Z u h => by rw [load_two, load_ok] at h; exact h)) ?_
 refine VO.mv rfl rfl rfl rfl ?_
 refine VO.val rfl rfl (OpV.extract rfl rfl rfl) ?_
 refine VO.val rfl rfl (OpV.extract rfl rfl rfl) ?_
 refine VO.ma rfl rfl rfl rfl ?_
 refine VO.ma rfl rfl rfl rfl ?_
 refine VO.nil ?_
 refine VC.sr ?_
 refine VO.op rfl (OpE.buildSlice (zc := #[.int .i64 0, .int .i64 0]) rfl hB rfl Tryz.underlying22 Tryz.sizeOf3 Tryz.zeroValue3 (by decide) (by decide) (by kernel_rfl) rfl rfl ?_)
 refine VO.le _ (Le.lits (t := 27) (xs := [10, 30]) rfl rfl) ?_
 refine VO.op rfl (OpE.buildSlice (zc := #[.int .i64 0]) rfl hB rfl Tryz.underlying22 Tryz.sizeOf3 Tryz.zeroValue3 (by decide) (by decide) (by kernel_rfl) rfl rfl ?_)
 refine VO.le _ (Le.lits (t := 28) (xs := [0]) rfl rfl) ?_
 refine VO.op rfl (OpE.call rfl hB rfl Tryz.call52 rfl (SpecN.spec (line_Leave_S)) ?_)
 rintro _ rfl
 refine VO.le _ (Le.recast (t := 29) (y := .tup [avInts [40, 70], avI 0]) rfl (fun w Z u h => by rw [lined_leaves, lined_flow] at h; exact h)) ?_
 refine VO.mv rfl rfl rfl rfl ?_
 refine VO.val rfl rfl (OpV.extract rfl rfl rfl) ?_
 refine VO.val rfl rfl (OpV.extract rfl rfl rfl) ?_
 refine VO.ma rfl rfl rfl rfl ?_
 refine VO.ma rfl rfl rfl rfl ?_
 refine VO.nil ?_
 refine VC.sr ?_
 refine VO.val rfl rfl (OpV.build (pls := #[(0, 1), (1, 1), (2, 1), (3, 1), (4, 1), (5, 1), (6, 1), (7, 1)]) rfl Tryz.zeroValue163 Tryz.underlying163 (fun w => by kernel_rfl) rfl rfl) ?_
 refine VO.op rfl (OpE.buildSlice (zc := #[.string ⟨#[]⟩, .string ⟨#[]⟩, .int .i64 0, .int .i64 0, .bool false, .string ⟨#[]⟩, .string ⟨#[]⟩, .string ⟨#[]⟩]) rfl hB rfl Tryz.underlying164 Tryz.sizeOf163 Tryz.zeroValue163 (by decide) (by decide) (by kernel_rfl) rfl rfl ?_)
 refine VO.le _ (Le.recast (t := 34) (y := avL rdL) rfl (fun w Z u h => Rep.rowL (xs := rdL) rfl h)) ?_
 refine VO.op rfl (OpE.call rfl hB rfl Tryz.call126 rfl (SpecN.spec (inspect_Million rdL_sm)) ?_)
 rintro _ rfl
 refine VO.le _ (Le.recast (t := 35) (y := .tup [.agg [avI 1000000, avI ((millN rdL).2 : Int)], avI 0]) rfl (fun w Z u h => by rw [rdL_n, rdL_ok] at h; exact h)) ?_
 refine VO.mv rfl rfl rfl rfl ?_
 refine VO.val rfl rfl (OpV.extract rfl rfl rfl) ?_
 refine VO.val rfl rfl (OpV.extract rfl rfl rfl) ?_
 refine VO.op rfl (OpE.alloc rfl hB rfl Tryz.zeroValue159 rfl ?_)
 intro g7
 refine VO.op rfl (OpE.store (i := 0) rfl hB rfl Tryz.sizeOf159 rfl rfl rfl rfl rfl rfl (Nle rfl) trivial ?_)
 refine VO.ma rfl rfl rfl rfl ?_
 refine VO.nil ?_
 refine VC.sr ?_
 refine VO.val rfl rfl (OpV.build (pls := #[(0, 1), (1, 1), (2, 1)]) rfl Tryz.zeroValue60 Tryz.underlying60 (fun w => by kernel_rfl) rfl rfl) ?_
 refine VO.le _ (Le.recast (t := 39) (y := avPc ⟨⟨#[112]⟩, 10, []⟩) rfl (fun w Z u h => pace_nil h)) ?_
 refine VO.op rfl (OpE.buildSlice (zc := #[.string ⟨#[]⟩, .int .i64 0, .slice none 0 0]) rfl hB rfl Tryz.underlying26 Tryz.sizeOf60 Tryz.zeroValue60 (by decide) (by decide) (by kernel_rfl) rfl rfl ?_)
 refine VO.le _ (Le.recast (t := 40) (y := avL rdP) rfl (fun w Z u h => Rep.rowL (xs := rdP) rfl h)) ?_
 refine VO.val rfl rfl (OpV.build (pls := #[(0, 1), (1, 1), (2, 1), (3, 1), (4, 1)]) rfl Tryz.zeroValue35 Tryz.underlying35 (fun w => by kernel_rfl) rfl rfl) ?_
 refine VO.op rfl (OpE.buildSlice (zc := #[.string ⟨#[]⟩, .string ⟨#[]⟩, .int .i64 0, .int .i64 0, .int .i64 0]) rfl hB rfl Tryz.underlying28 Tryz.sizeOf35 Tryz.zeroValue35 (by decide) (by decide) (by kernel_rfl) rfl rfl ?_)
 refine VO.le _ (Le.recast (t := 42) (y := avL rdO) rfl (fun w Z u h => Rep.rowL (xs := rdO) rfl h)) ?_
 refine VO.op rfl (OpE.buildSlice (zc := #[.int .i64 0]) rfl hB rfl Tryz.underlying22 Tryz.sizeOf3 Tryz.zeroValue3 (by decide) (by decide) (by kernel_rfl) rfl rfl ?_)
 refine VO.le _ (Le.lits (t := 43) (xs := [0]) rfl rfl) ?_
 refine VO.op rfl (OpE.call rfl hB rfl Tryz.call33 rfl (SpecN.spec (plan_Times rdP_sm rdO_sm (by decide))) ?_)
 rintro _ rfl
 refine VO.le _ (Le.recast (t := 44) (y := .tup [avL ([⟨1, 31⟩] : List WinS), avI 0]) rfl (fun w Z u h => by rw [rd_times, rd_sch] at h; exact h)) ?_
 refine VO.mv rfl rfl rfl rfl ?_
 refine VO.val rfl rfl (OpV.extract rfl rfl rfl) ?_
 refine VO.val rfl rfl (OpV.extract rfl rfl rfl) ?_
 refine VO.ma rfl rfl rfl rfl ?_
 refine VO.ma rfl rfl rfl rfl ?_
 refine VO.nil ?_
 refine VC.sr ?_
 refine VO.mv rfl rfl rfl rfl ?_
 refine VO.mv rfl rfl rfl rfl ?_
 refine VO.mv rfl rfl rfl rfl ?_
 refine VO.mv rfl rfl rfl rfl ?_
 refine VO.mv rfl rfl rfl rfl ?_
 refine VO.op rfl (OpE.buildSlice (zc := #[.int .i64 0, .int .i64 0, .int .i64 0, .int .i64 0, .int .i64 0]) rfl hB rfl Tryz.underlying130 Tryz.sizeOf38 Tryz.zeroValue38 (by decide) (by decide) (by kernel_rfl) rfl rfl ?_)
 refine VO.le _ (Le.lits (t := 52) (xs := [0, 0, 0, 0, 0]) rfl rfl) ?_
 refine VO.op rfl (OpE.call rfl hB rfl Tryz.call56 rfl (SpecN.spec (rk_errs (by decide))) ?_)
 rintro _ rfl
 refine VO.val rfl rfl (OpV.eql rfl rfl rfl) ?_
 refine VO.le _ (Le.boolT (t := 54) rfl (decide_eq_true rfl)) ?_
 refine VO.mv rfl rfl rfl rfl ?_
 refine VO.opY rfl rfl rfl rfl rfl ?_
 refine OpE.val (W := NoB) (OpV.move (.inl rfl) rfl) rfl ?_
 refine VO.opY rfl rfl rfl rfl rfl ?_
 refine OpE.val (W := NoB) (OpV.len_im rfl Tryz.underlying58 rfl) rfl ?_
 refine VO.opY rfl rfl rfl rfl rfl ?_
 refine OpE.val (W := NoB) (OpV.eql rfl rfl rfl) rfl ?_
 refine VO.le _ (Le.boolT (t := 58) rfl (decide_eq_true rfl)) ?_
 refine VO.val rfl rfl (OpV.pickT rfl rfl rfl rfl rfl) ?_
 refine VO.mv rfl rfl rfl rfl ?_
 refine VO.opY rfl rfl rfl rfl rfl ?_
 refine OpE.val (W := NoB) (OpV.move (.inl rfl) rfl) rfl ?_
 refine VO.opY rfl rfl rfl rfl rfl ?_
 refine OpE.val (W := NoB) (OpV.eql rfl rfl rfl) rfl ?_
 refine VO.le _ (Le.boolT (t := 62) rfl (decide_eq_true rfl)) ?_
 refine VO.val rfl rfl (OpV.pickT rfl rfl rfl rfl rfl) ?_
 refine VO.mv rfl rfl rfl rfl ?_
 refine VO.opY rfl rfl rfl rfl rfl ?_
 refine OpE.val (W := NoB) (OpV.move (.inl rfl) rfl) rfl ?_
 refine VO.opY rfl rfl rfl rfl rfl ?_
 refine OpE.val (W := NoB) (OpV.len_im rfl Tryz.underlying22 rfl) rfl ?_
 refine VO.opY rfl rfl rfl rfl rfl ?_
 refine OpE.val (W := NoB) (OpV.eql rfl rfl rfl) rfl ?_
 refine VO.le _ (Le.boolT (t := 67) rfl (decide_eq_true rfl)) ?_
 refine VO.val rfl rfl (OpV.pickT rfl rfl rfl rfl rfl) ?_
 refine VO.mv rfl rfl rfl rfl ?_
 refine VO.opY rfl rfl rfl rfl rfl ?_
 refine OpE.val (W := NoB) (OpV.fieldAddrO 0 rfl Tryz.underlying159 rfl rfl Tryz.sizeOf3 rfl) rfl ?_
 refine VO.opY rfl rfl rfl rfl rfl ?_
 refine OpE.val (W := NoB) (OpV.load_own (i := 0) rfl hB Tryz.isAgg3 rfl rfl rfl (fun h => h)) rfl ?_
 refine VO.opY rfl rfl rfl rfl rfl ?_
 refine OpE.val (W := NoB) (OpV.eql rfl rfl rfl) rfl ?_
 refine VO.le _ (Le.boolT (t := 72) rfl (decide_eq_true rfl)) ?_
 refine VO.val rfl rfl (OpV.pickT rfl rfl rfl rfl rfl) ?_
 refine VO.mv rfl rfl rfl rfl ?_
 refine VO.opY rfl rfl rfl rfl rfl ?_
 refine OpE.val (W := NoB) (OpV.move (.inl rfl) rfl) rfl ?_
 refine VO.opY rfl rfl rfl rfl rfl ?_
 refine OpE.val (W := NoB) (OpV.len_im rfl Tryz.underlying53 rfl) rfl ?_
 refine VO.opY rfl rfl rfl rfl rfl ?_
 refine OpE.val (W := NoB) (OpV.eql rfl rfl rfl) rfl ?_
 refine VO.le _ (Le.boolT (t := 77) rfl (decide_eq_true rfl)) ?_
 refine VO.val rfl rfl (OpV.pickT rfl rfl rfl rfl rfl) ?_
 refine VO.mv rfl rfl rfl rfl ?_
 refine VO.opY rfl rfl rfl rfl rfl ?_
 refine OpE.val (W := NoB) (OpV.move (.inl rfl) rfl) rfl ?_
 refine VO.opY rfl rfl rfl rfl rfl ?_
 refine OpE.val (W := NoB) (OpV.indexAddr_E rfl Tryz.underlying53 Tryz.sizeOf72 rfl rfl rfl (by show 0 < 1; decide)) rfl ?_
 refine VO.opY rfl rfl rfl rfl rfl ?_
 refine OpE.val (W := NoB) (OpV.fieldAddr_atO 1 rfl Tryz.underlying72 rfl rfl Tryz.sizeOf3 rfl rfl) rfl ?_
 refine VO.opY rfl rfl rfl rfl rfl ?_
 refine OpE.val (W := NoB) (OpV.load_at rfl hB OutW.no Tryz.isAgg3 rfl rfl) rfl ?_
 refine VO.opY rfl rfl rfl rfl rfl ?_
 refine OpE.val (W := NoB) (OpV.eql rfl rfl rfl) rfl ?_
 refine VO.le _ (Le.boolT (t := 84) rfl (decide_eq_true rfl)) ?_
 refine VO.val rfl rfl (OpV.pickT rfl rfl rfl rfl rfl) ?_
 refine VO.ma rfl rfl rfl rfl ?_
 refine VO.nil ?_
 refine VC.ret ?_
 exact Exists.intro _ (And.intro (RetN.one Tryz.results51 (ResN.v rfl)) (rfl))
end Go.Proofs.YtplphabekhaoaaaGreatDoor
namespace Go.Proofs.YtplphabekhaoaaaGreatDoor
open Go.RowKit
set_option linter.unusedVariables false
set_option linter.unusedSimpArgs false

section
variable {s parts : List ByteArray} {later : List (List ByteArray)}
theorem vic_need : ∀ q : Nat, 0 ≤ (vic s parts later q).1 → (vic s parts later q).2 = needF (s.getD (vic s parts later q).1.toNat ByteArray.empty) later
 | 0, h => by simp [vic] at h
 | q + 1, h => by
  have ih := vic_need q
  rw [vic] at h ⊢
  split
  ·rename_i h1; rw [if_pos h1] at h; exact ih h
  ·rename_i h1
   rw [if_neg h1] at h
   split
   ·simp
   ·rename_i h2; rw [if_neg h2] at h; exact ih h
end
theorem chg_set {s t : List ByteArray} {j : Nat} {x : ByteArray} (ht : t.length = s.length) (hj : j < s.length) (he : t.getD j ByteArray.empty = s.getD j ByteArray.empty) (hx : x ≠ s.getD j ByteArray.empty) (hx0 : x ≠ ε) :
  ∀ q : Nat, loadN (chgF s (t.set j x) q) = loadN (chgF s t q) + (if j < q then 1 else 0)
 | 0 => by simp [chgF, loadN]
 | q + 1 => by
  have ih := chg_set ht hj he hx hx0 q
  by_cases hq : q = j
  ·subst hq
   have g1 : (t.set q x).getD q ByteArray.empty = x := by simp [show q < t.length by omega]
   have c1 : sEq (s.getD q ByteArray.empty) (t.getD q ByteArray.empty) = true := by rw [he]; exact sEq_refl _
   have c2 : sEq (s.getD q ByteArray.empty) ((t.set q x).getD q ByteArray.empty) = false := Bool.eq_false_iff.2 fun h => by rw [g1] at h; exact hx (sEq_eq.1 h).symm
   have e1 : (if q < q then (1 : Int) else 0) = 0 := if_neg (by omega)
   have e2 : (if q < q + 1 then (1 : Int) else 0) = 1 := if_pos (by omega)
   have e3 : (if sEq ((t.set q x).getD q ByteArray.empty) ε = true then (0 : Int) else 1) = 1 := if_neg (by rw [g1]; intro h; exact hx0 (sEq_eq.1 h))
   rw [chgF, if_neg (by rw [c2]; simp), loadN_snoc, ih, chgF, if_pos c1, e1, e2]
   show _ + 0 + (if sEq ((t.set q x).getD q ByteArray.empty) ε = true then (0 : Int) else 1) = _
   rw [e3]
   omega
  ·have g1 : (t.set j x).getD q ByteArray.empty = t.getD q ByteArray.empty := by
    simp only [List.getD_eq_getElem?_getD, List.getElem?_set]
    rw [if_neg (fun h => hq h.symm)]
   have e2 : (if j < q + 1 then (1 : Int) else 0) = if j < q then 1 else 0 := by
    by_cases h : j < q
    ·rw [if_pos h, if_pos (by omega)]
    ·rw [if_neg h, if_neg (by omega)]
   rw [chgF, chgF, g1, e2]
   split
   ·exact ih
   ·rw [loadN_snoc, loadN_snoc, ih]; simp only; omega
theorem chg_self (s : List ByteArray) : ∀ q : Nat, loadN (chgF s s q) = 0
 | 0 => rfl
 | q + 1 => by rw [chgF, if_pos (sEq_refl _), chg_self s q]
theorem nextL_old {s l parts : List ByteArray} {later : List (List ByteArray)} (hl : ∀ x ∈ l, x ∈ parts) : ∀ (q : Nat) (i : Nat), q ≤ l.length → i < s.length → (nextL parts later s (l.take q)).getD i ByteArray.empty = s.getD i ByteArray.empty ∨ (nextL parts later s (l.take q)).getD i ByteArray.empty ∈ parts
 | 0, i, _, hi => .inl rfl
 | q + 1, i, hq, hi => by
  rw [nextL_take_succ (by omega)]
  have ih := nextL_old (s := s) (later := later) hl q i (by omega) hi
  simp only [List.getD_eq_getElem?_getD, List.getElem?_set] at ih ⊢
  split
  ·rename_i h
   rw [if_pos (by rw [h, nextL_len]; exact hi)]
   refine .inr (hl _ ?_)
   simp [show q < l.length by omega]
  ·exact ih
theorem next_loads {s parts : List ByteArray} {later : List (List ByteArray)} (hf : Fits s parts) : ∀ q : Nat, q ≤ (missF s parts).length → loadN (chgF s (nextL parts later s ((missF s parts).take q)) s.length) = q
 | 0, _ => chg_self s _
 | q + 1, hq => by
  have ih := next_loads (later := later) hf q (by omega)
  have hnd := missF_nodup (s := s) hf.pnd
  have hns : ∀ x ∈ missF s parts, x ∉ s := fun x hx => (missF_mem.1 hx).2
  have hq' : q < (missF s parts).length := by omega
  have hx := nextL_not (parts := parts) (later := later) hnd hns hq'
  have hxm : (missF s parts).getD q ByteArray.empty ∈ missF s parts := by simp [hq']
  have hxp := (missF_mem.1 hxm).1
  have hcl : (nextL parts later s ((missF s parts).take q)).length = s.length := nextL_len _ _ _ _
  obtain ⟨k1, k2, k3⟩ := slotF_in (later := later) (nextL_fits (later := later) hf hnd hns q (by omega)) hxp hx
  rw [hcl] at k2
  rw [nextL_take_succ hq', chg_set hcl (by omega) ?_ ?_ (hf.keys _ hxp), ih, if_pos (by omega)]
  ·rfl
  ·rcases nextL_old (s := s) (l := missF s parts) (parts := parts) (later := later) (fun x hx => (missF_mem.1 hx).1) q (slotF (nextL parts later s ((missF s parts).take q)) parts later).toNat (by omega) (by omega) with h | h
   ·exact h
   ·exact absurd h (has_not.1 k3)
  ·intro e
   refine hns _ hxm ?_
   rw [e]
   simp [show (slotF (nextL parts later s ((missF s parts).take q)) parts later).toNat < s.length by omega]
theorem nextF_loads {s parts : List ByteArray} {later : List (List ByteArray)} (hf : Fits s parts) : loadN (chgF s (nextF s parts later) s.length) = (missF s parts).length := by
 have := next_loads (later := later) hf (missF s parts).length (Nat.le_refl _)
 rwa [List.take_length] at this
end Go.Proofs.YtplphabekhaoaaaGreatDoor
namespace Go.Proofs.YtplphabekhaoaaaGreatDoor
open Go.RowKit
set_option linter.unusedVariables false
set_option linter.unusedSimpArgs false

theorem Le.erase {B : Bs} {s : St'} (i : Nat) : Le B s ⟨s.sl, s.hp.eraseIdx i, s.k⟩ := fun a w hr => hr.erase i
set_option maxRecDepth 100000 in
theorem slices_CloneM {xs : List (List ByteArray)} (hl : xs.length ≤ 1000000000) :
  SpecH Tryz.prog 134 [avM xs] [] (fun y hp' => ∃ u, y = .v u ∧ hp' = [.row u (xs.length) (1) (listM xs) (94)]) := by
 refine SpecH.of_VC Tryz.func134 rfl Tryz.ntmps134 (Nle rfl) fun w A hB => ?_
 have hnew : True := trivial
 refine VC.sr ?_
 refine VO.ma rfl rfl rfl rfl ?_
 refine VO.nil ?_
 refine VC.seq ?_
 refine VC.sr ?_
 refine VO.mv rfl rfl rfl rfl ?_
 refine VO.op rfl (OpE.eqNil rfl rfl Tryz.underlying91 rfl ?_)
 intro b4 hb4
 refine VO.nil ?_
 refine VC.cond rfl (fun h0b => ?_) (fun h0b => ?_)
 ·have h0 := h0b
  try simp only [qqT, qqF, qqN, qqM, qqL, qqE] at h0
  refine VC.sr ?_
  refine VO.ma rfl rfl rfl rfl ?_
  refine VO.nil ?_
  obtain rfl : xs = [] := List.eq_nil_of_length_eq_zero (hb4 h0)
  refine VC.le _ (Le.nilRow 1 94) ?_
  refine VC.le ⟨[(2, _)], [_], 0⟩ (Le.pick hB [0] ⟨rfl, trivial⟩ rfl rfl (Nat.le_refl _)) ?_
  refine VC.ret ?_
  exact Exists.intro _ (And.intro (RetV.one Tryz.results134 (ResV.tmp rfl)) (⟨_, rfl, rfl⟩))
 ·have h0 := h0b
  try simp only [qqT, qqF, qqN, qqM, qqL, qqE] at h0
  refine VC.skip ?_
  refine VC.sr ?_
  refine VO.op rfl (OpE.buildSlice0 rfl hB rfl Tryz.underlying91 Tryz.sizeOf94 ?_)
  intro g5
  refine VO.mv rfl rfl rfl rfl ?_
  refine VO.op rfl (OpE.appendP (i := 0) rfl hB rfl Tryz.underlying91 (infoOf Tryz.t94 1 (by kernel_rfl) rfl rfl) rfl (by decide) (by decide) rfl rfl (.im rfl) (fun _ _ => rfl) (by omega) (tab_M xs) (fun _ _ => trivial) ?_)
  intro u7
  refine VO.ma rfl rfl rfl rfl ?_
  refine VO.nil ?_
  rw [Nat.zero_add]
  refine VC.le ⟨[(2, _)], [_], 0⟩ (Le.pick hB [0] ⟨rfl, trivial⟩ rfl rfl (Nat.le_refl _)) ?_
  refine VC.ret ?_
  exact Exists.intro _ (And.intro (RetV.one Tryz.results134 (ResV.tmp rfl)) (⟨_, rfl, rfl⟩))

theorem ins_one {l : List AV} {F : Nat → AV} {X : AV} (hF : F 0 = X) : l.take (0 + 0 * 1) ++ tab (1 * 1) F ++ l.drop (0 + 0 * 1 + 1 * 1) = X :: l.drop 1 := by
 simp [tab, hF]
theorem ins_many {p : List (List ByteArray)} {l : List AV} {F : Nat → AV} (hl : l.length = p.length + 1) (hF : ∀ j, j < p.length → F j = Sx1.cell (p.getD j default)) :
  l.take (0 + 1 * 1) ++ tab (p.length * 1) F ++ l.drop (0 + 1 * 1 + p.length * 1) = l.take 1 ++ listM p := by
 have h1 : l.drop (0 + 1 * 1 + p.length * 1) = [] := List.drop_eq_nil_of_le (by omega)
 have h2 : tab (p.length * 1) F = listM p := by
  apply List.ext_getElem (by rw [tab_len, listM_len, Nat.mul_one])
  intro i h1 h2
  rw [tab_get]
  rw [listM_len] at h2
  rw [hF i h2]
  simp [listM, h2]
 rw [h1, h2, List.append_nil]
theorem ins_last {x : List ByteArray} {p : List (List ByteArray)} {l : List AV} {F : Nat → AV} (hF : F 0 = Sx1.cell x) (hl : 0 < l.length) : (l.take 1 ++ listM p).take (0 + 0 * 1) ++ tab (1 * 1) F ++ (l.take 1 ++ listM p).drop (0 + 0 * 1 + 1 * 1) = listM (x :: p) := by
 rw [ins_one hF]
 match l, hl with
 | y :: l, _ => simp [listM]
set_option maxRecDepth 100000 in
set_option maxHeartbeats 4000000 in
theorem slices_InsertM {p : List (List ByteArray)} {x : List ByteArray} {u : Value} (hl : p.length ≤ 1000000000) :
  SpecH Tryz.prog 133 [.v u, avI 0, avM [x]] [.row u p.length 1 (listM p) 94] (fun y hp' => ∃ u', y = .v u' ∧ hp' = [.row u' (p.length + 1) 1 (listM (x :: p)) 94]) := by
 have hx1 : [x].length = 1 := rfl
 refine SpecH.of_VC Tryz.func133 rfl Tryz.ntmps133 (Nle rfl) fun w A hB => ?_
 have hnew : True := trivial
 refine VC.sr ?_
 refine VO.ma rfl rfl rfl rfl ?_
 refine VO.nil ?_
 refine VC.sr ?_
 refine VO.mv rfl rfl rfl rfl ?_
 refine VO.mv rfl rfl rfl rfl ?_
 refine VO.val rfl rfl (OpV.slice_rowA (i := 0) (l := 0) rfl Tryz.underlying91 Tryz.sizeOf94 rfl rfl ⟨_, _, rfl, rfl⟩ rfl (by omega) (by omega)) ?_
 refine VO.nil ?_
 refine VC.sr ?_
 refine VO.mv rfl rfl rfl rfl ?_
 refine VO.val rfl rfl (OpV.len_im rfl Tryz.underlying91 rfl) ?_
 refine VO.ma rfl rfl rfl rfl ?_
 refine VO.nil ?_
 refine VC.seq ?_
 refine VC.sr ?_
 refine VO.mv rfl rfl rfl rfl ?_
 refine VO.val rfl rfl (OpV.eql rfl rfl rfl) ?_
 refine VO.nil ?_
 refine VC.cond rfl (fun aH1b => ?_) (fun aH1b => ?_)
 ·have aH1 := aH1b
  try simp only [qqT, qqF, qqN, qqM, qqL, qqE] at aH1
  exact VC.absurd (by omega)
 ·have aH1 := aH1b
  try simp only [qqT, qqF, qqN, qqM, qqL, qqE] at aH1
  refine VC.skip ?_
  refine VC.sr ?_
  refine VO.mv rfl rfl rfl rfl ?_
  refine VO.val rfl rfl (OpV.len_row (i := 0) rfl Tryz.underlying91 rfl rfl) ?_
  refine VO.ma rfl rfl rfl rfl ?_
  refine VO.nil ?_
  refine VC.seq ?_
  refine VC.sr ?_
  refine VO.mv rfl rfl rfl rfl ?_
  refine VO.mv rfl rfl rfl rfl ?_
  refine VO.val rfl rfl (OpV.eql rfl rfl rfl) ?_
  refine VO.nil ?_
  refine VC.cond rfl (fun h1b => ?_) (fun h1b => ?_)
  ·have h1 := h1b
   try simp only [qqT, qqF, qqN, qqM, qqL, qqE] at h1
   obtain rfl : p = [] := List.eq_nil_of_length_eq_zero (by omega)
   refine VC.sr ?_
   refine VO.mv rfl rfl rfl rfl ?_
   refine VO.mv rfl rfl rfl rfl ?_
   refine VO.op rfl (OpE.appendP (i := 0) rfl hB rfl Tryz.underlying91 (infoOf Tryz.t94 1 (by kernel_rfl) rfl rfl) rfl (by decide) (by decide) rfl rfl (.im rfl) (fun _ _ => rfl) (by omega) (tab_M [x]) (fun _ _ => trivial) ?_)
   intro u25
   refine VO.ma rfl rfl rfl rfl ?_
   refine VO.nil ?_
   refine VC.ret ?_
   exact Exists.intro _ (And.intro (RetV.one Tryz.results133 (ResV.tmp rfl)) (⟨_, rfl, rfl⟩))
  ·have h1 := h1b
   try simp only [qqT, qqF, qqN, qqM, qqL, qqE] at h1
   refine VC.asBox (i := 0) rfl (by omega) (fun g cap hu hcap hmx => ?_)
   subst hu
   refine VC.skip ?_
   refine VC.seq ?_
   refine VC.sr ?_
   refine VO.mv rfl rfl rfl rfl ?_
   refine VO.mv rfl rfl rfl rfl ?_
   refine VO.val rfl rfl (OpV.add rfl rfl rfl (by unfold fits; omega)) ?_
   refine VO.mv rfl rfl rfl rfl ?_
   refine VO.val rfl rfl (OpV.cap_v rfl Tryz.underlying91 rfl) ?_
   refine VO.val rfl rfl (OpV.gtr rfl rfl rfl) ?_
   refine VO.nil ?_
   refine VC.cond rfl (fun h2b => ?_) (fun h2b => ?_)
   ·have h2 := h2b
    try simp only [qqT, qqF, qqN, qqM, qqL, qqE] at h2
    refine VC.sr ?_
    refine VO.mv rfl rfl rfl rfl ?_
    refine VO.mv rfl rfl rfl rfl ?_
    refine VO.val rfl rfl (OpV.slice_own (h := 0) rfl Tryz.underlying91 Tryz.sizeOf94 rfl rfl ⟨_, _, rfl, rfl⟩ (by omega) (by omega) (by omega)) ?_
    refine VO.mv rfl rfl rfl rfl ?_
    refine VO.mv rfl rfl rfl rfl ?_
    refine VO.val rfl rfl (OpV.add rfl rfl rfl (by unfold fits; omega)) ?_
    refine VO.mv rfl rfl rfl rfl ?_
    refine VO.val rfl rfl (OpV.sub rfl rfl rfl (by unfold fits; omega)) ?_
    refine VO.op rfl (OpE.appendZ (k := p.length + 1) rfl hB rfl Tryz.underlying91 Tryz.underlying3 (infoOf Tryz.t94 1 (by kernel_rfl) rfl rfl) rfl (by decide) (by decide) rfl rfl (by omega) (by omega) (by omega) (by omega) ?_)
    intro u40
    refine VO.asBox (i := 1) rfl (by omega) (fun g3 cap3 hu3 hcap3 hmx3 => ?_)
    subst hu3
    refine VO.ma rfl rfl rfl rfl ?_
    refine VO.nil ?_
    refine VC.sr ?_
    refine VO.mv rfl rfl rfl rfl ?_
    refine VO.mv rfl rfl rfl rfl ?_
    refine VO.val rfl rfl (OpV.slice_own (l := 0) rfl Tryz.underlying91 Tryz.sizeOf94 rfl ⟨_, _, rfl, rfl⟩ rfl (by omega) (by omega) (by omega)) ?_
    refine VO.mv rfl rfl rfl rfl ?_
    refine VO.op rfl (OpE.copy (i := 1) rfl hB rfl Tryz.underlying91 Tryz.sizeOf94 rfl rfl (SrcP.im rfl) (c := 1) (by omega) (fun _ _ => rfl) (by simp) (ins_one (X := Sx1.cell x) rfl) trivial ?_)
    refine VO.nil ?_
    refine VC.seq ?_
    refine VC.draw (fun j b => j = 8 ∧ b = g3) hB (by kernel_rfl) ?_
    refine VA.take (i := 0) rfl (by kernel_rfl) (by kernel_rfl) (by kernel_rfl) rfl rfl (OpV.move (.inl rfl) rfl) ?_
    refine VA.take (i := 1) rfl (by kernel_rfl) (by kernel_rfl) (by kernel_rfl) rfl rfl (OpV.move (.inl rfl) rfl) ?_
    refine VA.take (i := 2) rfl (by kernel_rfl) (by kernel_rfl) (by kernel_rfl) rfl rfl (OpV.move (.inl rfl) rfl) ?_
    refine VA.take (i := 3) rfl (by kernel_rfl) (by kernel_rfl) (by kernel_rfl) rfl rfl (OpV.add rfl rfl rfl (by unfold fits; omega)) ?_
    refine VA.take (i := 4) rfl (by kernel_rfl) (by kernel_rfl) (by kernel_rfl) rfl rfl (OpV.slice_own (l := 1) rfl Tryz.underlying91 Tryz.sizeOf94 rfl ⟨_, _, rfl, by omega⟩ rfl (by omega) (by omega) (by omega)) ?_
    refine VA.take (i := 5) rfl (by kernel_rfl) (by kernel_rfl) (by kernel_rfl) rfl rfl (OpV.move (.inl rfl) rfl) ?_
    refine VA.take (i := 6) rfl (by kernel_rfl) (by kernel_rfl) (by kernel_rfl) rfl rfl (OpV.move (.inl rfl) rfl) ?_
    refine VA.take (i := 7) rfl (by kernel_rfl) (by kernel_rfl) (by kernel_rfl) rfl rfl (OpV.slice_own (l := 0) rfl Tryz.underlying91 Tryz.sizeOf94 rfl ⟨_, _, rfl, rfl⟩ rfl (by omega) (by omega) (by omega)) ?_
    refine VA.all (rs := [8]) (by kernel_rfl) (by decide) ?_
    refine ⟨⟨_, rfl, .inl rfl, ?_⟩, trivial⟩
    refine OpE.copy (i := 1) rfl hB rfl Tryz.underlying91 Tryz.sizeOf94 rfl rfl (SrcP.box (i := 0) rfl rfl (by rw [listM_len]; omega)) (c := p.length) (by omega) (fun j hj => by dsimp only; rw [List.getD_eq_getElem?_getD, show 0 + 0 * 1 + j = j by omega, listM_get (by omega)]; rfl) (by first | (simp; done) | (simp; omega)) (ins_many (p := p) (by simp) (fun j hj => by dsimp only; rw [List.getD_eq_getElem?_getD, show 0 + 0 * 1 + j = j by omega, listM_get (by omega)]; rfl)) (by first | exact ⟨rfl, rfl⟩ | exact .inl ⟨rfl, rfl⟩ | exact .inr ⟨rfl, rfl⟩ | exact ⟨rfl, trivial⟩ | exact .inl ⟨rfl, trivial⟩ | exact .inr ⟨rfl, trivial⟩ | exact ⟨by decide, rfl⟩) ?_
    refine VA.done (by kernel_rfl) ?_
    refine VC.sr ?_
    refine VO.mv rfl rfl rfl rfl ?_
    refine VO.ma rfl rfl rfl rfl ?_
    refine VO.nil ?_
    refine VC.le _ ((Le.erase 0).trans (Le.boxRow (i := 0) (n := p.length + 1) (sz := 1) (cap := cap3) rfl (by first | (simp [listM_len]; done) | (simp [listM_len]; omega)) hcap3 hmx3)) ?_
    refine VC.ret ?_
    exact Exists.intro _ (And.intro (RetV.one Tryz.results133 (ResV.tmp rfl)) (⟨_, rfl, rfl⟩))
   ·have h2 := h2b
    try simp only [qqT, qqF, qqN, qqM, qqL, qqE] at h2
    refine VC.le _ (Le.padBox (i := 0) 1 rfl (by rw [listM_len]; omega)) ?_
    refine VC.skip ?_
    refine VC.sr ?_
    refine VO.mv rfl rfl rfl rfl ?_
    refine VO.mv rfl rfl rfl rfl ?_
    refine VO.mv rfl rfl rfl rfl ?_
    refine VO.val rfl rfl (OpV.add rfl rfl rfl (by unfold fits; omega)) ?_
    refine VO.val rfl rfl (OpV.slice_own (h := p.length + 1) rfl Tryz.underlying91 Tryz.sizeOf94 rfl rfl ⟨_, _, rfl, by omega⟩ (by omega) (by omega) (by omega)) ?_
    refine VO.ma rfl rfl rfl rfl ?_
    refine VO.nil ?_
    refine VC.seq ?_
    refine VC.sr ?_
    refine VO.mv rfl rfl rfl rfl ?_
    refine VO.mv rfl rfl rfl rfl ?_
    refine VO.mv rfl rfl rfl rfl ?_
    refine VO.mv rfl rfl rfl rfl ?_
    refine VO.val rfl rfl (OpV.add rfl rfl rfl (by unfold fits; omega)) ?_
    refine VO.val rfl rfl (OpV.slice_own (l := 1) rfl Tryz.underlying91 Tryz.sizeOf94 rfl ⟨_, _, rfl, by omega⟩ rfl (by omega) (by omega) (by omega)) ?_
    refine VO.op rfl (OpE.overlaps (i := 0) rfl hB rfl (fun us w => run_callFunc_extern Tryz.func185 (by kernel_rfl) (by kernel_rfl) (by kernel_rfl) (e := Extern.SlicesOverlaps.overlaps #[91, 91] #[4]) (by kernel_rfl) us w) Tryz.underlying91 Tryz.sizeOf94 rfl (Nat.succ_pos _) rfl rfl (by show 0 < cap * 1; omega) ?_)
    refine VO.val rfl rfl (OpV.not rfl rfl) ?_
    refine VO.nil ?_
    refine VC.condT rfl rfl ?_
    refine VC.seq ?_
    refine VC.draw (fun j b => j = 8 ∧ b = g) hB (by kernel_rfl) ?_
    refine VA.take (i := 0) rfl (by kernel_rfl) (by kernel_rfl) (by kernel_rfl) rfl rfl (OpV.move (.inl rfl) rfl) ?_
    refine VA.take (i := 1) rfl (by kernel_rfl) (by kernel_rfl) (by kernel_rfl) rfl rfl (OpV.move (.inl rfl) rfl) ?_
    refine VA.take (i := 2) rfl (by kernel_rfl) (by kernel_rfl) (by kernel_rfl) rfl rfl (OpV.move (.inl rfl) rfl) ?_
    refine VA.take (i := 3) rfl (by kernel_rfl) (by kernel_rfl) (by kernel_rfl) rfl rfl (OpV.add rfl rfl rfl (by unfold fits; omega)) ?_
    refine VA.take (i := 4) rfl (by kernel_rfl) (by kernel_rfl) (by kernel_rfl) rfl rfl (OpV.slice_own (l := 1) rfl Tryz.underlying91 Tryz.sizeOf94 rfl ⟨_, _, rfl, by omega⟩ rfl (by omega) (by omega) (by omega)) ?_
    refine VA.take (i := 5) rfl (by kernel_rfl) (by kernel_rfl) (by kernel_rfl) rfl rfl (OpV.move (.inl rfl) rfl) ?_
    refine VA.take (i := 6) rfl (by kernel_rfl) (by kernel_rfl) (by kernel_rfl) rfl rfl (OpV.move (.inl rfl) rfl) ?_
    refine VA.take (i := 7) rfl (by kernel_rfl) (by kernel_rfl) (by kernel_rfl) rfl rfl (OpV.slice_own (l := 0) rfl Tryz.underlying91 Tryz.sizeOf94 rfl ⟨_, _, rfl, rfl⟩ rfl (by omega) (by omega) (by omega)) ?_
    refine VA.all (rs := [8]) (by kernel_rfl) (by decide) ?_
    refine ⟨⟨_, rfl, .inl rfl, ?_⟩, trivial⟩
    refine OpE.copy (i := 0) rfl hB rfl Tryz.underlying91 Tryz.sizeOf94 rfl rfl (SrcP.box (i := 0) rfl rfl (by simp [listM_len])) (c := p.length) (by omega) (fun j hj => by dsimp only; rw [List.getD_eq_getElem?_getD, show 0 + 0 * 1 + j = j by omega, List.getElem?_append_left (by rw [listM_len]; omega), listM_get (by omega)]; rfl) (by first | (simp [listM_len]; done) | (simp [listM_len]; omega)) (ins_many (p := p) (by simp [listM_len]) (fun j hj => by dsimp only; rw [List.getD_eq_getElem?_getD, show 0 + 0 * 1 + j = j by omega, List.getElem?_append_left (by rw [listM_len]; omega), listM_get (by omega)]; rfl)) (by first | exact ⟨rfl, rfl⟩ | exact .inl ⟨rfl, rfl⟩ | exact .inr ⟨rfl, rfl⟩ | exact ⟨rfl, trivial⟩ | exact .inl ⟨rfl, trivial⟩ | exact .inr ⟨rfl, trivial⟩ | exact ⟨by decide, rfl⟩) ?_
    refine VA.done (by kernel_rfl) ?_
    refine VC.sr ?_
    refine VO.mv rfl rfl rfl rfl ?_
    refine VO.mv rfl rfl rfl rfl ?_
    refine VO.val rfl rfl (OpV.slice_own (l := 0) rfl Tryz.underlying91 Tryz.sizeOf94 rfl ⟨_, _, rfl, rfl⟩ rfl (by omega) (by omega) (by omega)) ?_
    refine VO.mv rfl rfl rfl rfl ?_
    refine VO.op rfl (OpE.copy (i := 0) rfl hB rfl Tryz.underlying91 Tryz.sizeOf94 rfl rfl (SrcP.im rfl) (c := 1) (cs' := listM (x :: p)) (by omega) (fun _ _ => rfl) (by first | (simp [listM_len]; done) | (simp [listM_len]; omega)) (ins_last (x := x) rfl (by simp)) trivial ?_)
    refine VO.nil ?_
    refine VC.sr ?_
    refine VO.mv rfl rfl rfl rfl ?_
    refine VO.ma rfl rfl rfl rfl ?_
    refine VO.nil ?_
    refine VC.le _ (Le.boxRow (i := 0) (n := p.length + 1) (sz := 1) (cap := cap) rfl (by first | (simp [listM_len]; done) | (simp [listM_len]; omega)) (by omega) hmx) ?_
    refine VC.ret ?_
    exact Exists.intro _ (And.intro (RetV.one Tryz.results133 (ResV.tmp rfl)) (⟨_, rfl, rfl⟩))
end Go.Proofs.YtplphabekhaoaaaGreatDoor
namespace Go.Proofs.YtplphabekhaoaaaGreatDoor
open Go.RowKit
set_option linter.unusedVariables false
set_option linter.unusedSimpArgs false
def nextE (s parts : List ByteArray) (later : List (List ByteArray)) : Int := if setupF s ≠ 0 then setupF s else partsF s.length (parts :: later)
def nextR (s parts : List ByteArray) (later : List (List ByteArray)) : List ByteArray := if nextE s parts later = 0 then nextF s parts later else []
set_option maxRecDepth 100000 in
theorem setup_Next {s parts : List ByteArray} {later : List (List ByteArray)} (hs : SmS s) (hp : SmSS (parts :: later)) (hl : SmSS later) :
  SpecH Tryz.prog 62 [avStrs s, avStrs parts, avM later] [] (fun y hp' => ∃ u, y = .tup [.v u, avI (nextE s parts later)] ∧ hp' = [.row u ((nextR s parts later).length) (1) (strsL (nextR s parts later)) (9)]) := by
 have hl1 := hl.1
 refine SpecH.of_VC Tryz.func62 rfl Tryz.ntmps62 (Nle rfl) fun w A hB => ?_
 have hnew : True := trivial
 refine VC.sr ?_
 refine VO.ma rfl rfl rfl rfl ?_
 refine VO.ma rfl rfl rfl rfl ?_
 refine VO.nil ?_
 refine VC.seq ?_
 refine VC.sr ?_
 refine VO.mv rfl rfl rfl rfl ?_
 refine VO.op rfl (OpE.call rfl hB rfl Tryz.call80 rfl (SpecN.spec (setup_CheckSetup hs)) ?_)
 rintro _ rfl
 refine VO.ma rfl rfl rfl rfl ?_
 refine VO.nil ?_
 refine VC.sr ?_
 refine VO.mv rfl rfl rfl rfl ?_
 refine VO.val rfl rfl (OpV.neq rfl rfl rfl) ?_
 refine VO.nil ?_
 refine VC.cond rfl (fun h0b => ?_) (fun h0b => ?_)
 ·have h0 := h0b
  try simp only [qqT, qqF, qqN, qqM, qqL, qqE] at h0
  have he : nextE s parts later = setupF s := by rw [nextE, if_pos h0]
  have hR : nextR s parts later = [] := by rw [nextR, if_neg (by rw [he]; exact h0)]
  rw [hR, he]
  refine VC.sr ?_
  refine VO.mv rfl rfl rfl rfl ?_
  refine VO.ma rfl rfl rfl rfl ?_
  refine VO.ma rfl rfl rfl rfl ?_
  refine VO.nil ?_
  refine VC.le _ (Le.nilRow 1 9) ?_
  refine VC.le ⟨[(6, _), (7, _)], [_], 0⟩ (Le.pick hB [0] ⟨rfl, rfl, trivial⟩ rfl rfl (Nat.le_refl _)) ?_
  refine VC.ret ?_
  exact Exists.intro _ (And.intro (RetV.two Tryz.results62 (ResV.tmp rfl) (ResV.tmp rfl)) (⟨_, rfl, rfl⟩))
 ·have h0 := h0b
  try simp only [qqT, qqF, qqN, qqM, qqL, qqE] at h0
  have h00 : setupF s = 0 := by omega
  refine VC.skip ?_
  refine VC.seq ?_
  refine VC.sr ?_
  refine VO.mv rfl rfl rfl rfl ?_
  refine VO.val rfl rfl (OpV.len_im rfl Tryz.underlying94 rfl) ?_
  refine VO.mv rfl rfl rfl rfl ?_
  refine VO.op rfl (OpE.callH (hp := []) (rest := _) rfl hB rfl Tryz.call134 rfl rfl (slices_CloneM hl.1) (List.Perm.refl _) (fun _ h => by obtain ⟨e, he, _⟩ := h; cases he) ?_)
  rintro _ _ ⟨u18, rfl, rfl⟩
  refine VO.mv rfl rfl rfl rfl ?_
  refine VO.op rfl (OpE.buildSlice (zc := #[.slice none 0 0]) rfl hB rfl Tryz.underlying91 Tryz.sizeOf94 Tryz.zeroValue94 (by decide) (by decide) (by kernel_rfl) rfl rfl ?_)
  refine VO.le _ (Le.recast (t := 20) (y := avM [parts]) rfl (fun w Z u h => Rep.listM (xs := [parts]) rfl h)) ?_
  refine VO.op rfl (OpE.callH0 rfl hB rfl Tryz.call133 rfl rfl (slices_InsertM hl.1) (List.Perm.refl _) (fun _ _ => trivial) ?_)
  rintro _ _ ⟨u21, rfl, rfl⟩
  refine VO.le _ (Le.rowsM (t := 21) (i := 0) hB hnew rfl rfl (by first | rfl | simp)) ?_
  refine VO.op rfl (OpE.call rfl hB rfl Tryz.call132 rfl (SpecN.spec (setup_CheckParts hp)) ?_)
  rintro _ rfl
  refine VO.ma rfl rfl rfl rfl ?_
  refine VO.nil ?_
  refine VC.sr ?_
  refine VO.mv rfl rfl rfl rfl ?_
  refine VO.val rfl rfl (OpV.neq rfl rfl rfl) ?_
  refine VO.nil ?_
  refine VC.cond rfl (fun h1b => ?_) (fun h1b => ?_)
  ·have h1 := h1b
   try simp only [qqT, qqF, qqN, qqM, qqL, qqE] at h1
   have he : nextE s parts later = partsF s.length (parts :: later) := by rw [nextE, if_neg (by omega)]
   have hR : nextR s parts later = [] := by rw [nextR, if_neg (by rw [he]; exact h1)]
   rw [hR, he]
   refine VC.sr ?_
   refine VO.mv rfl rfl rfl rfl ?_
   refine VO.ma rfl rfl rfl rfl ?_
   refine VO.ma rfl rfl rfl rfl ?_
   refine VO.nil ?_
   refine VC.le _ (Le.nilRow 1 9) ?_
   refine VC.le ⟨[(6, _), (7, _)], [_], 0⟩ (Le.pick hB [0] ⟨rfl, rfl, trivial⟩ rfl rfl (Nat.le_refl _)) ?_
   refine VC.ret ?_
   exact Exists.intro _ (And.intro (RetV.two Tryz.results62 (ResV.tmp rfl) (ResV.tmp rfl)) (⟨_, rfl, rfl⟩))
  ·have h1 := h1b
   try simp only [qqT, qqF, qqN, qqM, qqL, qqE] at h1
   have hpa : partsF s.length (parts :: later) = 0 := by omega
   have he : nextE s parts later = 0 := by rw [nextE, if_neg (by omega), hpa]
   have hR : nextR s parts later = nextF s parts later := by rw [nextR, if_pos he]
   have hr0 : RightP s.length parts := RightP.of (q := 0) rfl hpa (by simp)
   rw [hR, he, nextF_len]
   refine VC.skip ?_
   refine VC.sr ?_
   refine VO.mv rfl rfl rfl rfl ?_
   refine VO.op rfl (OpE.callR rfl hB rfl Tryz.call130 (slices_CloneS_R hs.1) (ArgsP.cons (ArgP.ev rfl) (ArgsP.nil)) ?_)
   intro u
   refine VO.ma rfl rfl rfl rfl ?_
   refine VO.nil ?_
   refine VC.sr ?_
   refine VO.mv rfl rfl rfl rfl ?_
   refine VO.mv rfl rfl rfl rfl ?_
   refine VO.mv rfl rfl rfl rfl ?_
   refine VO.op rfl (OpE.callH0 rfl hB rfl Tryz.call135 rfl rfl (setup_next (Good'.of h00) hr0 hl) (List.Perm.refl _) (fun _ _ => trivial) ?_)
   rintro _ _ ⟨rfl, rfl⟩
   refine VO.nil ?_
   refine VC.sr ?_
   refine VO.mv rfl rfl rfl rfl ?_
   refine VO.ma rfl rfl rfl rfl ?_
   refine VO.ma rfl rfl rfl rfl ?_
   refine VO.nil ?_
   refine VC.le ⟨[(6, _), (7, _)], [_], 0⟩ (Le.pick hB [0] ⟨rfl, rfl, trivial⟩ rfl rfl (Nat.le_refl _)) ?_
   refine VC.ret ?_
   exact Exists.intro _ (And.intro (RetV.two Tryz.results62 (ResV.tmp rfl) (ResV.tmp rfl)) (⟨_, rfl, rfl⟩))
end Go.Proofs.YtplphabekhaoaaaGreatDoor
namespace Go.Proofs.YtplphabekhaoaaaGreatDoor
open Go.RowKit
set_option linter.unusedVariables false
set_option linter.unusedSimpArgs false

def DoesP (n : Nat) {τ : Type} (K : τ → List Ent → Prop) (step : τ → List Int → τ) (P : Program) (F : FuncId) (caps : Array Value) (T : TypeId) : Prop :=
 ∀ (o : List Int) (c : Nat) (a : τ) (h : List Ent) (u : Value), Ord n o → o.length = c → c = n → K a h →
  SpecH P F ([.v u] ++ caps.toList.map .v) (.row u c 1 (intsL o) T :: h) (fun y hp' => ∃ h', K (step a o) h' ∧ hp' = .row u c 1 (intsL o) T :: h')
abbrev ownO (n : Nat) (F Fo : FuncId) (caps : Array Value) (To Ti Td Tu Tb Tm : TypeId) (g0 g1 g2 g3 gu g4 c : Nat) (o : List Int) (u : Value) (h : List Ent) : List Ent :=
 [.box g4 ⟨[.v (.func (.func Fo) #[] #[.pointer (some ⟨g0, 0, none⟩), .pointer (some ⟨g1, 0, none⟩), .pointer (some ⟨g2, 0, none⟩), .pointer (some ⟨g3, 0, none⟩), .pointer (some ⟨g4, 0, none⟩)])], Tm, 1⟩,
  .box g3 ⟨[.v (.slice (some ⟨gu, 0, none⟩) n n)], Tu, 1⟩, .box gu ⟨usedL n o, Tb, n⟩, .row u c 1 (intsL o) Ti, .box g0 ⟨[.v u], To, 1⟩, .box g2 ⟨[.v (.func (.func F) #[] caps)], Td, 1⟩, .box g1 ⟨[avI (n : Int)], Ti, 1⟩] ++ h
theorem perm_do {r : Ent} {A R h : List Ent} : (A ++ r :: (R ++ h)).Perm ((r :: h) ++ (A ++ R)) := by
 refine List.perm_middle.trans (List.Perm.cons r ?_)
 rw [← List.append_assoc]
 exact List.perm_append_comm
theorem perm_od {r : Ent} {A R h : List Ent} : ((r :: h) ++ (A ++ R)).Perm (A ++ r :: (R ++ h)) := perm_do.symm
section
variable {P : Program} {B : Bs} {W : Nat → Prop} {s : St'} {o : Oper}
theorem OpV.makeFunc5 {fn : Fn} {c1 c2 c3 c4 c5 : Operand} {u1 u2 u3 u4 u5 : Value} (ho : o.op = .makeFunc fn #[] #[c1, c2, c3, c4, c5]) (h1 : evO s c1 = some (.v u1)) (h2 : evO s c2 = some (.v u2)) (h3 : evO s c3 = some (.v u3)) (h4 : evO s c4 = some (.v u4)) (h5 : evO s c5 = some (.v u5)) : OpV P B W s o (.v (.func fn #[] #[u1, u2, u3, u4, u5])) :=
 OpV.makeFunc ho fun a w hr => by simp [hr.evv h1, hr.evv h2, hr.evv h3, hr.evv h4, hr.evv h5]
end
set_option maxRecDepth 100000 in
theorem setup_orders1_step {τ : Type} {K : τ → List Ent → Prop} {step : τ → List Int → τ} {n : Nat} {F : FuncId} {caps : Array Value} {g0 g1 g2 g3 gu g4 d c : Nat} {o : List Int} {u : Value} {h : List Ent} {a : τ} (hn : n ≤ 1000) (hcd : ∀ us w, (callFunc F us).run Tryz.prog w = .ok (.enter F us) w) (hdo : DoesP n K step Tryz.prog F caps 3) (ih : ∀ d', d = d' + 1 → ∀ (o : List Int) (u : Value) (h : List Ent) (a : τ) (c : Nat), Ord n o → o.length = c → c + d' = n → K a h → SpecH Tryz.prog 212 [pt g0, pt g1, pt g2, pt g3, pt g4] (ownO n F 212 caps 22 3 109 191 4 1 g0 g1 g2 g3 gu g4 c o u h) (fun y hp' => ∃ u' h', K (ext n step d' o a) h' ∧ hp' = ownO n F 212 caps 22 3 109 191 4 1 g0 g1 g2 g3 gu g4 c o u' h')) (ho : Ord n o) (hoc : o.length = c) (hcd' : c + d = n) (hk : K a h) :
  SpecH Tryz.prog 212 [pt g0, pt g1, pt g2, pt g3, pt g4] (ownO n F 212 caps 22 3 109 191 4 1 g0 g1 g2 g3 gu g4 c o u h) (fun y hp' => ∃ u' h', K (ext n step d o a) h' ∧ hp' = ownO n F 212 caps 22 3 109 191 4 1 g0 g1 g2 g3 gu g4 c o u' h') := by
 refine SpecH.of_VC Tryz.func212 rfl Tryz.ntmps212 (Nle rfl) fun w A hB => ?_
 have hnew : True := trivial
 refine VC.seq ?_
 refine VC.sr ?_
 refine VO.val rfl rfl (OpV.load_own (i := 4) rfl hB Tryz.isAgg22 rfl rfl rfl (fun h => h)) ?_
 refine VO.val rfl rfl (OpV.len_row (i := 3) rfl Tryz.underlying22 rfl rfl) ?_
 refine VO.val rfl rfl (OpV.load_own (i := 6) rfl hB Tryz.isAgg3 rfl rfl rfl (fun h => h)) ?_
 refine VO.val rfl rfl (OpV.eql rfl rfl rfl) ?_
 refine VO.nil ?_
 refine VC.cond rfl (fun h0b => ?_) (fun h0b => ?_)
 ·have h0 := h0b
  try simp only [qqT, qqF, qqN, qqM, qqL, qqE] at h0
  obtain rfl : d = 0 := by omega
  refine VC.sr ?_
  refine VO.val rfl rfl (OpV.load_own (i := 5) rfl hB Tryz.isAgg109 rfl rfl rfl (fun h => h)) ?_
  refine VO.val rfl rfl (OpV.load_own (i := 4) rfl hB Tryz.isAgg22 rfl rfl rfl (fun h => h)) ?_
  refine VO.op rfl (OpE.callH rfl hB rfl hcd rfl rfl (hdo o c a h u ho hoc (by omega) hk) (perm_do (A := [_, _, _]) (R := [_, _, _])) (fun _ _ => trivial) ?_)
  rintro _ _ ⟨h', hk', rfl⟩
  refine VO.le _ (Le.perm (perm_od (A := [_, _, _]) (R := [_, _, _]))) ?_
  refine VO.nil ?_
  refine VC.ret ?_
  exact Exists.intro _ (And.intro (RetV.none Tryz.results212) (⟨u, h', hk', rfl⟩))
 ·have h0 := h0b
  try simp only [qqT, qqF, qqN, qqM, qqL, qqE] at h0
  obtain ⟨d', rfl⟩ : ∃ d', d = d' + 1 := ⟨d - 1, by omega⟩
  refine VC.skip ?_
  refine VC.sr ?_
  refine VO.val rfl rfl (OpV.load_own (i := 6) rfl hB Tryz.isAgg3 rfl rfl rfl (fun h => h)) ?_
  refine VO.mv rfl rfl rfl rfl ?_
  refine VO.nil ?_
  refine VC.block ?_
  refine VC.loopK [(0, _), (3, _), (4, _), (13, _)] ⟨rfl, rfl, rfl, rfl, trivial⟩ ({t : (Value × List Ent) × Nat // t.2 ≤ n ∧ K (extQ n step d' o a t.2) t.1.2}) (fun (iZ : {t : (Value × List Ent) × Nat // t.2 ≤ n ∧ K (extQ n step d' o a t.2) t.1.2}) => match iZ with | ⟨⟨⟨uu, hh⟩, q⟩, hq, hkk⟩ => [(14, avI (q : Int))]) (fun (iZ : {t : (Value × List Ent) × Nat // t.2 ≤ n ∧ K (extQ n step d' o a t.2) t.1.2}) => match iZ with | ⟨⟨⟨uu, hh⟩, q⟩, hq, hkk⟩ => ownO n F 212 caps 22 3 109 191 4 1 g0 g1 g2 g3 gu g4 c o uu hh) (fun (iZ : {t : (Value × List Ent) × Nat // t.2 ≤ n ∧ K (extQ n step d' o a t.2) t.1.2}) => match iZ with | ⟨⟨⟨uu, hh⟩, q⟩, hq, hkk⟩ => 0) (fun (iZ : {t : (Value × List Ent) × Nat // t.2 ≤ n ∧ K (extQ n step d' o a t.2) t.1.2}) => match iZ with | ⟨⟨⟨uu, hh⟩, q⟩, hq, hkk⟩ => n - q) ⟨((u, h), 0), Nat.zero_le _, hk⟩ (Le.mkP hB ⟨rfl, rfl, rfl, rfl, rfl, trivial⟩ (List.Sublist.refl _) (List.Perm.refl _) (Nat.le_refl _)) ?_
  rintro ⟨⟨⟨uu, hh⟩, q⟩, hq, hkk⟩
  show VC _ _ _ _ ⟨[(14, avI (q : Int))] ++ [(0, _), (3, _), (4, _), (13, _)], ownO n F 212 caps 22 3 109 191 4 1 g0 g1 g2 g3 gu g4 c o uu hh, 0⟩
  simp only at hq hkk
  refine VC.sr ?_
  refine VO.val rfl rfl (OpV.lss rfl rfl rfl) ?_
  refine VO.nil ?_
  refine VC.seq ?_
  refine VC.cond rfl (fun aH1b => ?_) (fun aH1b => ?_)
  ·have aH1 := aH1b
   try simp only [qqT, qqF, qqN, qqM, qqL, qqE] at aH1
   refine VC.skip ?_
   refine VC.seq ?_
   refine VC.block ?_
   refine VC.sr ?_
   refine VO.mv rfl rfl rfl rfl ?_
   refine VO.ma rfl rfl rfl rfl ?_
   refine VO.nil ?_
   refine VC.sr ?_
   refine VO.val rfl rfl (OpV.load_own (i := 1) rfl hB Tryz.isAgg191 rfl rfl rfl (fun h => h)) ?_
   refine VO.mv rfl rfl rfl rfl ?_
   refine VO.val rfl rfl (OpV.indexAddr_o rfl Tryz.underlying191 Tryz.sizeOf4 rfl rfl rfl (by omega)) ?_
   refine VO.val rfl rfl (OpV.load_own (i := 2) rfl hB Tryz.isAgg4 rfl rfl (usedL_get (q := q) (by omega)) (fun h => h)) ?_
   refine VO.val rfl rfl (OpV.not rfl rfl) ?_
   refine VO.nil ?_
   refine VC.cond rfl (fun h2b => ?_) (fun h2b => ?_)
   ·have h2 := h2b
    try simp only [qqT, qqF, qqN, qqM, qqL, qqE] at h2
    have h2' : (q : Int) ∉ o := by simpa using h2b
    refine VC.sr ?_
    refine VO.val rfl rfl (OpV.load_own (i := 1) rfl hB Tryz.isAgg191 rfl rfl rfl (fun h => h)) ?_
    refine VO.mv rfl rfl rfl rfl ?_
    refine VO.val rfl rfl (OpV.indexAddr_o rfl Tryz.underlying191 Tryz.sizeOf4 rfl rfl rfl (by omega)) ?_
    refine VO.op rfl (OpE.store1 (i := 2) rfl hB rfl Tryz.sizeOf4 rfl rfl rfl rfl rfl rfl (by rw [usedL_len]; omega) (usedL_set (by omega)) trivial ?_)
    refine VO.nil ?_
    refine VC.sr ?_
    refine VO.val rfl rfl (OpV.load_own (i := 4) rfl hB Tryz.isAgg22 rfl rfl rfl (fun h => h)) ?_
    refine VO.mv rfl rfl rfl rfl ?_
    refine VO.op rfl (OpE.buildSlice (zc := #[.int .i64 0]) rfl hB rfl Tryz.underlying22 Tryz.sizeOf3 Tryz.zeroValue3 (by decide) (by decide) (by kernel_rfl) rfl rfl ?_)
    refine VO.op rfl (OpE.append1S (i := 3) rfl hB rfl Tryz.underlying22 (infoOf Tryz.t3 1 (by kernel_rfl) rfl rfl) rfl (by decide) (by decide) rfl rfl rfl rfl (intsL_snoc _ _) (by omega) (fun _ _ => trivial) ?_)
    intro b2 c2
    refine VO.op rfl (OpE.store (i := 4) rfl hB rfl Tryz.sizeOf22 rfl rfl rfl rfl rfl rfl (Nle rfl) trivial ?_)
    refine VO.nil ?_
    refine VC.sr ?_
    refine VO.val rfl rfl (OpV.load_own (i := 0) rfl hB Tryz.isAgg1 rfl rfl rfl (fun h => h)) ?_
    refine VO.op rfl (OpE.callH0 rfl hB rfl Tryz.call212 rfl rfl (ih d' rfl (o ++ [(q : Int)]) (.slice b2 (c + 1) c2) hh _ (c + 1) (ho.snoc (by omega) h2') (by rw [List.length_append, hoc]; rfl) (by omega) hkk) (List.Perm.refl _) (fun _ _ => trivial) ?_)
    rintro _ _ ⟨u3, h3, hk3, rfl⟩
    refine VO.nil ?_
    refine VC.seq ?_
    refine VC.asBox (i := 3) rfl (Nat.succ_pos _) (fun g cap hu hcap hmx => ?_)
    subst hu
    refine VC.region ?_
    refine VO.val rfl rfl (OpV.load_own (i := 4) rfl hB Tryz.isAgg22 rfl rfl rfl (fun h => h)) ?_
    refine VO.val rfl rfl (OpV.load_own (i := 4) rfl hB Tryz.isAgg22 rfl rfl rfl (fun h => h)) ?_
    refine VO.val rfl rfl (OpV.len_v rfl Tryz.underlying22 rfl) ?_
    refine VO.val rfl rfl (OpV.sub rfl rfl rfl (by unfold fits; omega)) ?_
    refine VO.val rfl rfl (OpV.slice_own (h := c) rfl Tryz.underlying22 Tryz.sizeOf3 rfl rfl ⟨_, _, rfl, by omega⟩ (by omega) (by omega) (by omega)) ?_
    refine VO.op rfl (OpE.store (i := 4) rfl hB rfl Tryz.sizeOf22 rfl rfl rfl rfl rfl rfl (Nle rfl) trivial ?_)
    refine VO.nil ?_
    refine VC.le _ ((Le.cutBoxE (i := 3) c rfl (intsL_cut hoc)).trans (Le.boxRow (i := 3) (n := c) (sz := 1) (cap := cap) rfl (by rw [intsL_len, hoc, Nat.mul_one]) (by omega) hmx)) ?_
    refine VC.region ?_
    refine VO.val rfl rfl (OpV.load_own (i := 1) rfl hB Tryz.isAgg191 rfl rfl rfl (fun h => h)) ?_
    refine VO.mv rfl rfl rfl rfl ?_
    refine VO.val rfl rfl (OpV.indexAddr_o rfl Tryz.underlying191 Tryz.sizeOf4 rfl rfl rfl (by omega)) ?_
    refine VO.op rfl (OpE.store1 (i := 2) rfl hB rfl Tryz.sizeOf4 rfl rfl rfl rfl rfl rfl (by rw [usedL_len]; omega) (usedL_unset (by omega) h2') trivial ?_)
    refine VO.nil ?_
    refine VC.region ?_
    refine VO.val rfl rfl (OpV.add rfl rfl rfl (by unfold fits; omega)) ?_
    refine VO.mv rfl rfl rfl rfl ?_
    refine VO.nil ?_
    exact Exists.intro (⟨((.slice (some ⟨g, 0, none⟩) c cap, h3), q + 1), by show q + 1 ≤ n; omega, by rw [extQ_out h2']; exact hk3⟩) (And.intro (Le.mkP hB ⟨rfl, rfl, rfl, rfl, rfl, trivial⟩ (List.Sublist.refl _) (List.Perm.refl _) (Nat.le_refl _)) (by first | omega | (show _ < _; omega) | (simp only []; omega)))
   ·have h2 := h2b
    try simp only [qqT, qqF, qqN, qqM, qqL, qqE] at h2
    have h2' : (q : Int) ∈ o := by simpa using h2b
    refine VC.skip ?_
    refine VC.region ?_
    refine VO.val rfl rfl (OpV.add rfl rfl rfl (by unfold fits; omega)) ?_
    refine VO.mv rfl rfl rfl rfl ?_
    refine VO.nil ?_
    exact Exists.intro (⟨((uu, hh), q + 1), by show q + 1 ≤ n; omega, by rw [extQ_in h2']; exact hkk⟩) (And.intro (Le.mkP hB ⟨rfl, rfl, rfl, rfl, rfl, trivial⟩ (List.Sublist.refl _) (List.Perm.refl _) (Nat.le_refl _)) (by first | omega | (show _ < _; omega) | (simp only []; omega)))
  ·have aH1 := aH1b
   try simp only [qqT, qqF, qqN, qqM, qqL, qqE] at aH1
   obtain rfl : q = n := by omega
   refine VC.exit ?_
   exact Exists.intro _ (And.intro (RetV.none Tryz.results212) (⟨uu, hh, hkk, rfl⟩))
theorem setup_orders1 {τ : Type} {K : τ → List Ent → Prop} {step : τ → List Int → τ} {n : Nat} {F : FuncId} {caps : Array Value} {g0 g1 g2 g3 gu g4 : Nat} (hn : n ≤ 1000) (hcd : ∀ us w, (callFunc F us).run Tryz.prog w = .ok (.enter F us) w) (hdo : DoesP n K step Tryz.prog F caps 3) :
  ∀ (d : Nat) (o : List Int) (u : Value) (h : List Ent) (a : τ) (c : Nat), Ord n o → o.length = c → c + d = n → K a h → SpecH Tryz.prog 212 [pt g0, pt g1, pt g2, pt g3, pt g4] (ownO n F 212 caps 22 3 109 191 4 1 g0 g1 g2 g3 gu g4 c o u h) (fun y hp' => ∃ u' h', K (ext n step d o a) h' ∧ hp' = ownO n F 212 caps 22 3 109 191 4 1 g0 g1 g2 g3 gu g4 c o u' h')
 | 0, o, u, h, a, c, ho, hoc, hc, hk => setup_orders1_step hn hcd hdo (fun d' e => by omega) ho hoc hc hk
 | d + 1, o, u, h, a, c, ho, hoc, hc, hk => setup_orders1_step hn hcd hdo (fun d' e => by obtain rfl : d = d' := (by omega); exact setup_orders1 hn hcd hdo d) ho hoc hc hk
set_option maxRecDepth 100000 in
theorem setup_orders {τ : Type} {K : τ → List Ent → Prop} {step : τ → List Int → τ} {n : Nat} {F : FuncId} {caps : Array Value} {h : List Ent} {a : τ} (hn : n ≤ 1000) (hcd : ∀ us w, (callFunc F us).run Tryz.prog w = .ok (.enter F us) w) (hdo : DoesP n K step Tryz.prog F caps 3) (hk : K a h) :
  SpecH Tryz.prog 147 [avI (n : Int), .v (.func (.func F) #[] caps)] h (fun y hp' => ∃ h', K (ext n step n [] a) h' ∧ hp' = h') := by
 refine SpecH.of_VC Tryz.func147 rfl Tryz.ntmps147 (Nle rfl) fun w A hB => ?_
 have hnew : True := trivial
 refine VC.sr ?_
 refine VO.op rfl (OpE.box rfl hB rfl rfl rfl ?_)
 intro g2
 refine VO.le _ (Le.front rfl) ?_
 refine VO.op rfl (OpE.box rfl hB rfl rfl rfl ?_)
 intro g3
 refine VO.le _ (Le.front rfl) ?_
 refine VO.nil ?_
 refine VC.sr ?_
 refine VO.op rfl (OpE.alloc rfl hB rfl Tryz.zeroValue22 rfl ?_)
 intro g4
 refine VO.le _ (Le.front rfl) ?_
 refine VO.le _ (Le.nilRow 1 3) ?_
 refine VO.le _ (Le.front rfl) ?_
 refine VO.nil ?_
 refine VC.sr ?_
 refine VO.val rfl rfl (OpV.load_own (i := 3) rfl hB Tryz.isAgg3 rfl rfl rfl (fun h => h)) ?_
 refine VO.op rfl (OpE.make rfl hB rfl Tryz.underlying191 (infoOf Tryz.t4 1 (by kernel_rfl) rfl rfl) (by decide) rfl rfl (n := n) rfl rfl (by omega) (usedL_make rfl) ?_)
 intro g8
 rw [usedL_len]
 refine VO.le _ (Le.front rfl) ?_
 refine VO.op rfl (OpE.alloc rfl hB rfl Tryz.zeroValue191 rfl ?_)
 intro g5
 refine VO.le _ (Le.front rfl) ?_
 refine VO.op rfl (OpE.store (i := 0) rfl hB rfl Tryz.sizeOf191 rfl rfl rfl rfl rfl rfl (Nle rfl) trivial ?_)
 refine VO.nil ?_
 refine VC.sr ?_
 refine VO.op rfl (OpE.alloc rfl hB rfl Tryz.zeroValue1 rfl ?_)
 intro g6
 refine VO.le _ (Le.front rfl) ?_
 refine VO.nil ?_
 refine VC.sr ?_
 refine VO.val rfl rfl (OpV.makeFunc5 rfl rfl rfl rfl rfl rfl) ?_
 refine VO.op rfl (OpE.store (i := 0) rfl hB rfl Tryz.sizeOf1 rfl rfl rfl rfl rfl rfl (Nle rfl) trivial ?_)
 refine VO.nil ?_
 refine VC.region ?_
 refine VO.val rfl rfl (OpV.load_own (i := 0) rfl hB Tryz.isAgg1 rfl rfl rfl (fun h => h)) ?_
 refine VO.op rfl (OpE.callH0 rfl hB rfl Tryz.call212 rfl rfl (setup_orders1 hn hcd hdo n [] (.slice none 0 0) h a 0 (Ord.nil n) rfl (Nat.zero_add n) hk) (List.Perm.refl _) (fun _ _ => trivial) ?_)
 rintro _ _ ⟨u3, h3, hk3, rfl⟩
 refine VO.le _ (Le.drop 7) ?_
 refine VO.nil ?_
 exact Exists.intro _ (And.intro (RetV.none Tryz.results147) (⟨h3, hk3, rfl⟩))
end Go.Proofs.YtplphabekhaoaaaGreatDoor
namespace Go.Proofs.YtplphabekhaoaaaGreatDoor
open Go.RowKit
set_option linter.unusedVariables false
set_option linter.unusedSimpArgs false

structure BestT where
 best : List Int
 least : Int
def pickP (p : List (List ByteArray)) (o : List Int) : List (List ByteArray) := o.map fun i => p.getD i.toNat default
theorem pickP_len (p : List (List ByteArray)) (o : List Int) : (pickP p o).length = o.length := by simp [pickP]
theorem pickP_get {p : List (List ByteArray)} {o : List Int} {q : Nat} (h : q < o.length) : (pickP p o).getD q default = p.getD (o.getD q 0).toNat default := by simp [pickP, h]
def stepP (s : List ByteArray) (p : List (List ByteArray)) (a : BestT) (o : List Int) : BestT := if totalF s (pickP p o) a.least < a.least then ⟨o, totalF s (pickP p o) a.least⟩ else a
def bestP (s : List ByteArray) (p : List (List ByteArray)) : BestT := ext p.length (stepP s p) p.length [] ⟨[], 20001⟩
theorem pickP_right {s : List ByteArray} {p : List (List ByteArray)} (hp : ∀ q, q < p.length → RightP s.length (p.getD q default)) {o : List Int} (ho : Ord p.length o) : ∀ q, q < (pickP p o).length → RightP s.length ((pickP p o).getD q default) := fun q hq => by
 rw [pickP_len] at hq
 rw [pickP_get hq]
 have := ho.lt (o.getD q 0) (by simp [hq])
 exact hp _ (by omega)
section
variable {s : List ByteArray} {p : List (List ByteArray)}
def bestN (s : List ByteArray) (p : List (List ByteArray)) (out : List Int) : Nat → Int
 | 0 => -1
 | q + 1 => if (q : Int) ∈ out then bestN s p out q else if bestN s p out q < 0 then (q : Int)
  else if (missF s (p.getD q default)).length < (missF s (p.getD (bestN s p out q).toNat default)).length then (q : Int) else bestN s p out q
def leastN (s : List ByteArray) (p : List (List ByteArray)) (b : Int) : Int := if b < 0 then 0 else ((missF s (p.getD b.toNat default)).length : Int)
variable {out : List Int}
theorem bestN_in : ∀ q : Nat, (bestN s p out q = -1 ∧ ∀ j : Nat, j < q → (j : Int) ∈ out) ∨ (0 ≤ bestN s p out q ∧ bestN s p out q < q ∧ bestN s p out q ∉ out)
 | 0 => .inl ⟨rfl, fun j hj => by omega⟩
 | q + 1 => by
  have ih := bestN_in q
  rw [bestN]
  by_cases hm : (q : Int) ∈ out
  ·rw [if_pos hm]
   rcases ih with ⟨h1, h2⟩ | ⟨h1, h2, h3⟩
   ·exact .inl ⟨h1, fun j hj => by
     by_cases e : j = q
     ·subst e; exact hm
     ·exact h2 j (by omega)⟩
   ·exact .inr ⟨h1, by omega, h3⟩
  ·rw [if_neg hm]
   split
   ·exact .inr ⟨by omega, by omega, hm⟩
   ·split
    ·exact .inr ⟨by omega, by omega, hm⟩
    ·rcases ih with ⟨h1, h2⟩ | ⟨h1, h2, h3⟩
     ·omega
     ·exact .inr ⟨h1, by omega, h3⟩
theorem bestN_used {q : Nat} (h : (q : Int) ∈ out) : bestN s p out (q + 1) = bestN s p out q := by rw [bestN, if_pos h]
theorem bestN_first {q : Nat} (h : (q : Int) ∉ out) (h2 : bestN s p out q < 0) : bestN s p out (q + 1) = q := by rw [bestN, if_neg h, if_pos h2]
theorem bestN_new {q : Nat} (h : (q : Int) ∉ out) (h2 : ¬ bestN s p out q < 0) (h3 : (missF s (p.getD q default)).length < (missF s (p.getD (bestN s p out q).toNat default)).length) : bestN s p out (q + 1) = q := by rw [bestN, if_neg h, if_neg h2, if_pos h3]
theorem bestN_old {q : Nat} (h : (q : Int) ∉ out) (h2 : ¬ bestN s p out q < 0) (h3 : ¬ (missF s (p.getD q default)).length < (missF s (p.getD (bestN s p out q).toNat default)).length) : bestN s p out (q + 1) = bestN s p out q := by rw [bestN, if_neg h, if_neg h2, if_neg h3]
theorem leastN_q (q : Nat) : leastN s p (q : Int) = (missF s (p.getD q default)).length := by rw [leastN, if_neg (by omega)]; rfl
theorem leastN_pos {b : Int} (h : ¬ b < 0) : leastN s p b = (missF s (p.getD b.toNat default)).length := by rw [leastN, if_neg h]
end
def near (s : List ByteArray) (p : List (List ByteArray)) : Nat → List ByteArray × List Int × Int
 | 0 => (s, [], 0)
 | k + 1 => (nextF (near s p k).1 (p.getD (bestN (near s p k).1 p (near s p k).2.1 p.length).toNat default) [], (near s p k).2.1 ++ [bestN (near s p k).1 p (near s p k).2.1 p.length],
   (near s p k).2.2 + (missF (near s p k).1 (p.getD (bestN (near s p k).1 p (near s p k).2.1 p.length).toNat default)).length)
structure NearOk (s : List ByteArray) (p : List (List ByteArray)) (k : Nat) (r : List ByteArray × List Int × Int) : Prop where
 good : Good' r.1
 len : r.1.length = s.length
 ord : Ord p.length r.2.1
 num : r.2.1.length = k
 lo : 0 ≤ r.2.2
 hi : r.2.2 ≤ 100 * k
theorem NearOk.best {s : List ByteArray} {p : List (List ByteArray)} {k : Nat} {r : List ByteArray × List Int × Int} (h : NearOk s p k r) (hk : k < p.length) : 0 ≤ bestN r.1 p r.2.1 p.length ∧ bestN r.1 p r.2.1 p.length < p.length ∧ bestN r.1 p r.2.1 p.length ∉ r.2.1 := by
 rcases bestN_in (s := r.1) (p := p) (out := r.2.1) p.length with ⟨_, h2⟩ | h2
 ·obtain ⟨i, hi, hn⟩ := Ord.more (n := p.length) (o := r.2.1) (by rw [h.num]; exact hk)
  exact absurd (h2 i hi) hn
 ·exact h2
theorem near_ok {s : List ByteArray} {p : List (List ByteArray)} (hs : Good' s) (hp : ∀ q, q < p.length → RightP s.length (p.getD q default)) : ∀ k, k ≤ p.length → NearOk s p k (near s p k)
 | 0, _ => ⟨hs, rfl, Ord.nil _, rfl, Int.le_refl _, by simp [near]⟩
 | k + 1, hk => by
  have ih := near_ok hs hp k (by omega)
  obtain ⟨h1, h2, h3⟩ := ih.best (by omega)
  have hr := hp (bestN (near s p k).1 p (near s p k).2.1 p.length).toNat (by omega)
  have hms := missF_len (near s p k).1 (p.getD (bestN (near s p k).1 p (near s p k).2.1 p.length).toNat default)
  have hl := hr.len
  have hs100 := hs.len
  have h0 := ih.lo
  have h9 := ih.hi
  refine ⟨ih.good.nextF (by rw [ih.len]; exact hr) _, by rw [near, nextF_len]; exact ih.len, ?_, by rw [near, List.length_append, ih.num]; rfl, by rw [near]; simp only; omega, by rw [near]; simp only; omega⟩
  have := ih.ord.snoc (q := (bestN (near s p k).1 p (near s p k).2.1 p.length).toNat) (by omega) (by rw [Int.toNat_of_nonneg h1]; exact h3)
  rw [Int.toNat_of_nonneg h1] at this
  exact this
end Go.Proofs.YtplphabekhaoaaaGreatDoor
namespace Go.Proofs.YtplphabekhaoaaaGreatDoor
open Go.RowKit
set_option linter.unusedVariables false
set_option linter.unusedSimpArgs false

theorem pickP_sm {p : List (List ByteArray)} (hp : SmSS p) {o : List Int} (ho : o.length ≤ 1000) : SmSS (pickP p o) := ⟨by rw [pickP_len]; omega, fun i => by
 by_cases h : i < o.length
 ·rw [pickP_get h]; exact hp.2 _
 ·rw [List.getD_eq_getElem?_getD, List.getElem?_eq_none (by rw [pickP_len]; omega)]; exact SmS.nil⟩
def mixL (p : List (List ByteArray)) (o : List Int) (l : List (List ByteArray)) (q : Nat) : List (List ByteArray) := pickP p (o.take q) ++ l.drop q
theorem mixL_len {p : List (List ByteArray)} {o : List Int} {l : List (List ByteArray)} {q : Nat} (h : o.length = l.length) (hq : q ≤ o.length) : (mixL p o l q).length = l.length := by
 rw [mixL, List.length_append, pickP_len, List.length_take, List.length_drop]; omega
theorem mixL_all {p : List (List ByteArray)} {o : List Int} {l : List (List ByteArray)} (h : o.length = l.length) : mixL p o l o.length = pickP p o := by
 rw [mixL, List.take_length, h, List.drop_length, List.append_nil]
theorem mixL_set {p : List (List ByteArray)} {o : List Int} {l : List (List ByteArray)} {q : Nat} (h : o.length = l.length) (hq : q < o.length) : (mixL p o l q).set q (p.getD (o.getD q 0).toNat default) = mixL p o l (q + 1) := by
 have h1 : (pickP p (o.take q)).length = q := by rw [pickP_len, List.length_take]; omega
 unfold mixL
 rw [List.set_append_right _ _ (by omega), h1, Nat.sub_self, List.drop_eq_getElem_cons (by omega : q < l.length), List.set_cons_zero]
 have : pickP p (o.take (q + 1)) = pickP p (o.take q) ++ [p.getD (o.getD q 0).toNat default] := by
  rw [take_succ_getD (d := 0) hq, pickP, List.map_append]; rfl
 rw [this, List.append_assoc]; rfl
abbrev bestO' (s : List ByteArray) (p : List (List ByteArray)) (To Ti Tm Ts : TypeId) (gp gl gs gle gb ga : Nat) (ub : Value) (b : List Int) (least : Int) (l : List (List ByteArray)) : List Ent :=
 [.box gp ⟨[avM p], Tm, 1⟩, .box gl ⟨[.v (.slice (some ⟨ga, 0, none⟩) p.length p.length)], Tm, 1⟩, .box gs ⟨[avStrs s], Ts, 1⟩, .box gle ⟨[avI least], Ti, 1⟩, .box gb ⟨[.v ub], To, 1⟩, .box ga ⟨listM l, Ts, p.length⟩, .row ub b.length 1 (intsL b) Ti]
theorem totalF_in {s : List ByteArray} {q : List (List ByteArray)} {m : Int} (hs : s.length ≤ 100) (hp : ∀ j, j < q.length → RightP s.length (q.getD j default)) (hm : 0 ≤ m) : 0 ≤ totalF s q m := by
 have := totF_in hs hp q.length (Nat.le_refl _)
 unfold totalF
 split
 ·omega
 ·split <;> omega
set_option maxRecDepth 100000 in
theorem setup_Best1 {s : List ByteArray} {p : List (List ByteArray)} {o : List Int} {c : Nat} {u ub : Value} {b : List Int} {least : Int} {l : List (List ByteArray)} {gp gl gs gle gb ga : Nat} (hg : Good' s) (hp : ∀ q, q < p.length → RightP s.length (p.getD q default)) (hps : SmSS p) (hl8 : p.length ≤ 8) (ho : Ord p.length o) (hoc : o.length = c) (hcn : c = p.length) (hl : l.length = p.length) (hlb : 0 ≤ least ∧ least ≤ 20001) :
  SpecH Tryz.prog 148 [.v u, pt gp, pt gl, pt gs, pt gle, pt gb] (.row u c 1 (intsL o) 3 :: bestO' s p 22 3 91 94 gp gl gs gle gb ga ub b least l) (fun y hp' => ∃ ub' l', l'.length = p.length ∧ hp' = .row u c 1 (intsL o) 3 :: bestO' s p 22 3 91 94 gp gl gs gle gb ga ub' (stepP s p ⟨b, least⟩ o).best (stepP s p ⟨b, least⟩ o).least l') := by
 have hol : o.length = l.length := by omega
 have hls := hg.len
 refine SpecH.of_VC Tryz.func148 rfl Tryz.ntmps148 (Nle rfl) fun w A hB => ?_
 have hnew : True := trivial
 refine VC.seq ?_
 refine VC.sr ?_
 refine VO.mv rfl rfl rfl rfl ?_
 refine VO.val rfl rfl (OpV.len_row (i := 0) rfl Tryz.underlying22 rfl rfl) ?_
 refine VO.mv rfl rfl rfl rfl ?_
 refine VO.nil ?_
 refine VC.block ?_
 refine VC.loopK [(0, _), (1, _), (2, _), (3, _), (4, _), (5, _), (10, _), (11, _)] ⟨rfl, rfl, rfl, rfl, rfl, rfl, rfl, rfl, trivial⟩ ({q : Nat // q ≤ c}) (fun (iZ : {q : Nat // q ≤ c}) => match iZ with | ⟨q, hq⟩ => [(12, avI (q : Int))]) (fun (iZ : {q : Nat // q ≤ c}) => match iZ with | ⟨q, hq⟩ => [.row u c 1 (intsL o) 3, .box gp ⟨[avM p], 91, 1⟩, .box gl ⟨[.v (.slice (some ⟨ga, 0, none⟩) p.length p.length)], 91, 1⟩, .box gs ⟨[avStrs s], 94, 1⟩, .box gle ⟨[avI least], 3, 1⟩, .box gb ⟨[.v ub], 22, 1⟩, .box ga ⟨listM (mixL p o l q), 94, p.length⟩, .row ub b.length 1 (intsL b) 3]) (fun (iZ : {q : Nat // q ≤ c}) => match iZ with | ⟨q, hq⟩ => 0) (fun (iZ : {q : Nat // q ≤ c}) => match iZ with | ⟨q, hq⟩ => c - q) ⟨0, Nat.zero_le _⟩ (Le.mk hB [0, 1, 2, 3, 4, 5, 6, 7] ⟨rfl, rfl, rfl, rfl, rfl, rfl, rfl, rfl, rfl, trivial⟩ rfl rfl (Nat.le_refl _)) ?_
 rintro ⟨q, hq⟩
 show VC _ _ _ _ ⟨[(12, avI (q : Int))] ++ [(0, _), (1, _), (2, _), (3, _), (4, _), (5, _), (10, _), (11, _)], [.row u c 1 (intsL o) 3, .box gp ⟨[avM p], 91, 1⟩, .box gl ⟨[.v (.slice (some ⟨ga, 0, none⟩) p.length p.length)], 91, 1⟩, .box gs ⟨[avStrs s], 94, 1⟩, .box gle ⟨[avI least], 3, 1⟩, .box gb ⟨[.v ub], 22, 1⟩, .box ga ⟨listM (mixL p o l q), 94, p.length⟩, .row ub b.length 1 (intsL b) 3], 0⟩
 refine VC.sr ?_
 refine VO.val rfl rfl (OpV.lss rfl rfl rfl) ?_
 refine VO.nil ?_
 refine VC.seq ?_
 refine VC.cond rfl (fun aH1b => ?_) (fun aH1b => ?_)
 ·have aH1 := aH1b
  try simp only [qqT, qqF, qqN, qqM, qqL, qqE] at aH1
  have hoq := ho.lt (o.getD q 0) (by simp [show q < o.length by omega])
  have hml := mixL_len (p := p) (o := o) (l := l) (q := q) hol (by omega)
  refine VC.asBox (i := 0) rfl (by omega) (fun g cap hu hcap hmx => ?_)
  subst hu
  refine VC.skip ?_
  refine VC.seq ?_
  refine VC.block ?_
  refine VC.sr ?_
  refine VO.mv rfl rfl rfl rfl ?_
  refine VO.val rfl rfl (OpV.indexAddr_o rfl Tryz.underlying22 Tryz.sizeOf3 rfl rfl rfl (by omega)) ?_
  refine VO.val rfl rfl (OpV.load_own (i := 0) rfl hB Tryz.isAgg3 rfl rfl (intsL_get (j := q) (by omega)) (fun h => h)) ?_
  refine VO.ma rfl rfl rfl rfl ?_
  refine VO.ma rfl rfl rfl rfl ?_
  refine VO.nil ?_
  refine VC.draw (fun j b => j = 7 ∧ b = ga) hB (by kernel_rfl) ?_
  refine VA.take (i := 0) rfl (by kernel_rfl) (by kernel_rfl) (by kernel_rfl) rfl rfl (OpV.load_own (i := 2) rfl hB Tryz.isAgg91 rfl rfl rfl (by first | exact Wi.not1 (by kernel_rfl) | exact Wi.not2 (by kernel_rfl) (by kernel_rfl) | exact Wi.notX (by kernel_rfl))) ?_
  refine VA.take (i := 1) rfl (by kernel_rfl) (by kernel_rfl) (by kernel_rfl) rfl rfl (OpV.move (.inl rfl) rfl) ?_
  refine VA.take (i := 2) rfl (by kernel_rfl) (by kernel_rfl) (by kernel_rfl) rfl rfl (OpV.load_own (i := 1) rfl hB Tryz.isAgg91 rfl rfl rfl (by first | exact Wi.not1 (by kernel_rfl) | exact Wi.not2 (by kernel_rfl) (by kernel_rfl) | exact Wi.notX (by kernel_rfl))) ?_
  refine VA.take (i := 3) rfl (by kernel_rfl) (by kernel_rfl) (by kernel_rfl) rfl rfl (OpV.move (.inl rfl) rfl) ?_
  refine VA.take (i := 4) rfl (by kernel_rfl) (by kernel_rfl) (by kernel_rfl) rfl rfl (OpV.indexAddr_1 rfl Tryz.underlying91 Tryz.sizeOf94 rfl rfl (Int.toNat_of_nonneg hoq.1).symm (by omega)) ?_
  refine VA.take (i := 5) rfl (by kernel_rfl) (by kernel_rfl) (by kernel_rfl) rfl rfl (OpV.load_at rfl hB (by first | exact OutW.wi1 (k := 0) rfl rfl | exact OutW.wi1 (k := 1) rfl rfl | exact OutW.wi1 (k := 2) rfl rfl | exact OutW.wi1 (k := 3) rfl rfl | exact OutW.wi1 (k := 4) rfl rfl | exact OutW.wi1 (k := 5) rfl rfl | exact OutW.wi1 (k := 6) rfl rfl | exact OutW.wi1 (k := 7) rfl rfl) Tryz.isAgg94 rfl rfl) ?_
  refine VA.take (i := 6) rfl (by kernel_rfl) (by kernel_rfl) (by kernel_rfl) rfl rfl (OpV.indexAddr_o rfl Tryz.underlying91 Tryz.sizeOf94 rfl rfl rfl (by omega)) ?_
  refine VA.all (rs := [7]) (by kernel_rfl) (by decide) ?_
  refine ⟨⟨_, rfl, .inl rfl, ?_⟩, trivial⟩
  refine OpE.store1 (i := 6) rfl hB rfl Tryz.sizeOf94 rfl rfl rfl rfl rfl rfl (by rw [listM_len]; omega) ((listM_set _ _ _).trans (congrArg listM (mixL_set hol (by omega)))) (by first | exact ⟨rfl, rfl⟩ | exact .inl ⟨rfl, rfl⟩ | exact .inr ⟨rfl, rfl⟩ | exact ⟨rfl, trivial⟩ | exact .inl ⟨rfl, trivial⟩ | exact .inr ⟨rfl, trivial⟩ | exact ⟨by decide, rfl⟩) ?_
  refine VA.done (by kernel_rfl) ?_
  refine VC.le _ (Le.boxRow (i := 0) (n := c) (sz := 1) (cap := cap) rfl (by rw [intsL_len]; omega) hcap hmx) ?_
  refine VC.region ?_
  refine VO.val rfl rfl (OpV.add rfl rfl rfl (by unfold fits; omega)) ?_
  refine VO.mv rfl rfl rfl rfl ?_
  refine VO.nil ?_
  exact Exists.intro (⟨q + 1, by omega⟩) (And.intro (Le.mk hB [0, 1, 2, 3, 4, 5, 6, 7] ⟨rfl, rfl, rfl, rfl, rfl, rfl, rfl, rfl, rfl, trivial⟩ rfl rfl (Nat.le_refl _)) (by first | omega | (show _ < _; omega) | (simp only []; omega)))
 ·have aH1 := aH1b
  try simp only [qqT, qqF, qqN, qqM, qqL, qqE] at aH1
  obtain rfl : q = c := by omega
  have hmix : mixL p o l q = pickP p o := by rw [← hoc]; exact mixL_all hol
  rw [hmix]
  have hti := totalF_in (m := least) hls (pickP_right hp ho) hlb.1
  refine VC.exit ?_
  refine VC.sr ?_
  refine VO.val rfl rfl (OpV.load_own (i := 3) rfl hB Tryz.isAgg94 rfl rfl rfl (fun h => h)) ?_
  refine VO.val rfl rfl (OpV.load_own (i := 2) rfl hB Tryz.isAgg91 rfl rfl rfl (fun h => h)) ?_
  refine VO.val rfl rfl (OpV.load_own (i := 4) rfl hB Tryz.isAgg3 rfl rfl rfl (fun h => h)) ?_
  refine VO.op rfl (OpE.callL rfl hB rfl Tryz.call149 (setup_total hg (pickP_right hp ho) (pickP_sm hps (by omega)) (by rw [pickP_len]; omega) (by omega)) (ArgsP.cons (ArgP.ev rfl) (ArgsP.cons (ArgP.boxM (i := 6) rfl rfl (by rw [pickP_len]; omega) (Nat.le_refl _) (by simp only [maxLen]; omega)) (ArgsP.cons (ArgP.ev rfl) (ArgsP.nil)))) ?_)
  rintro _ rfl
  refine VO.ma rfl rfl rfl rfl ?_
  refine VO.nil ?_
  refine VC.sr ?_
  refine VO.mv rfl rfl rfl rfl ?_
  refine VO.val rfl rfl (OpV.load_own (i := 4) rfl hB Tryz.isAgg3 rfl rfl rfl (fun h => h)) ?_
  refine VO.val rfl rfl (OpV.lss rfl rfl rfl) ?_
  refine VO.nil ?_
  refine VC.cond rfl (fun h1b => ?_) (fun h1b => ?_)
  ·have h1 := h1b
   try simp only [qqT, qqF, qqN, qqM, qqL, qqE] at h1
   refine VC.region ?_
   refine VO.mv rfl rfl rfl rfl ?_
   refine VO.op rfl (OpE.callR rfl hB rfl Tryz.call53 (slices_Clone_R (by omega)) (ArgsP.cons (ArgP.rowI (i := 0) rfl rfl hoc.symm) (ArgsP.nil)) ?_)
   intro u33
   refine VO.rowIs (i := 8) rfl (fun b33 c33 hu33 => ?_)
   subst hu33
   refine VO.mv rfl rfl rfl rfl ?_
   refine VO.op rfl (OpE.store (i := 5) rfl hB rfl Tryz.sizeOf22 rfl rfl rfl rfl rfl rfl (Nle rfl) trivial ?_)
   refine VO.le _ (Le.erase 7) ?_
   refine VO.op rfl (OpE.store (i := 4) rfl hB rfl Tryz.sizeOf3 rfl rfl rfl rfl rfl rfl (Nle rfl) trivial ?_)
   refine VO.nil ?_
   exact Exists.intro _ (And.intro (RetV.none Tryz.results148) (by first | exact ⟨.slice b33 o.length c33, pickP p o, by rw [pickP_len]; omega, by rw [stepP, if_pos h1]; rfl⟩ | exact ⟨ub, pickP p o, by rw [pickP_len]; omega, by rw [stepP, if_neg (show ¬ totalF s (pickP p o) least < least by omega)]; rfl⟩))
  ·have h1 := h1b
   try simp only [qqT, qqF, qqN, qqM, qqL, qqE] at h1
   refine VC.skip ?_
   exact Exists.intro _ (And.intro (RetV.none Tryz.results148) (by first | exact ⟨.slice b33 o.length c33, pickP p o, by rw [pickP_len]; omega, by rw [stepP, if_pos h1]; rfl⟩ | exact ⟨ub, pickP p o, by rw [pickP_len]; omega, by rw [stepP, if_neg (show ¬ totalF s (pickP p o) least < least by omega)]; rfl⟩))
def KP (s : List ByteArray) (p : List (List ByteArray)) (To Ti Tm Ts : TypeId) (gp gl gs gle gb ga : Nat) (a : BestT) (h : List Ent) : Prop :=
 (0 ≤ a.least ∧ a.least ≤ 20001) ∧ ∃ ub l, l.length = p.length ∧ h = bestO' s p To Ti Tm Ts gp gl gs gle gb ga ub a.best a.least l
theorem setup_best_does {s : List ByteArray} {p : List (List ByteArray)} {gp gl gs gle gb ga : Nat} (hg : Good' s) (hp : ∀ q, q < p.length → RightP s.length (p.getD q default)) (hps : SmSS p) (hl8 : p.length ≤ 8) :
  DoesP p.length (KP s p 22 3 91 94 gp gl gs gle gb ga) (stepP s p) Tryz.prog 148 #[ptv gp, ptv gl, ptv gs, ptv gle, ptv gb] 3 := by
 rintro o c a h u ho hoc hcn ⟨hlb, ub, l, hl, rfl⟩
 refine (setup_Best1 (b := a.best) (least := a.least) hg hp hps hl8 ho hoc hcn hl hlb).mono ?_
 rintro y hp' ⟨ub', l', hl', rfl⟩
 refine ⟨_, ⟨?_, ub', l', hl', rfl⟩, rfl⟩
 have hti := totalF_in (m := a.least) hg.len (pickP_right hp ho) hlb.1
 show 0 ≤ (stepP s p a o).least ∧ (stepP s p a o).least ≤ 20001
 unfold stepP
 split
 ·exact ⟨hti, by show totalF _ _ _ ≤ _; omega⟩
 ·exact hlb
def bestE (s : List ByteArray) (p : List (List ByteArray)) : Int := if setsF s p ≠ 0 then setsF s p else if 8 < p.length then 2 else 0
def bestL (s : List ByteArray) (p : List (List ByteArray)) : List Int := if bestE s p = 0 then (bestP s p).best else []
def bestK (s : List ByteArray) (p : List (List ByteArray)) : Int := if bestE s p = 0 then (bestP s p).least else 0
theorem made_rep {z : Value} {n m : Nat} (hz : z.cells = #[z]) (hm : m = n) : (madeCells z.cells (m * 1)).toList.map AV.v = List.replicate n (.v z) := by
 subst hm
 rw [hz, Nat.mul_one, toList_madeCells_one]
 simp
set_option maxRecDepth 100000 in
theorem setup_Best {s : List ByteArray} {p : List (List ByteArray)} (hs : SmS s) (hl : SmSS p) :
  SpecH Tryz.prog 74 [avStrs s, avM p] [] (fun y hp' => ∃ u, y = .tup [.v u, avI (bestK s p), avI (bestE s p)] ∧ hp' = [.row u ((bestL s p).length) (1) (intsL (bestL s p)) (3)]) := by
 refine SpecH.of_VC Tryz.func74 rfl Tryz.ntmps74 (Nle rfl) fun w A hB => ?_
 have hnew : True := trivial
 refine VC.sr ?_
 refine VO.op rfl (OpE.box rfl hB rfl rfl rfl ?_)
 intro gs
 refine VO.op rfl (OpE.box rfl hB rfl rfl rfl ?_)
 intro gp
 refine VO.ma rfl rfl rfl rfl ?_
 refine VO.ma rfl rfl rfl rfl ?_
 refine VO.ma rfl rfl rfl rfl ?_
 refine VO.nil ?_
 refine VC.seq ?_
 refine VC.sr ?_
 refine VO.val rfl rfl (OpV.load_own (i := 0) rfl hB Tryz.isAgg94 rfl rfl rfl (fun h => h)) ?_
 refine VO.val rfl rfl (OpV.load_own (i := 1) rfl hB Tryz.isAgg91 rfl rfl rfl (fun h => h)) ?_
 refine VO.op rfl (OpE.call rfl hB rfl Tryz.call146 rfl (SpecN.spec (setup_fault hs hl)) ?_)
 rintro _ rfl
 refine VO.ma rfl rfl rfl rfl ?_
 refine VO.nil ?_
 refine VC.sr ?_
 refine VO.mv rfl rfl rfl rfl ?_
 refine VO.val rfl rfl (OpV.neq rfl rfl rfl) ?_
 refine VO.nil ?_
 refine VC.cond rfl (fun h0b => ?_) (fun h0b => ?_)
 ·have h0 := h0b
  try simp only [qqT, qqF, qqN, qqM, qqL, qqE] at h0
  have hE : bestE s p = setsF s p := by rw [bestE, if_pos h0]
  rw [bestL, if_neg (by rw [hE]; exact h0), bestK, if_neg (by rw [hE]; exact h0), hE]
  refine VC.sr ?_
  refine VO.mv rfl rfl rfl rfl ?_
  refine VO.ma rfl rfl rfl rfl ?_
  refine VO.ma rfl rfl rfl rfl ?_
  refine VO.ma rfl rfl rfl rfl ?_
  refine VO.nil ?_
  refine VC.le _ (Le.nilRow 1 3) ?_
  refine VC.le ⟨[(4, _), (5, _), (6, _)], [_], 0⟩ (Le.pick hB [2] ⟨rfl, rfl, rfl, trivial⟩ rfl rfl (Nat.le_refl _)) ?_
  refine VC.ret ?_
  exact Exists.intro _ (And.intro (RetV.three Tryz.results74 (ResV.tmp rfl) (ResV.tmp rfl) (ResV.tmp rfl)) (⟨_, rfl, rfl⟩))
 ·have h0 := h0b
  try simp only [qqT, qqF, qqN, qqM, qqL, qqE] at h0
  have h00 : setsF s p = 0 := by omega
  have hg := (setsF_zero h00).2.1
  have hp := (setsF_zero h00).2.2.2.1
  refine VC.skip ?_
  refine VC.seq ?_
  refine VC.sr ?_
  refine VO.val rfl rfl (OpV.load_own (i := 1) rfl hB Tryz.isAgg91 rfl rfl rfl (fun h => h)) ?_
  refine VO.val rfl rfl (OpV.len_im rfl Tryz.underlying91 rfl) ?_
  refine VO.val rfl rfl (OpV.gtr rfl rfl rfl) ?_
  refine VO.nil ?_
  refine VC.cond rfl (fun h1b => ?_) (fun h1b => ?_)
  ·have h1 := h1b
   try simp only [qqT, qqF, qqN, qqM, qqL, qqE] at h1
   have hE : bestE s p = 2 := by rw [bestE, if_neg (by omega), if_pos (by omega)]
   rw [bestL, if_neg (by rw [hE]; decide), bestK, if_neg (by rw [hE]; decide), hE]
   refine VC.sr ?_
   refine VO.ma rfl rfl rfl rfl ?_
   refine VO.ma rfl rfl rfl rfl ?_
   refine VO.ma rfl rfl rfl rfl ?_
   refine VO.nil ?_
   refine VC.le _ (Le.nilRow 1 3) ?_
   refine VC.le ⟨[(4, _), (5, _), (6, _)], [_], 0⟩ (Le.pick hB [2] ⟨rfl, rfl, rfl, trivial⟩ rfl rfl (Nat.le_refl _)) ?_
   refine VC.ret ?_
   exact Exists.intro _ (And.intro (RetV.three Tryz.results74 (ResV.tmp rfl) (ResV.tmp rfl) (ResV.tmp rfl)) (⟨_, rfl, rfl⟩))
  ·have h1 := h1b
   try simp only [qqT, qqF, qqN, qqM, qqL, qqE] at h1
   have hE : bestE s p = 0 := by rw [bestE, if_neg (by omega), if_neg (by omega)]
   rw [bestL, if_pos hE, bestK, if_pos hE, hE]
   refine VC.skip ?_
   refine VC.sr ?_
   refine VO.op rfl (OpE.alloc rfl hB rfl Tryz.zeroValue3 rfl ?_)
   intro gle
   refine VO.op rfl (OpE.store (i := 2) rfl hB rfl Tryz.sizeOf3 rfl rfl rfl rfl rfl rfl (Nle rfl) trivial ?_)
   refine VO.nil ?_
   refine VC.sr ?_
   refine VO.op rfl (OpE.alloc rfl hB rfl Tryz.zeroValue22 rfl ?_)
   intro gb
   refine VO.nil ?_
   refine VC.sr ?_
   refine VO.val rfl rfl (OpV.load_own (i := 1) rfl hB Tryz.isAgg91 rfl rfl rfl (fun h => h)) ?_
   refine VO.val rfl rfl (OpV.len_im rfl Tryz.underlying91 rfl) ?_
   refine VO.op rfl (OpE.make rfl hB rfl Tryz.underlying91 (infoOf Tryz.t94 1 (by kernel_rfl) rfl rfl) (by decide) rfl rfl (n := p.length) rfl rfl (by omega) (made_rep rfl rfl) ?_)
   intro ga
   rw [List.length_replicate]
   refine VO.le _ (Le.recastBox (i := 4) (cs' := listM (List.replicate p.length ([] : List ByteArray))) rfl (by simp [listM]) (fun j h1 h2 w Z u hr => by simp only [List.getElem_replicate] at hr; simp only [listM, List.getElem_map, List.getElem_replicate]; rw [hr.eq_v]; exact .nil _ _)) ?_
   refine VO.op rfl (OpE.alloc rfl hB rfl Tryz.zeroValue91 rfl ?_)
   intro gl
   refine VO.op rfl (OpE.store (i := 5) rfl hB rfl Tryz.sizeOf91 rfl rfl rfl rfl rfl rfl (Nle rfl) trivial ?_)
   refine VO.nil ?_
   refine VC.seq ?_
   refine VC.le _ ((Le.nilRow 1 3).trans (Le.pickH [1, 5, 0, 2, 3, 4, 6] rfl rfl)) ?_
   refine VC.region ?_
   refine VO.val rfl rfl (OpV.load_own (i := 0) rfl hB Tryz.isAgg91 rfl rfl rfl (fun h => h)) ?_
   refine VO.val rfl rfl (OpV.len_im rfl Tryz.underlying91 rfl) ?_
   refine VO.val rfl rfl (OpV.makeFunc5 rfl rfl rfl rfl rfl rfl) ?_
   refine VO.op rfl (OpE.callH0 rfl hB rfl Tryz.call147 rfl rfl (setup_orders (h := bestO' s p 22 3 91 94 gp gl gs gle gb ga (.slice none 0 0) [] 20001 (List.replicate p.length [])) (by omega) Tryz.call148 (setup_best_does hg hp hl (by omega)) (a := ⟨[], 20001⟩) ⟨by decide, .slice none 0 0, List.replicate p.length [], by simp, rfl⟩) (List.Perm.refl _) (fun _ _ => trivial) ?_)
   rintro _ _ ⟨_, ⟨hlb, ub, l, hll, rfl⟩, rfl⟩
   refine VO.nil ?_
   refine VC.seq ?_
   refine VC.draw (fun _ => NoB) hB (by kernel_rfl) ?_
   refine VA.take (i := 0) rfl (by kernel_rfl) (by kernel_rfl) (by kernel_rfl) rfl rfl (OpV.load_own (i := 4) rfl hB Tryz.isAgg22 rfl rfl rfl Wi.not0) ?_
   refine VA.take (i := 1) rfl (by kernel_rfl) (by kernel_rfl) (by kernel_rfl) rfl rfl (OpV.load_own (i := 3) rfl hB Tryz.isAgg3 rfl rfl rfl Wi.not0) ?_
   refine VA.take (i := 2) rfl (by kernel_rfl) (by kernel_rfl) (by kernel_rfl) rfl rfl (OpV.move (.inr rfl) rfl) ?_
   refine VA.take (i := 3) rfl (by kernel_rfl) (by kernel_rfl) (by kernel_rfl) rfl rfl (OpV.move (.inr rfl) rfl) ?_
   refine VA.take (i := 4) rfl (by kernel_rfl) (by kernel_rfl) (by kernel_rfl) rfl rfl (OpV.move (.inr rfl) rfl) ?_
   refine VA.done (by kernel_rfl) ?_
   refine VC.le ⟨[(4, _), (5, _), (6, _)], [_], 0⟩ (Le.pick hB [6] ⟨rfl, rfl, rfl, trivial⟩ rfl rfl (Nat.le_refl _)) ?_
   refine VC.ret ?_
   exact Exists.intro _ (And.intro (RetV.three Tryz.results74 (ResV.tmp rfl) (ResV.tmp rfl) (ResV.tmp rfl)) (⟨ub, rfl, rfl⟩))
end Go.Proofs.YtplphabekhaoaaaGreatDoor
namespace Go.Proofs.YtplphabekhaoaaaGreatDoor
open Go.RowKit
set_option linter.unusedVariables false
set_option linter.unusedSimpArgs false

theorem smss_nil : SmSS [] := ⟨by simp, fun i => by simp only [List.getD_nil]; exact SmS.nil⟩
theorem pickP_take {p : List (List ByteArray)} {o : List Int} {q : Nat} (h : q < o.length) : pickP p (o.take q) ++ [p.getD (o.getD q 0).toNat default] = pickP p (o.take (q + 1)) := by
 rw [take_succ_getD (d := 0) h, pickP, pickP, List.map_append]; rfl
theorem usedL_setI {n : Nat} {o : List Int} {b : Int} (h : 0 ≤ b) (h2 : b < n) : (usedL n o).set b.toNat (avB true) = usedL n (o ++ [b]) := by
 have := usedL_set (n := n) (o := o) (q := b.toNat) (by omega)
 rwa [Int.toNat_of_nonneg h] at this
theorem SpecH.nil3 {P : Program} {F : FuncId} {x y : AV} {sz : Nat} {f : Nat → AV} {hp : List Ent} {G : AV → List Ent → Prop} (h : SpecH P F [x, y, .im 0 sz f] hp G) : SpecH P F [x, y, .v (.slice none 0 0)] hp G :=
 h.args rfl fun j h1 h2 w Z u hr => by
  match j, h1, h2 with
  | 0, _, _ => exact hr
  | 1, _, _ => exact hr
  | 2, _, _ =>
   simp only [List.getElem_cons_succ, List.getElem_cons_zero] at hr ⊢
   rw [hr.eq_v]; exact .nil _ _

def nearLo (s : List ByteArray) (p : List (List ByteArray)) : List Int := if setsF s p = 0 then (near s p p.length).2.1 else []
def nearK (s : List ByteArray) (p : List (List ByteArray)) : Int := if setsF s p = 0 then (near s p p.length).2.2 else 0
set_option maxRecDepth 100000 in
theorem setup_Nearest {s : List ByteArray} {p : List (List ByteArray)} (hs : SmS s) (hps : SmSS p) :
  SpecH Tryz.prog 75 [avStrs s, avM p] [] (fun y hp' => ∃ u, y = .tup [.v u, avI (nearK s p), avI (setsF s p)] ∧ hp' = [.row u ((nearLo s p).length) (1) (intsL (nearLo s p)) (3)]) := by
 refine SpecH.of_VC Tryz.func75 rfl Tryz.ntmps75 (Nle rfl) fun w A hB => ?_
 have hnew : True := trivial
 refine VC.sr ?_
 refine VO.ma rfl rfl rfl rfl ?_
 refine VO.ma rfl rfl rfl rfl ?_
 refine VO.ma rfl rfl rfl rfl ?_
 refine VO.nil ?_
 refine VC.seq ?_
 refine VC.sr ?_
 refine VO.mv rfl rfl rfl rfl ?_
 refine VO.mv rfl rfl rfl rfl ?_
 refine VO.op rfl (OpE.call rfl hB rfl Tryz.call146 rfl (SpecN.spec (setup_fault hs hps)) ?_)
 rintro _ rfl
 refine VO.ma rfl rfl rfl rfl ?_
 refine VO.nil ?_
 refine VC.sr ?_
 refine VO.mv rfl rfl rfl rfl ?_
 refine VO.val rfl rfl (OpV.neq rfl rfl rfl) ?_
 refine VO.nil ?_
 refine VC.cond rfl (fun h0b => ?_) (fun h0b => ?_)
 ·have h0 := h0b
  try simp only [qqT, qqF, qqN, qqM, qqL, qqE] at h0
  rw [nearLo, if_neg h0, nearK, if_neg h0]
  refine VC.sr ?_
  refine VO.mv rfl rfl rfl rfl ?_
  refine VO.ma rfl rfl rfl rfl ?_
  refine VO.ma rfl rfl rfl rfl ?_
  refine VO.ma rfl rfl rfl rfl ?_
  refine VO.nil ?_
  refine VC.le _ (Le.nilRow 1 3) ?_
  refine VC.le ⟨[(4, _), (5, _), (6, _)], [_], 0⟩ (Le.pick hB [0] ⟨rfl, rfl, rfl, trivial⟩ rfl rfl (Nat.le_refl _)) ?_
  refine VC.ret ?_
  exact Exists.intro _ (And.intro (RetV.three Tryz.results75 (ResV.tmp rfl) (ResV.tmp rfl) (ResV.tmp rfl)) (⟨_, rfl, rfl⟩))
 ·have h0 := h0b
  try simp only [qqT, qqF, qqN, qqM, qqL, qqE] at h0
  have h00 : setsF s p = 0 := by omega
  have hg := (setsF_zero h00).2.1
  have hl2 := (setsF_zero h00).2.2.1
  have hp := (setsF_zero h00).2.2.2.1
  have hnum := (near_ok hg hp p.length (Nat.le_refl _)).num
  rw [nearLo, if_pos h00, nearK, if_pos h00, h00, hnum]
  refine VC.skip ?_
  refine VC.sr ?_
  refine VO.mv rfl rfl rfl rfl ?_
  refine VO.op rfl (OpE.callR rfl hB rfl Tryz.call130 (slices_CloneS_R hs.1) (ArgsP.cons (ArgP.ev rfl) (ArgsP.nil)) ?_)
  intro us
  refine VO.ma rfl rfl rfl rfl ?_
  refine VO.nil ?_
  refine VC.sr ?_
  refine VO.mv rfl rfl rfl rfl ?_
  refine VO.val rfl rfl (OpV.len_im rfl Tryz.underlying91 rfl) ?_
  refine VO.op rfl (OpE.make rfl hB rfl Tryz.underlying191 (infoOf Tryz.t4 1 (by kernel_rfl) rfl rfl) (by decide) rfl rfl (n := p.length) rfl rfl (by omega) (usedL_make rfl) ?_)
  intro gu
  rw [usedL_len]
  refine VO.ma rfl rfl rfl rfl ?_
  refine VO.nil ?_
  refine VC.sr ?_
  refine VO.ma rfl rfl rfl rfl ?_
  refine VO.nil ?_
  refine VC.sr ?_
  refine VO.ma rfl rfl rfl rfl ?_
  refine VO.nil ?_
  refine VC.seq ?_
  refine VC.sr ?_
  refine VO.mv rfl rfl rfl rfl ?_
  refine VO.val rfl rfl (OpV.len_im rfl Tryz.underlying91 rfl) ?_
  refine VO.mv rfl rfl rfl rfl ?_
  refine VO.nil ?_
  refine VC.block ?_
  refine VC.le _ (Le.nilRow 1 3) ?_
  refine VC.loopK [(0, _), (1, _), (8, _), (28, _)] ⟨rfl, rfl, rfl, rfl, trivial⟩ ({zz : Value × Nat // zz.2 ≤ p.length}) (fun (iZ : {zz : Value × Nat // zz.2 ≤ p.length}) => match iZ with | ⟨⟨u, k⟩, hq⟩ => [(9, .v u), (10, avI (near s p k).2.2), (29, avI (k : Int))]) (fun (iZ : {zz : Value × Nat // zz.2 ≤ p.length}) => match iZ with | ⟨⟨u, k⟩, hq⟩ => [.row us (near s p k).1.length 1 (strsL (near s p k).1) 9, .box gu ⟨usedL p.length (near s p k).2.1, 4, p.length⟩, .row u k 1 (intsL (near s p k).2.1) 3]) (fun (iZ : {zz : Value × Nat // zz.2 ≤ p.length}) => match iZ with | ⟨⟨u, k⟩, hq⟩ => 0) (fun (iZ : {zz : Value × Nat // zz.2 ≤ p.length}) => match iZ with | ⟨⟨u, k⟩, hq⟩ => p.length - k) ⟨(.slice none 0 0, 0), Nat.zero_le _⟩ (Le.mk hB [0, 1, 2] ⟨rfl, rfl, rfl, rfl, rfl, rfl, rfl, trivial⟩ rfl rfl (Nat.le_refl _)) ?_
  rintro ⟨⟨u, k⟩, hq⟩
  show VC _ _ _ _ ⟨[(9, .v u), (10, avI (near s p k).2.2), (29, avI (k : Int))] ++ [(0, _), (1, _), (8, _), (28, _)], [.row us (near s p k).1.length 1 (strsL (near s p k).1) 9, .box gu ⟨usedL p.length (near s p k).2.1, 4, p.length⟩, .row u k 1 (intsL (near s p k).2.1) 3], 0⟩
  simp only at hq
  refine VC.sr ?_
  refine VO.val rfl rfl (OpV.lss rfl rfl rfl) ?_
  refine VO.nil ?_
  refine VC.seq ?_
  refine VC.cond rfl (fun aH1b => ?_) (fun aH1b => ?_)
  ·have aH1 := aH1b
   try simp only [qqT, qqF, qqN, qqM, qqL, qqE] at aH1
   have hk' : k < p.length := by omega
   have hok := near_ok hg hp k (by omega)
   obtain ⟨b1, b2, b3⟩ := hok.best hk'
   have hrp := hp (bestN (near s p k).1 p (near s p k).2.1 p.length).toNat (by omega)
   have hrl := hrp.len
   rw [← hok.len] at hrp
   have hgl := hok.good.len
   have hkl := hok.len
   have hms := missF_len (near s p k).1 (p.getD (bestN (near s p k).1 p (near s p k).2.1 p.length).toNat default)
   have hlo := hok.lo
   have hhi := hok.hi
   refine VC.skip ?_
   refine VC.seq ?_
   refine VC.block ?_
   refine VC.sr ?_
   refine VO.ma rfl rfl rfl rfl ?_
   refine VO.ma rfl rfl rfl rfl ?_
   refine VO.nil ?_
   refine VC.seq ?_
   refine VC.sr ?_
   refine VO.mv rfl rfl rfl rfl ?_
   refine VO.val rfl rfl (OpV.len_im rfl Tryz.underlying91 rfl) ?_
   refine VO.mv rfl rfl rfl rfl ?_
   refine VO.nil ?_
   refine VC.block ?_
   refine VC.loopK [(0, _), (1, _), (8, _), (9, _), (10, _), (28, _), (29, _), (31, _), (32, _)] ⟨rfl, rfl, rfl, rfl, rfl, rfl, rfl, rfl, rfl, trivial⟩ ({q : Nat // q ≤ p.length}) (fun (iZ : {q : Nat // q ≤ p.length}) => match iZ with | ⟨q, hq1⟩ => [(11, avI (bestN (near s p k).1 p (near s p k).2.1 q)), (12, avI (leastN (near s p k).1 p (bestN (near s p k).1 p (near s p k).2.1 q))), (33, avI (q : Int))]) (fun (iZ : {q : Nat // q ≤ p.length}) => match iZ with | ⟨q, hq1⟩ => [.row us (near s p k).1.length 1 (strsL (near s p k).1) 9, .box gu ⟨usedL p.length (near s p k).2.1, 4, p.length⟩, .row u k 1 (intsL (near s p k).2.1) 3]) (fun (iZ : {q : Nat // q ≤ p.length}) => match iZ with | ⟨q, hq1⟩ => 0) (fun (iZ : {q : Nat // q ≤ p.length}) => match iZ with | ⟨q, hq1⟩ => p.length - q) ⟨0, Nat.zero_le _⟩ (Le.mk hB [0, 1, 2] ⟨rfl, rfl, rfl, rfl, rfl, rfl, rfl, rfl, rfl, rfl, rfl, rfl, trivial⟩ rfl rfl (Nat.le_refl _)) ?_
   rintro ⟨q, hq1⟩
   show VC _ _ _ _ ⟨[(11, avI (bestN (near s p k).1 p (near s p k).2.1 q)), (12, avI (leastN (near s p k).1 p (bestN (near s p k).1 p (near s p k).2.1 q))), (33, avI (q : Int))] ++ [(0, _), (1, _), (8, _), (9, _), (10, _), (28, _), (29, _), (31, _), (32, _)], [.row us (near s p k).1.length 1 (strsL (near s p k).1) 9, .box gu ⟨usedL p.length (near s p k).2.1, 4, p.length⟩, .row u k 1 (intsL (near s p k).2.1) 3], 0⟩
   have hbi := bestN_in (s := (near s p k).1) (p := p) (out := (near s p k).2.1) q
   refine VC.sr ?_
   refine VO.val rfl rfl (OpV.lss rfl rfl rfl) ?_
   refine VO.nil ?_
   refine VC.seq ?_
   refine VC.cond rfl (fun aH2b => ?_) (fun aH2b => ?_)
   ·have aH2 := aH2b
    try simp only [qqT, qqF, qqN, qqM, qqL, qqE] at aH2
    refine VC.skip ?_
    refine VC.seq ?_
    refine VC.block ?_
    refine VC.sr ?_
    refine VO.mv rfl rfl rfl rfl ?_
    refine VO.val rfl rfl (OpV.indexAddr_1 rfl Tryz.underlying91 Tryz.sizeOf94 rfl rfl rfl (by omega)) ?_
    refine VO.val rfl rfl (OpV.load_at rfl hB OutW.no Tryz.isAgg94 rfl rfl) ?_
    refine VO.ma rfl rfl rfl rfl ?_
    refine VO.ma rfl rfl rfl rfl ?_
    refine VO.nil ?_
    refine VC.sr ?_
    refine VO.mv rfl rfl rfl rfl ?_
    refine VO.mv rfl rfl rfl rfl ?_
    refine VO.op rfl (OpE.callL rfl hB rfl Tryz.call150 (setup_missing_N hok.good.sms (hps.2 _)) (ArgsP.cons (ArgP.rowS (i := 0) rfl rfl rfl) (ArgsP.cons (ArgP.ev rfl) (ArgsP.nil))) ?_)
    rintro _ rfl
    refine VO.val rfl rfl (OpV.len_im rfl Tryz.underlying94 rfl) ?_
    refine VO.ma rfl rfl rfl rfl ?_
    refine VO.nil ?_
    refine VC.sr ?_
    refine VO.mv rfl rfl rfl rfl ?_
    refine VO.mv rfl rfl rfl rfl ?_
    refine VO.val rfl rfl (OpV.indexAddr_o rfl Tryz.underlying191 Tryz.sizeOf4 rfl rfl rfl (by omega)) ?_
    refine VO.val rfl rfl (OpV.load_own (i := 1) rfl hB Tryz.isAgg4 rfl rfl (usedL_get (q := q) (by omega)) (fun h => h)) ?_
    refine VO.val rfl rfl (OpV.not rfl rfl) ?_
    refine VO.mv rfl rfl rfl rfl ?_
    refine VO.opG rfl rfl rfl rfl (fun aK3b => ?_) (fun aK3b => ?_)
    ·replace aK3b : _ = true := aK3b
     have aK3 := aK3b
     try simp only [qqT, qqF, qqN, qqM, qqL, qqE] at aK3
     refine OpE.val (W := NoB) (OpV.move (.inl rfl) rfl) rfl ?_
     refine VO.opY rfl rfl rfl rfl aK3b ?_
     refine OpE.val (W := NoB) (OpV.lss rfl rfl rfl) rfl ?_
     refine VO.opY rfl rfl rfl rfl aK3b ?_
     refine OpE.val (W := NoB) (OpV.move (.inl rfl) rfl) rfl ?_
     refine VO.opG rfl rfl rfl rfl (fun aK4b => ?_) (fun aK4b => ?_)
     ·replace aK4b : _ = false := aK4b
      have aK4 := aK4b
      try simp only [qqT, qqF, qqN, qqM, qqL, qqE] at aK4
      refine OpE.val (W := NoB) (OpV.move (.inl rfl) rfl) rfl ?_
      refine VO.opY rfl rfl rfl rfl aK4b ?_
      refine OpE.val (W := NoB) (OpV.move (.inl rfl) rfl) rfl ?_
      refine VO.opY rfl rfl rfl rfl aK4b ?_
      refine OpE.val (W := NoB) (OpV.lss rfl rfl rfl) rfl ?_
      refine VO.opY rfl rfl rfl rfl aK3b ?_
      refine OpE.val (W := NoB) (OpV.pickF rfl rfl rfl rfl aK4b) rfl ?_
      refine VO.val rfl rfl (OpV.pickT rfl rfl rfl rfl aK3b) ?_
      refine VO.nil ?_
      refine VC.cond rfl (fun aH5b => ?_) (fun aH5b => ?_)
      ·have aH5 := aH5b
       try simp only [qqT, qqF, qqN, qqM, qqL, qqE] at aH5
       refine VC.region ?_
       refine VO.mv rfl rfl rfl rfl ?_
       refine VO.mv rfl rfl rfl rfl ?_
       refine VO.ma rfl rfl rfl rfl ?_
       refine VO.ma rfl rfl rfl rfl ?_
       refine VO.nil ?_
       refine VC.region ?_
       refine VO.val rfl rfl (OpV.add rfl rfl rfl (by unfold fits; omega)) ?_
       refine VO.mv rfl rfl rfl rfl ?_
       refine VO.nil ?_
       exact Exists.intro (⟨q + 1, by omega⟩) (And.intro (Le.mk hB [0, 1, 2] ⟨(by dsimp only; first | (rw [bestN_used (by assumption)]; rfl) | (rw [bestN_first (by assumption) (by assumption)]; rfl) | (rw [bestN_new (by assumption) (by omega) (by have := leastN_pos (s := (near s p k).1) (p := p) (b := bestN (near s p k).1 p (near s p k).2.1 q) (by omega); omega)]; rfl) | (rw [bestN_old (by assumption) (by omega) (by have := leastN_pos (s := (near s p k).1) (p := p) (b := bestN (near s p k).1 p (near s p k).2.1 q) (by omega); omega)]; rfl)), (by dsimp only; first | (rw [bestN_used (by assumption)]; rfl) | (rw [bestN_first (by assumption) (by assumption), leastN_q]; rfl) | (rw [bestN_new (by assumption) (by omega) (by have := leastN_pos (s := (near s p k).1) (p := p) (b := bestN (near s p k).1 p (near s p k).2.1 q) (by omega); omega), leastN_q]; rfl) | (rw [bestN_old (by assumption) (by omega) (by have := leastN_pos (s := (near s p k).1) (p := p) (b := bestN (near s p k).1 p (near s p k).2.1 q) (by omega); omega)]; rfl)), rfl, rfl, rfl, rfl, rfl, rfl, rfl, rfl, rfl, rfl, trivial⟩ rfl rfl (Nat.le_refl _)) (by first | omega | (show _ < _; omega) | (simp only []; omega)))
      ·have aH5 := aH5b
       try simp only [qqT, qqF, qqN, qqM, qqL, qqE] at aH5
       refine VC.skip ?_
       refine VC.region ?_
       refine VO.val rfl rfl (OpV.add rfl rfl rfl (by unfold fits; omega)) ?_
       refine VO.mv rfl rfl rfl rfl ?_
       refine VO.nil ?_
       exact Exists.intro (⟨q + 1, by omega⟩) (And.intro (Le.mk hB [0, 1, 2] ⟨(by dsimp only; first | (rw [bestN_used (by assumption)]; rfl) | (rw [bestN_first (by assumption) (by assumption)]; rfl) | (rw [bestN_new (by assumption) (by omega) (by have := leastN_pos (s := (near s p k).1) (p := p) (b := bestN (near s p k).1 p (near s p k).2.1 q) (by omega); omega)]; rfl) | (rw [bestN_old (by assumption) (by omega) (by have := leastN_pos (s := (near s p k).1) (p := p) (b := bestN (near s p k).1 p (near s p k).2.1 q) (by omega); omega)]; rfl)), (by dsimp only; first | (rw [bestN_used (by assumption)]; rfl) | (rw [bestN_first (by assumption) (by assumption), leastN_q]; rfl) | (rw [bestN_new (by assumption) (by omega) (by have := leastN_pos (s := (near s p k).1) (p := p) (b := bestN (near s p k).1 p (near s p k).2.1 q) (by omega); omega), leastN_q]; rfl) | (rw [bestN_old (by assumption) (by omega) (by have := leastN_pos (s := (near s p k).1) (p := p) (b := bestN (near s p k).1 p (near s p k).2.1 q) (by omega); omega)]; rfl)), rfl, rfl, rfl, rfl, rfl, rfl, rfl, rfl, rfl, rfl, trivial⟩ rfl rfl (Nat.le_refl _)) (by first | omega | (show _ < _; omega) | (simp only []; omega)))
     ·replace aK4b : _ = true := aK4b
      have aK4 := aK4b
      try simp only [qqT, qqF, qqN, qqM, qqL, qqE] at aK4
      refine VO.opX rfl rfl rfl rfl aK4b ?_
      refine VO.opX rfl rfl rfl rfl aK4b ?_
      refine VO.opY rfl rfl rfl rfl aK3b ?_
      refine OpE.val (W := NoB) (OpV.pickT rfl rfl rfl rfl aK4b) rfl ?_
      refine VO.val rfl rfl (OpV.pickT rfl rfl rfl rfl aK3b) ?_
      refine VO.nil ?_
      refine VC.condT rfl rfl ?_
      refine VC.region ?_
      refine VO.mv rfl rfl rfl rfl ?_
      refine VO.mv rfl rfl rfl rfl ?_
      refine VO.ma rfl rfl rfl rfl ?_
      refine VO.ma rfl rfl rfl rfl ?_
      refine VO.nil ?_
      refine VC.region ?_
      refine VO.val rfl rfl (OpV.add rfl rfl rfl (by unfold fits; omega)) ?_
      refine VO.mv rfl rfl rfl rfl ?_
      refine VO.nil ?_
      exact Exists.intro (⟨q + 1, by omega⟩) (And.intro (Le.mk hB [0, 1, 2] ⟨(by dsimp only; first | (rw [bestN_used (by assumption)]; rfl) | (rw [bestN_first (by assumption) (by assumption)]; rfl) | (rw [bestN_new (by assumption) (by omega) (by have := leastN_pos (s := (near s p k).1) (p := p) (b := bestN (near s p k).1 p (near s p k).2.1 q) (by omega); omega)]; rfl) | (rw [bestN_old (by assumption) (by omega) (by have := leastN_pos (s := (near s p k).1) (p := p) (b := bestN (near s p k).1 p (near s p k).2.1 q) (by omega); omega)]; rfl)), (by dsimp only; first | (rw [bestN_used (by assumption)]; rfl) | (rw [bestN_first (by assumption) (by assumption), leastN_q]; rfl) | (rw [bestN_new (by assumption) (by omega) (by have := leastN_pos (s := (near s p k).1) (p := p) (b := bestN (near s p k).1 p (near s p k).2.1 q) (by omega); omega), leastN_q]; rfl) | (rw [bestN_old (by assumption) (by omega) (by have := leastN_pos (s := (near s p k).1) (p := p) (b := bestN (near s p k).1 p (near s p k).2.1 q) (by omega); omega)]; rfl)), rfl, rfl, rfl, rfl, rfl, rfl, rfl, rfl, rfl, rfl, trivial⟩ rfl rfl (Nat.le_refl _)) (by first | omega | (show _ < _; omega) | (simp only []; omega)))
    ·replace aK3b : _ = false := aK3b
     have aK3 := aK3b
     try simp only [qqT, qqF, qqN, qqM, qqL, qqE] at aK3
     refine VO.opX rfl rfl rfl rfl aK3b ?_
     refine VO.opX rfl rfl rfl rfl aK3b ?_
     refine VO.opU rfl rfl rfl rfl ?_
     refine VO.opU rfl rfl rfl rfl ?_
     refine VO.opU rfl rfl rfl rfl ?_
     refine VO.opX rfl rfl rfl rfl aK3b ?_
     refine VO.val rfl rfl (OpV.pickF rfl rfl rfl rfl aK3b) ?_
     refine VO.nil ?_
     refine VC.condF rfl rfl ?_
     refine VC.skip ?_
     refine VC.region ?_
     refine VO.val rfl rfl (OpV.add rfl rfl rfl (by unfold fits; omega)) ?_
     refine VO.mv rfl rfl rfl rfl ?_
     refine VO.nil ?_
     exact Exists.intro (⟨q + 1, by omega⟩) (And.intro (Le.mk hB [0, 1, 2] ⟨(by dsimp only; first | (rw [bestN_used (by assumption)]; rfl) | (rw [bestN_first (by assumption) (by assumption)]; rfl) | (rw [bestN_new (by assumption) (by omega) (by have := leastN_pos (s := (near s p k).1) (p := p) (b := bestN (near s p k).1 p (near s p k).2.1 q) (by omega); omega)]; rfl) | (rw [bestN_old (by assumption) (by omega) (by have := leastN_pos (s := (near s p k).1) (p := p) (b := bestN (near s p k).1 p (near s p k).2.1 q) (by omega); omega)]; rfl)), (by dsimp only; first | (rw [bestN_used (by assumption)]; rfl) | (rw [bestN_first (by assumption) (by assumption), leastN_q]; rfl) | (rw [bestN_new (by assumption) (by omega) (by have := leastN_pos (s := (near s p k).1) (p := p) (b := bestN (near s p k).1 p (near s p k).2.1 q) (by omega); omega), leastN_q]; rfl) | (rw [bestN_old (by assumption) (by omega) (by have := leastN_pos (s := (near s p k).1) (p := p) (b := bestN (near s p k).1 p (near s p k).2.1 q) (by omega); omega)]; rfl)), rfl, rfl, rfl, rfl, rfl, rfl, rfl, rfl, rfl, rfl, trivial⟩ rfl rfl (Nat.le_refl _)) (by first | omega | (show _ < _; omega) | (simp only []; omega)))
   ·have aH2 := aH2b
    try simp only [qqT, qqF, qqN, qqM, qqL, qqE] at aH2
    obtain rfl : q = p.length := by omega
    refine VC.exit ?_
    refine VC.sr ?_
    refine VO.mv rfl rfl rfl rfl ?_
    refine VO.mv rfl rfl rfl rfl ?_
    refine VO.val rfl rfl (OpV.indexAddr_o rfl Tryz.underlying191 Tryz.sizeOf4 rfl rfl (Int.toNat_of_nonneg b1).symm (by omega)) ?_
    refine VO.op rfl (OpE.store1 (i := 1) rfl hB rfl Tryz.sizeOf4 rfl rfl rfl rfl rfl rfl (by rw [usedL_len]; omega) (usedL_setI b1 b2) trivial ?_)
    refine VO.nil ?_
    refine VC.sr ?_
    refine VO.mv rfl rfl rfl rfl ?_
    refine VO.mv rfl rfl rfl rfl ?_
    refine VO.op rfl (OpE.buildSlice (zc := #[.int .i64 0]) rfl hB rfl Tryz.underlying22 Tryz.sizeOf3 Tryz.zeroValue3 (by decide) (by decide) (by kernel_rfl) rfl rfl ?_)
    refine VO.op rfl (OpE.append1 (i := 2) rfl hB rfl Tryz.underlying22 (infoOf Tryz.t3 1 (by kernel_rfl) rfl rfl) rfl (by decide) (by decide) rfl rfl rfl rfl (intsL_snoc _ _) (by omega) (fun _ _ => trivial) ?_)
    intro u2
    refine VO.ma rfl rfl rfl rfl ?_
    refine VO.nil ?_
    refine VC.region ?_
    refine VO.mv rfl rfl rfl rfl ?_
    refine VO.mv rfl rfl rfl rfl ?_
    refine VO.mv rfl rfl rfl rfl ?_
    refine VO.mv rfl rfl rfl rfl ?_
    refine VO.val rfl rfl (OpV.indexAddr_1 rfl Tryz.underlying91 Tryz.sizeOf94 rfl rfl (Int.toNat_of_nonneg b1).symm (by omega)) ?_
    refine VO.val rfl rfl (OpV.load_at rfl hB OutW.no Tryz.isAgg94 rfl rfl) ?_
    refine VO.op rfl (OpE.callH rfl hB rfl Tryz.call135 rfl rfl ((setup_next hok.good hrp smss_nil).nil3) (List.Perm.refl _) (fun _ _ => trivial) ?_)
    rintro _ _ ⟨rfl, rfl⟩
    refine VO.val rfl rfl (OpV.add rfl rfl rfl (by unfold fits; omega)) ?_
    refine VO.ma rfl rfl rfl rfl ?_
    refine VO.nil ?_
    refine VC.region ?_
    refine VO.val rfl rfl (OpV.add rfl rfl rfl (by unfold fits; omega)) ?_
    refine VO.mv rfl rfl rfl rfl ?_
    refine VO.nil ?_
    exact Exists.intro (⟨(u2, k + 1), by show _ ≤ _; omega⟩) (And.intro (Le.mk hB [0, 1, 2] ⟨rfl, rfl, rfl, rfl, rfl, rfl, rfl, trivial⟩ rfl (by dsimp only; rw [show (near s p (k + 1)).1.length = (near s p k).1.length from nextF_len _ _ _]; rfl) (Nat.le_refl _)) (by first | omega | (show _ < _; omega) | (simp only []; omega)))
  ·have aH1 := aH1b
   try simp only [qqT, qqF, qqN, qqM, qqL, qqE] at aH1
   obtain rfl : k = p.length := by omega
   refine VC.exit ?_
   refine VC.sr ?_
   refine VO.mv rfl rfl rfl rfl ?_
   refine VO.mv rfl rfl rfl rfl ?_
   refine VO.ma rfl rfl rfl rfl ?_
   refine VO.ma rfl rfl rfl rfl ?_
   refine VO.ma rfl rfl rfl rfl ?_
   refine VO.nil ?_
   refine VC.le ⟨[(4, _), (5, _), (6, _)], [_], 0⟩ (Le.pick hB [2] ⟨rfl, rfl, rfl, trivial⟩ rfl rfl (Nat.le_refl _)) ?_
   refine VC.ret ?_
   exact Exists.intro _ (And.intro (RetV.three Tryz.results75 (ResV.tmp rfl) (ResV.tmp rfl) (ResV.tmp rfl)) (⟨_, rfl, rfl⟩))
end Go.Proofs.YtplphabekhaoaaaGreatDoor
namespace Go.Proofs.YtplphabekhaoaaaGreatDoor
open Go.RowKit
set_option linter.unusedVariables false
set_option linter.unusedSimpArgs false

theorem bits_Mul_S {x y : Nat} (hx : x < 18446744073709551616) (hy : y < 18446744073709551616) (hxy : x * y < 18446744073709551616) : SpecN Tryz.prog 139 [.v (.int .u64 x), .v (.int .u64 y)] (fun z => z = .tup [.v (.int .u64 0), .v (.int .u64 ((x * y : Nat) : Int))]) := by
 intro w us ha
 rw [argsV2 ha]
 refine (Tryz.bits_Mul x y hx hy w).mono ?_
 rintro e w' ⟨rfl, rfl⟩
 rw [Nat.div_eq_of_lt hxy, Nat.mod_eq_of_lt hxy]
 refine ⟨_, _, rfl, rfl, .tup _ _ rfl fun j hj => ?_, Chg.refl _ _, trivial⟩
 match j, hj with
 | 0, _ => exact .v _
 | 1, _ => exact .v _

def repC (X Z : AV) (k n : Nat) : List AV := List.replicate k X ++ List.replicate (n - k) Z
theorem repC_len {X Z : AV} {k n : Nat} (h : k ≤ n) : (repC X Z k n).length = n := by simp [repC]; omega
theorem repC_get {X Z : AV} {k n j : Nat} (h : k ≤ n) (hj : j < n) : (repC X Z k n)[j]? = some (if j < k then X else Z) := by
 unfold repC
 split
 ·rename_i h1; rw [List.getElem?_append_left (by simpa using h1)]; simp [h1]
 ·rename_i h1
  rw [List.getElem?_append_right (by simpa using h1), List.length_replicate, List.getElem?_replicate, if_pos (by omega)]
theorem repC_step {X Z : AV} {F : Nat → AV} {k c n o q : Nat} (h : k + c ≤ n) (hF : ∀ j, j < c → F j = X) (ho : o = k) (hq : q = c) : (repC X Z k n).take o ++ tab q F ++ (repC X Z k n).drop (o + q) = repC X Z (k + c) n := by
 subst ho; subst hq
 apply List.ext_getElem?
 intro i
 by_cases hi : i < n
 ·rw [repC_get h hi]
  by_cases h1 : i < o
  ·rw [List.append_assoc, List.getElem?_append_left (by rw [List.length_take, repC_len (by omega)]; omega), List.getElem?_take, if_pos h1, repC_get (by omega) hi, if_pos h1, if_pos (by omega)]
  ·by_cases h2 : i < o + q
   ·rw [List.append_assoc, List.getElem?_append_right (by rw [List.length_take, repC_len (by omega)]; omega), List.getElem?_append_left (by rw [List.length_take, repC_len (by omega), tab_len]; omega), if_pos h2]
    rw [List.getElem?_eq_getElem (by rw [List.length_take, repC_len (by omega), tab_len]; omega), tab_get, hF _ (by rw [List.length_take, repC_len (by omega)]; omega)]
   ·rw [List.getElem?_append_right (by rw [List.length_append, List.length_take, repC_len (by omega), tab_len]; omega), List.getElem?_drop, List.length_append, List.length_take, repC_len (by omega), tab_len, repC_get (by omega) (by omega), if_neg (by omega), if_neg h2]
 ·have l1 : ((repC X Z o n).take o ++ tab q F ++ (repC X Z o n).drop (o + q)).length ≤ i := by
   rw [List.length_append, List.length_append, List.length_take, List.length_drop, repC_len (by omega), tab_len]; omega
  have l2 : (repC X Z (o + q) n).length ≤ i := by rw [repC_len h]; omega
  rw [List.getElem?_eq_none l1, List.getElem?_eq_none l2]
theorem repC_0 {z : Value} {n m : Nat} (hz : z.cells = #[z]) (hm : m = n) : (madeCells z.cells (m * 1)).toList.map AV.v = repC (.v z) (.v z) 0 n := by
 subst hm
 rw [hz, Nat.mul_one, toList_madeCells_one]
 simp [repC]
theorem repC_full {X Z : AV} {n : Nat} : repC X Z n n = List.replicate n X := by simp [repC]
theorem repC_zero {X Y Z : AV} {n : Nat} : repC X Z 0 n = repC Y Z 0 n := by simp [repC]
theorem repC_first {X Z : AV} {F : Nat → AV} {n c : Nat} (hc : c = min 1 n) (hF : F 0 = X) : (repC Z Z 0 n).take 0 ++ tab (c * 1) F ++ (repC Z Z 0 n).drop (0 + c * 1) = repC X Z c n := by
 rw [repC_zero (X := Z) (Y := X)]
 have h0 : 0 + c = c := Nat.zero_add c
 rw [← h0]
 rw [h0]
 conv => rhs; rw [← h0]
 exact repC_step (c := c) (by omega) (fun j hj => by rw [show j = 0 by omega]; exact hF) rfl (Nat.mul_one _)
set_option maxRecDepth 100000 in
theorem slices_Repeat_str {x : ByteArray} {n : Nat} (hn : n ≤ 100000) :
  Spec Tryz.prog 145 [avStrs [x], avI (n : Int)] (fun y => y = avStrs (List.replicate n x)) := by
 refine Spec.of_VC Tryz.func145 rfl Tryz.ntmps145 (Nle rfl) fun w A hB => ?_
 have hnew : True := trivial
 refine VC.sr ?_
 refine VO.ma rfl rfl rfl rfl ?_
 refine VO.nil ?_
 refine VC.seq ?_
 refine VC.sr ?_
 refine VO.mv rfl rfl rfl rfl ?_
 refine VO.val rfl rfl (OpV.lss rfl rfl rfl) ?_
 refine VO.nil ?_
 refine VC.cond rfl (fun aH1b => ?_) (fun aH1b => ?_)
 ·have aH1 := aH1b
  try simp only [qqT, qqF, qqN, qqM, qqL, qqE] at aH1
  exact VC.absurd (by omega)
 ·have aH1 := aH1b
  try simp only [qqT, qqF, qqN, qqM, qqL, qqE] at aH1
  refine VC.skip ?_
  refine VC.sr ?_
  refine VO.mv rfl rfl rfl rfl ?_
  refine VO.val rfl rfl (OpV.len_im rfl Tryz.underlying94 rfl) ?_
  refine VO.val rfl rfl (OpV.conv rfl Tryz.underlying3 Tryz.underlying179 rfl (IntWalk.u64_in _ (by simp))) ?_
  refine VO.mv rfl rfl rfl rfl ?_
  refine VO.val rfl rfl (OpV.conv rfl Tryz.underlying3 Tryz.underlying179 rfl (IntWalk.u64_in _ (by omega))) ?_
  refine VO.op rfl (OpE.call rfl hB rfl Tryz.call139 rfl (SpecN.spec (bits_Mul_S (x := 1) (y := n) (by omega) (by omega) (by omega))) ?_)
  rintro _ rfl
  refine VO.mv rfl rfl rfl rfl ?_
  refine VO.val rfl rfl (OpV.extract rfl rfl rfl) ?_
  refine VO.val rfl rfl (OpV.extract rfl rfl rfl) ?_
  refine VO.ma rfl rfl rfl rfl ?_
  refine VO.ma rfl rfl rfl rfl ?_
  refine VO.nil ?_
  refine VC.seq ?_
  refine VC.sr ?_
  refine VO.mv rfl rfl rfl rfl ?_
  refine VO.val rfl rfl (OpV.gtr rfl rfl rfl) ?_
  refine VO.mv rfl rfl rfl rfl ?_
  refine VO.opY rfl rfl rfl rfl rfl ?_
  refine OpE.val (W := NoB) (OpV.move (.inl rfl) rfl) rfl ?_
  refine VO.opY rfl rfl rfl rfl rfl ?_
  refine OpE.val (W := NoB) (OpV.gtr rfl rfl rfl) rfl ?_
  refine VO.val rfl rfl (OpV.pickF rfl rfl rfl rfl rfl) ?_
  refine VO.nil ?_
  refine VC.cond rfl (fun aH2b => ?_) (fun aH2b => ?_)
  ·have aH2 := aH2b
   try simp only [qqT, qqF, qqN, qqM, qqL, qqE] at aH2
   exact VC.absurd (by omega)
  ·have aH2 := aH2b
   try simp only [qqT, qqF, qqN, qqM, qqL, qqE] at aH2
   refine VC.skip ?_
   refine VC.sr ?_
   refine VO.mv rfl rfl rfl rfl ?_
   refine VO.val rfl rfl (OpV.conv rfl Tryz.underlying179 Tryz.underlying3 rfl (IntWalk.i64_in _ (by omega))) ?_
   refine VO.op rfl (OpE.make rfl hB rfl Tryz.underlying94 (infoOf Tryz.t9 1 (by kernel_rfl) rfl rfl) (by decide) rfl rfl (n := n) (by omega) (by omega) (by omega) (repC_0 (n := n) rfl rfl) ?_)
   intro g30
   refine VO.ma rfl rfl rfl rfl ?_
   refine VO.nil ?_
   refine VC.sr ?_
   refine VO.mv rfl rfl rfl rfl ?_
   refine VO.mv rfl rfl rfl rfl ?_
   refine VO.op rfl (OpE.copy (i := 0) rfl hB rfl Tryz.underlying94 Tryz.sizeOf9 rfl rfl (SrcP.im rfl) (c := min 1 n) rfl (fun _ _ => rfl) (by rw [repC_len (by omega)]; omega) (repC_first rfl rfl) trivial ?_)
   refine VO.ma rfl rfl rfl rfl ?_
   refine VO.nil ?_
   refine VC.seq ?_
   refine VC.block ?_
   refine VC.loopK [(7, _)] ⟨rfl, trivial⟩ ({k : Nat // k ≤ n ∧ (k = 0 → n = 0)}) (fun (iZ : {k : Nat // k ≤ n ∧ (k = 0 → n = 0)}) => match iZ with | ⟨k, hk, hk0⟩ => [(8, avI (k : Int))]) (fun (iZ : {k : Nat // k ≤ n ∧ (k = 0 → n = 0)}) => match iZ with | ⟨k, hk, hk0⟩ => [.box g30 ⟨repC (avS x) (.v (.string ⟨#[]⟩)) k n, 9, (repC (.v (.string ⟨#[]⟩)) (.v (.string ⟨#[]⟩)) 0 n).length⟩]) (fun (iZ : {k : Nat // k ≤ n ∧ (k = 0 → n = 0)}) => match iZ with | ⟨k, hk, hk0⟩ => 0) (fun (iZ : {k : Nat // k ≤ n ∧ (k = 0 → n = 0)}) => match iZ with | ⟨k, hk, hk0⟩ => n - k) ⟨min 1 n, by omega, by omega⟩ (Le.mk hB [0] ⟨rfl, rfl, trivial⟩ rfl rfl (Nat.le_refl _)) ?_
   rintro ⟨k, hk, hk0⟩
   show VC _ _ _ _ ⟨[(8, avI (k : Int))] ++ [(7, _)], [.box g30 ⟨repC (avS x) (.v (.string ⟨#[]⟩)) k n, 9, (repC (.v (.string ⟨#[]⟩)) (.v (.string ⟨#[]⟩)) 0 n).length⟩], 0⟩
   refine VC.seq ?_
   refine VC.sr ?_
   refine VO.mv rfl rfl rfl rfl ?_
   refine VO.mv rfl rfl rfl rfl ?_
   refine VO.val rfl rfl (OpV.len_v rfl Tryz.underlying94 rfl) ?_
   refine VO.val rfl rfl (OpV.lss rfl rfl rfl) ?_
   refine VO.nil ?_
   refine VC.cond rfl (fun aH3b => ?_) (fun aH3b => ?_)
   ·have aH3 := aH3b
    try simp only [qqT, qqF, qqN, qqM, qqL, qqE] at aH3
    refine VC.skip ?_
    refine VC.block ?_
    refine VC.draw (fun j b => j = 7 ∧ b = g30) hB (by kernel_rfl) ?_
    refine VA.take (i := 0) rfl (by kernel_rfl) (by kernel_rfl) (by kernel_rfl) rfl rfl (OpV.move (.inl rfl) rfl) ?_
    refine VA.take (i := 1) rfl (by kernel_rfl) (by kernel_rfl) (by kernel_rfl) rfl rfl (OpV.move (.inl rfl) rfl) ?_
    refine VA.take (i := 2) rfl (by kernel_rfl) (by kernel_rfl) (by kernel_rfl) rfl rfl (OpV.move (.inl rfl) rfl) ?_
    refine VA.take (i := 3) rfl (by kernel_rfl) (by kernel_rfl) (by kernel_rfl) rfl rfl (OpV.slice_own (l := k) rfl Tryz.underlying94 Tryz.sizeOf9 rfl ⟨_, _, rfl, rfl⟩ rfl (by omega) (by omega) (by omega)) ?_
    refine VA.take (i := 4) rfl (by kernel_rfl) (by kernel_rfl) (by kernel_rfl) rfl rfl (OpV.move (.inl rfl) rfl) ?_
    refine VA.take (i := 5) rfl (by kernel_rfl) (by kernel_rfl) (by kernel_rfl) rfl rfl (OpV.move (.inl rfl) rfl) ?_
    refine VA.take (i := 6) rfl (by kernel_rfl) (by kernel_rfl) (by kernel_rfl) rfl rfl (OpV.slice_own (h := k) rfl Tryz.underlying94 Tryz.sizeOf9 rfl rfl ⟨_, _, rfl, rfl⟩ (by omega) (by omega) (by omega)) ?_
    refine VA.all (rs := [7]) (by kernel_rfl) (by decide) ?_
    refine ⟨⟨_, rfl, .inl rfl, ?_⟩, trivial⟩
    refine OpE.copy (i := 0) rfl hB rfl Tryz.underlying94 Tryz.sizeOf9 rfl rfl (SrcP.box (i := 0) rfl rfl (by show 0 + 0 * 1 + (k - 0) * 1 ≤ (repC _ _ k n).length; rw [repC_len (by omega)]; omega)) (c := min k (n - k)) (by omega) (fun j hj => by dsimp only; rw [List.getD_eq_getElem?_getD, repC_get (by omega) (by omega), if_pos (by omega)]; rfl) (by show 0 + k * 1 + _ ≤ (repC _ _ k n).length; rw [repC_len (by omega)]; omega) (repC_step (c := min k (n - k)) (by omega) (fun j hj => by dsimp only; rw [List.getD_eq_getElem?_getD, repC_get (by omega) (by omega), if_pos (by omega)]; rfl) (by omega) (by omega)) (by first | exact ⟨rfl, rfl⟩ | exact .inl ⟨rfl, rfl⟩ | exact .inr ⟨rfl, rfl⟩ | exact ⟨rfl, trivial⟩ | exact .inl ⟨rfl, trivial⟩ | exact .inr ⟨rfl, trivial⟩ | exact ⟨by decide, rfl⟩) ?_
    refine VA.take (i := 8) rfl (by kernel_rfl) (by kernel_rfl) (by kernel_rfl) rfl rfl (OpV.add rfl rfl rfl (by unfold fits; omega)) ?_
    refine VA.take (i := 9) rfl (by kernel_rfl) (by kernel_rfl) (by kernel_rfl) rfl rfl (OpV.move (.inr rfl) rfl) ?_
    refine VA.done (by kernel_rfl) ?_
    exact Exists.intro (⟨k + min k (n - k), by omega, by omega⟩) (And.intro (Le.mk hB [0] ⟨rfl, rfl, trivial⟩ rfl rfl (Nat.le_refl _)) (by first | omega | (show _ < _; omega) | (simp only []; omega)))
   ·have aH3 := aH3b
    try simp only [qqT, qqF, qqN, qqM, qqL, qqE] at aH3
    refine VC.exit ?_
    refine VC.sr ?_
    refine VO.mv rfl rfl rfl rfl ?_
    refine VO.ma rfl rfl rfl rfl ?_
    refine VO.nil ?_
    obtain rfl : k = n := by omega
    refine VC.le _ (Le.box (t := 4) (i := 0) (n := k) (sz := 1) (y := avStrs (List.replicate k x)) hB hnew rfl rfl (by show 0 + k * 1 ≤ (repC _ _ k k).length; rw [repC_len (by omega)]; omega) (Nat.le_refl _) (capM (by omega)) (fun w Z u h => Rep.strs (by simp) (h.im_congr fun j hj => by rw [repC_full, strsL, List.map_replicate, Nat.zero_add]))) ?_
    refine VC.ret ?_
    exact Exists.intro _ (And.intro (RetV.one Tryz.results145 (ResV.tmp rfl)) (rfl))
end Go.Proofs.YtplphabekhaoaaaGreatDoor
