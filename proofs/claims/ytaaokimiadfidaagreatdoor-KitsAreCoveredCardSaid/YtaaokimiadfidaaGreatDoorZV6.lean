/- Part 6 of a proof: the walks and laws that it needs. -/
import Derived.Test.YtaaokimiadfidaaGreatDoorProg
import Derived.Shelf.Abstract
import Derived.Deep.QuietTactic
import Derived.BigQuiet
import Derived.BigRegion
import Derived.Deep.RegionLaw
import Derived.Deep.LoopGhost
import Derived.Deep.DeepCutAuto
import Derived.Test.YtaaokimiadfidaaGreatDoorZV5
namespace Go.Proofs.YtaaokimiadfidaaGreatDoor
open Go.RowKit
set_option linter.unusedVariables false
set_option linter.unusedSimpArgs false
set_option maxRecDepth 100000 in
theorem setup_next {s parts : List ByteArray} {later : List (List ByteArray)} {u : Value} (hg : Good' s) (hp : RightP s.length parts) (hl : SmSS later) :
  SpecH Tryz.prog 315 [.v u, avStrs parts, avM later] [.row u s.length 1 (strsL s) 9] (fun y hp' => y = avI (missF s parts).length ∧ hp' = [.row u s.length 1 (strsL (nextF s parts later)) 9]) := by
 have hls := hg.len
 have hlp := hp.len
 have hps := hp.sms (by omega)
 have hml := missF_len s parts
 have hf := hp.fits hg.once
 have hnd := missF_nodup (s := s) hf.pnd
 have hns : ∀ x ∈ missF s parts, x ∉ s := fun x hx => (missF_mem.1 hx).2
 refine SpecH.of_VC Tryz.func315 rfl Tryz.ntmps315 (Nle rfl) fun w A hB => ?_
 have hnew : True := trivial
 refine VC.sr ?_
 refine VO.ma rfl rfl rfl rfl ?_
 refine VO.nil ?_
 refine VC.sr ?_
 refine VO.mv rfl rfl rfl rfl ?_
 refine VO.mv rfl rfl rfl rfl ?_
 refine VO.op rfl (OpE.callL rfl hB rfl Tryz.call243 (setup_missing_N hg.sms hps) (ArgsP.cons (ArgP.rowS (i := 0) rfl rfl rfl) (ArgsP.cons (ArgP.ev rfl) (ArgsP.nil))) ?_)
 rintro _ rfl
 refine VO.ma rfl rfl rfl rfl ?_
 refine VO.nil ?_
 refine VC.seq ?_
 refine VC.sr ?_
 refine VO.mv rfl rfl rfl rfl ?_
 refine VO.val rfl rfl (OpV.len_im rfl Tryz.underlying67 rfl) ?_
 refine VO.mv rfl rfl rfl rfl ?_
 refine VO.nil ?_
 refine VC.block ?_
 refine VC.loopK [(0, _), (1, _), (2, _), (7, _), (14, _), (15, _)] ⟨rfl, rfl, rfl, rfl, rfl, rfl, trivial⟩ ({q : Nat // q ≤ (missF s parts).length}) (fun (iZ : {q : Nat // q ≤ (missF s parts).length}) => match iZ with | ⟨q, hq⟩ => [(16, avI (q : Int))]) (fun (iZ : {q : Nat // q ≤ (missF s parts).length}) => match iZ with | ⟨q, hq⟩ => [.row u s.length 1 (strsL (nextL parts later s ((missF s parts).take q))) 9]) (fun (iZ : {q : Nat // q ≤ (missF s parts).length}) => match iZ with | ⟨q, hq⟩ => 0) (fun (iZ : {q : Nat // q ≤ (missF s parts).length}) => match iZ with | ⟨q, hq⟩ => (missF s parts).length - q) ⟨0, Nat.zero_le _⟩ (Le.mk hB [0] ⟨rfl, rfl, rfl, rfl, rfl, rfl, rfl, trivial⟩ rfl rfl (Nat.le_refl _)) ?_
 rintro ⟨q, hq⟩
 show VC _ _ _ _ ⟨[(16, avI (q : Int))] ++ [(0, _), (1, _), (2, _), (7, _), (14, _), (15, _)], [.row u s.length 1 (strsL (nextL parts later s ((missF s parts).take q))) 9], 0⟩
 refine VC.sr ?_
 refine VO.val rfl rfl (OpV.lss rfl rfl rfl) ?_
 refine VO.nil ?_
 refine VC.seq ?_
 refine VC.cond rfl (fun aH1b => ?_) (fun aH1b => ?_)
 ·have aH1 := aH1b
  try simp only [qqT, qqF, qqN, qqM, qqL, qqE] at aH1
  have hq' : q < (missF s parts).length := by omega
  have hcur := hg.next hp later q (by omega)
  have hcl : (nextL parts later s ((missF s parts).take q)).length = s.length := nextL_len _ _ _ _
  have hx := nextL_not (parts := parts) (later := later) hnd hns hq'
  have hxp : (missF s parts).getD q ByteArray.empty ∈ parts := (missF_mem.1 (by simp [hq'] : (missF s parts).getD q ByteArray.empty ∈ missF s parts)).1
  obtain ⟨k1, k2, k3⟩ := slotF_in (later := later) (nextL_fits (later := later) hf hnd hns q (by omega)) hxp hx
  rw [hcl] at k2
  refine VC.asBox (i := 0) rfl (by omega) (fun g cap hu hcap hmx => ?_)
  subst hu
  refine VC.skip ?_
  refine VC.seq ?_
  refine VC.block ?_
  refine VC.sr ?_
  refine VO.val rfl rfl (OpV.indexAddr_1 rfl Tryz.underlying67 Tryz.sizeOf9 rfl rfl rfl (by omega)) ?_
  refine VO.val rfl rfl (OpV.load_at rfl hB OutW.no Tryz.isAgg9 rfl rfl) ?_
  refine VO.ma rfl rfl rfl rfl ?_
  refine VO.nil ?_
  refine VC.sr ?_
  refine VO.mv rfl rfl rfl rfl ?_
  refine VO.op rfl (OpE.callL rfl hB rfl Tryz.call226 (slices_Index_str (by rw [hcl]; omega)) (ArgsP.cons (ArgP.boxS (i := 0) rfl rfl hcl.symm hcap hmx) (ArgsP.cons (ArgP.ev rfl) (ArgsP.nil))) ?_)
  rintro _ rfl
  refine VO.ma rfl rfl rfl rfl ?_
  refine VO.nil ?_
  refine VC.seq ?_
  refine VC.sr ?_
  refine VO.mv rfl rfl rfl rfl ?_
  refine VO.val rfl rfl (OpV.lss rfl rfl rfl) ?_
  refine VO.nil ?_
  refine VC.cond rfl (fun h1b => ?_) (fun h1b => ?_)
  ·have h1 := h1b
   try simp only [qqT, qqF, qqN, qqM, qqL, qqE] at h1
   have hsl := slotF_of_neg (parts := parts) (later := later) h1
   rw [hsl] at k1 k2 k3
   refine VC.region ?_
   refine VO.mv rfl rfl rfl rfl ?_
   refine VO.mv rfl rfl rfl rfl ?_
   refine VO.mv rfl rfl rfl rfl ?_
   refine VO.op rfl (OpE.callL rfl hB rfl Tryz.call378 (setup_victim (by rw [hcl]; omega) hps.1 hl) (ArgsP.cons (ArgP.boxS (i := 0) rfl rfl hcl.symm hcap hmx) (ArgsP.cons (ArgP.ev rfl) (ArgsP.cons (ArgP.ev rfl) (ArgsP.nil)))) ?_)
   rintro _ rfl
   refine VO.ma rfl rfl rfl rfl ?_
   refine VO.nil ?_
   refine VC.region ?_
   refine VO.mv rfl rfl rfl rfl ?_
   refine VO.mv rfl rfl rfl rfl ?_
   refine VO.mv rfl rfl rfl rfl ?_
   refine VO.val rfl rfl (OpV.indexAddr_o rfl Tryz.underlying67 Tryz.sizeOf9 rfl rfl (Int.toNat_of_nonneg k1).symm (by omega)) ?_
   refine VO.op rfl (OpE.store1 (i := 0) rfl hB rfl Tryz.sizeOf9 rfl rfl rfl rfl rfl rfl (by rw [strsL_len]; omega) (strsL_set _ _ _) trivial ?_)
   refine VO.nil ?_
   refine VC.le _ (Le.boxRow (i := 0) (n := s.length) (sz := 1) (cap := cap) rfl (by rw [strsL_len, List.length_set]; omega) hcap hmx) ?_
   have e1 := nextL_take_succ (parts := parts) (later := later) (s := s) hq'
   rw [hsl] at e1
   refine VC.region ?_
   refine VO.val rfl rfl (OpV.add rfl rfl rfl (by unfold fits; omega)) ?_
   refine VO.mv rfl rfl rfl rfl ?_
   refine VO.nil ?_
   exact Exists.intro (⟨q + 1, by omega⟩) (And.intro (Le.mk hB [0] ⟨rfl, rfl, rfl, rfl, rfl, rfl, rfl, trivial⟩ rfl (by dsimp only; rw [e1]; first | rfl | (rw [hcl]; rfl)) (Nat.le_refl _)) (by first | omega | (show _ < _; omega) | (simp only []; omega)))
  ·have h1 := h1b
   try simp only [qqT, qqF, qqN, qqM, qqL, qqE] at h1
   have hsl := slotF_of_pos (parts := parts) (later := later) h1
   rw [hsl] at k1 k2 k3
   refine VC.skip ?_
   refine VC.region ?_
   refine VO.mv rfl rfl rfl rfl ?_
   refine VO.mv rfl rfl rfl rfl ?_
   refine VO.mv rfl rfl rfl rfl ?_
   refine VO.val rfl rfl (OpV.indexAddr_o rfl Tryz.underlying67 Tryz.sizeOf9 rfl rfl (Int.toNat_of_nonneg k1).symm (by omega)) ?_
   refine VO.op rfl (OpE.store1 (i := 0) rfl hB rfl Tryz.sizeOf9 rfl rfl rfl rfl rfl rfl (by rw [strsL_len]; omega) (strsL_set _ _ _) trivial ?_)
   refine VO.nil ?_
   refine VC.le _ (Le.boxRow (i := 0) (n := s.length) (sz := 1) (cap := cap) rfl (by rw [strsL_len, List.length_set]; omega) hcap hmx) ?_
   have e1 := nextL_take_succ (parts := parts) (later := later) (s := s) hq'
   rw [hsl] at e1
   refine VC.region ?_
   refine VO.val rfl rfl (OpV.add rfl rfl rfl (by unfold fits; omega)) ?_
   refine VO.mv rfl rfl rfl rfl ?_
   refine VO.nil ?_
   exact Exists.intro (⟨q + 1, by omega⟩) (And.intro (Le.mk hB [0] ⟨rfl, rfl, rfl, rfl, rfl, rfl, rfl, trivial⟩ rfl (by dsimp only; rw [e1]; first | rfl | (rw [hcl]; rfl)) (Nat.le_refl _)) (by first | omega | (show _ < _; omega) | (simp only []; omega)))
 ·have aH1 := aH1b
  try simp only [qqT, qqF, qqN, qqM, qqL, qqE] at aH1
  obtain rfl : q = (missF s parts).length := by omega
  refine VC.exit ?_
  refine VC.sr ?_
  refine VO.mv rfl rfl rfl rfl ?_
  refine VO.val rfl rfl (OpV.len_im rfl Tryz.underlying67 rfl) ?_
  refine VO.ma rfl rfl rfl rfl ?_
  refine VO.nil ?_
  refine VC.ret ?_
  exact Exists.intro _ (And.intro (RetV.one Tryz.results315 (ResV.tmp rfl)) (⟨rfl, by rw [nextF, List.take_length]; rfl⟩))
theorem SmSS.drop {p : List (List ByteArray)} (h : SmSS p) (k : Nat) : SmSS (p.drop k) := ⟨by have := h.1; simp; omega, fun i => by
 have : (p.drop k).getD i default = p.getD (k + i) default := by simp [List.getD_eq_getElem?_getD]
 rw [this]; exact h.2 _⟩
theorem SmSS.take {p : List (List ByteArray)} (h : SmSS p) (k : Nat) : SmSS (p.take k) := ⟨by have := h.1; simp; omega, fun i => by
 by_cases hi : i < k
 ·have : (p.take k).getD i default = p.getD i default := by simp [List.getD_eq_getElem?_getD, List.getElem?_take, hi]
  rw [this]; exact h.2 _
 ·have : (p.take k).getD i default = default := by simp [List.getD_eq_getElem?_getD, List.getElem?_take, hi]
  rw [this]; exact SmS.nil⟩
set_option maxRecDepth 100000 in
theorem setup_total {s : List ByteArray} {p : List (List ByteArray)} {most : Int} (hg : Good' s) (hp : ∀ q, q < p.length → RightP s.length (p.getD q default)) (hl : SmSS p) (hl2 : p.length ≤ 200) (hmost : -1000000 ≤ most ∧ most ≤ 1000000) :
  SpecN Tryz.prog 245 [avStrs s, avM p, avI most] (fun y => y = avI (totalF s p most)) := by
 have hls := hg.len
 refine SpecN.of_VCN Tryz.func245 rfl Tryz.ntmps245 (Nle rfl) fun w A hB => ?_
 have hnew : True := trivial
 refine VC.sr ?_
 refine VO.ma rfl rfl rfl rfl ?_
 refine VO.nil ?_
 refine VC.sr ?_
 refine VO.mv rfl rfl rfl rfl ?_
 refine VO.op rfl (OpE.callR rfl hB rfl Tryz.call138 (slices_CloneS_R (by omega)) (ArgsP.cons (ArgP.ev rfl) (ArgsP.nil)) ?_)
 intro u
 refine VO.ma rfl rfl rfl rfl ?_
 refine VO.nil ?_
 refine VC.sr ?_
 refine VO.ma rfl rfl rfl rfl ?_
 refine VO.nil ?_
 refine VC.seq ?_
 refine VC.sr ?_
 refine VO.mv rfl rfl rfl rfl ?_
 refine VO.val rfl rfl (OpV.len_im rfl Tryz.underlying61 rfl) ?_
 refine VO.mv rfl rfl rfl rfl ?_
 refine VO.nil ?_
 refine VC.block ?_
 refine VC.loopK [(0, _), (1, _), (2, _), (12, _), (13, _)] ⟨rfl, rfl, rfl, rfl, rfl, trivial⟩ ({q : Nat // q ≤ p.length ∧ (q = 0 ∨ totF s p q < most)}) (fun (iZ : {q : Nat // q ≤ p.length ∧ (q = 0 ∨ totF s p q < most)}) => match iZ with | ⟨q, hq, hlt⟩ => [(7, avI (totF s p q)), (14, avI (q : Int))]) (fun (iZ : {q : Nat // q ≤ p.length ∧ (q = 0 ∨ totF s p q < most)}) => match iZ with | ⟨q, hq, hlt⟩ => [.row u (stF s p q).length 1 (strsL (stF s p q)) 9]) (fun (iZ : {q : Nat // q ≤ p.length ∧ (q = 0 ∨ totF s p q < most)}) => match iZ with | ⟨q, hq, hlt⟩ => 0) (fun (iZ : {q : Nat // q ≤ p.length ∧ (q = 0 ∨ totF s p q < most)}) => match iZ with | ⟨q, hq, hlt⟩ => p.length - q) ⟨0, Nat.zero_le _, .inl rfl⟩ (Le.mk hB [0] ⟨rfl, rfl, rfl, rfl, rfl, rfl, rfl, trivial⟩ rfl rfl (Nat.le_refl _)) ?_
 rintro ⟨q, hq, hlt⟩
 show VC _ _ _ _ ⟨[(7, avI (totF s p q)), (14, avI (q : Int))] ++ [(0, _), (1, _), (2, _), (12, _), (13, _)], [.row u (stF s p q).length 1 (strsL (stF s p q)) 9], 0⟩
 refine VC.sr ?_
 refine VO.val rfl rfl (OpV.lss rfl rfl rfl) ?_
 refine VO.nil ?_
 refine VC.seq ?_
 refine VC.cond rfl (fun aH1b => ?_) (fun aH1b => ?_)
 ·have aH1 := aH1b
  try simp only [qqT, qqF, qqN, qqM, qqL, qqE] at aH1
  have hst := stF_good hg hp q (by omega)
  have hsl := stF_len s p q
  have hti := totF_in hls hp q (by omega)
  have hms := missF_len (stF s p q) (p.getD q default)
  have hpl := (hp q (by omega)).len
  refine VC.skip ?_
  refine VC.seq ?_
  refine VC.block ?_
  refine VC.sr ?_
  refine VO.mv rfl rfl rfl rfl ?_
  refine VO.val rfl rfl (OpV.indexAddr_1 rfl Tryz.underlying61 Tryz.sizeOf67 rfl rfl rfl (by omega)) ?_
  refine VO.val rfl rfl (OpV.load_at rfl hB OutW.no Tryz.isAgg67 rfl rfl) ?_
  refine VO.ma rfl rfl rfl rfl ?_
  refine VO.ma rfl rfl rfl rfl ?_
  refine VO.nil ?_
  refine VC.sr ?_
  refine VO.mv rfl rfl rfl rfl ?_
  refine VO.mv rfl rfl rfl rfl ?_
  refine VO.mv rfl rfl rfl rfl ?_
  refine VO.mv rfl rfl rfl rfl ?_
  refine VO.mv rfl rfl rfl rfl ?_
  refine VO.val rfl rfl (OpV.add rfl rfl rfl (by unfold fits; omega)) ?_
  refine VO.val rfl rfl (OpV.slice_M (l := q + 1) rfl Tryz.underlying61 Tryz.sizeOf67 rfl ⟨_, _, rfl, (by omega)⟩ rfl (by omega) (by omega)) ?_
  refine VO.op rfl (OpE.callH0 rfl hB rfl Tryz.call315 rfl rfl (setup_next hst (by rw [hsl]; exact hp q (by omega)) ((hl.take _).drop _)) (List.Perm.refl _) (fun _ _ => trivial) ?_)
  rintro _ _ ⟨rfl, rfl⟩
  refine VO.val rfl rfl (OpV.add rfl rfl rfl (by unfold fits; omega)) ?_
  refine VO.ma rfl rfl rfl rfl ?_
  refine VO.nil ?_
  refine VC.sr ?_
  refine VO.mv rfl rfl rfl rfl ?_
  refine VO.mv rfl rfl rfl rfl ?_
  refine VO.val rfl rfl (OpV.geq rfl rfl rfl) ?_
  refine VO.nil ?_
  refine VC.cond rfl (fun h1b => ?_) (fun h1b => ?_)
  ·have h1 := h1b
   try simp only [qqT, qqF, qqN, qqM, qqL, qqE] at h1
   have hmono := totF_mono (s := s) (p := p) (a := q + 1) (b := p.length) (by omega)
   have h1' : most ≤ totF s p (q + 1) := h1
   refine VC.sr ?_
   refine VO.mv rfl rfl rfl rfl ?_
   refine VO.ma rfl rfl rfl rfl ?_
   refine VO.nil ?_
   refine VC.ret ?_
   exact Exists.intro _ (And.intro (RetN.one Tryz.results245 (ResN.v rfl)) (by rw [totalF, if_neg (by omega), if_pos (by omega)]))
  ·have h1 := h1b
   try simp only [qqT, qqF, qqN, qqM, qqL, qqE] at h1
   refine VC.skip ?_
   refine VC.region ?_
   refine VO.val rfl rfl (OpV.add rfl rfl rfl (by unfold fits; omega)) ?_
   refine VO.mv rfl rfl rfl rfl ?_
   refine VO.nil ?_
   exact Exists.intro (⟨q + 1, by omega, .inr h1⟩) (And.intro (Le.mk hB [0] ⟨rfl, rfl, rfl, rfl, rfl, rfl, rfl, trivial⟩ rfl (by dsimp only; rw [List.take_length, show (stF s p (q + 1)).length = (stF s p q).length by rw [stF_len, stF_len]]; rfl) (Nat.le_refl _)) (by first | omega | (show _ < _; omega) | (simp only []; omega)))
 ·have aH1 := aH1b
  try simp only [qqT, qqF, qqN, qqM, qqL, qqE] at aH1
  obtain rfl : q = p.length := by omega
  refine VC.exit ?_
  refine VC.sr ?_
  refine VO.mv rfl rfl rfl rfl ?_
  refine VO.ma rfl rfl rfl rfl ?_
  refine VO.nil ?_
  refine VC.ret ?_
  exact Exists.intro _ (And.intro (RetN.one Tryz.results245 (ResN.v rfl)) (by rw [totalF]; split; (rw [show p.length = 0 by assumption]; rfl); rw [if_neg (by omega)]))
def totE (s : List ByteArray) (p : List (List ByteArray)) : Int := if setsF s p = 0 then totF s p p.length else 0
theorem setsF_zero {s : List ByteArray} {p : List (List ByteArray)} (h : setsF s p = 0) : setupF s = 0 ∧ Good' s ∧ p.length ≤ 200 ∧ (∀ q, q < p.length → RightP s.length (p.getD q default)) ∧ partsF s.length p = 0 := by
 rw [setsF] at h
 split at h
 ·rename_i h1; exact absurd h h1
 ·rename_i h1
  have h0 : setupF s = 0 := by omega
  exact ⟨h0, Good'.of h0, (partsF_zero h).2.1, fun q hq => RightP.of rfl h hq, h⟩
theorem totalF_big {s : List ByteArray} {p : List (List ByteArray)} (hs : s.length ≤ 100) (hl : p.length ≤ 200) (hp : ∀ q, q < p.length → RightP s.length (p.getD q default)) : totalF s p 20001 = totF s p p.length := by
 have := totF_in hs hp p.length (Nat.le_refl _)
 rw [totalF]
 split
 ·rename_i h; rw [h]; rfl
 ·rw [if_neg (by omega)]
set_option maxRecDepth 100000 in
theorem setup_Total {s : List ByteArray} {p : List (List ByteArray)} (hs : SmS s) (hl : SmSS p) :
  SpecN Tryz.prog 141 [avStrs s, avM p] (fun y => y = .tup [avI (totE s p), avI (setsF s p)]) := by
 refine SpecN.of_VCN Tryz.func141 rfl Tryz.ntmps141 (Nle rfl) fun w A hB => ?_
 have hnew : True := trivial
 refine VC.sr ?_
 refine VO.ma rfl rfl rfl rfl ?_
 refine VO.ma rfl rfl rfl rfl ?_
 refine VO.nil ?_
 refine VC.seq ?_
 refine VC.sr ?_
 refine VO.mv rfl rfl rfl rfl ?_
 refine VO.mv rfl rfl rfl rfl ?_
 refine VO.op rfl (OpE.call rfl hB rfl Tryz.call244 rfl (SpecN.spec (setup_fault hs hl)) ?_)
 rintro _ rfl
 refine VO.ma rfl rfl rfl rfl ?_
 refine VO.nil ?_
 refine VC.sr ?_
 refine VO.mv rfl rfl rfl rfl ?_
 refine VO.val rfl rfl (OpV.neq rfl rfl rfl) ?_
 refine VO.nil ?_
 refine VC.cond rfl (fun h0b => ?_) (fun h0b => ?_)
 ·have h0 := h0b
  try simp only [qqT, qqF, qqN, qqM, qqL, qqE] at h0
  refine VC.sr ?_
  refine VO.mv rfl rfl rfl rfl ?_
  refine VO.ma rfl rfl rfl rfl ?_
  refine VO.ma rfl rfl rfl rfl ?_
  refine VO.nil ?_
  refine VC.ret ?_
  exact Exists.intro _ (And.intro (RetN.two Tryz.results141 (ResN.v rfl) (ResN.v rfl)) (by rw [totE, if_neg h0]))
 ·have h0 := h0b
  try simp only [qqT, qqF, qqN, qqM, qqL, qqE] at h0
  obtain ⟨z1, z2, z3, z4, z5⟩ := setsF_zero (s := s) (p := p) (by omega)
  refine VC.skip ?_
  refine VC.sr ?_
  refine VO.mv rfl rfl rfl rfl ?_
  refine VO.mv rfl rfl rfl rfl ?_
  refine VO.op rfl (OpE.call rfl hB rfl Tryz.call245 rfl (SpecN.spec (setup_total z2 z4 hl z3 (by decide))) ?_)
  rintro _ rfl
  refine VO.ma rfl rfl rfl rfl ?_
  refine VO.ma rfl rfl rfl rfl ?_
  refine VO.nil ?_
  refine VC.ret ?_
  exact Exists.intro _ (And.intro (RetN.two Tryz.results141 (ResN.v rfl) (ResN.v rfl)) (by rw [totE, if_pos (by omega), totalF_big z2.len z3 z4, show setsF s p = 0 by omega]))
end Go.Proofs.YtaaokimiadfidaaGreatDoor
namespace Go.Proofs.YtaaokimiadfidaaGreatDoor
open Go.RowKit
set_option linter.unusedVariables false
set_option linter.unusedSimpArgs false
def loadS : List ByteArray := [ε]
def loadP : List (List ByteArray) := [[⟨#[97]⟩], [⟨#[98]⟩]]
theorem load_sms : SmS loadS := ⟨by decide, fun i => by cases i with | zero => decide | succ i => simp [loadS]⟩
theorem load_smss : SmSS loadP := ⟨by decide, fun i => by
 match i with
 | 0 => exact ⟨by decide, fun i => by cases i with | zero => decide | succ i => simp [loadP]⟩
 | 1 => exact ⟨by decide, fun i => by cases i with | zero => decide | succ i => simp [loadP]⟩
 | i + 2 => exact SmS.nil⟩
theorem load_ok : setsF loadS loadP = 0 := by decide +kernel
theorem load_two : totE loadS loadP = 2 := by decide +kernel

end Go.Proofs.YtaaokimiadfidaaGreatDoor
namespace Go.Proofs.YtaaokimiadfidaaGreatDoor
open Go.RowKit
set_option linter.unusedVariables false
set_option linter.unusedSimpArgs false

section
variable {P : Program} {α : Type} [Enc α]

theorem append1_run (w : World) (c1 : Array Value) (T ty e : TypeId) (i : TypeInfo) (z : Value) (bytes : Nat) (h1 : P.underlying T = some (.slice e)) (h2 : P.info? e = some i)
    (h3 : i.zero = some z) (h4 : i.size = Enc.sz α) (h5 : i.bytes = bytes) (hz : z.cells.size = Enc.sz α) (hby : bytes ≤ 4096)
    (lo : Nat) (v : Value) (xs : List α) (y : α) (hown : Own w lo e v xs) (hlo : lo ≤ w.heap.size) (hlen : xs.length ≤ 1000000000)
    (hy : Enc.Is w (fun k => lo ≤ k ∧ v.ownBlock ≠ some k) y (fun j => c1[j]?)) (hc1 : c1.size = Enc.sz α) :
    ∃ g cap w', (Builtin.append_ #[T, T] ty #[v, .slice (some ⟨w.heap.size, 0, none⟩) 1 1]).run P (w.alloc (.cells c1 e)) = .ok (.slice (some ⟨g, 0, none⟩) (xs.length + 1) cap) w' ∧
      Own w' lo e (.slice (some ⟨g, 0, none⟩) (xs.length + 1) cap) (xs ++ [y]) ∧ Chg (blk v) w w' ∧ (v.ownBlock = some g ∨ w.heap.size ≤ g) ∧ lo ≤ g := by
  obtain ⟨cs, hrow, hel⟩ := hown
  have hsz : 0 < Enc.sz α := Enc.pos
  have hnews : ∀ j u, c1.toList[j]? = some u → (w.alloc (.cells c1 e)).cell? ((⟨w.heap.size, 0, none⟩ : Addr).add j) = some u := by
    intro j u hu
    have hadd : (⟨w.heap.size, 0, none⟩ : Addr).add j = ⟨w.heap.size, j, none⟩ := by unfold Addr.add; split <;> simp_all
    rw [hadd, cell_of_row _ w.heap.size j c1 e (0, 0) (heap_alloc_new w _)]
    simpa using hu
  have hone : ∀ u ∈ c1.toList, u.oneCell' = true := by
    intro u hu
    obtain ⟨j, hj, rfl⟩ := List.mem_iff_getElem.1 hu
    obtain ⟨u', h', h''⟩ := Enc.one hy j (by simpa [hc1] using hj)
    simp at hj
    simp [hj] at h'
    simpa [h'] using h''
  have hl1 : c1.toList.length = 1 * i.size := by simp [hc1, h4]
  have hlen' : (cs ++ c1.toList).length = (xs.length + 1) * Enc.sz α := by rw [List.length_append, hrow.1, Nat.add_mul]; simp [hc1]
  have hl2 : (xs ++ [y]).length = xs.length + 1 := by simp
  have hmx : xs.length + 1 ≤ maxLen := by simp only [maxLen]; omega
  have hb47 : (xs.length + 1) * i.bytes ≤ 140737488355328 := by
    rw [h5]
    exact Nat.le_trans (Nat.mul_le_mul_left _ hby) (by omega)
  -- the elements behind the step, whatever block they end in
  have helem : ∀ (w' : World) (g cap : Nat), Chg (blk v) w w' → (v.ownBlock = some g ∨ w.heap.size ≤ g) →
      ∀ j, (h : j < (xs ++ [y]).length) → Enc.Is w' (fun k => lo ≤ k ∧ (Value.slice (some ⟨g, 0, none⟩) (xs.length + 1) cap).ownBlock ≠ some k) (xs ++ [y])[j] (fun q => (cs ++ c1.toList)[j * Enc.sz α + q]?) := by
    intro w' g cap hch hg j hj
    have hA : ∀ k, ((lo ≤ k ∧ v.ownBlock ≠ some k) ∧ k < w.heap.size) → (lo ≤ k ∧ (Value.slice (some ⟨g, 0, none⟩) (xs.length + 1) cap).ownBlock ≠ some k) := by
      intro k hk
      refine ⟨hk.1.1, ?_⟩
      simp only [Value.ownBlock, ne_eq, Option.some.injEq]
      rintro rfl
      rcases hg with hg | hg
      · exact hk.1.2 hg
      · omega
    have hgo : ∀ (x : α) (f : Nat → Option Value), Enc.Is w (fun k => lo ≤ k ∧ v.ownBlock ≠ some k) x f →
        Enc.Is w' (fun k => lo ≤ k ∧ (Value.slice (some ⟨g, 0, none⟩) (xs.length + 1) cap).ownBlock ≠ some k) x f := by
      intro x f hx
      exact Enc.low (Enc.keep (Enc.low (A' := fun k => (lo ≤ k ∧ v.ownBlock ≠ some k) ∧ k < w.heap.size) hx fun k hk hl => ⟨hk, hl⟩) hch fun k hk hl => hk.1.2) fun k hk _ => hA k hk
    by_cases hjx : j < xs.length
    · rw [List.getElem_append_left hjx]
      refine hgo _ _ (Enc.ext (hel j hjx) fun q hq => ?_)
      have : j * Enc.sz α + q < cs.length := by
        rw [hrow.1]
        have := Nat.mul_le_mul_right (Enc.sz α) (show j + 1 ≤ xs.length from hjx)
        rw [Nat.add_mul] at this; omega
      rw [List.getElem?_append_left this]
    · obtain rfl : j = xs.length := by simp at hj; omega
      rw [List.getElem_append_right (by omega)]
      simp only [Nat.sub_self, List.getElem_cons_zero]
      refine hgo _ _ (Enc.ext hy fun q hq => ?_)
      rw [List.getElem?_append_right (by rw [hrow.1]; omega), hrow.1, Nat.add_sub_cancel_left]
      simp
  rcases hrow.2 with ⟨rfl, h0⟩ | ⟨g, cap, cur, rfl, hbg, hg, hnc, hcm, hcs, htake⟩
  · have hx : xs = [] := List.eq_nil_of_length_eq_zero h0
    subst hx
    have hcs0 : cs = [] := List.eq_nil_of_length_eq_zero (by simpa using hrow.1)
    subst hcs0
    have hr := run_append_nil (P := P) (w.alloc (.cells c1 e)) T ty e i z h1 h2 h3 ⟨w.heap.size, 0, none⟩ 1 1 c1.toList hl1 hnews (by omega) (by omega) (by have := hb47; simp at this; omega)
    have hge := grownCap_ge (w.alloc (.cells c1 e)) 1 0 e
    have hcm := grownCap_le_maxLen (w.alloc (.cells c1 e)) 1 0 e (by simp [maxLen])
    have hch : Chg (blk (.slice none 0 0)) w ((w.alloc (.cells c1 e)).drew.alloc (.cells (c1.toList.toArray ++ Builtin.zeroCells z.cells (grownCap (w.alloc (.cells c1 e)) 1 0 e - 1)) e)) :=
      (((Chg.refl _ w).alloc _).drew).alloc _
    refine ⟨_, _, _, hr, ⟨[] ++ c1.toList, ⟨by rw [hl2]; exact hlen', .inr ⟨_, _, _, by rw [hl2]; rfl, ?_, heap_alloc_new _ _, ?_, hcm, ?_, ?_⟩⟩, helem _ _ _ hch (.inr (by simp))⟩, hch, .inr (by simp), by simp; omega⟩
    · simp; omega
    · simpa using hge
    · simp only [Array.size_append, List.size_toArray, size_zeroCells, hz, Array.length_toList, hc1, List.nil_append]
      rw [Nat.sub_mul, Nat.one_mul]
      have : Enc.sz α ≤ grownCap (w.alloc (.cells c1 e)) 1 0 e * Enc.sz α := Nat.le_mul_of_pos_left _ (by omega)
      omega
    · simp [hc1]
  · by_cases hroom : xs.length + 1 ≤ cap
    · have hgs := (Array.getElem?_eq_some_iff.1 hg).1
      have hg' : (w.alloc (.cells c1 e)).heap[g]? = some (.cells cur e (0, 0)) := (Below.heap_alloc w _ g hgs).trans hg
      have hfit : xs.length * i.size + c1.toList.length ≤ cur.size := by
        rw [hl1, hcs, ← Nat.add_mul, h4]; exact Nat.mul_le_mul_right _ hroom
      have hr := run_append_room (P := P) (w.alloc (.cells c1 e)) T ty e i h1 h2 g xs.length cap cur hg' ⟨w.heap.size, 0, none⟩ 1 1 c1.toList hl1 hnews hone hroom hfit
      have hch : Chg (blk (.slice (some ⟨g, 0, none⟩) xs.length cap)) w ((w.alloc (.cells c1 e)).setRow g (cur.toList.take (xs.length * i.size) ++ c1.toList ++ cur.toList.drop (xs.length * i.size + c1.toList.length)).toArray) :=
        ((Chg.refl _ w).alloc _).grown (row := some g) ⟨rfl, rfl, rfl, by simp, fun k _ hk => setRow_other _ g k _ (fun e => hk (by simp [e]))⟩ (fun k hk _ => by cases hk; rfl)
      refine ⟨_, _, _, hr, ⟨cs ++ c1.toList, ⟨by rw [hl2]; exact hlen', .inr ⟨g, cap, _, by rw [hl2], hbg, setRow_heap _ g cur _ e _ hg', by simpa using hroom, hcm, ?_, ?_⟩⟩, helem _ _ _ hch (.inl rfl)⟩, hch, .inl rfl, hbg⟩
      · simp only [List.size_toArray, List.length_append, List.length_take, List.length_drop, Array.length_toList] at hfit ⊢
        omega
      · rw [h4, htake]
        have : (xs ++ [y]).length * Enc.sz α = (cs ++ c1.toList).length := by rw [hlen']; simp
        rw [this]
        exact List.take_left
    · have holds : ∀ j u, cs[j]? = some u → (w.alloc (.cells c1 e)).cell? ((⟨g, 0, none⟩ : Addr).add j) = some u := by
        intro j u hu
        have hgs := (Array.getElem?_eq_some_iff.1 hg).1
        have h := hrow.cells (g := g) rfl j u hu
        have hadd : ((⟨g, 0, none⟩ : Addr).add j).block = g := by unfold Addr.add; split <;> rfl
        exact (World.cell?_of_block (by rw [hadd]; exact Below.heap_alloc w _ g hgs)).trans h
      have hr := run_append_grow (P := P) (w.alloc (.cells c1 e)) T ty e i z h1 h2 h3 ⟨g, 0, none⟩ xs.length cap cs (by rw [hrow.1, h4]) holds ⟨w.heap.size, 0, none⟩ 1 1 c1.toList hl1 hnews (by omega) (by omega) (growslice_fits (by omega) hb47)
      have hge := grownCap_ge (w.alloc (.cells c1 e)) (xs.length + 1) cap e
      have hcm' := grownCap_le_maxLen (w.alloc (.cells c1 e)) (xs.length + 1) cap e hmx
      have hch : Chg (blk (.slice (some ⟨g, 0, none⟩) xs.length cap)) w ((w.alloc (.cells c1 e)).drew.alloc (.cells (cs.toArray ++ c1.toList.toArray ++ Builtin.zeroCells z.cells (grownCap (w.alloc (.cells c1 e)) (xs.length + 1) cap e - (xs.length + 1))) e)) :=
        (((Chg.refl _ w).alloc _).drew).alloc _
      refine ⟨_, _, _, hr, ⟨cs ++ c1.toList, ⟨by rw [hl2]; exact hlen', .inr ⟨_, _, _, by rw [hl2]; rfl, ?_, heap_alloc_new _ _, ?_, hcm', ?_, ?_⟩⟩, helem _ _ _ hch (.inr (by simp))⟩, hch, .inr (by simp), by simp; omega⟩
      · simp; omega
      · simpa using hge
      · simp only [Array.size_append, List.size_toArray, size_zeroCells, hz, Array.length_toList, hc1, hrow.1]
        rw [Nat.sub_mul, Nat.add_mul, Nat.one_mul]
        have := Nat.mul_le_mul_right (Enc.sz α) hge
        rw [Nat.add_mul, Nat.one_mul] at this
        omega
      · have : (xs ++ [y]).length * Enc.sz α = (cs ++ c1.toList).length := by rw [hlen']; simp
        rw [this]
        simp only [Array.toList_append, List.toList_toArray, ← List.append_assoc]
        exact List.take_left

theorem wpl_append1 {ops : Array Oper} {rest : List Oper} {o : Oper} {a : Act} {Q : Exit → Act → World → Prop} (w : World) (c1 : Array Value)
  (hg : o.guard = none) (s x : Operand) (T e : TypeId) (hop : o.op = Op.call { callee := Callee.builtin Builtin.append, args := #[s, x], argTypes := #[T, T] })
  (i : TypeInfo) (z : Value) (bytes : Nat) (h1 : P.underlying T = some (.slice e)) (h2 : P.info? e = some i)
  (h3 : i.zero = some z) (h4 : i.size = Enc.sz α) (h5 : i.bytes = bytes) (hz : z.cells.size = Enc.sz α) (hby : bytes ≤ 4096)
  (lo : Nat) (v : Value) (xs : List α) (y : α) (hown : Own w lo e v xs) (hlo : lo ≤ w.heap.size) (hlen : xs.length ≤ 1000000000)
  (hy : Enc.Is w (fun k => lo ≤ k ∧ v.ownBlock ≠ some k) y (fun j => c1[j]?)) (hc1 : c1.size = Enc.sz α)
  (hs : a.eval s = v) (hx : a.eval x = .slice (some ⟨w.heap.size, 0, none⟩) 1 1)
  (hK : ∀ g cap w', Own w' lo e (.slice (some ⟨g, 0, none⟩) (xs.length + 1) cap) (xs ++ [y]) → Chg (blk v) w w' → (v.ownBlock = some g ∨ w.heap.size ≤ g) → lo ≤ g →
   wpList P ops Q rest (a.put o.dst (.slice (some ⟨g, 0, none⟩) (xs.length + 1) cap)) w') : wpList P ops Q (o :: rest) a (w.alloc (.cells c1 e)) := by
 refine wpList_plain hg fun K hK' => ?_
 obtain ⟨g, cap, w', hr, r1, r2, r3, r4⟩ := append1_run (P := P) w c1 T o.type e i z bytes h1 h2 h3 h4 h5 hz hby lo v xs y hown hlo hlen hy hc1
 unfold Oper.wp execOp
 simp only [hop, resolve, invoke, builtin, Sem.run_bind, Sem.run_pure, Result.andThen_ok, List.map_toArray, List.map_cons, List.map_nil, hs, hx, hr]
 exact hK' _ _ (hK g cap w' r1 r2 r3 r4)

theorem wpl_append_int {ops : Array Oper} {rest : List Oper} {o : Oper} {a : Act} {Q : Exit → Act → World → Prop} (w : World)
  (hg : o.guard = none) (s x : Operand) (T e : TypeId) (hop : o.op = Op.call { callee := Callee.builtin Builtin.append, args := #[s, x], argTypes := #[T, T] })
  (h1 : P.underlying T = some (.slice e)) (hinfo : (P.info? e).map (fun i => (i.zero, i.size, i.bytes)) = some (some (.int .i64 0), 1, 8))
  (lo : Nat) (v : Value) (xs : List Int) (y : Int) (hown : Own w lo e v xs) (hlo : lo ≤ w.heap.size) (hlen : xs.length ≤ 1000000000)
  (hs : a.eval s = v) (hx : a.eval x = .slice (some ⟨w.heap.size, 0, none⟩) 1 1)
  (hK : ∀ g cap w', Own w' lo e (.slice (some ⟨g, 0, none⟩) (xs.length + 1) cap) (xs ++ [y]) → Chg (blk v) w w' → (v.ownBlock = some g ∨ w.heap.size ≤ g) → lo ≤ g →
   wpList P ops Q rest (a.put o.dst (.slice (some ⟨g, 0, none⟩) (xs.length + 1) cap)) w') : wpList P ops Q (o :: rest) a (w.alloc (.cells #[.int .i64 y] e)) := by
 obtain ⟨i, hi, hz0, hz1, hz2⟩ := info_parts hinfo
 exact wpl_append1 (α := Int) w _ hg s x T e hop i (.int .i64 0) 8 h1 hi hz0 hz1 hz2 rfl (by decide) lo v xs y hown hlo hlen rfl rfl hs hx hK

theorem wpl_append_intB {ops : Array Oper} {rest : List Oper} {o : Oper} {a : Act} {Q : Exit → Act → World → Prop} (w : World)
  (hg : o.guard = none) (s x : Operand) (T e : TypeId) (hop : o.op = Op.call { callee := Callee.builtin Builtin.append, args := #[s, x], argTypes := #[T, T] })
  (h1 : P.underlying T = some (.slice e)) (hinfo : (P.info? e).map (fun i => (i.zero, i.size, i.bytes)) = some (some (.int .i64 0), 1, 8))
  (lo : Nat) (v : Value) (xs : List Int) (y : Int) (hown : Own w lo e v xs) (hlo : lo ≤ w.heap.size) (hlen : xs.length ≤ 1000000000)
  (B : Nat) (hB : B = w.heap.size) (n : Nat) (hn : xs.length = n) (hs : a.eval s = v) (hx : a.eval x = .slice (some ⟨B, 0, none⟩) 1 1)
  (hK : ∀ g cap w', Own w' lo e (.slice (some ⟨g, 0, none⟩) (n + 1) cap) (xs ++ [y]) → Chg (blk v) w w' → (v.ownBlock = some g ∨ w.heap.size ≤ g) → lo ≤ g →
   wpList P ops Q rest (a.put o.dst (.slice (some ⟨g, 0, none⟩) (n + 1) cap)) w') : wpList P ops Q (o :: rest) a (w.alloc (.cells #[.int .i64 y] e)) := by
 subst hB; subst hn
 exact wpl_append_int w hg s x T e hop h1 hinfo lo v xs y hown hlo hlen hs hx hK

end

theorem wpl_make_raw {P : Program} {ops : Array Oper} {rest : List Oper} {o : Oper} {a : Act} {Q : Exit → Act → World → Prop} (w : World)
  (hg : o.guard = none) (l c : Operand) (T e : TypeId) (hop : o.op = Op.makeSlice T l c)
  (z : Value) (bytes : Nat) (h1 : P.underlying T = some (.slice e)) (hinfo : (P.info? e).map (fun i => (i.zero, i.size, i.bytes)) = some (some z, 1, bytes)) (hz : z.cells = #[z]) (hby : bytes ≤ 4096)
  (kl kc : IntKind) (C D : Int) (hl : a.eval l = .int kl C) (hc : a.eval c = .int kc D) (n : Nat) (hC : C = n) (hD : D = n) (hn : n ≤ 1000000000)
  (hK : wpList P ops Q rest (a.put o.dst (.slice (some ⟨w.heap.size, 0, none⟩) n n)) (w.alloc (.cells (Array.replicate n z) e))) :
  wpList P ops Q (o :: rest) a w := by
 subst hC; subst hD
 obtain ⟨i, hi, hz0, hz1, hz2⟩ := info_parts hinfo
 refine wpList_plain hg fun K hK' => ?_
 have hb : (i.bytes : Int) * (n : Int) ≤ 281474976710656 := by
  have h : ((i.bytes * n : Nat) : Int) ≤ 281474976710656 := by
   have : i.bytes * n ≤ 4096 * 1000000000 := by rw [hz2]; exact Nat.mul_le_mul hby hn
   omega
  rwa [Int.natCast_mul] at h
 have hr := run_make (P := P) w T e i z h1 hi hz0 kl kc n n (by omega) (Int.le_refl _) hb (by omega)
 simp only [Int.toNat_natCast] at hr
 have he : madeCells z.cells (n * i.size) = Array.replicate n z := by
  rw [hz, hz1, Nat.mul_one]
  exact Array.ext' (by rw [toList_madeCells_one]; simp)
 rw [he] at hr
 unfold Oper.wp
 simp [execOp, hop, hl, hc, hr, Result.andThen]
 exact hK' _ _ hK

theorem step_append1 {P : Program} {α : Type} [Enc α] {ops : Array Oper} {o : Oper} {a : Act} {K : Act → World → Prop} {Q : Exit → Act → World → Prop} {E : Prop} (w : World) (c1 : Array Value)
  (hg : o.guard = none) (s x : Operand) (T e : TypeId) (hop : o.op = Op.call { callee := Callee.builtin Builtin.append, args := #[s, x], argTypes := #[T, T] })
  (i : TypeInfo) (z : Value) (bytes : Nat) (h1 : P.underlying T = some (.slice e)) (h2 : P.info? e = some i)
  (h3 : i.zero = some z) (h4 : i.size = Enc.sz α) (h5 : i.bytes = bytes) (hz : z.cells.size = Enc.sz α) (hby : bytes ≤ 4096)
  (lo : Nat) (v : Value) (xs : List α) (y : α) (hown : Own w lo e v xs) (hlo : lo ≤ w.heap.size) (hlen : xs.length ≤ 1000000000)
  (hy : Enc.Is w (fun k => lo ≤ k ∧ v.ownBlock ≠ some k) y (fun j => c1[j]?)) (hc1 : c1.size = Enc.sz α)
  (hs : a.eval s = v) (hx : a.eval x = .slice (some ⟨w.heap.size, 0, none⟩) 1 1)
  (hK : ∀ g cap w', Own w' lo e (.slice (some ⟨g, 0, none⟩) (xs.length + 1) cap) (xs ++ [y]) → Chg (blk v) w w' → (v.ownBlock = some g ∨ w.heap.size ≤ g) → lo ≤ g →
   K (a.put o.dst (.slice (some ⟨g, 0, none⟩) (xs.length + 1) cap)) w') :
  if Region.wanted o (yielded ops a.tmps) = true then Oper.wp P o a (w.alloc (.cells c1 e)) K Q else E := by
 have hw : Region.wanted o (yielded ops a.tmps) = true := by simp [Region.wanted, hg]
 rw [if_pos hw]
 obtain ⟨g, cap, w', hr, r1, r2, r3, r4⟩ := append1_run (P := P) w c1 T o.type e i z bytes h1 h2 h3 h4 h5 hz hby lo v xs y hown hlo hlen hy hc1
 unfold Oper.wp execOp
 simp only [hop, resolve, invoke, builtin, Sem.run_bind, Sem.run_pure, Result.andThen_ok, List.map_toArray, List.map_cons, List.map_nil, hs, hx, hr]
 exact hK g cap w' r1 r2 r3 r4

end Go.Proofs.YtaaokimiadfidaaGreatDoor
namespace Go.Proofs.YtaaokimiadfidaaGreatDoor
open Go.RowKit
set_option linter.unusedVariables false
set_option linter.unusedSimpArgs false

theorem infoInt : (Tryz.prog.info? 3).map (fun i => (i.zero, i.size, i.bytes)) = some (some (.int .i64 0), 1, 8) := by kernel_rfl

end Go.Proofs.YtaaokimiadfidaaGreatDoor
namespace Go.Proofs.YtaaokimiadfidaaGreatDoor
set_option linter.unusedVariables false
set_option linter.unusedSimpArgs false

structure Pass where
 taken : Int
 left : Int

instance : Enc Pass where
 sz := 2
 Is _ _ p f := f 0 = some (.int .i64 p.taken) ∧ f 1 = some (.int .i64 p.left)
 keep h _ _ := h
 low h _ := h
 ext h e := ⟨(e 0 (by omega)) ▸ h.1, (e 1 (by omega)) ▸ h.2⟩
 one h j hj := by
  rcases (show j = 0 ∨ j = 1 by omega) with rfl | rfl
  ·exact ⟨_, h.1, rfl⟩
  ·exact ⟨_, h.2, rfl⟩
 pos := by omega
instance : Flat Pass := ⟨fun h => h⟩

def at' (l : List Int) (k : Nat) : Int := l.getD k 0

def pas (c bf : List Int) (b k : Nat) : Pass :=
  let here : Int := if hk : k = 0 then 0 else (pas c bf b (k - 1)).left
  let taken : Int := if hb : b = 0 then here else max here (pas c bf (b - 1) k).left
  let left : Int := taken + at' c k
  ⟨taken, if k + 1 < c.length then
      (if at' bf k = 0 then (if hb : b = 0 then left else max left (pas c bf (b - 1) (k + 1)).left)
       else if hr : 0 < at' bf k ∧ at' bf k ≤ b then max left (pas c bf (b - (at' bf k).toNat) (k + 1)).taken else left)
    else left⟩
termination_by (b, k)
decreasing_by
  all_goals simp_wf
  all_goals first
    | (apply Prod.Lex.right; omega)
    | (apply Prod.Lex.left; omega)

def here (c bf : List Int) (b k : Nat) : Int := if k = 0 then 0 else (pas c bf b (k - 1)).left

theorem pas_taken (c bf : List Int) (b k : Nat) : (pas c bf b k).taken = if b = 0 then here c bf b k else max (here c bf b k) (pas c bf (b - 1) k).left := by
 rw [pas]; simp only [here]; split <;> simp_all
theorem pas_left (c bf : List Int) (b k : Nat) : (pas c bf b k).left =
    if k + 1 < c.length then
      (if at' bf k = 0 then (if b = 0 then (pas c bf b k).taken + at' c k else max ((pas c bf b k).taken + at' c k) (pas c bf (b - 1) (k + 1)).left)
       else if 0 < at' bf k ∧ at' bf k ≤ b then max ((pas c bf b k).taken + at' c k) (pas c bf (b - (at' bf k).toNat) (k + 1)).taken else (pas c bf b k).taken + at' c k)
    else (pas c bf b k).taken + at' c k := by
  conv => lhs; rw [pas]
  conv => rhs; rw [pas_taken]
  simp only [here]
  repeat' split
  all_goals simp_all

structure RightLine (c bf : List Int) : Prop where
 len : c.length ≤ 6
 pos : 0 < c.length
 c1 : ∀ k, k < c.length → 1 ≤ at' c k ∧ at' c k ≤ 10000000
 b0 : ∀ k, 0 ≤ at' bf k
 bl : bf.length + 1 = c.length

theorem pas_bd {c bf : List Int} (h : RightLine c bf) (b : Nat) : ∀ k, k < c.length →
  0 ≤ (pas c bf b k).taken ∧ (pas c bf b k).taken + at' c k ≤ (pas c bf b k).left ∧ (pas c bf b k).left ≤ 10000000 * (b + k + 1) := by
 induction b using Nat.strongRecOn with
 | _ b ihb =>
  intro k
  induction k with
  | zero =>
   intro hk
   have hc := h.c1 0 hk
   have ht := pas_taken c bf b 0
   have hl := pas_left c bf b 0
   have hh : here c bf b 0 = 0 := by simp [here]
   rw [hh] at ht
   have h1 : 0 < b → _ := fun hb => ihb (b - 1) (by omega) 0 hk
   have h2 : 0 < b → 1 < c.length → _ := fun hb hk1 => ihb (b - 1) (by omega) 1 hk1
   have h3 : 0 < at' bf 0 ∧ at' bf 0 ≤ b → 1 < c.length → _ := fun hb hk1 => ihb (b - (at' bf 0).toNat) (by omega) 1 hk1
   have hc1 := h.c1 1
   split at ht <;> (split at hl <;> (try split at hl) <;> (try split at hl)) <;> grind
  | succ k ihk =>
   intro hk
   have hc := h.c1 (k + 1) hk
   have hcp := h.c1 k (by omega)
   have hp := ihk (by omega)
   have ht := pas_taken c bf b (k + 1)
   have hl := pas_left c bf b (k + 1)
   have hh : here c bf b (k + 1) = (pas c bf b k).left := by simp [here]
   rw [hh] at ht
   have h1 : 0 < b → _ := fun hb => ihb (b - 1) (by omega) (k + 1) hk
   have h2 : 0 < b → k + 2 < c.length → _ := fun hb hk1 => ihb (b - 1) (by omega) (k + 2) hk1
   have h3 : 0 < at' bf (k + 1) ∧ at' bf (k + 1) ≤ b → k + 2 < c.length → _ := fun hb hk1 => ihb (b - (at' bf (k + 1)).toNat) (by omega) (k + 2) hk1
   have hc1 := h.c1 (k + 2)
   split at ht <;> (split at hl <;> (try split at hl) <;> (try split at hl)) <;> grind

end Go.Proofs.YtaaokimiadfidaaGreatDoor
namespace Go.Proofs.YtaaokimiadfidaaGreatDoor
open Go.RowKit
set_option linter.unusedVariables false
set_option linter.unusedSimpArgs false

def PredI (F : FuncId) (caps : Array Value) (pr : Int → Bool) (w : World) (xs : List Int) : Prop :=
 (∀ args w, (callFunc F args).run Tryz.prog w = .ok (.enter F args) w) ∧
 ∀ x ∈ xs, ∀ w1, Chg NoB w w1 → Calls Tryz.prog F (#[.int .i64 x] ++ caps) w1 fun e w2 => e = .returned (.bool (pr x)) ∧ Chg NoB w1 w2

def idx {α : Type} (pr : α → Bool) (xs : List α) : Int := match xs.findIdx? pr with
 | some i => i
 | none => -1

theorem idx_none {α : Type} {pr : α → Bool} {xs : List α} (h : ∀ j, (hj : j < xs.length) → pr xs[j] = false) : idx pr xs = -1 := by
 have : xs.findIdx? pr = none := by
  rw [List.findIdx?_eq_none_iff]
  intro x hx
  obtain ⟨j, hj, rfl⟩ := List.mem_iff_getElem.1 hx
  exact h j hj
 rw [idx, this]
theorem idx_some {α : Type} {pr : α → Bool} {xs : List α} {i : Nat} (hi : i < xs.length) (hp : pr xs[i] = true) (h : ∀ j, (hj : j < i) → pr (xs[j]'(by omega)) = false) : idx pr xs = i := by
 have : xs.findIdx? pr = some i := by
  rw [List.findIdx?_eq_some_iff_getElem]
  exact ⟨hi, hp, fun j hj => by simp [h j hj]⟩
 rw [idx, this]
theorem idx_any {α : Type} (pr : α → Bool) (xs : List α) : decide (0 ≤ idx pr xs) = xs.any pr := by
 unfold idx
 cases h : xs.findIdx? pr with
 | none =>
  rw [List.findIdx?_eq_none_iff] at h
  symm
  simp [List.any_eq_false]
  intro x hx
  simp [h x hx]
 | some i =>
  rw [List.findIdx?_eq_some_iff_getElem] at h
  obtain ⟨hi, hp, _⟩ := h
  symm
  simp only [Int.natCast_nonneg, decide_true, List.any_eq_true]
  exact ⟨xs[i], List.getElem_mem _, hp⟩

set_option maxHeartbeats 400000 in
theorem indexFuncI (v : Value) (xs : List Int) (F : FuncId) (caps : Array Value) (pr : Int → Bool) (A : Nat → Prop) (w : World) (hv : IsSl w A v xs) (hF : PredI F caps pr w xs) :
  Calls Tryz.prog 348 #[v, .func (.func F) #[] caps] w fun e w' => e = .returned (.int .i64 (idx pr xs)) ∧ Chg NoB w w' := by
 obtain ⟨hcf, hF⟩ := hF
 obtain ⟨a, cap, rfl, hc1, hc2⟩ := hv.shape
 unfold maxLen at hc2
 go_enter Tryz.func348, Tryz.ntmps348
 go_wp2_with fail
 go_loopw [5, 8] (fun _ i wr => ∃ j : Nat, j ≤ xs.length ∧ i = .int .i64 j ∧ Hid (∀ q, (hq : q < j) → (hq' : q < xs.length) → pr xs[q] = false) ∧ Chg NoB w wr)
  (fun _ i _ => xs.length - (intOf i).toNat)
 case atStart => exact ⟨0, by omega, rfl, hid fun q hq => by omega, Chg.refl _ _⟩
 case round =>
  obtain ⟨j, hj, rfl, hno, hch⟩ := hrel
  by_cases hjn : j < xs.length
  ·obtain ⟨b, off, rfl, hb, hcells⟩ := hv.ints (by omega)
   have hcell := hch.cell (hcells j hjn) (fun x => x)
   clear hcells
   have HF := hid (hF xs[j] (List.getElem_mem _) wr hch)
   clear hF
   go_wp2_with fail
   refine HF.out.mono ?_
   rintro e w2 ⟨rfl, hc3⟩
   go_wp2_with fail
   ·have hp : pr xs[j] = true := by assumption
    go_ret
    exact ⟨ret_int (idx_some hjn hp fun q hq => hno.out q hq (by omega)).symm, hch.trans hc3⟩
   ·have hp : pr xs[j] = false := by assumption
    go_roundw
    case rel => exact ⟨j + 1, by omega, by go_num, hid fun q hq hq' => by
     by_cases h : q < j
     ·exact hno.out q h hq'
     ·obtain rfl : q = j := by omega
      exact hp, hch.trans hc3⟩
    case measure => simp [intOf]; omega
  ·go_wp2_with fail
   go_ret
   exact ⟨ret_int (idx_none fun q hq => hno.out q (by omega) hq).symm, hch⟩

set_option maxHeartbeats 400000 in
theorem containsFuncI (v : Value) (xs : List Int) (F : FuncId) (caps : Array Value) (pr : Int → Bool) (A : Nat → Prop) (w : World) (hv : IsSl w A v xs) (hF : PredI F caps pr w xs) :
  Calls Tryz.prog 287 #[v, .func (.func F) #[] caps] w fun e w' => e = .returned (.bool (xs.any pr)) ∧ Chg NoB w w' := by
 have hc := indexFuncI v xs F caps pr A w hv hF
 have HC := hid hc; clear hc hF
 go_enter Tryz.func287, Tryz.ntmps287
 go_wp2_with (go_at_call 348; refine HC.out.mono ?_; rintro e w1 ⟨rfl, hc1⟩)
 go_ret
 exact ⟨ret_bool (idx_any pr xs), hc1⟩

set_option maxHeartbeats 400000 in
theorem outside_any (n lo hi : Int) (w : World) :
  Calls Tryz.prog 119 #[.int .i64 n, .int .i64 lo, .int .i64 hi] w fun e w' => e = .returned (.bool (decide (n < lo) || decide (hi < n))) ∧ w = w' := by
 by_cases h : n < lo
 ·go_enter Tryz.func119, Tryz.ntmps119
  go_wp2_with fail
  go_ret
  exact ⟨ret_bool (by simp [h]), rfl⟩
 ·go_enter Tryz.func119, Tryz.ntmps119
  go_wp2_with fail
  go_ret
  exact ⟨ret_bool (by simp; omega), rfl⟩

end Go.Proofs.YtaaokimiadfidaaGreatDoor
namespace Go.Proofs.YtaaokimiadfidaaGreatDoor
open Go.RowKit
set_option linter.unusedVariables false
set_option linter.unusedSimpArgs false

def outB (lo hi x : Int) : Bool := decide (x < lo) || decide (hi < x)
def cycF (c : List Int) : Int := if c.length = 0 then 8 else if 6 < c.length then 2 else if c.any (outB 1 10000000) then 1 else 0
def flowF (c b : List Int) (n : Int) : Int :=
 if cycF c ≠ 0 then cycF c else if (b.length : Int) ≠ c.length - 1 then 3 else if b.any (outB 0 2000) || outB 1 2000 n then 1 else 0

theorem outside_b (n lo hi : Int) (w : World) :
  Calls Tryz.prog 119 #[.int .i64 n, .int .i64 lo, .int .i64 hi] w fun e w' => e = .returned (.bool (outB lo hi n)) ∧ w = w' := outside_any n lo hi w
set_option maxHeartbeats 400000 in
theorem cycPred1 (w : World) (xs : List Int) : PredI 347 #[] (outB 1 10000000) w xs := by
 refine ⟨enters_of Tryz.func347 (by kernel_rfl) rfl, fun x hx w1 hc => ?_⟩
 go_enter Tryz.func347, Tryz.ntmps347
 go_wp2_with (go_at_call 119; refine (outside_b _ _ _ _).mono ?_; rintro e w' ⟨rfl, rfl⟩)
 go_ret
 exact ⟨rfl, Chg.refl _ _⟩
set_option maxHeartbeats 400000 in
theorem flowPred (w : World) (xs : List Int) : PredI 288 #[] (outB 0 2000) w xs := by
 refine ⟨enters_of Tryz.func288 (by kernel_rfl) rfl, fun x hx w1 hc => ?_⟩
 go_enter Tryz.func288, Tryz.ntmps288
 go_wp2_with (go_at_call 119; refine (outside_b _ _ _ _).mono ?_; rintro e w' ⟨rfl, rfl⟩)
 go_ret
 exact ⟨ret_bool (rfl), Chg.refl _ _⟩

set_option maxHeartbeats 400000 in
theorem cyclesFault_any (v : Value) (c : List Int) (A : Nat → Prop) (w : World) (hv : IsSl w A v c) :
  Calls Tryz.prog 286 #[v] w fun e w' => e = .returned (.int .i64 (cycF c)) ∧ Chg NoB w w' := by
 have hcf := containsFuncI v c _ _ _ A w hv (cycPred1 w c)
 have HC := hid hcf; clear hcf
 obtain ⟨a, cap, rfl, h1, h2⟩ := hv.shape
 unfold maxLen at h2
 by_cases h0 : c.length = 0
 ·have hb : ((c.length : Int) == 0) = true := by simp [h0]
  have H0 := hid h0; clear h0
  go_enter Tryz.func286, Tryz.ntmps286
  go_wp2_with fail
  go_ret
  exact ⟨ret_int (by rw [cycF, if_pos H0.out]), Chg.refl _ _⟩
 ·have hb : ((c.length : Int) == 0) = false := beq_eq_false_iff_ne.2 (by omega)
  by_cases h6 : 6 < c.length
  ·go_enter Tryz.func286, Tryz.ntmps286
   go_wp2_with fail
   go_ret
   exact ⟨ret_int (by rw [cycF, if_neg h0, if_pos h6]), Chg.refl _ _⟩
  ·obtain ⟨q, hq⟩ : ∃ q, q = c.any (outB 1 10000000) := ⟨_, rfl⟩
   have HF : Hid (cycF c = if q then 1 else 0) := by rw [hq, cycF, if_neg h0, if_neg h6]; rfl
   rw [← hq] at HC
   clear hq
   cases q <;>
   ·go_enter Tryz.func286, Tryz.ntmps286
    go_wp2_with (go_at_call 287; refine HC.out.mono ?_; rintro e w1 ⟨rfl, hc1⟩)
    go_ret
    exact ⟨ret_int HF.out.symm, hc1⟩

set_option maxHeartbeats 400000 in
theorem flowFault_any (v1 v2 : Value) (c b : List Int) (n : Int) (A1 A2 : Nat → Prop) (w : World) (h1 : IsSl w A1 v1 c) (h2 : IsSl w A2 v2 b) :
  Calls Tryz.prog 198 #[v1, v2, .int .i64 n] w fun e w' => e = .returned (.int .i64 (flowF c b n)) ∧ Chg NoB w w' := by
 have HY := hid (cyclesFault_any v1 c A1 w h1)
 have HC : Hid (∀ w1, Chg NoB w w1 → _) := hid fun w1 (hc : Chg NoB w w1) => containsFuncI v2 b _ _ _ A2 w1 (h2.keepN hc) (flowPred w1 b)
 obtain ⟨a1, cap1, rfl, g1, g2⟩ := h1.shape
 obtain ⟨a2, cap2, rfl, g3, g4⟩ := h2.shape
 unfold maxLen at g2 g4
 obtain ⟨f, hf⟩ : ∃ f, f = cycF c := ⟨_, rfl⟩
 rw [← hf] at HY
 by_cases hf0 : f = 0
 ·subst hf0
  by_cases hl : (b.length : Int) = c.length - 1
  ·have hb : ((b.length : Int) != (c.length : Int) - 1) = false := by simp [hl]
   obtain ⟨q, hq⟩ : ∃ q, q = b.any (outB 0 2000) := ⟨_, rfl⟩
   obtain ⟨r, hr⟩ : ∃ r, r = outB 1 2000 n := ⟨_, rfl⟩
   have HR := hid hr
   have HF : Hid (flowF c b n = if q || r then 1 else 0) := by rw [hq, hr, flowF, if_neg (by simpa using hf.symm), if_neg (by simpa using hl)]; rfl
   rw [← hq] at HC
   clear hq hr hf hl
   cases q <;> cases r <;>
   ·go_enter Tryz.func198, Tryz.ntmps198
    go_wp2_with (first | (go_at_call 286; refine HY.out.mono ?_; rintro e w1 ⟨rfl, hc1⟩) | (go_at_call 287; refine (HC.out _ (by assumption)).mono ?_; rintro e w2 ⟨rfl, hc2⟩) | (go_at_call 119; refine (outside_b _ _ _ _).mono ?_; rw [← HR.out]; rintro e w3 ⟨rfl, rfl⟩))
    go_ret
    exact ⟨ret_int HF.out.symm, by first | exact (by assumption : Chg NoB w _) | exact Chg.trans (by assumption) (by assumption)⟩
  ·have hb : ((b.length : Int) != (c.length : Int) - 1) = true := by simp [hl]
   have HF : Hid (flowF c b n = 3) := by unfold Hid; rw [flowF, if_neg (by simpa using hf.symm), if_pos hl]
   clear hf hl
   go_enter Tryz.func198, Tryz.ntmps198
   go_wp2_with (go_at_call 286; refine HY.out.mono ?_; rintro e w1 ⟨rfl, hc1⟩)
   go_ret
   exact ⟨ret_int HF.out.symm, hc1⟩
 ·have hb : (f != 0) = true := by simp [hf0]
  have HF : Hid (flowF c b n = f) := by unfold Hid; rw [flowF, if_pos (by rw [← hf]; exact hf0), hf]
  clear hf hf0
  go_enter Tryz.func198, Tryz.ntmps198
  go_wp2_with (go_at_call 286; refine HY.out.mono ?_; rintro e w1 ⟨rfl, hc1⟩)
  go_ret
  exact ⟨ret_int HF.out.symm, hc1⟩

end Go.Proofs.YtaaokimiadfidaaGreatDoor
namespace Go.Proofs.YtaaokimiadfidaaGreatDoor
open Go.RowKit
set_option linter.unusedVariables false
set_option linter.unusedSimpArgs false

structure Mat {α : Type} [Enc α] (w : World) (lo g n : Nat) (eo ei : TypeId) (V : Nat → Value) (R : Nat → List α) : Prop where
 low : lo ≤ g
 ex : ∃ cur, w.heap[g]? = some (.cells cur eo (0, 0)) ∧ cur.size = n ∧ ∀ k, k < n → cur[k]? = some (V k)
 own : ∀ k, k < n → Own w lo ei (V k) (R k)
 out : ∀ k, k < n → (V k).ownBlock ≠ some g
 sep : ∀ j k, j < n → k < n → j ≠ k → ∀ q, (V j).ownBlock = some q → (V k).ownBlock ≠ some q

namespace Mat
variable {α : Type} [Enc α] {w w' : World} {lo g n : Nat} {eo ei : TypeId} {V : Nat → Value} {R R' : Nat → List α}
theorem lt (h : Mat w lo g n eo ei V R) : g < w.heap.size := by obtain ⟨cur, h1, _⟩ := h.ex; exact (Array.getElem?_eq_some_iff.1 h1).1
theorem start (w : World) (lo n : Nat) (eo ei : TypeId) (hlo : lo ≤ w.heap.size) : Mat (α := α) (w.alloc (.cells (Array.replicate n (.slice none 0 0)) eo)) lo w.heap.size n eo ei (fun _ => .slice none 0 0) (fun _ => []) :=
 ⟨hlo, ⟨_, heap_alloc_new w _, by simp, fun k hk => by simp [hk]⟩, fun k hk => Own.nil _ _ _, fun k hk => by simp [Value.ownBlock], fun j k _ _ _ q h => by simp [Value.ownBlock] at h⟩
theorem congr (h : Mat w lo g n eo ei V R) (e : ∀ k, k < n → R k = R' k) : Mat w lo g n eo ei V R' :=
 ⟨h.low, h.ex, fun k hk => e k hk ▸ h.own k hk, h.out, h.sep⟩
theorem keep {S : Nat → Prop} (h : Mat w lo g n eo ei V R) (c : Chg S w w') (hs : ∀ k, lo ≤ k → k < w.heap.size → ¬ S k) : Mat w' lo g n eo ei V R := by
 obtain ⟨cur, h1, h2, h3⟩ := h.ex
 exact ⟨h.low, ⟨cur, (c.block g h.lt (hs g h.low h.lt)).trans h1, h2, h3⟩, fun k hk => (h.own k hk).keep c hs, h.out, h.sep⟩
theorem cell (h : Mat w lo g n eo ei V R) (k : Nat) (hk : k < n) : w.cell? ⟨g, k, none⟩ = some (V k) := by
 obtain ⟨cur, h1, h2, h3⟩ := h.ex
 simp [World.cell?, h1, h3 k hk]
theorem froz (h : Mat w lo g n eo ei V R) (k : Nat) : w.frozen? ⟨g, k, none⟩ = false := by
 obtain ⟨cur, h1, h2, h3⟩ := h.ex
 simp [World.frozen?, h1]
theorem step [Flat α] (h : Mat w lo g n eo ei V R) (k : Nat) (hk : k < n) (v' : Value) (xs : List α) (ho : Own w' lo ei v' xs) (c : Chg (blk (V k)) w w')
  (hb : ∀ q, v'.ownBlock = some q → (V k).ownBlock = some q ∨ w.heap.size ≤ q) :
  Mat (w'.setCell ⟨g, k, none⟩ v') lo g n eo ei (fun j => if j = k then v' else V j) (fun j => if j = k then xs else R j) := by
 obtain ⟨cur, h1, h2, h3⟩ := h.ex
 have hg : w'.heap[g]? = some (.cells cur eo (0, 0)) := (c.block g h.lt (h.out k hk)).trans h1
 have hs : Chg (AtB g) w' (w'.setCell ⟨g, k, none⟩ v') := Chg.setAt _ _ _ _
 have hvg : v'.ownBlock ≠ some g := by
  intro e
  rcases hb g e with e | e
  ·exact h.out k hk e
  ·have := h.lt; omega
 refine ⟨h.low, ⟨cur.setIfInBounds k v', ?_, by simpa using h2, ?_⟩, ?_, ?_, ?_⟩
 ·simp [World.setCell, Array.getElem?_modify, hg]
 ·intro j hj
  rw [Array.getElem?_setIfInBounds]
  by_cases hjk : k = j
  ·subst hjk; simp [h2, hk]
  ·rw [if_neg hjk, if_neg (fun e => hjk e.symm)]; exact h3 j hj
 ·intro j hj
  by_cases hjk : j = k
  ·subst hjk
   simp only [if_true]
   exact ho.keepF hs fun q hq x => by unfold AtB at x; subst x; exact hvg hq
  ·simp only [if_neg hjk]
   refine ((h.own j hj).keepF c fun q hq x => h.sep j k hj hk hjk q hq x).keepF hs fun q hq x => ?_
   unfold AtB at x; subst x; exact h.out j hj hq
 ·intro j hj
  by_cases hjk : j = k
  ·subst hjk; simpa using hvg
  ·simp only [if_neg hjk]; exact h.out j hj
 ·intro j i hj hi hne q hq
  by_cases hjk : j = k
  ·subst hjk
   simp only [if_true, if_neg (fun e : i = j => hne e.symm)] at hq ⊢
   rcases hb q hq with e | e
   ·exact h.sep j i hk hi hne q e
   ·intro e2
    have := ((h.own i hi).lt q e2).2
    omega
  ·simp only [if_neg hjk] at hq
   by_cases hik : i = k
   ·subst hik
    simp only [if_true]
    intro e
    rcases hb q e with e | e
    ·exact h.sep j i hj hi hjk q hq e
    ·have := ((h.own j hj).lt q hq).2
     omega
   ·simp only [if_neg hik]; exact h.sep j i hj hi hne q hq
theorem isSl (h : Mat w lo g n eo ei V R) (hm : n ≤ maxLen) : IsSl w (fun k => lo ≤ k) (.slice (some ⟨g, 0, none⟩) n n) ((List.range n).map R) := by
 obtain ⟨cur, h1, h2, h3⟩ := h.ex
 refine .inr ⟨g, 0, n, cur, eo, by simp, h.low, by simp, hm, h1, fun i hi => ?_⟩
 simp at hi
 refine ⟨V i, ?_, ?_⟩
 ·simpa [Enc.sz] using h3 i hi
 ·simpa using (h.own i hi).isSl
end Mat

theorem Own.pcell {w : World} {lo e g n cap : Nat} {xs : List Pass} (h : Own w lo e (.slice (some ⟨g, 0, none⟩) n cap) xs) (i : Nat) (hi : i < xs.length) :
  w.cell? ⟨g, i * 2, none⟩ = some (.int .i64 xs[i].taken) ∧ w.cell? ⟨g, i * 2 + 1, none⟩ = some (.int .i64 xs[i].left) := by
 obtain ⟨b, off, ha, hb, hc⟩ := h.isSl.cells.2 (by omega)
 cases ha
 have := hc i hi
 simp only [Enc.Is, Enc.sz, Nat.zero_add, Nat.add_zero] at this
 exact this

theorem infoPass : (Tryz.prog.info? 238).map (fun i => (i.zero, i.size, i.bytes)) = some (some (.agg #[.int .i64 0, .int .i64 0]), 2, 16) := by kernel_rfl
theorem infoSlPass : (Tryz.prog.info? 236).map (fun i => (i.zero, i.size, i.bytes)) = some (some (.slice none 0 0), 1, 24) := by kernel_rfl

def PBlk (w : World) (P : Nat) (x y : Int) : Prop := w.heap[P]? = some (.cells #[.int .i64 x, .int .i64 y] 238 (0, 0))
theorem PBlk.new (w : World) (x y : Int) : PBlk (w.alloc (.cells #[.int .i64 x, .int .i64 y] 238)) w.heap.size x y := heap_alloc_new w _
theorem PBlk.facts {w : World} {P : Nat} {x y : Int} (h : PBlk w P x y) : w.cell? ⟨P, 0, none⟩ = some (.int .i64 x) ∧ w.cell? ⟨P, 1, none⟩ = some (.int .i64 y) ∧ w.frozen? ⟨P, 0, none⟩ = false ∧ w.frozen? ⟨P, 1, none⟩ = false := by
 unfold PBlk at h
 simp [World.cell?, World.frozen?, h]
theorem PBlk.set1 {w : World} {P : Nat} {x y : Int} (h : PBlk w P x y) (z : Int) : PBlk (w.setCell ⟨P, 1, none⟩ (.int .i64 z)) P x z := by
 unfold PBlk at h ⊢; simp [World.setCell, Array.getElem?_modify, h]

def rowP (c bf : List Int) (b k j : Nat) : List Pass := (List.range (if j < k then b + 1 else b)).map fun q => pas c bf q j


theorem flow_step {c bf : List Int} {w wr w5 w6 : World} {V : Nat → Value} {b k g6 cap6 : Nat} {ak : Option Addr} {capk : Nat} {T Z : Int} (hkl : k < c.length)
  (hmx : Mat w5 w.heap.size w.heap.size c.length 236 238 V (rowP c bf b k)) (hT : T = (pas c bf b k).taken) (hZ : Z = (pas c bf b k).left)
  (hv : V k = .slice ak b capk) (hown : Own w6 w.heap.size 238 (.slice (some ⟨g6, 0, none⟩) ((rowP c bf b k k).length + 1) cap6) (rowP c bf b k k ++ [⟨T, Z⟩]))
  (hc6 : Chg (blk (.slice ak b capk)) w5.drew w6) (hg6 : (Value.slice ak b capk).ownBlock = some g6 ∨ w5.drew.heap.size ≤ g6)
  (hch : Chg (NewB w.heap.size) w wr) (hcx : Chg (NewB wr.heap.size) wr w5) :
  Mat (w6.setCell ⟨w.heap.size, k, none⟩ (.slice (some ⟨g6, 0, none⟩) ((rowP c bf b k k).length + 1) cap6)) w.heap.size w.heap.size c.length 236 238
    (fun j => if j = k then .slice (some ⟨g6, 0, none⟩) ((rowP c bf b k k).length + 1) cap6 else V j) (rowP c bf b (k + 1)) ∧
   Chg (NewB w.heap.size) w (w6.setCell ⟨w.heap.size, k, none⟩ (.slice (some ⟨g6, 0, none⟩) ((rowP c bf b k k).length + 1) cap6)) ∧ here c bf b (k + 1) = Z := by
 rw [← hv] at hc6 hg6
 refine ⟨(hmx.step k hkl _ _ hown hc6.ofDrew fun q hq => ?_).congr fun j hj => ?_, ?_, ?_⟩
 ·simp only [Value.ownBlock, Option.some.injEq] at hq
  subst hq; exact hg6
 ·by_cases hjk : j = k
  ·subst hjk
   simp only [if_true, rowP, Nat.lt_irrefl, if_false, Nat.lt_succ_self, List.range_succ, List.map_append, List.map_cons, List.map_nil]
   rw [hT, hZ]
  ·simp only [if_neg hjk, rowP]
   have : j < k + 1 ↔ j < k := by omega
   simp only [this]
 ·have h1 : Chg (NewB w.heap.size) w w5 := hch.trans (hcx.mono fun q hq x => by have := hch.size; unfold NewB at x ⊢; omega)
  exact (h1.trans (hc6.ofDrew.mono fun q hq x => ((hmx.own k hkl).lt q x).1)).setCell (a := ⟨w.heap.size, k, none⟩) (fun _ => Nat.le_refl _) _
 ·simp [here, hZ]

set_option maxHeartbeats 2000000 in
set_option maxRecDepth 100000 in
theorem flow_any (v1 v2 : Value) (c bf : List Int) (n : Nat) (A1 A2 : Nat → Prop) (w : World) (h1 : IsSl w A1 v1 c) (h2 : IsSl w A2 v2 bf) (hr : RightLine c bf) (hn : n ≤ 2000) :
    Calls Tryz.prog 199 #[v1, v2, .int .i64 n] w fun e w' => ∃ v, e = .returned v ∧ IsSl w' (fun k => w.heap.size ≤ k) v ((List.range c.length).map fun k => (List.range n).map fun q => pas c bf q k) ∧ Chg NoB w w' := by
  obtain ⟨a1, cap1, rfl, g1, g2⟩ := h1.shape
  obtain ⟨a2, cap2, rfl, g3, g4⟩ := h2.shape
  unfold maxLen at g2 g4
  have hlen := hr.len
  have hpos := hr.pos
  have hbl := hr.bl
  have HR := hid hr; clear hr
  go_enter Tryz.func199, Tryz.ntmps199
  go_wp2_with (at_make; refine wpl_make_raw w rfl _ _ 234 236 rfl (.slice none 0 0) 24 Tryz.underlying234 infoSlPass rfl (by decide) .i64 .i64 _ _ rfl rfl c.length rfl rfl (by omega) ?_)
  have hst := Mat.start (α := Pass) w w.heap.size c.length 236 238 (Nat.le_refl _)
  obtain ⟨w0, hw0⟩ : ∃ w0, w0 = w.alloc (.cells (Array.replicate c.length (.slice none 0 0)) 236) := ⟨_, rfl⟩
  have hc0 : Chg NoB w w0 := by rw [hw0]; exact (Chg.refl _ _).alloc _
  rw [← hw0] at hst ⊢
  clear hw0
  go_loopw [8, 18] (fun _ i wr => ∃ (b : Nat) (V : Nat → Value), b ≤ n ∧ i = .int .i64 b ∧ Mat wr w.heap.size w.heap.size c.length 236 238 V (rowP c bf b 0) ∧ Chg (NewB w.heap.size) w wr)
    (fun _ i _ => n - (intOf i).toNat)
  case atStart => exact ⟨0, _, by omega, rfl, hst.congr fun k hk => by simp [rowP], hc0.any⟩
  case round =>
    obtain ⟨b, V, hb, rfl, hmat, hch⟩ := hrel
    by_cases hbn : b < n
    · obtain ⟨wo, rfl⟩ : ∃ wo : World, wo = wr := ⟨_, rfl⟩
      go_wp2_with fail
      go_loopw [9, 10, 11, 13, 23] (fun h _ _ _ i wr => ∃ (k : Nat) (V : Nat → Value), k ≤ c.length ∧ i = .int .i64 k ∧ h = .int .i64 (here c bf b k) ∧ Mat wr w.heap.size w.heap.size c.length 236 238 V (rowP c bf b k) ∧ Chg (NewB w.heap.size) w wr)
        (fun _ _ _ _ i _ => c.length - (intOf i).toNat)
      case atStart => exact ⟨0, _, by omega, rfl, rfl, hmat, hch⟩
      case round =>
        clear hmat hch
        obtain ⟨k, V, hk, rfl, rfl, hmat, hch⟩ := hrel
        by_cases hkl : k < c.length
        · have hszr := hch.size
          have hgl := hmat.lt
          obtain ⟨bc, oc, rfl, _, hcc⟩ := h1.ints (by omega)
          have hcell := hch.cellNew (Nat.le_refl _) (hcc k hkl)
          have hbd := pas_bd HR.out b k hkl
          have hck := HR.out.c1 k hkl
          have hac : at' c k = c[k] := by simp [at', hkl]
          rw [hac] at hbd hck
          obtain ⟨T, hT⟩ : ∃ T, T = (pas c bf b k).taken := ⟨_, rfl⟩
          obtain ⟨Z, hZ⟩ : ∃ Z, Z = (pas c bf b k).left := ⟨_, rfl⟩
          rw [← hT, ← hZ] at hbd
          have HT := hid hT; clear hT
          have HZ := hid hZ; clear hZ
          have HAC := hid hac; clear hac
          have HCC := hid hcc; clear hcc
          go_upto_if 31 with (fail)
          go_cut [] (fun wx => PBlk wx wr.heap.size T 0 ∧ Chg (NewB wr.heap.size) wr wx)
          case first =>
            have htk := pas_taken c bf b k
            rw [← HT.out] at htk
            by_cases hb0 : 0 < b
            · rw [if_neg (by omega)] at htk
              obtain ⟨q, rfl⟩ : ∃ q, b = q + 1 := ⟨b - 1, by omega⟩
              simp only [Nat.add_sub_cancel] at htk
              have HTK := hid htk; clear htk
              have hVk : (rowP c bf (q + 1) k k).length = q + 1 := by simp [rowP]
              have hok := hmat.own k hkl
              obtain ⟨ak, capk, hav, _, _⟩ := hok.shape
              rw [hav] at hok
              obtain ⟨gk, rfl, hgk1, hgk2⟩ := hok.head (by omega)
              have hov := hmat.cell k hkl
              rw [hav] at hov
              have hpk := (hok.pcell q (by omega)).2
              have e1 : (rowP c bf (q + 1) k k)[q]'(by omega) = pas c bf q k := by simp [rowP]
              rw [e1] at hpk
              rw [hVk] at hov
              clear e1 hVk hav
              go_wp2_with fail
              go_meet
              case rel =>
                rw [HTK.out]
                exact ⟨PBlk.new _ _ _, (Chg.refl _ _).alloc _⟩
            · rw [if_pos (by omega)] at htk
              have HTK := hid htk; clear htk
              go_wp2_with fail
              go_meet
              case rel =>
                rw [HTK.out]
                exact ⟨PBlk.new _ _ _, (Chg.refl _ _).alloc _⟩
          case rest =>
            obtain ⟨hpb, hcx⟩ := hcut
            obtain ⟨f0, f1, f2, f3⟩ := hpb.facts
            have hszx := hcx.size
            have hcell1 := hcx.cellNew (Nat.le_refl _) hcell
            go_upto_if 53 with (fail)
            have hpb1 := hpb.set1 (T + c[k])
            have hcx1 : Chg (NewB wr.heap.size) wr (wc.setCell ⟨wr.heap.size, 1, none⟩ (.int .i64 (T + c[k]))) := hcx.setCell (a := ⟨wr.heap.size, 1, none⟩) (fun _ => Nat.le_refl _) _
            go_cut [] (fun wx => PBlk wx wr.heap.size T Z ∧ Chg (NewB wr.heap.size) wr wx)
            case first =>
              have hlf := pas_left c bf b k
              rw [← HT.out, ← HZ.out, HAC.out] at hlf
              obtain ⟨f0', f1', f2', f3'⟩ := hpb1.facts
              by_cases hk1 : k + 1 < c.length
              · rw [if_pos hk1] at hlf
                obtain ⟨bb, ob, rfl, _, hbc⟩ := h2.ints (by omega)
                have hbcell := hcx1.cell (hch.cellNew (Nat.le_refl _) (hbc k (by omega))) (Nat.not_le_of_lt (World.block_lt_of_cell? _ _ (hch.cellNew (Nat.le_refl _) (hbc k (by omega)))))
                have hb0k := HR.out.b0 k
                have hbk : at' bf k = bf[k]'(by omega) := by simp [at', show k < bf.length by omega]
                obtain ⟨r, hr⟩ : ∃ r : Nat, bf[k]'(by omega) = (r : Int) := ⟨(bf[k]'(by omega)).toNat, by omega⟩
                rw [hr] at hbcell hbk
                rw [hbk] at hlf
                clear hbc hb0k hbk hr f0 f1 f2 f3
                by_cases hr0 : r = 0
                · subst hr0
                  rw [if_pos (by simp)] at hlf
                  by_cases hb0 : 0 < b
                  · obtain ⟨q, rfl⟩ : ∃ q, b = q + 1 := ⟨b - 1, by omega⟩
                    rw [if_neg (by omega)] at hlf
                    simp only [Nat.add_sub_cancel] at hlf
                    have HLF := hid hlf; clear hlf
                    have hVn : (rowP c bf (q + 1) k (k + 1)).length = q + 1 := by simp [rowP]
                    have hon := hmat.own (k + 1) hk1
                    obtain ⟨an, capn, han, _, _⟩ := hon.shape
                    rw [han] at hon
                    obtain ⟨gn, rfl, hgn1, hgn2⟩ := hon.head (by omega)
                    have hovn := hcx1.cell (hmat.cell (k + 1) hk1) (Nat.not_le_of_lt hgl)
                    rw [han, hVn] at hovn
                    have hpn := hcx1.cell (hon.pcell q (by omega)).2 (Nat.not_le_of_lt hgn2)
                    have e1 : (rowP c bf (q + 1) k (k + 1))[q]'(by omega) = pas c bf q (k + 1) := by simp [rowP]
                    rw [e1] at hpn
                    clear e1 hVn han
                    go_wp2_with fail
                    go_region
                    all_goals go_wp2_with fail
                    all_goals go_meet
                    case rel => rw [HLF.out]; exact ⟨hpb1.set1 _, (hcx1.setCell (a := ⟨wr.heap.size, 1, none⟩) (fun _ => Nat.le_refl _) _).drew⟩
                  · rw [if_pos (by omega)] at hlf
                    have HLF := hid hlf; clear hlf
                    have hb1 : b = 0 := by omega
                    subst hb1
                    go_wp2_with fail
                    go_meet
                    case rel => rw [HLF.out]; exact ⟨hpb1, hcx1⟩
                · rw [if_neg (by omega)] at hlf
                  by_cases hrb : r ≤ b
                  · rw [if_pos (by omega)] at hlf
                    have hr1 : ((r : Int) == 0) = false := by simp; omega
                    obtain ⟨t, rfl⟩ : ∃ t, b = t + r := ⟨b - r, by omega⟩
                    have ht1 : ((t + r : Nat) : Int) - ((r : Int)) = (t : Int) := by omega
                    have ht2 : t + r - (r : Int).toNat = t := by omega
                    rw [ht2] at hlf
                    have HLF := hid hlf; clear hlf ht2
                    have hVn : (rowP c bf (t + r) k (k + 1)).length = t + r := by simp [rowP]
                    have hon := hmat.own (k + 1) hk1
                    obtain ⟨an, capn, han, _, _⟩ := hon.shape
                    rw [han] at hon
                    obtain ⟨gn, rfl, hgn1, hgn2⟩ := hon.head (by omega)
                    have hovn := hcx1.cell (hmat.cell (k + 1) hk1) (Nat.not_le_of_lt hgl)
                    rw [han, hVn] at hovn
                    have hpn := hcx1.cell (hon.pcell t (by omega)).1 (Nat.not_le_of_lt hgn2)
                    have e1 : (rowP c bf (t + r) k (k + 1))[t]'(by omega) = pas c bf t (k + 1) := by simp [rowP]
                    rw [e1] at hpn
                    clear e1 hVn han
                    go_wp2_with fail
                    go_region
                    all_goals go_wp2_with fail
                    all_goals go_meet
                    case rel => rw [HLF.out]; exact ⟨hpb1.set1 _, (hcx1.setCell (a := ⟨wr.heap.size, 1, none⟩) (fun _ => Nat.le_refl _) _).drew⟩
                  · rw [if_neg (by omega)] at hlf
                    have HLF := hid hlf; clear hlf
                    have hr1 : ((r : Int) == 0) = false := by simp; omega
                    go_wp2_with fail
                    go_meet
                    case rel => rw [HLF.out]; exact ⟨hpb1, hcx1⟩
              · rw [if_neg hk1] at hlf
                have HLF := hid hlf; clear hlf
                go_wp2_with fail
                go_meet
                case rel => rw [HLF.out]; exact ⟨hpb1, hcx1⟩
            case rest =>
              clear hpb hcx f0 f1 f2 f3 hcell1 hpb1 hcx1 hszx
              obtain ⟨hpb, hcx⟩ := hcut
              obtain ⟨w5, rfl⟩ : ∃ w5 : World, w5 = wc := ⟨_, rfl⟩
              obtain ⟨f0, f1, f2, f3⟩ := hpb.facts
              have hszx := hcx.size
              have hVk : (rowP c bf b k k).length = b := by simp [rowP]
              have hmx : Mat w5 w.heap.size w.heap.size c.length 236 238 V (rowP c bf b k) := hmat.keep hcx fun q _ h2 h3 => Nat.not_le_of_lt h2 h3
              have hok := hmx.own k hkl
              obtain ⟨ak, capk, hav, _, _⟩ := hok.shape
              have hov := hmx.cell k hkl
              have hfz := hmx.froz k
              rw [hav] at hok
              rw [hav, hVk] at hov
              rw [hVk] at hok
              obtain ⟨i0, hi, hz0, hz1, hz2⟩ := info_parts infoPass
              have HI := hid hi; clear hi
              have HZ0 := hid hz0; clear hz0
              have HZ1 := hid hz1; clear hz1
              have HZ2 := hid hz2; clear hz2
              have HOUT := hid (hmx.out k hkl)
              rw [hav, hVk] at HOUT
              have HAV : Hid (V k = .slice ak b capk) := by unfold Hid; rw [hav, hVk]
              clear hav
              have hpout : ¬ blk (.slice ak b capk) wr.heap.size := fun x => by
                have := ((hmat.own k hkl).lt wr.heap.size (by rw [HAV.out]; exact x)).2
                omega
              have HPO := hid hpout; clear hpout
              have hlo5 : w.heap.size ≤ w5.heap.size := by omega
              have hlt5 : w.heap.size < w5.heap.size := hmx.lt
              have hVk' : (rowP c bf b k k).length ≤ 1000000000 := by omega
              have hHV := hid hVk; clear hVk
              go_wp2_with fail
              go_region_law ((refine step_append1 (α := Pass) w5.drew #[.int .i64 T, .int .i64 Z] rfl (.tmp 107) (.tmp 109) 236 238 rfl i0 (.agg #[.int .i64 0, .int .i64 0]) 16 Tryz.underlying236 HI.out HZ0.out HZ1.out HZ2.out rfl (by decide) w.heap.size (.slice ak b capk) (rowP c bf b k k) ⟨T, Z⟩ hok hlo5 hVk' ⟨rfl, rfl⟩ rfl rfl rfl ?_; intro g6 cap6 w6 hown6 hc6 hg6 hl6; have hov6 := hc6.cell hov (fun x => HOUT.out x); have hfz6 := (hc6.froz (a := ⟨w.heap.size, k, none⟩) hlt5 (fun x => HOUT.out x)).trans hfz; have hp6 := hc6.cell f1 (fun x => HPO.out x)))
              all_goals go_wp2_with fail
              all_goals
                have hfs := flow_step hkl hmx HT.out HZ.out HAV.out hown6 hc6 hg6 hch hcx
                go_roundw
                case rel => exact ⟨k + 1, _, by omega, by go_num, by rw [hfs.2.2], hfs.1, hfs.2.1⟩
                case measure => simp [intOf]; omega
        · go_wp2_with fail
          go_roundw
          case rel => exact ⟨b + 1, V, by omega, by go_num, hmat.congr fun j hj => by simp [rowP, show j < k by omega], hch⟩
          case measure => simp [intOf]; omega
    · obtain rfl : b = n := by omega
      go_wp2_with fail
      go_ret
      refine ⟨_, rfl, ?_, hch.mono fun q h1 h2 => by unfold NewB at h2; omega⟩
      have := hmat.isSl (by simp only [maxLen]; omega)
      have e : rowP c bf b 0 = fun k => (List.range b).map fun q => pas c bf q k := by funext k; simp [rowP]
      rwa [e] at this
end Go.Proofs.YtaaokimiadfidaaGreatDoor
namespace Go.Proofs.YtaaokimiadfidaaGreatDoor
open Go.RowKit
set_option linter.unusedVariables false
set_option linter.unusedSimpArgs false

theorem any_false {lo hi : Int} {xs : List Int} (h : xs.any (outB lo hi) = false) : ∀ k, k < xs.length → lo ≤ at' xs k ∧ at' xs k ≤ hi := by
 intro k hk
 rw [List.any_eq_false] at h
 have := h xs[k] (List.getElem_mem _)
 simp only [outB, Bool.or_eq_true, decide_eq_true_eq, not_or] at this
 simp only [at', List.getD, List.getElem?_eq_getElem hk, Option.getD_some]
 omega

theorem flowF_right {c b : List Int} {n : Int} (h : flowF c b n = 0) : RightLine c b ∧ 1 ≤ n ∧ n ≤ 2000 := by
 unfold flowF at h
 by_cases hc : cycF c ≠ 0
 ·rw [if_pos hc] at h; exact absurd h hc
 ·rw [if_neg hc] at h
  have hc' : cycF c = 0 := by simpa using hc
  unfold cycF at hc'
  by_cases h0 : c.length = 0
  ·rw [if_pos h0] at hc'; omega
  ·rw [if_neg h0] at hc'
   by_cases h6 : 6 < c.length
   ·rw [if_pos h6] at hc'; omega
   ·rw [if_neg h6] at hc'
    cases ha : c.any (outB 1 10000000) with
    | true => rw [ha] at hc'; simp at hc'
    | false =>
     by_cases hl : (b.length : Int) ≠ c.length - 1
     ·rw [if_pos hl] at h; omega
     ·rw [if_neg hl] at h
      cases hb : b.any (outB 0 2000) with
      | true => rw [hb] at h; simp at h
      | false =>
       cases hn : outB 1 2000 n with
       | true => rw [hn] at h; simp at h
       | false =>
        simp only [outB, Bool.or_eq_false_iff, decide_eq_false_iff_not] at hn
        refine ⟨⟨by omega, by omega, any_false ha, fun k => ?_, by omega⟩, by omega, by omega⟩
        by_cases hk : k < b.length
        ·exact (any_false hb k hk).1
        ·simp [at', List.getD, List.getElem?_eq_none (show b.length ≤ k by omega)]

theorem IsSl.rows {α : Type} [Enc α] {w : World} {A : Nat → Prop} {a : Option Addr} {n cap : Nat} {xs : List (List α)} (h : IsSl w A (.slice a n cap) xs) (hp : 0 < xs.length) :
  ∃ b off, a = some ⟨b, off, none⟩ ∧ A b ∧ ∀ i, (hi : i < xs.length) → ∃ v, w.cell? ⟨b, off + i, none⟩ = some v ∧ IsSl w A v xs[i] := by
 obtain ⟨b, off, ha, hb, hc⟩ := h.cells.2 hp
 refine ⟨b, off, ha, hb, fun i hi => ?_⟩
 have := hc i hi
 simpa [Enc.Is, Enc.sz] using this
theorem IsSl.passes {w : World} {A : Nat → Prop} {a : Option Addr} {n cap : Nat} {xs : List Pass} (h : IsSl w A (.slice a n cap) xs) (hp : 0 < xs.length) :
  ∃ b off, a = some ⟨b, off, none⟩ ∧ A b ∧ ∀ i, (hi : i < xs.length) → w.cell? ⟨b, off + i * 2, none⟩ = some (.int .i64 xs[i].taken) ∧ w.cell? ⟨b, off + i * 2 + 1, none⟩ = some (.int .i64 xs[i].left) := by
 obtain ⟨b, off, ha, hb, hc⟩ := h.cells.2 hp
 refine ⟨b, off, ha, hb, fun i hi => ?_⟩
 have := hc i hi
 simpa [Enc.Is, Enc.sz] using this

def leaves (c bf : List Int) (n : Nat) : List Int := (List.range n).map fun q => (pas c bf q (c.length - 1)).left
def leavesF (c bf : List Int) (n : Int) : List Int := if flowF c bf n = 0 then leaves c bf n.toNat else []

set_option maxHeartbeats 1000000 in
theorem leave_any (v1 v2 : Value) (c bf : List Int) (n : Int) (A1 A2 : Nat → Prop) (w : World) (h1 : IsSl w A1 v1 c) (h2 : IsSl w A2 v2 bf) :
  Calls Tryz.prog 87 #[v1, v2, .int .i64 n] w fun e w' => ∃ v, e = .returned (.tuple #[v, .int .i64 (flowF c bf n)]) ∧ IsSl w' (fun k => w.heap.size ≤ k) v (leavesF c bf n) ∧ Chg NoB w w' := by
 have HF := hid (flowFault_any v1 v2 c bf n A1 A2 w h1 h2)
 by_cases hf : flowF c bf n = 0
 ·obtain ⟨hr, hn1, hn2⟩ := flowF_right hf
  obtain ⟨m, rfl⟩ : ∃ m : Nat, n = m := ⟨n.toNat, by omega⟩
  have HL : Hid (leavesF c bf m = leaves c bf m) := by unfold Hid; rw [leavesF, if_pos hf]; simp
  have HFL : Hid (∀ w1, Chg NoB w w1 → _) := hid fun w1 (hc : Chg NoB w w1) => flow_any v1 v2 c bf m A1 A2 w1 (h1.keepN hc) (h2.keepN hc) hr (by omega)
  have hpos := hr.pos
  have hlen := hr.len
  rw [hf] at HF ⊢
  have HR := hid hr; clear hr hf
  go_enter Tryz.func87, Tryz.ntmps87
  go_wp2_with fail
  refine HF.out.mono ?_
  rintro e w1 ⟨rfl, hc1⟩
  go_wp2_with fail
  refine (HFL.out w1 hc1).mono ?_
  rintro e w2 ⟨v, rfl, hv, hc2⟩
  obtain ⟨a, cap, rfl, g1, g2⟩ := hv.shape
  obtain ⟨b, off, rfl, hb, hrows⟩ := hv.rows (by simp; omega)
  obtain ⟨vr, hcell, hrow⟩ := hrows (c.length - 1) (by simp; omega)
  obtain ⟨ar, capr, rfl, g3, g4⟩ := hrow.shape
  simp only [List.getElem_map, List.getElem_range, List.length_map, List.length_range] at hcell hrow g1 g3 ⊢
  have hc12 := hc1.trans hc2
  have hsz2 := hc12.size
  go_wp2_with fail
  go_loopw [10, 12, 31] (fun v _ i wr => ∃ (j : Nat), j ≤ m ∧ i = .int .i64 j ∧ Own wr w2.heap.size 3 v ((List.range j).map fun q => (pas c bf q (c.length - 1)).left) ∧ Chg (NewB w2.heap.size) w2 wr)
   (fun _ _ i _ => m - (intOf i).toNat)
  case atStart => exact ⟨0, by omega, rfl, Own.nil _ _ _, Chg.refl _ _⟩
  case round =>
   obtain ⟨j, hj, rfl, hown, hch⟩ := hrel
   have hszr := hch.size
   by_cases hjm : j < m
   ·obtain ⟨br, offr, rfl, _, hps⟩ := hrow.passes (by simp; omega)
    obtain ⟨p0, p1⟩ := hps j (by simp; omega)
    simp only [List.getElem_map, List.getElem_range] at p0 p1
    have p0' := hch.cellNew (Nat.le_refl _) p0
    have p1' := hch.cellNew (Nat.le_refl _) p1
    clear hps p0 p1
    obtain ⟨X, hX⟩ : ∃ X, X = (pas c bf j (c.length - 1)).left := ⟨_, rfl⟩
    obtain ⟨Y, hY⟩ : ∃ Y, Y = (pas c bf j (c.length - 1)).taken := ⟨_, rfl⟩
    rw [← hX] at p1'
    rw [← hY] at p0'
    have HX := hid hX; clear hX hY
    obtain ⟨av, capv, hv', _, _⟩ := hown.shape
    simp only [List.length_map, List.length_range] at hv'
    subst hv'
    have hal := hown.keep (S := NoB) ((Chg.refl NoB wr).alloc (.cells #[.int .i64 Y, .int .i64 X] 238)) (fun _ _ _ x => x)
    go_wp2_with (at_builtin; refine wpl_append_intB (wr.alloc (.cells #[.int .i64 Y, .int .i64 X] 238)) rfl _ _ 22 3 rfl Tryz.underlying22 infoInt w2.heap.size _ _ _ hal (by simp; omega) (by simp; omega) _ (by simp) j (by simp) rfl rfl ?_; intro g cap' w3 hown3 hc3 hg3 hlg)
    have hc23 : Chg (NewB w2.heap.size) w2 w3 := (hch.trans ((Chg.refl _ wr).alloc _)).trans (hc3.mono fun q hq x => (hal.lt q x).1)
    go_roundw
    case rel => exact ⟨j + 1, by omega, by go_num, by rw [List.range_succ, List.map_append]; simpa [HX.out] using hown3, hc23⟩
    case measure => simp [intOf]; omega
   ·obtain rfl : j = m := by omega
    go_wp2_with fail
    go_ret2
    exact ⟨_, rfl, by rw [HL.out]; exact hown.isSl.low fun q hq _ => by omega, hc12.trans (hch.mono fun q h1 h2 => by unfold NewB at h2; omega)⟩
 ·have hb : (flowF c bf n != 0) = true := by simp [hf]
  have HL : Hid (leavesF c bf n = []) := by unfold Hid; rw [leavesF, if_neg hf]
  clear hf
  go_enter Tryz.func87, Tryz.ntmps87
  go_wp2_with fail
  refine HF.out.mono ?_
  rintro e w1 ⟨rfl, hc1⟩
  go_wp2_with fail
  go_ret2
  exact ⟨_, rfl, by rw [HL.out]; exact IsSl.nil _ _, hc1⟩
end Go.Proofs.YtaaokimiadfidaaGreatDoor
namespace Go.Proofs.YtaaokimiadfidaaGreatDoor
open Go.RowKit
set_option linter.unusedVariables false
set_option linter.unusedSimpArgs false

theorem lined_flow : flowF [10, 30] [0] 2 = 0 := by decide +kernel
theorem lined_leaves : leavesF [10, 30] [0] 2 = [40, 70] := by
 rw [leavesF, if_pos lined_flow]
 have a00 : (pas [10, 30] [0] 0 0).taken = 0 := by rw [pas_taken]; simp [here]
 have b00 : (pas [10, 30] [0] 0 0).left = 10 := by rw [pas_left, a00]; simp [at']
 have a01 : (pas [10, 30] [0] 0 1).taken = 10 := by rw [pas_taken]; simp [here, b00]
 have b01 : (pas [10, 30] [0] 0 1).left = 40 := by rw [pas_left, a01]; simp [at']
 have a10 : (pas [10, 30] [0] 1 0).taken = 10 := by rw [pas_taken]; simp [here, b00]; decide
 have b10 : (pas [10, 30] [0] 1 0).left = 40 := by rw [pas_left, a10]; simp [at', b01]; decide
 have a11 : (pas [10, 30] [0] 1 1).taken = 40 := by rw [pas_taken]; simp [here, b10, b01]
 have b11 : (pas [10, 30] [0] 1 1).left = 70 := by rw [pas_left, a11]; simp [at']
 simp [leaves, List.range_succ, b01, b11]

end Go.Proofs.YtaaokimiadfidaaGreatDoor
namespace Go.Proofs.YtaaokimiadfidaaGreatDoor
open Go.RowKit
set_option linter.unusedVariables false
set_option linter.unusedSimpArgs false

theorem isSl_of_rep {w : World} {Z : Nat → Prop} {xs : List Int} {v : Value} (h : Rep w Z (avInts xs) v) : IsSl w Z v xs := by
 change Rep w Z (.im xs.length 1 fun j => avI (xs.getD j 0)) v at h
 generalize hn : xs.length = n at h
 cases h with
 | nil => exact .inl ⟨rfl, List.eq_nil_of_length_eq_zero hn⟩
 | im n sz f b off cap c e u hZ h1 h2 hb hc hr =>
  refine .inr ⟨b, off, cap, c, e, by rw [hn], hZ, by omega, h2, hb, fun i hi => ?_⟩
  show c[off + i * 1 + 0]? = some (.int .i64 xs[i])
  have k1 := hc i (by omega)
  have k2 := (hr i (by omega)).eq_v
  rw [k2] at k1
  simpa [hi] using k1
theorem rep_of_isSl {w : World} {A : Nat → Prop} {v : Value} {xs : List Int} (h : IsSl w A v xs) : Rep w A (avInts xs) v := by
 rcases h with ⟨rfl, rfl⟩ | ⟨b, off, cap, c, e, rfl, hb, hl, hm, hh, hi⟩
 ·exact .nil _ _
 ·refine .im _ 1 _ b off cap c e (fun j => .int .i64 (xs.getD j 0)) hb hl hm hh (fun j hj => ?_) fun j hj => .v _
  have : c[off + j * 1 + 0]? = some (.int .i64 (xs[j]'(by omega))) := hi j (by omega)
  have hj' : j < xs.length := by omega
  simpa [hj'] using this
theorem argsLLv {x y : AV} {u : Value} {w : World} {A : Nat → Prop} {us : Array Value} (h : Args w A [x, y, .v u] us) : ∃ v1 v2, us = #[v1, v2, u] ∧ Rep w (fun b => b < w.heap.size ∧ A b) x v1 ∧ Rep w (fun b => b < w.heap.size ∧ A b) y v2 := by
 obtain ⟨h1, h2⟩ := h
 have e2 := (h2 2 (by simp)).eq_v
 refine ⟨us.getD 0 undef, us.getD 1 undef, ?_, h2 0 (by simp), h2 1 (by simp)⟩
 apply Array.ext (by simpa using h1)
 intro i hi hi'
 simp at hi'
 rw [h1] at hi
 match i, hi' with
 | 0, _ => simp [Array.getD_eq_getD_getElem?, h1]
 | 1, _ => simp [Array.getD_eq_getD_getElem?, h1]
 | 2, _ => simpa [Array.getD_eq_getD_getElem?, h1] using e2
theorem line_Leave_S {c b : List Int} {n : Int} : SpecN Tryz.prog 87 [avInts c, avInts b, avI n] (fun y => y = .tup [avInts (leavesF c b n), avI (flowF c b n)]) := by
 intro w us ha
 obtain ⟨v1, v2, rfl, q1, q2⟩ := argsLLv ha
 refine (leave_any v1 v2 c b n _ _ w (isSl_of_rep q1) (isSl_of_rep q2)).mono ?_
 rintro e w' ⟨v, rfl, hv, hc⟩
 refine ⟨_, _, rfl, rfl, .tup _ _ rfl fun j hj => ?_, hc, trivial⟩
 match j, hj with
 | 0, _ => exact (rep_of_isSl hv).keep fun b hb hl => ⟨rfl, hl, fun h => absurd h (Nat.not_lt.2 hb)⟩
 | 1, _ => exact .v _
end Go.Proofs.YtaaokimiadfidaaGreatDoor
namespace Go.Proofs.YtaaokimiadfidaaGreatDoor
open Go.RowKit
set_option linter.unusedVariables false
set_option linter.unusedSimpArgs false
set_option maxRecDepth 100000 in
theorem rk_errs {xs : List Int} (hl : xs.length ≤ 1000000000) :
  SpecN Tryz.prog 64 [avInts xs] (fun y => y = avI (errsF xs)) := by
 refine SpecN.of_VCN Tryz.func64 rfl Tryz.ntmps64 (Nle rfl) fun w A hB => ?_
 have hnew : True := trivial
 refine VC.sr ?_
 refine VO.ma rfl rfl rfl rfl ?_
 refine VO.nil ?_
 refine VC.seq ?_
 refine VC.sr ?_
 refine VO.mv rfl rfl rfl rfl ?_
 refine VO.val rfl rfl (OpV.len_im rfl Tryz.underlying174 rfl) ?_
 refine VO.mv rfl rfl rfl rfl ?_
 refine VO.nil ?_
 refine VC.block ?_
 refine VC.loopK [(5, _), (6, _)] ⟨rfl, rfl, trivial⟩ ({q : Nat // q ≤ xs.length ∧ ∀ j, j < q → xs.getD j 0 = 0}) (fun (iZ : {q : Nat // q ≤ xs.length ∧ ∀ j, j < q → xs.getD j 0 = 0}) => match iZ with | ⟨q, hq, hn⟩ => [(7, avI (q : Int))]) (fun (iZ : {q : Nat // q ≤ xs.length ∧ ∀ j, j < q → xs.getD j 0 = 0}) => match iZ with | ⟨q, hq, hn⟩ => []) (fun (iZ : {q : Nat // q ≤ xs.length ∧ ∀ j, j < q → xs.getD j 0 = 0}) => match iZ with | ⟨q, hq, hn⟩ => 0) (fun (iZ : {q : Nat // q ≤ xs.length ∧ ∀ j, j < q → xs.getD j 0 = 0}) => match iZ with | ⟨q, hq, hn⟩ => xs.length - q) ⟨0, Nat.zero_le _, fun j hj => absurd hj (Nat.not_lt_zero j)⟩ (Le.mk hB [] ⟨rfl, rfl, rfl, trivial⟩ rfl rfl (Nat.le_refl _)) ?_
 rintro ⟨q, hq, hn⟩
 show VC _ _ _ _ ⟨[(7, avI (q : Int))] ++ [(5, _), (6, _)], [], 0⟩
 refine VC.sr ?_
 refine VO.val rfl rfl (OpV.lss rfl rfl rfl) ?_
 refine VO.nil ?_
 refine VC.seq ?_
 refine VC.cond rfl (fun aH1b => ?_) (fun aH1b => ?_)
 ·have aH1 := aH1b
  try simp only [qqT, qqF, qqN, qqM, qqL, qqE] at aH1
  refine VC.skip ?_
  refine VC.seq ?_
  refine VC.block ?_
  refine VC.sr ?_
  refine VO.val rfl rfl (OpV.indexAddr_1 rfl Tryz.underlying174 Tryz.sizeOf35 rfl rfl rfl (by omega)) ?_
  refine VO.val rfl rfl (OpV.load_at rfl hB OutW.no Tryz.isAgg35 rfl rfl) ?_
  refine VO.ma rfl rfl rfl rfl ?_
  refine VO.nil ?_
  refine VC.sr ?_
  refine VO.mv rfl rfl rfl rfl ?_
  refine VO.val rfl rfl (OpV.neq rfl rfl rfl) ?_
  refine VO.nil ?_
  refine VC.cond rfl (fun h1b => ?_) (fun h1b => ?_)
  ·have h1 := h1b
   try simp only [qqT, qqF, qqN, qqM, qqL, qqE] at h1
   refine VC.sr ?_
   refine VO.mv rfl rfl rfl rfl ?_
   refine VO.ma rfl rfl rfl rfl ?_
   refine VO.nil ?_
   refine VC.ret ?_
   exact Exists.intro _ (And.intro (RetN.one Tryz.results64 (ResN.v rfl)) (by rw [errsF_at (q := q) (by omega) hn h1]))
  ·have h1 := h1b
   try simp only [qqT, qqF, qqN, qqM, qqL, qqE] at h1
   refine VC.skip ?_
   refine VC.region ?_
   refine VO.val rfl rfl (OpV.add rfl rfl rfl (by unfold fits; omega)) ?_
   refine VO.mv rfl rfl rfl rfl ?_
   refine VO.nil ?_
   exact Exists.intro (⟨q + 1, by omega, lt_succ_cases hn ((by omega))⟩) (And.intro (Le.mk hB [] ⟨rfl, rfl, rfl, trivial⟩ rfl rfl (Nat.le_refl _)) (by first | omega | (show _ < _; omega) | (simp only []; omega)))
 ·have aH1 := aH1b
  try simp only [qqT, qqF, qqN, qqM, qqL, qqE] at aH1
  refine VC.exit ?_
  refine VC.sr ?_
  refine VO.ma rfl rfl rfl rfl ?_
  refine VO.nil ?_
  refine VC.ret ?_
  exact Exists.intro _ (And.intro (RetN.one Tryz.results64 (ResN.v rfl)) (by rw [errsF_none (fun j hj => hn j (by omega))]))
def rdL : List LookS := [⟨⟨#[98]⟩, ⟨#[99]⟩, 0, 1, true, ⟨#[109]⟩, ⟨#[110]⟩, ⟨#[114]⟩⟩]
theorem one_sz {α : Type} [Inhabited α] {f : α → ByteArray} {x : α} (h : (f x).size ≤ 1000000) (h0 : (f default).size ≤ 1000000) (i : Nat) : (f ([x].getD i default)).size ≤ 1000000 := by
 match i with
 | 0 => exact h
 | i + 1 => exact h0
theorem rdL_sm : SmLk rdL := ⟨by decide, one_sz (f := LookS.board) (by decide) (by decide), one_sz (f := LookS.name) (by decide) (by decide), one_sz (f := LookS.machine) (by decide) (by decide), one_sz (f := LookS.nozzle) (by decide) (by decide), one_sz (f := LookS.reel) (by decide) (by decide)⟩
theorem rdL_ok : millE rdL = 0 := by decide +kernel
theorem rdL_n : (millN rdL).1 = 1000000 := by decide +kernel
def rdP : List PaceS := [⟨⟨#[112]⟩, 10, []⟩]
def rdO : List OrdrS := [⟨⟨#[111]⟩, ⟨#[112]⟩, 3, 0, 5⟩]
theorem rdP_sm : SmPc rdP := ⟨by decide, one_sz (f := PaceS.product) (by decide) (by decide), fun i => by
 match i with
 | 0 => decide
 | i + 1 => show ([] : List NeedS).length ≤ _; decide, fun i j => by
 match i with
 | 0 => show (([] : List NeedS).getD j default).key.size ≤ _; simp; decide
 | i + 1 => show (([] : List NeedS).getD j default).key.size ≤ _; simp; decide⟩
theorem rdO_sm : SmOr rdO := ⟨by decide, one_sz (f := OrdrS.key) (by decide) (by decide), one_sz (f := OrdrS.product) (by decide) (by decide)⟩
theorem rd_sch : scheF rdP rdO [0] 1 0 = 0 := by decide +kernel
theorem rd_from : fromP rdP rdO [0] 1 0 0 = 1 := by decide +kernel
theorem rd_end : endP rdP rdO [0] 1 0 0 = 31 := by decide +kernel
theorem rd_times : timesR rdP rdO [0] 1 0 = [⟨1, 31⟩] := by
 rw [timesR, if_pos rd_sch]
 show [winP rdP rdO [0] 1 0 0] = _
 rw [winP, rd_from, rd_end]
theorem pace_nil {w : World} {Z : Nat → Prop} {u : Value} {a : ByteArray} {b : Int} (h : Rep w Z (.agg [avS a, avI b, .v (.slice none 0 0)]) u) : Rep w Z (avPc ⟨a, b, []⟩) u := by
 cases h with
 | agg cs us hl hr =>
  refine .agg _ us hl fun j hj => ?_
  match j, hj with
  | 0, _ => exact hr 0 (by simp)
  | 1, _ => exact hr 1 (by simp)
  | 2, _ =>
   have := hr 2 (by simp)
   show Rep w Z (.im 0 2 _) _
   rw [this.eq_v]; exact .nil _ _
set_option maxRecDepth 100000 in
set_option maxHeartbeats 4000000 in
theorem rk_ready   :
  SpecN Tryz.prog 38 [] (fun y => y = avB true) := by
 refine SpecN.of_VCN Tryz.func38 rfl Tryz.ntmps38 (Nle rfl) fun w A hB => ?_
 have hnew : True := trivial
 refine VC.sr ?_
 refine VO.ma rfl rfl rfl rfl ?_
 refine VO.nil ?_
 refine VC.sr ?_
 refine VO.val rfl rfl (OpV.build (pls := #[(0, 1), (1, 1), (2, 1), (3, 1), (4, 1)]) rfl Tryz.zeroValue187 Tryz.underlying187 (fun w => by kernel_rfl) rfl rfl) ?_
 refine VO.op rfl (OpE.buildSlice (zc := #[.string ⟨#[]⟩, .string ⟨#[]⟩, .int .i64 0, .int .i64 0, .int .i64 0]) rfl hB rfl Tryz.underlying122 Tryz.sizeOf187 Tryz.zeroValue187 (by decide) (by decide) (by kernel_rfl) rfl rfl ?_)
 refine VO.le _ (Le.recast (t := 13) (y := avL panL) rfl (fun w Z u h => Rep.rowL (xs := panL) rfl h)) ?_
 refine VO.val rfl rfl (OpV.build (pls := #[(0, 1), (1, 1), (2, 1), (3, 1)]) rfl Tryz.zeroValue124 Tryz.underlying124 (fun w => by kernel_rfl) rfl rfl) ?_
 refine VO.op rfl (OpE.call rfl hB rfl Tryz.call83 rfl (SpecN.spec (panel_Needs (p := panP) panP_sm)) ?_)
 rintro _ rfl
 refine VO.le _ (Le.recast (t := 15) (y := .tup [avL ([⟨⟨#[99, 97, 112]⟩, 1⟩] : List NeedS), avI 0]) rfl (fun w Z u h => by rw [← panP_needs, ← panP_ok]; exact h)) ?_
 refine VO.mv rfl rfl rfl rfl ?_
 refine VO.val rfl rfl (OpV.extract rfl rfl rfl) ?_
 refine VO.val rfl rfl (OpV.extract rfl rfl rfl) ?_
 refine VO.ma rfl rfl rfl rfl ?_
 refine VO.ma rfl rfl rfl rfl ?_
 refine VO.nil ?_
 refine VC.sr ?_
 refine VO.op rfl (OpE.buildSlice (zc := #[.string ⟨#[]⟩]) rfl hB rfl Tryz.underlying67 Tryz.sizeOf9 Tryz.zeroValue9 (by decide) (by decide) (by kernel_rfl) rfl rfl ?_)
 refine VO.le _ (Le.recast (t := 19) (y := avStrs loadS) rfl (fun w Z u h => Rep.strs (xs := loadS) rfl h)) ?_
 refine VO.op rfl (OpE.buildSlice (zc := #[.string ⟨#[]⟩]) rfl hB rfl Tryz.underlying67 Tryz.sizeOf9 Tryz.zeroValue9 (by decide) (by decide) (by kernel_rfl) rfl rfl ?_)
 refine VO.le _ (Le.recast (t := 20) (y := avStrs [⟨#[97]⟩]) rfl (fun w Z u h => Rep.strs (xs := [⟨#[97]⟩]) rfl h)) ?_
 refine VO.op rfl (OpE.buildSlice (zc := #[.string ⟨#[]⟩]) rfl hB rfl Tryz.underlying67 Tryz.sizeOf9 Tryz.zeroValue9 (by decide) (by decide) (by kernel_rfl) rfl rfl ?_)
 refine VO.le _ (Le.recast (t := 21) (y := avStrs [⟨#[98]⟩]) rfl (fun w Z u h => Rep.strs (xs := [⟨#[98]⟩]) rfl h)) ?_
 refine VO.op rfl (OpE.buildSlice (zc := #[.slice none 0 0, .slice none 0 0]) rfl hB rfl Tryz.underlying61 Tryz.sizeOf67 Tryz.zeroValue67 (by decide) (by decide) (by kernel_rfl) rfl rfl ?_)
 refine VO.le _ (Le.recast (t := 22) (y := avM loadP) rfl (fun w Z u h => Rep.listM (xs := loadP) rfl h)) ?_
 refine VO.op rfl (OpE.call rfl hB rfl Tryz.call141 rfl (SpecN.spec (setup_Total load_sms load_smss)) ?_)
 rintro _ rfl
 refine VO.le _ (Le.recast (t := 23) (y := .tup [avI 2, avI 0]) rfl (fun w Z u h => by rw [load_two, load_ok] at h; exact h)) ?_
 refine VO.mv rfl rfl rfl rfl ?_
 refine VO.val rfl rfl (OpV.extract rfl rfl rfl) ?_
 refine VO.val rfl rfl (OpV.extract rfl rfl rfl) ?_
 refine VO.ma rfl rfl rfl rfl ?_
 refine VO.ma rfl rfl rfl rfl ?_
 refine VO.nil ?_
 refine VC.sr ?_
 refine VO.op rfl (OpE.buildSlice (zc := #[.int .i64 0, .int .i64 0]) rfl hB rfl Tryz.underlying22 Tryz.sizeOf3 Tryz.zeroValue3 (by decide) (by decide) (by kernel_rfl) rfl rfl ?_)
 refine VO.le _ (Le.lits (t := 27) (xs := [10, 30]) rfl rfl) ?_
 refine VO.op rfl (OpE.buildSlice (zc := #[.int .i64 0]) rfl hB rfl Tryz.underlying22 Tryz.sizeOf3 Tryz.zeroValue3 (by decide) (by decide) (by kernel_rfl) rfl rfl ?_)
 refine VO.le _ (Le.lits (t := 28) (xs := [0]) rfl rfl) ?_
 refine VO.op rfl (OpE.call rfl hB rfl Tryz.call87 rfl (SpecN.spec (line_Leave_S)) ?_)
 rintro _ rfl
 refine VO.le _ (Le.recast (t := 29) (y := .tup [avInts [40, 70], avI 0]) rfl (fun w Z u h => by rw [lined_leaves, lined_flow] at h; exact h)) ?_
 refine VO.mv rfl rfl rfl rfl ?_
 refine VO.val rfl rfl (OpV.extract rfl rfl rfl) ?_
 refine VO.val rfl rfl (OpV.extract rfl rfl rfl) ?_
 refine VO.ma rfl rfl rfl rfl ?_
 refine VO.ma rfl rfl rfl rfl ?_
 refine VO.nil ?_
 refine VC.sr ?_
 refine VO.val rfl rfl (OpV.build (pls := #[(0, 1), (1, 1), (2, 1), (3, 1), (4, 1), (5, 1), (6, 1), (7, 1)]) rfl Tryz.zeroValue33 Tryz.underlying33 (fun w => by kernel_rfl) rfl rfl) ?_
 refine VO.op rfl (OpE.buildSlice (zc := #[.string ⟨#[]⟩, .string ⟨#[]⟩, .int .i64 0, .int .i64 0, .bool false, .string ⟨#[]⟩, .string ⟨#[]⟩, .string ⟨#[]⟩]) rfl hB rfl Tryz.underlying26 Tryz.sizeOf33 Tryz.zeroValue33 (by decide) (by decide) (by kernel_rfl) rfl rfl ?_)
 refine VO.le _ (Le.recast (t := 34) (y := avL rdL) rfl (fun w Z u h => Rep.rowL (xs := rdL) rfl h)) ?_
 refine VO.op rfl (OpE.call rfl hB rfl Tryz.call137 rfl (SpecN.spec (inspect_Million rdL_sm)) ?_)
 rintro _ rfl
 refine VO.le _ (Le.recast (t := 35) (y := .tup [.agg [avI 1000000, avI ((millN rdL).2 : Int)], avI 0]) rfl (fun w Z u h => by rw [rdL_n, rdL_ok] at h; exact h)) ?_
 refine VO.mv rfl rfl rfl rfl ?_
 refine VO.val rfl rfl (OpV.extract rfl rfl rfl) ?_
 refine VO.val rfl rfl (OpV.extract rfl rfl rfl) ?_
 refine VO.op rfl (OpE.alloc rfl hB rfl Tryz.zeroValue39 rfl ?_)
 intro g7
 refine VO.op rfl (OpE.store (i := 0) rfl hB rfl Tryz.sizeOf39 rfl rfl rfl rfl rfl rfl (Nle rfl) trivial ?_)
 refine VO.ma rfl rfl rfl rfl ?_
 refine VO.nil ?_
 refine VC.sr ?_
 refine VO.val rfl rfl (OpV.build (pls := #[(0, 1), (1, 1), (2, 1)]) rfl Tryz.zeroValue137 Tryz.underlying137 (fun w => by kernel_rfl) rfl rfl) ?_
 refine VO.le _ (Le.recast (t := 39) (y := avPc ⟨⟨#[112]⟩, 10, []⟩) rfl (fun w Z u h => pace_nil h)) ?_
 refine VO.op rfl (OpE.buildSlice (zc := #[.string ⟨#[]⟩, .int .i64 0, .slice none 0 0]) rfl hB rfl Tryz.underlying73 Tryz.sizeOf137 Tryz.zeroValue137 (by decide) (by decide) (by kernel_rfl) rfl rfl ?_)
 refine VO.le _ (Le.recast (t := 40) (y := avL rdP) rfl (fun w Z u h => Rep.rowL (xs := rdP) rfl h)) ?_
 refine VO.val rfl rfl (OpV.build (pls := #[(0, 1), (1, 1), (2, 1), (3, 1), (4, 1)]) rfl Tryz.zeroValue89 Tryz.underlying89 (fun w => by kernel_rfl) rfl rfl) ?_
 refine VO.op rfl (OpE.buildSlice (zc := #[.string ⟨#[]⟩, .string ⟨#[]⟩, .int .i64 0, .int .i64 0, .int .i64 0]) rfl hB rfl Tryz.underlying75 Tryz.sizeOf89 Tryz.zeroValue89 (by decide) (by decide) (by kernel_rfl) rfl rfl ?_)
 refine VO.le _ (Le.recast (t := 42) (y := avL rdO) rfl (fun w Z u h => Rep.rowL (xs := rdO) rfl h)) ?_
 refine VO.op rfl (OpE.buildSlice (zc := #[.int .i64 0]) rfl hB rfl Tryz.underlying22 Tryz.sizeOf3 Tryz.zeroValue3 (by decide) (by decide) (by kernel_rfl) rfl rfl ?_)
 refine VO.le _ (Le.lits (t := 43) (xs := [0]) rfl rfl) ?_
 refine VO.op rfl (OpE.call rfl hB rfl Tryz.call89 rfl (SpecN.spec (plan_Times rdP_sm rdO_sm (by decide))) ?_)
 rintro _ rfl
 refine VO.le _ (Le.recast (t := 44) (y := .tup [avL ([⟨1, 31⟩] : List WinS), avI 0]) rfl (fun w Z u h => by rw [rd_times, rd_sch] at h; exact h)) ?_
 refine VO.mv rfl rfl rfl rfl ?_
 refine VO.val rfl rfl (OpV.extract rfl rfl rfl) ?_
 refine VO.val rfl rfl (OpV.extract rfl rfl rfl) ?_
 refine VO.ma rfl rfl rfl rfl ?_
 refine VO.ma rfl rfl rfl rfl ?_
 refine VO.nil ?_
 refine VC.sr ?_
 refine VO.mv rfl rfl rfl rfl ?_
 refine VO.mv rfl rfl rfl rfl ?_
 refine VO.mv rfl rfl rfl rfl ?_
 refine VO.mv rfl rfl rfl rfl ?_
 refine VO.mv rfl rfl rfl rfl ?_
 refine VO.op rfl (OpE.buildSlice (zc := #[.int .i64 0, .int .i64 0, .int .i64 0, .int .i64 0, .int .i64 0]) rfl hB rfl Tryz.underlying174 Tryz.sizeOf35 Tryz.zeroValue35 (by decide) (by decide) (by kernel_rfl) rfl rfl ?_)
 refine VO.le _ (Le.lits (t := 52) (xs := [0, 0, 0, 0, 0]) rfl rfl) ?_
 refine VO.op rfl (OpE.call rfl hB rfl Tryz.call64 rfl (SpecN.spec (rk_errs (by decide))) ?_)
 rintro _ rfl
 refine VO.val rfl rfl (OpV.eql rfl rfl rfl) ?_
 refine VO.le _ (Le.boolT (t := 54) rfl (decide_eq_true rfl)) ?_
 refine VO.mv rfl rfl rfl rfl ?_
 refine VO.opY rfl rfl rfl rfl rfl ?_
 refine OpE.val (W := NoB) (OpV.move (.inl rfl) rfl) rfl ?_
 refine VO.opY rfl rfl rfl rfl rfl ?_
 refine OpE.val (W := NoB) (OpV.len_im rfl Tryz.underlying77 rfl) rfl ?_
 refine VO.opY rfl rfl rfl rfl rfl ?_
 refine OpE.val (W := NoB) (OpV.eql rfl rfl rfl) rfl ?_
 refine VO.le _ (Le.boolT (t := 58) rfl (decide_eq_true rfl)) ?_
 refine VO.val rfl rfl (OpV.pickT rfl rfl rfl rfl rfl) ?_
 refine VO.mv rfl rfl rfl rfl ?_
 refine VO.opY rfl rfl rfl rfl rfl ?_
 refine OpE.val (W := NoB) (OpV.move (.inl rfl) rfl) rfl ?_
 refine VO.opY rfl rfl rfl rfl rfl ?_
 refine OpE.val (W := NoB) (OpV.eql rfl rfl rfl) rfl ?_
 refine VO.le _ (Le.boolT (t := 62) rfl (decide_eq_true rfl)) ?_
 refine VO.val rfl rfl (OpV.pickT rfl rfl rfl rfl rfl) ?_
 refine VO.mv rfl rfl rfl rfl ?_
 refine VO.opY rfl rfl rfl rfl rfl ?_
 refine OpE.val (W := NoB) (OpV.move (.inl rfl) rfl) rfl ?_
 refine VO.opY rfl rfl rfl rfl rfl ?_
 refine OpE.val (W := NoB) (OpV.len_im rfl Tryz.underlying22 rfl) rfl ?_
 refine VO.opY rfl rfl rfl rfl rfl ?_
 refine OpE.val (W := NoB) (OpV.eql rfl rfl rfl) rfl ?_
 refine VO.le _ (Le.boolT (t := 67) rfl (decide_eq_true rfl)) ?_
 refine VO.val rfl rfl (OpV.pickT rfl rfl rfl rfl rfl) ?_
 refine VO.mv rfl rfl rfl rfl ?_
 refine VO.opY rfl rfl rfl rfl rfl ?_
 refine OpE.val (W := NoB) (OpV.fieldAddrO 0 rfl Tryz.underlying39 rfl rfl Tryz.sizeOf3 rfl) rfl ?_
 refine VO.opY rfl rfl rfl rfl rfl ?_
 refine OpE.val (W := NoB) (OpV.load_own (i := 0) rfl hB Tryz.isAgg3 rfl rfl rfl (fun h => h)) rfl ?_
 refine VO.opY rfl rfl rfl rfl rfl ?_
 refine OpE.val (W := NoB) (OpV.eql rfl rfl rfl) rfl ?_
 refine VO.le _ (Le.boolT (t := 72) rfl (decide_eq_true rfl)) ?_
 refine VO.val rfl rfl (OpV.pickT rfl rfl rfl rfl rfl) ?_
 refine VO.mv rfl rfl rfl rfl ?_
 refine VO.opY rfl rfl rfl rfl rfl ?_
 refine OpE.val (W := NoB) (OpV.move (.inl rfl) rfl) rfl ?_
 refine VO.opY rfl rfl rfl rfl rfl ?_
 refine OpE.val (W := NoB) (OpV.len_im rfl Tryz.underlying133 rfl) rfl ?_
 refine VO.opY rfl rfl rfl rfl rfl ?_
 refine OpE.val (W := NoB) (OpV.eql rfl rfl rfl) rfl ?_
 refine VO.le _ (Le.boolT (t := 77) rfl (decide_eq_true rfl)) ?_
 refine VO.val rfl rfl (OpV.pickT rfl rfl rfl rfl rfl) ?_
 refine VO.mv rfl rfl rfl rfl ?_
 refine VO.opY rfl rfl rfl rfl rfl ?_
 refine OpE.val (W := NoB) (OpV.move (.inl rfl) rfl) rfl ?_
 refine VO.opY rfl rfl rfl rfl rfl ?_
 refine OpE.val (W := NoB) (OpV.indexAddr_E rfl Tryz.underlying133 Tryz.sizeOf139 rfl rfl rfl (by show 0 < 1; decide)) rfl ?_
 refine VO.opY rfl rfl rfl rfl rfl ?_
 refine OpE.val (W := NoB) (OpV.fieldAddr_atO 1 rfl Tryz.underlying139 rfl rfl Tryz.sizeOf3 rfl rfl) rfl ?_
 refine VO.opY rfl rfl rfl rfl rfl ?_
 refine OpE.val (W := NoB) (OpV.load_at rfl hB OutW.no Tryz.isAgg3 rfl rfl) rfl ?_
 refine VO.opY rfl rfl rfl rfl rfl ?_
 refine OpE.val (W := NoB) (OpV.eql rfl rfl rfl) rfl ?_
 refine VO.le _ (Le.boolT (t := 84) rfl (decide_eq_true rfl)) ?_
 refine VO.val rfl rfl (OpV.pickT rfl rfl rfl rfl rfl) ?_
 refine VO.ma rfl rfl rfl rfl ?_
 refine VO.nil ?_
 refine VC.ret ?_
 exact Exists.intro _ (And.intro (RetN.one Tryz.results38 (ResN.v rfl)) (rfl))
end Go.Proofs.YtaaokimiadfidaaGreatDoor
namespace Go.Proofs.YtaaokimiadfidaaGreatDoor
open Go.RowKit
set_option linter.unusedVariables false
set_option linter.unusedSimpArgs false
theorem kt_2 (a b : Int) : errsF [a, b] = if a ≠ 0 then a else b := by
 by_cases h1 : a = 0 <;> by_cases h2 : b = 0 <;> simp [errsF, h1, h2]
theorem stock_sm {l : List NeedS} (h : NsOk 4 l) : SmN l := ⟨by have := h.1; omega, fun i => by have := partK_size (h.getD i); omega⟩
theorem kits_part {p : List PaceS} {o : List OrdrS} (hp : ∀ x ∈ p, PcOk 5 x) : ∀ y ∈ kitsL p o, y.key ∈ partK := fun y hy => by
 obtain ⟨x, _, hy⟩ := List.mem_flatMap.1 hy
 obtain ⟨n, hn, rfl⟩ := List.mem_map.1 hy
 have hx : PcOk 5 (paceO p x.product) := by
  unfold paceO
  cases hf : p.find? (fun z => sEq z.product x.product) with
  | none => exact ⟨by decide, Nat.zero_le _, fun y hy => by cases hy⟩
  | some z => exact hp z (List.mem_of_find?_eq_some hf)
 exact hx.2.2 n hn
theorem shortR_max {p : List PaceS} {o : List OrdrS} {st : List NeedS} (hp : ∀ x ∈ p, PcOk 5 x) : (shortR p o st).length ≤ 6 := by
 unfold shortR
 split
 ·have h1 := shortL_len (kitsL p o) st
  have h2 := keys_bd (kits_part (o := o) hp)
  have h3 : partK.length = 6 := rfl
  omega
 ·exact Nat.zero_le _
theorem covE_max {p : List PaceS} {o : List OrdrS} {st : List NeedS} : (covE p o st).length ≤ o.length := by
 unfold covE
 split
 ·unfold covL
  rw [(srtB_perm _).length_eq, covR]
  have key : ∀ (l : List Int) (m : List (ByteArray × Int)) (c : List ByteArray), (l.foldl (covS p o) (m, c)).2.length ≤ c.length + l.length := by
   intro l
   induction l with
   | nil => intro m c; simp
   | cons i l ih =>
    intro m c
    rw [List.foldl_cons]
    cases h : covT (m, c).1 (kitL p (o.getD i.toNat default)) with
    | true => rw [covS_t h]; have := ih m c; simp only [List.length_cons]; omega
    | false => rw [covS_f h]; have := ih (subP m (kitL p (o.getD i.toNat default))) (c ++ [(o.getD i.toNat default).key]); rw [List.length_append, List.length_singleton] at this; simp only [List.length_cons]; omega
  have := key (dueL o) (amtP st) []
  rw [dueL_len] at this
  simpa using this
 ·exact Nat.zero_le _
end Go.Proofs.YtaaokimiadfidaaGreatDoor
namespace Go.Proofs.YtaaokimiadfidaaGreatDoor
open Go.RowKit
set_option linter.unusedVariables false
set_option linter.unusedSimpArgs false
set_option maxRecDepth 100000 in
theorem rk_errsC {xs : List Int} (hl : xs.length ≤ 1000000000) :
  SpecN Tryz.prog 64 [avInts xs] (fun y => y = avI (errsF xs)) := by
 refine SpecN.of_VCN Tryz.func64 rfl Tryz.ntmps64 (Nle rfl) fun w A hB => ?_
 have hnew : True := trivial
 refine VC.sr ?_
 refine VO.ma rfl rfl rfl rfl ?_
 refine VO.nil ?_
 refine VC.seq ?_
 refine VC.sr ?_
 refine VO.mv rfl rfl rfl rfl ?_
 refine VO.val rfl rfl (OpV.len_im rfl Tryz.underlying174 rfl) ?_
 refine VO.mv rfl rfl rfl rfl ?_
 refine VO.nil ?_
 refine VC.block ?_
 refine VC.loopK [(5, _), (6, _)] ⟨rfl, rfl, trivial⟩ ({q : Nat // q ≤ xs.length ∧ ∀ j, j < q → xs.getD j 0 = 0}) (fun (iZ : {q : Nat // q ≤ xs.length ∧ ∀ j, j < q → xs.getD j 0 = 0}) => match iZ with | ⟨q, hq, hn⟩ => [(7, avI (q : Int))]) (fun (iZ : {q : Nat // q ≤ xs.length ∧ ∀ j, j < q → xs.getD j 0 = 0}) => match iZ with | ⟨q, hq, hn⟩ => []) (fun (iZ : {q : Nat // q ≤ xs.length ∧ ∀ j, j < q → xs.getD j 0 = 0}) => match iZ with | ⟨q, hq, hn⟩ => 0) (fun (iZ : {q : Nat // q ≤ xs.length ∧ ∀ j, j < q → xs.getD j 0 = 0}) => match iZ with | ⟨q, hq, hn⟩ => xs.length - q) ⟨0, Nat.zero_le _, fun j hj => absurd hj (Nat.not_lt_zero j)⟩ (Le.mk hB [] ⟨rfl, rfl, rfl, trivial⟩ rfl rfl (Nat.le_refl _)) ?_
 rintro ⟨q, hq, hn⟩
 show VC _ _ _ _ ⟨[(7, avI (q : Int))] ++ [(5, _), (6, _)], [], 0⟩
 refine VC.sr ?_
 refine VO.val rfl rfl (OpV.lss rfl rfl rfl) ?_
 refine VO.nil ?_
 refine VC.seq ?_
 refine VC.cond rfl (fun aH1b => ?_) (fun aH1b => ?_)
 ·have aH1 := aH1b
  try simp only [qqT, qqF, qqN, qqM, qqL, qqE] at aH1
  refine VC.skip ?_
  refine VC.seq ?_
  refine VC.block ?_
  refine VC.sr ?_
  refine VO.val rfl rfl (OpV.indexAddr_1 rfl Tryz.underlying174 Tryz.sizeOf35 rfl rfl rfl (by omega)) ?_
  refine VO.val rfl rfl (OpV.load_at rfl hB OutW.no Tryz.isAgg35 rfl rfl) ?_
  refine VO.ma rfl rfl rfl rfl ?_
  refine VO.nil ?_
  refine VC.sr ?_
  refine VO.mv rfl rfl rfl rfl ?_
  refine VO.val rfl rfl (OpV.neq rfl rfl rfl) ?_
  refine VO.nil ?_
  refine VC.cond rfl (fun h1b => ?_) (fun h1b => ?_)
  ·have h1 := h1b
   try simp only [qqT, qqF, qqN, qqM, qqL, qqE] at h1
   refine VC.sr ?_
   refine VO.mv rfl rfl rfl rfl ?_
   refine VO.ma rfl rfl rfl rfl ?_
   refine VO.nil ?_
   refine VC.ret ?_
   exact Exists.intro _ (And.intro (RetN.one Tryz.results64 (ResN.v rfl)) (by rw [errsF_at (q := q) (by omega) hn h1]))
  ·have h1 := h1b
   try simp only [qqT, qqF, qqN, qqM, qqL, qqE] at h1
   refine VC.skip ?_
   refine VC.region ?_
   refine VO.val rfl rfl (OpV.add rfl rfl rfl (by unfold fits; omega)) ?_
   refine VO.mv rfl rfl rfl rfl ?_
   refine VO.nil ?_
   exact Exists.intro (⟨q + 1, by omega, lt_succ_cases hn ((by omega))⟩) (And.intro (Le.mk hB [] ⟨rfl, rfl, rfl, trivial⟩ rfl rfl (Nat.le_refl _)) (by first | omega | (show _ < _; omega) | (simp only []; omega)))
 ·have aH1 := aH1b
  try simp only [qqT, qqF, qqN, qqM, qqL, qqE] at aH1
  refine VC.exit ?_
  refine VC.sr ?_
  refine VO.ma rfl rfl rfl rfl ?_
  refine VO.nil ?_
  refine VC.ret ?_
  exact Exists.intro _ (And.intro (RetN.one Tryz.results64 (ResN.v rfl)) (by rw [errsF_none (fun j hj => hn j (by omega))]))
set_option maxRecDepth 100000 in
set_option maxHeartbeats 4000000 in
theorem rightOrders_K {p : Nat} {L : List Int} {m : Nat} (hm : m ≤ 20) :
  SpecT Tryz.prog (TT p L) (fun b => b = p) 63 [sp p, avI (m : Int)] 2000 (fun y => ∃ (pc : List PaceS) (o : List OrdrS), (SmPc pc ∧ o.length ≤ m ∧ OOk o ∧ bothF pc o = 0 ∧ ∀ x ∈ pc, PcOk 5 x) ∧ y = .tup [avL pc, avL o]) := by
 refine SpecT.of_VC Tryz.func63 rfl Tryz.ntmps63 (Nle rfl) (low := (fun b => b ≤ p)) (fun w A k h => h.ok) fun w A k hk hB => ?_
 have hnew : True := trivial
 refine VC.sr ?_
 refine VO.ma rfl rfl rfl rfl ?_
 refine VO.ma rfl rfl rfl rfl ?_
 refine VO.nil ?_
 refine VC.seq ?_
 refine VC.sr ?_
 refine VO.mv rfl rfl rfl rfl ?_
 refine VO.nil ?_
 refine VC.block ?_
 refine VC.loopK [(0, _), (1, _)] ⟨rfl, rfl, trivial⟩ ({q : Nat // q ≤ 8}) (fun (iZ : {q : Nat // q ≤ 8}) => match iZ with | ⟨q, hq⟩ => [(8, avI (q : Int))]) (fun (iZ : {q : Nat // q ≤ 8}) => match iZ with | ⟨q, hq⟩ => []) (fun (iZ : {q : Nat // q ≤ 8}) => match iZ with | ⟨q, hq⟩ => k + 200 * q) (fun (iZ : {q : Nat // q ≤ 8}) => match iZ with | ⟨q, hq⟩ => 8 - q) ⟨0, by decide⟩ (Le.mk hB [] ⟨rfl, rfl, rfl, trivial⟩ rfl rfl (show k ≤ k + 200 * 0 by omega)) ?_
 rintro ⟨q, hq⟩
 show VC _ _ _ _ ⟨[(8, avI (q : Int))] ++ [(0, _), (1, _)], [], k + 200 * q⟩
 refine VC.sr ?_
 refine VO.val rfl rfl (OpV.lss rfl rfl rfl) ?_
 refine VO.nil ?_
 refine VC.seq ?_
 refine VC.cond rfl (fun aH1b => ?_) (fun aH1b => ?_)
 ·have aH1 := aH1b
  try simp only [qqT, qqF, qqN, qqM, qqL, qqE] at aH1
  refine VC.skip ?_
  refine VC.seq ?_
  refine VC.block ?_
  refine VC.sr ?_
  refine VO.mv rfl rfl rfl rfl ?_
  refine VO.op rfl (OpE.callT' (k + 200 * q) rfl rfl hB rfl Tryz.call44 rfl (paces_T) (by omega) ?_)
  rintro _ ⟨pc, hpc, rfl⟩
  refine VO.ma rfl rfl rfl rfl ?_
  refine VO.nil ?_
  refine VC.sr ?_
  refine VO.mv rfl rfl rfl rfl ?_
  refine VO.mv rfl rfl rfl rfl ?_
  refine VO.op rfl (OpE.callT' (k + 200 * q + 100) rfl rfl hB rfl Tryz.call45 rfl (orders_M hm) (by omega) ?_)
  rintro _ ⟨o, ho, rfl⟩
  refine VO.ma rfl rfl rfl rfl ?_
  refine VO.nil ?_
  refine VC.sr ?_
  refine VO.mv rfl rfl rfl rfl ?_
  refine VO.mv rfl rfl rfl rfl ?_
  refine VO.op rfl (OpE.call rfl hB rfl Tryz.call50 rfl (SpecN.spec (rf_BothFault (PcOk.sm hpc.2 (by omega)) (ho.2.sm (by omega)))) ?_)
  rintro _ rfl
  refine VO.val rfl rfl (OpV.eql rfl rfl rfl) ?_
  refine VO.nil ?_
  refine VC.cond rfl (fun h1b => ?_) (fun h1b => ?_)
  ·have h1 := h1b
   try simp only [qqT, qqF, qqN, qqM, qqL, qqE] at h1
   refine VC.sr ?_
   refine VO.mv rfl rfl rfl rfl ?_
   refine VO.mv rfl rfl rfl rfl ?_
   refine VO.ma rfl rfl rfl rfl ?_
   refine VO.ma rfl rfl rfl rfl ?_
   refine VO.nil ?_
   refine VC.ret ?_
   exact Exists.intro _ (And.intro (RetV.two Tryz.results63 (ResV.tmp rfl) (ResV.tmp rfl)) (And.intro (⟨pc, o, ⟨PcOk.sm hpc.2 (by omega), ho.1, ho.2, by omega, hpc.2⟩, rfl⟩) ((show k + 200 * q + 100 + 100 ≤ k + 2000 by omega))))
  ·have h1 := h1b
   try simp only [qqT, qqF, qqN, qqM, qqL, qqE] at h1
   refine VC.skip ?_
   refine VC.region ?_
   refine VO.val rfl rfl (OpV.add rfl rfl rfl (by unfold fits; omega)) ?_
   refine VO.mv rfl rfl rfl rfl ?_
   refine VO.nil ?_
   exact Exists.intro (⟨q + 1, by omega⟩) (And.intro (Le.mk hB [] ⟨rfl, rfl, rfl, trivial⟩ rfl rfl (show k + 200 * q + 100 + 100 ≤ k + 200 * (q + 1) by omega)) (by first | omega | (show _ < _; omega) | (simp only []; omega)))
 ·have aH1 := aH1b
  try simp only [qqT, qqF, qqN, qqM, qqL, qqE] at aH1
  refine VC.exit ?_
  refine VC.sr ?_
  refine VO.ma rfl rfl rfl rfl ?_
  refine VO.ma rfl rfl rfl rfl ?_
  refine VO.nil ?_
  refine VC.le _ (Le.recast (t := 4) (y := avL ([] : List PaceS)) rfl (fun w Z u h => by rw [h.eq_v]; exact .nil _ _)) ?_
  refine VC.le _ (Le.recast (t := 5) (y := avL ([] : List OrdrS)) rfl (fun w Z u h => by rw [h.eq_v]; exact .nil _ _)) ?_
  refine VC.ret ?_
  exact Exists.intro _ (And.intro (RetV.two Tryz.results63 (ResV.tmp rfl) (ResV.tmp rfl)) (And.intro (⟨[], [], ⟨PcOk.sm (l := []) (fun x h => absurd h (by simp)) (by decide), Nat.zero_le _, (fun x h => absurd h (by simp)), rfl, fun x h => absurd h (by simp)⟩, rfl⟩) ((show k + 200 * q ≤ k + 2000 by omega))))
set_option maxRecDepth 100000 in
theorem slices_IsSorted_strC {xs : List ByteArray} (hl : xs.length ≤ 1000000000) (hs : ∀ i, 0 < i → i < xs.length → sLt (xs.getD i ByteArray.empty) (xs.getD (i - 1) ByteArray.empty) = false) :
  SpecN Tryz.prog 65 [avStrs xs] (fun y => y = avB true) := by
 refine SpecN.of_VCN Tryz.func65 rfl Tryz.ntmps65 (Nle rfl) fun w A hB => ?_
 have hnew : True := trivial
 refine VC.sr ?_
 refine VO.ma rfl rfl rfl rfl ?_
 refine VO.nil ?_
 refine VC.seq ?_
 refine VC.sr ?_
 refine VO.mv rfl rfl rfl rfl ?_
 refine VO.val rfl rfl (OpV.len_im rfl Tryz.underlying67 rfl) ?_
 refine VO.val rfl rfl (OpV.sub rfl rfl rfl (by unfold fits; omega)) ?_
 refine VO.ma rfl rfl rfl rfl ?_
 refine VO.nil ?_
 refine VC.block ?_
 refine VC.loopK [(0, _)] ⟨rfl, trivial⟩ ({z : Nat // z ≤ xs.length}) (fun (iZ : {z : Nat // z ≤ xs.length}) => match iZ with | ⟨z, hz⟩ => [(3, avI ((xs.length : Int) - 1 - (z : Int)))]) (fun (iZ : {z : Nat // z ≤ xs.length}) => match iZ with | ⟨z, hz⟩ => []) (fun (iZ : {z : Nat // z ≤ xs.length}) => match iZ with | ⟨z, hz⟩ => 0) (fun (iZ : {z : Nat // z ≤ xs.length}) => match iZ with | ⟨z, hz⟩ => xs.length - z) ⟨0, Nat.zero_le _⟩ (Le.mk hB [] ⟨(by show some (avI _) = some (avI _); congr 2; omega), rfl, trivial⟩ rfl rfl (Nat.le_refl _)) ?_
 rintro ⟨z, hz⟩
 show VC _ _ _ _ ⟨[(3, avI ((xs.length : Int) - 1 - (z : Int)))] ++ [(0, _)], [], 0⟩
 refine VC.seq ?_
 refine VC.sr ?_
 refine VO.mv rfl rfl rfl rfl ?_
 refine VO.val rfl rfl (OpV.gtr rfl rfl rfl) ?_
 refine VO.nil ?_
 refine VC.cond rfl (fun aH1b => ?_) (fun aH1b => ?_)
 ·have aH1 := aH1b
  try simp only [qqT, qqF, qqN, qqM, qqL, qqE] at aH1
  refine VC.skip ?_
  refine VC.seq ?_
  refine VC.block ?_
  refine VC.seq ?_
  refine VC.draw (fun _ => NoB) hB (by kernel_rfl) ?_
  refine VA.take (i := 0) rfl (by kernel_rfl) (by kernel_rfl) (by kernel_rfl) rfl rfl (OpV.move (.inl rfl) rfl) ?_
  refine VA.take (i := 1) rfl (by kernel_rfl) (by kernel_rfl) (by kernel_rfl) rfl rfl (OpV.move (.inl rfl) rfl) ?_
  refine VA.take (i := 2) rfl (by kernel_rfl) (by kernel_rfl) (by kernel_rfl) rfl rfl (OpV.indexAddr_1 rfl Tryz.underlying67 Tryz.sizeOf9 rfl rfl (show ((xs.length : Int) - 1 - (z : Int)) = ((xs.length - 1 - z : Nat) : Int) by omega) (by omega)) ?_
  refine VA.take (i := 3) rfl (by kernel_rfl) (by kernel_rfl) (by kernel_rfl) rfl rfl (OpV.load_at rfl hB OutW.wi0 Tryz.isAgg9 rfl rfl) ?_
  refine VA.take (i := 4) rfl (by kernel_rfl) (by kernel_rfl) (by kernel_rfl) rfl rfl (OpV.move (.inl rfl) rfl) ?_
  refine VA.take (i := 5) rfl (by kernel_rfl) (by kernel_rfl) (by kernel_rfl) rfl rfl (OpV.move (.inl rfl) rfl) ?_
  refine VA.take (i := 6) rfl (by kernel_rfl) (by kernel_rfl) (by kernel_rfl) rfl rfl (OpV.sub rfl rfl rfl (by unfold fits; omega)) ?_
  refine VA.take (i := 7) rfl (by kernel_rfl) (by kernel_rfl) (by kernel_rfl) rfl rfl (OpV.indexAddr_1 rfl Tryz.underlying67 Tryz.sizeOf9 rfl rfl (show ((xs.length : Int) - 1 - (z : Int)) - 1 = ((xs.length - 1 - z - 1 : Nat) : Int) by omega) (by omega)) ?_
  refine VA.take (i := 8) rfl (by kernel_rfl) (by kernel_rfl) (by kernel_rfl) rfl rfl (OpV.load_at rfl hB OutW.wi0 Tryz.isAgg9 rfl rfl) ?_
  refine VA.all (rs := [9]) (by kernel_rfl) (by decide) ?_
  refine ⟨⟨_, rfl, .inl rfl, ?_⟩, trivial⟩
  refine OpE.call rfl hB rfl Tryz.call171 rfl (SpecN.spec (cmp_Less_str)) ?_
  rintro _ rfl
  refine VA.done (by kernel_rfl) ?_
  refine VC.cond rfl (fun h1b => ?_) (fun h1b => ?_)
  ·have h1 := h1b
   try simp only [qqT, qqF, qqN, qqM, qqL, qqE] at h1
   exact VC.absurd (by have := hs (xs.length - 1 - z) (by omega) (by omega); rw [this] at h1b; cases h1b)
  ·have h1 := h1b
   try simp only [qqT, qqF, qqN, qqM, qqL, qqE] at h1
   refine VC.skip ?_
   refine VC.region ?_
   refine VO.mv rfl rfl rfl rfl ?_
   refine VO.val rfl rfl (OpV.sub rfl rfl rfl (by unfold fits; omega)) ?_
   refine VO.ma rfl rfl rfl rfl ?_
   refine VO.nil ?_
   exact Exists.intro (⟨z + 1, by omega⟩) (And.intro (Le.mk hB [] ⟨(by show some (avI _) = some (avI _); congr 2; omega), rfl, trivial⟩ rfl rfl (Nat.le_refl _)) (by first | omega | (show _ < _; omega) | (simp only []; omega)))
 ·have aH1 := aH1b
  try simp only [qqT, qqF, qqN, qqM, qqL, qqE] at aH1
  refine VC.exit ?_
  refine VC.sr ?_
  refine VO.ma rfl rfl rfl rfl ?_
  refine VO.nil ?_
  refine VC.ret ?_
  exact Exists.intro _ (And.intro (RetN.one Tryz.results65 (ResN.v rfl)) (rfl))
theorem kitOk {p : List PaceS} {o : List OrdrS} (hp : paceF p = 0) (ho : ordrF o = 0) : KitOk p o := by
 refine ⟨fun i hi y hy => (kit_bd hp (ordr_count ho hi) y hy).1, fun i hi => ?_⟩
 rw [kitL_keys]
 exact rise_nodup (stock_rise (pace_needs hp _))
theorem srtB_ord (xs : List ByteArray) : (srtB xs).Pairwise fun a b => sLt b a = false := by
 have h := le_srt xs
 unfold bysL at h
 rw [List.pairwise_map] at h
 exact h.imp fun {a b} hab => by have := le_sLt hab; simpa [bytesOf] using this
theorem srtB_adj (xs : List ByteArray) : ∀ i, 0 < i → i < (srtB xs).length → sLt ((srtB xs).getD i ByteArray.empty) ((srtB xs).getD (i - 1) ByteArray.empty) = false := fun i h0 hi => by
 have h := List.pairwise_iff_getElem.1 (srtB_ord xs) (i - 1) i (by omega) hi (by omega)
 rw [List.getD_eq_getElem?_getD, List.getElem?_eq_getElem hi, List.getD_eq_getElem?_getD, List.getElem?_eq_getElem (by omega)]
 exact h
theorem cov_idx {l : List ByteArray} {r q : Nat} (h : q < l.length) : (if q < l.length then r else 0) = r := if_pos h
theorem cov_next {f : ByteArray → List NeedS} {l : List ByteArray} {q : Nat} (h : q < l.length) : (l.take (q + 1)).flatMap f = (l.take q).flatMap f ++ f (l.getD q ByteArray.empty) := by
 rw [take_snocD h ByteArray.empty, List.flatMap_append]; simp
theorem subP_app (m : List (ByteArray × Int)) (a b : List NeedS) : subP m (a ++ b) = subP (subP m a) b := by simp [subP, List.foldl_append]
theorem hasO_at {o : List OrdrS} {i : Nat} (hi : i < o.length) : hasO o (o.getD i default).key = true := by
 unfold hasO
 refine List.any_eq_true.2 ⟨o[i], List.getElem_mem hi, ?_⟩
 rw [List.getD_eq_getElem?_getD, List.getElem?_eq_getElem hi]; exact sEq_refl _
structure CovW (p : List PaceS) (o : List OrdrS) (st : List NeedS) (c : List ByteArray) : Prop where
 kit : ∀ q, q < c.length → kitE p o (c.getD q ByteArray.empty) = 0
 left : ∀ q, q < c.length → ∀ r k, 0 ≤ mgetD (subP (subP (amtP st) ((c.take q).flatMap (kk0 p o))) ((kk0 p o (c.getD q ByteArray.empty)).take r)) k 0
 all : shortL (kitsL p o) st = [] → c.length = o.length
 len : c.length ≤ o.length
 ord : ∀ i, 0 < i → i < c.length → sLt (c.getD i ByteArray.empty) (c.getD (i - 1) ByteArray.empty) = false
theorem covW {p : List PaceS} {o : List OrdrS} {st : List NeedS} (h : stkE p o st = 0) : CovW p o st (covE p o st) := by
 obtain ⟨hb, hn⟩ := stk_ok h
 obtain ⟨hp, ho⟩ := both_ok hb
 have hc := covL_ok (kitOk hp ho) (ordr_rise (ordrsOk ho)) (fun y hy => (needs_bd hn y hy).1) (p := p) (o := o) (st := st)
 rw [covE, if_pos h]
 refine ⟨fun q hq => ?_, fun q hq r k => ?_, hc.all, hc.len, fun i h0 hi => ?_⟩
 ·obtain ⟨i, hi, e⟩ := hc.at_ ((covL p o st).getD q ByteArray.empty) (by rw [List.getD_eq_getElem?_getD, List.getElem?_eq_getElem hq]; exact List.getElem_mem hq)
  rw [e]; exact kitE_0 hb (hasO_at hi)
 ·have := hc.left q (by omega) r k
  rw [cov_idx hq, subP_app] at this
  exact this
 ·unfold covL at hi ⊢; exact srtB_adj _ i h0 hi
theorem cov_nil {p : List PaceS} {o : List OrdrS} {st : List NeedS} (h : stkE p o st = 0) (h0 : (shortR p o st).length = 0) : shortL (kitsL p o) st = [] := by
 rw [shortR, if_pos h] at h0
 exact List.eq_nil_of_length_eq_zero h0
theorem kk0_ok {p : List PaceS} {o : List OrdrS} (hp : paceF p = 0) (ho : ordrF o = 0) {k : ByteArray} (h : hasO o k = true) : (kk0 p o k).length ≤ 1000 ∧ ∀ y ∈ kk0 p o k, 0 ≤ y.count ∧ y.count ≤ 100000000 := by
 have hf : 0 ≤ fidx (fun y : OrdrS => sEq y.key k) o := by
  unfold hasO at h
  rw [← fidx_any] at h
  exact of_decide_eq_true h
 have hfa := (fidx_at (d := default) (p := fun x : OrdrS => sEq x.key k) (xs := o) hf).1
 exact ⟨kit_len hp, kit_bd hp (ordr_count ho hfa)⟩
theorem cov_bd {p : List PaceS} {o : List OrdrS} {st : List NeedS} {c : List ByteArray} (hw : CovW p o st c) (hn : needsF st 0 1000000000 = 0) {q : Nat} (hq : q < c.length) (r : Nat) (k : ByteArray) (hk : ∀ y ∈ (c.take q).flatMap (kk0 p o), 0 ≤ y.count) (hk2 : ∀ y ∈ (kk0 p o (c.getD q ByteArray.empty)).take r, 0 ≤ y.count) : mgetD (subP (subP (amtP st) ((c.take q).flatMap (kk0 p o))) ((kk0 p o (c.getD q ByteArray.empty)).take r)) k 0 ≤ 1000000000000 := by
 rw [subP_get, subP_get, amtP_get]
 have h1 := sumK_bd (c := 1000000000) (by decide) (fun y hy => needs_bd hn y hy) k
 have h2 := needsF_lenP hn
 have h3 := sumK_nn hk k
 have h4 := sumK_nn hk2 k
 omega
set_option maxRecDepth 100000 in
set_option maxHeartbeats 40000000 in
theorem kitsCovered_any (a0 : Option Addr) (cap0 : Nat) (L : List Int) (w : World) (hin : Inp w a0 L) :
  Calls Tryz.prog 6 #[.slice a0 L.length cap0] w fun e w' => e = .returned (.bool true) ∧ Chg NoB w w' := by
 refine law_calls Tryz.func6 rfl Tryz.ntmps6 (Nle rfl) Tryz.results6 ?_
 have hB := B0.ok w (fun _ => True) 121
 have hnew : True := trivial
 refine VC.sr ?_
 refine VO.ma rfl rfl rfl rfl ?_
 refine VO.nil ?_
 refine VC.sr ?_
 refine VO.mv rfl rfl rfl rfl ?_
 refine VO.val rfl rfl (OpV.build (pls := #[(0, 1), (1, 1)]) rfl Tryz.zeroValue25 Tryz.underlying25 (fun w => by kernel_rfl) rfl rfl) ?_
 refine VO.op rfl (OpE.box rfl hB rfl rfl rfl ?_)
 intro g
 refine VO.ma rfl rfl rfl rfl ?_
 refine VO.nil ?_
 refine VC.stream (i := 0) (sl := [(3, sp g)]) (by exact rfl) (by exact rfl) hin (by exact ⟨rfl, trivial⟩) (fun p hp => by simp at hp; subst hp; exact ⟨_, rfl⟩) (fun w1 hge hB => ?_)
 refine VC.sr ?_
 refine VO.mv rfl rfl rfl rfl ?_
 refine VO.op rfl (OpE.callT' (0) rfl rfl hB rfl Tryz.call63 rfl (rightOrders_K (m := 5) (by decide)) (by omega) ?_)
 rintro _ ⟨pc, o, hr, rfl⟩
 refine VO.mv rfl rfl rfl rfl ?_
 refine VO.val rfl rfl (OpV.extract rfl rfl rfl) ?_
 refine VO.val rfl rfl (OpV.extract rfl rfl rfl) ?_
 refine VO.ma rfl rfl rfl rfl ?_
 refine VO.ma rfl rfl rfl rfl ?_
 refine VO.nil ?_
 refine VC.sr ?_
 refine VO.mv rfl rfl rfl rfl ?_
 refine VO.op rfl (OpE.callT' (0 + 2000) rfl rfl hB rfl Tryz.call46 rfl (stock_T) (by omega) ?_)
 rintro _ ⟨st, hst, rfl⟩
 refine VO.ma rfl rfl rfl rfl ?_
 refine VO.nil ?_
 refine VC.seq ?_
 obtain ⟨hps, hol, hoo, hb0, hpk5⟩ := hr
 have hos := hoo.sm (by omega)
 have hss := stock_sm hst
 have hkp := kits_part (o := o) hpk5
 have hpk : partK.length = 6 := rfl
 have hpl := hps.len
 have hz2 := both_ok hb0
 have hk2 := shortR_max (o := o) (st := st) hpk5
 have hk3 := covE_max (p := pc) (o := o) (st := st)
 refine VC.le ⟨[(4, _), (5, _), (6, _)], [], 0 + 2000 + 30⟩ (Le.mk hB [] ⟨rfl, rfl, rfl, trivial⟩ rfl rfl (Nat.le_refl _)) ?_
 refine VC.region ?_
 refine VO.mv rfl rfl rfl rfl ?_
 refine VO.mv rfl rfl rfl rfl ?_
 refine VO.mv rfl rfl rfl rfl ?_
 refine VO.op rfl (OpE.call rfl hB rfl Tryz.call49 rfl (SpecN.spec (plan_Covered hps hos hss (by omega))) ?_)
 rintro _ rfl
 refine VO.mv rfl rfl rfl rfl ?_
 refine VO.val rfl rfl (OpV.extract rfl rfl rfl) ?_
 refine VO.val rfl rfl (OpV.extract rfl rfl rfl) ?_
 refine VO.ma rfl rfl rfl rfl ?_
 refine VO.ma rfl rfl rfl rfl ?_
 refine VO.nil ?_
 refine VC.sr ?_
 refine VO.mv rfl rfl rfl rfl ?_
 refine VO.mv rfl rfl rfl rfl ?_
 refine VO.mv rfl rfl rfl rfl ?_
 refine VO.op rfl (OpE.call rfl hB rfl Tryz.call48 rfl (SpecN.spec (plan_Short (ks := partK) hps hos hss hkp (by omega))) ?_)
 rintro _ rfl
 refine VO.mv rfl rfl rfl rfl ?_
 refine VO.val rfl rfl (OpV.extract rfl rfl rfl) ?_
 refine VO.val rfl rfl (OpV.extract rfl rfl rfl) ?_
 refine VO.ma rfl rfl rfl rfl ?_
 refine VO.ma rfl rfl rfl rfl ?_
 refine VO.nil ?_
 refine VC.seq ?_
 refine VC.sr ?_
 refine VO.mv rfl rfl rfl rfl ?_
 refine VO.mv rfl rfl rfl rfl ?_
 refine VO.op rfl (OpE.buildSlice (zc := #[.int .i64 0, .int .i64 0]) rfl hB rfl Tryz.underlying174 Tryz.sizeOf35 Tryz.zeroValue35 (by decide) (by decide) (by kernel_rfl) rfl rfl ?_)
 refine VO.le _ (Le.lits (t := 46) (xs := [stkE pc o st, stkE pc o st]) rfl rfl) ?_
 refine VO.op rfl (OpE.call rfl hB rfl Tryz.call64 rfl (SpecN.spec (rk_errsC (by simp))) ?_)
 rintro _ rfl
 refine VO.le _ (Le.recast (t := 47) (y := avI (stkE pc o st)) rfl (fun w Z u h => by rw [show errsF [stkE pc o st, stkE pc o st] = stkE pc o st from by rw [kt_2]; split <;> rfl] at h; exact h)) ?_
 refine VO.val rfl rfl (OpV.neq rfl rfl rfl) ?_
 refine VO.nil ?_
 refine VC.cond rfl (fun k0b => ?_) (fun k0b => ?_)
 ·have k0 := k0b
  try simp only [qqT, qqF, qqN, qqM, qqL, qqE] at k0
  refine VC.sr ?_
  refine VO.mv rfl rfl rfl rfl ?_
  refine VO.op rfl (OpE.call rfl hB rfl Tryz.call52 rfl (SpecN.spec (rf_StockFault hss)) ?_)
  rintro _ rfl
  refine VO.mv rfl rfl rfl rfl ?_
  refine VO.val rfl rfl (OpV.eql rfl rfl rfl) ?_
  refine VO.le _ (Le.boolT (t := 52) rfl (decide_eq_true (stkE_2 hb0).symm)) ?_
  refine VO.mv rfl rfl rfl rfl ?_
  refine VO.opY rfl rfl rfl rfl rfl ?_
  refine OpE.call rfl hB rfl Tryz.call38 rfl (SpecN.spec (rk_ready)) ?_
  rintro _ rfl
  refine VO.val rfl rfl (OpV.pickT rfl rfl rfl rfl rfl) ?_
  refine VO.ma rfl rfl rfl rfl ?_
  refine VO.nil ?_
  refine VC.ret ?_
  exact And.intro rfl rfl
 ·have k0 := k0b
  try simp only [qqT, qqF, qqN, qqM, qqL, qqE] at k0
  have hz : stkE pc o st = 0 := by omega
  have hs0 := stk_ok hz
  have hw := covW hz
  have hbd := needs_bd hs0.2
  have hsl := needsF_lenP hs0.2
  obtain ⟨C, hC⟩ : ∃ C, covE pc o st = C := ⟨_, rfl⟩
  rw [hC] at hw hk3
  refine VC.le _ (Le.recast (t := 7) (y := avStrs C) rfl (fun w Z u h => by rw [← hC]; exact h)) ?_
  refine VC.skip ?_
  refine VC.sr ?_
  refine VO.op rfl (OpE.makeMap (kvS) (eI) rfl hB rfl ?_)
  intro g56
  refine VO.ma rfl rfl rfl rfl ?_
  refine VO.nil ?_
  refine VC.seq ?_
  refine VC.sr ?_
  refine VO.mv rfl rfl rfl rfl ?_
  refine VO.val rfl rfl (OpV.len_im rfl Tryz.underlying77 rfl) ?_
  refine VO.mv rfl rfl rfl rfl ?_
  refine VO.nil ?_
  refine VC.block ?_
  refine VC.loopK [(4, _), (5, _), (7, _), (9, _), (11, _), (57, _), (58, _)] ⟨rfl, rfl, rfl, rfl, rfl, rfl, rfl, trivial⟩ ({s : Nat // s ≤ st.length}) (fun (iZ : {s : Nat // s ≤ st.length}) => match iZ with | ⟨s, hq⟩ => [(59, avI (s : Int))]) (fun (iZ : {s : Nat // s ≤ st.length}) => match iZ with | ⟨s, hq⟩ => [mapE kvS g56 eI (setP (st.take s))]) (fun (iZ : {s : Nat // s ≤ st.length}) => match iZ with | ⟨s, hq⟩ => 3000) (fun (iZ : {s : Nat // s ≤ st.length}) => match iZ with | ⟨s, hq⟩ => st.length - s) ⟨0, Nat.zero_le _⟩ (Le.mk hB [0] ⟨rfl, rfl, rfl, rfl, rfl, rfl, rfl, rfl, trivial⟩ rfl rfl (show 0 + 2000 + 30 ≤ 3000 by omega)) ?_
  rintro ⟨s, hq⟩
  show VC _ _ _ _ ⟨[(59, avI (s : Int))] ++ [(4, _), (5, _), (7, _), (9, _), (11, _), (57, _), (58, _)], [mapE kvS g56 eI (setP (st.take s))], 3000⟩
  refine VC.sr ?_
  refine VO.val rfl rfl (OpV.lss rfl rfl rfl) ?_
  refine VO.nil ?_
  refine VC.seq ?_
  refine VC.cond rfl (fun aH1b => ?_) (fun aH1b => ?_)
  ·have aH1 := aH1b
   try simp only [qqT, qqF, qqN, qqM, qqL, qqE] at aH1
   refine VC.skip ?_
   refine VC.seq ?_
   refine VC.block ?_
   refine VC.sr ?_
   refine VO.val rfl rfl (OpV.indexAddr_E rfl Tryz.underlying77 Tryz.sizeOf96 rfl rfl rfl (by omega)) ?_
   refine VO.val rfl rfl (OpV.loadK_at rfl hB OutW.no Tryz.isAgg96 Tryz.sizeOf96 rfl rfl) ?_
   refine VO.op rfl (OpE.alloc rfl hB rfl Tryz.zeroValue96 rfl ?_)
   intro g13
   refine VO.op rfl (OpE.store (i := 1) rfl hB rfl Tryz.sizeOf96 rfl rfl rfl rfl rfl rfl (Nle rfl) trivial ?_)
   refine VO.nil ?_
   refine VC.region ?_
   refine VO.mv rfl rfl rfl rfl ?_
   refine VO.val rfl rfl (OpV.fieldAddrO 0 rfl Tryz.underlying96 rfl rfl Tryz.sizeOf9 rfl) ?_
   refine VO.val rfl rfl (OpV.load_own (i := 1) rfl hB Tryz.isAgg9 rfl rfl rfl (fun h => h)) ?_
   refine VO.val rfl rfl (OpV.fieldAddrO 1 rfl Tryz.underlying96 rfl rfl Tryz.sizeOf3 rfl) ?_
   refine VO.val rfl rfl (OpV.load_own (i := 1) rfl hB Tryz.isAgg3 rfl rfl rfl (fun h => h)) ?_
   refine VO.op rfl (OpE.mapUpdate (i := 0) (xx := (st.getD s default).count) rfl hB rfl Tryz.underlying100 (KeyOk.str Tryz.underlying9) rfl (KeyE.v rfl) rfl rfl trivial ?_)
   refine VO.nil ?_
   refine VC.region ?_
   refine VO.val rfl rfl (OpV.add rfl rfl rfl (by unfold fits; omega)) ?_
   refine VO.mv rfl rfl rfl rfl ?_
   refine VO.nil ?_
   exact Exists.intro (⟨s + 1, by omega⟩) (And.intro (Le.mk hB [0] ⟨rfl, rfl, rfl, rfl, rfl, rfl, rfl, rfl, trivial⟩ rfl (by dsimp only; rw [setP_take (by omega)]; rfl) (show 3000 ≤ 3000 by omega)) (by first | omega | (show _ < _; omega) | (simp only []; omega)))
  ·have aH1 := aH1b
   try simp only [qqT, qqF, qqN, qqM, qqL, qqE] at aH1
   obtain rfl : s = st.length := by omega
   rw [setP_eq (stock_rise hs0.2) st.length (Nat.le_refl _), List.take_length]
   refine VC.exit ?_
   refine VC.seq ?_
   refine VC.sr ?_
   refine VO.mv rfl rfl rfl rfl ?_
   refine VO.val rfl rfl (OpV.len_im rfl Tryz.underlying67 rfl) ?_
   refine VO.mv rfl rfl rfl rfl ?_
   refine VO.nil ?_
   refine VC.block ?_
   refine VC.loopK [(4, _), (5, _), (7, _), (9, _), (11, _), (69, _), (70, _)] ⟨rfl, rfl, rfl, rfl, rfl, rfl, rfl, trivial⟩ ({q : Nat // q ≤ C.length}) (fun (iZ : {q : Nat // q ≤ C.length}) => match iZ with | ⟨q, hq1⟩ => [(71, avI (q : Int))]) (fun (iZ : {q : Nat // q ≤ C.length}) => match iZ with | ⟨q, hq1⟩ => [mapE kvS g56 eI (subP (amtP st) ((C.take q).flatMap (kk0 pc o)))]) (fun (iZ : {q : Nat // q ≤ C.length}) => match iZ with | ⟨q, hq1⟩ => 3000) (fun (iZ : {q : Nat // q ≤ C.length}) => match iZ with | ⟨q, hq1⟩ => C.length - q) ⟨0, Nat.zero_le _⟩ (Le.mk hB [0] ⟨rfl, rfl, rfl, rfl, rfl, rfl, rfl, rfl, trivial⟩ rfl (by dsimp only; rw [List.take_zero]; rfl) (show 3000 ≤ 3000 by omega)) ?_
   rintro ⟨q, hq1⟩
   show VC _ _ _ _ ⟨[(71, avI (q : Int))] ++ [(4, _), (5, _), (7, _), (9, _), (11, _), (69, _), (70, _)], [mapE kvS g56 eI (subP (amtP st) ((C.take q).flatMap (kk0 pc o)))], 3000⟩
   refine VC.sr ?_
   refine VO.val rfl rfl (OpV.lss rfl rfl rfl) ?_
   refine VO.nil ?_
   refine VC.seq ?_
   refine VC.cond rfl (fun aH2b => ?_) (fun aH2b => ?_)
   ·have aH2 := aH2b
    try simp only [qqT, qqF, qqN, qqM, qqL, qqE] at aH2
    refine VC.skip ?_
    refine VC.seq ?_
    refine VC.block ?_
    refine VC.seq ?_
    have hq1 : q < C.length := by omega
    have hke := hw.kit q hq1
    have hko := kk0_ok hz2.1 hz2.2 (kitE_ok hke).2
    have hkk : ∀ y ∈ (C.take q).flatMap (kk0 pc o), 0 ≤ y.count := fun y hy => by
     obtain ⟨k, hk, hy⟩ := List.mem_flatMap.1 hy
     obtain ⟨i, hi, rfl⟩ := List.getElem_of_mem hk
     rw [List.length_take] at hi
     have h1 := hw.kit i (by omega)
     rw [List.getD_eq_getElem?_getD, List.getElem?_eq_getElem (by omega)] at h1
     rw [List.getElem_take] at hy
     exact ((kk0_ok hz2.1 hz2.2 (kitE_ok h1).2).2 y hy).1
    refine VC.region ?_
    refine VO.val rfl rfl (OpV.indexAddr_1 rfl Tryz.underlying67 Tryz.sizeOf9 rfl rfl rfl (by omega)) ?_
    refine VO.val rfl rfl (OpV.load_at rfl hB OutW.no Tryz.isAgg9 rfl rfl) ?_
    refine VO.ma rfl rfl rfl rfl ?_
    refine VO.nil ?_
    refine VC.sr ?_
    refine VO.mv rfl rfl rfl rfl ?_
    refine VO.mv rfl rfl rfl rfl ?_
    refine VO.mv rfl rfl rfl rfl ?_
    refine VO.op rfl (OpE.call rfl hB rfl Tryz.call47 rfl (plan_Kit hps hos) ?_)
    rintro _ rfl
    refine VO.le _ (Le.recast (t := 79) (y := .tup [avL (kk0 pc o (C.getD q ByteArray.empty)), avI 0]) rfl (fun w Z u h => by rw [kitR_ok hke, hke] at h; exact h)) ?_
    refine VO.mv rfl rfl rfl rfl ?_
    refine VO.val rfl rfl (OpV.extract rfl rfl rfl) ?_
    refine VO.val rfl rfl (OpV.extract rfl rfl rfl) ?_
    refine VO.ma rfl rfl rfl rfl ?_
    refine VO.ma rfl rfl rfl rfl ?_
    refine VO.nil ?_
    refine VC.seq ?_
    refine VC.sr ?_
    refine VO.mv rfl rfl rfl rfl ?_
    refine VO.val rfl rfl (OpV.neq rfl rfl rfl) ?_
    refine VO.nil ?_
    refine VC.cond rfl (fun aH3b => ?_) (fun aH3b => ?_)
    ·have aH3 := aH3b
     try simp only [qqT, qqF, qqN, qqM, qqL, qqE] at aH3
     exact VC.absurd (by simp_all)
    ·have aH3 := aH3b
     try simp only [qqT, qqF, qqN, qqM, qqL, qqE] at aH3
     refine VC.skip ?_
     refine VC.sr ?_
     refine VO.mv rfl rfl rfl rfl ?_
     refine VO.val rfl rfl (OpV.len_im rfl Tryz.underlying77 rfl) ?_
     refine VO.mv rfl rfl rfl rfl ?_
     refine VO.nil ?_
     refine VC.block ?_
     refine VC.loopK [(4, _), (5, _), (7, _), (9, _), (11, _), (69, _), (70, _), (71, _), (84, _), (85, _)] ⟨rfl, rfl, rfl, rfl, rfl, rfl, rfl, rfl, rfl, rfl, trivial⟩ ({r : Nat // r ≤ (kk0 pc o (C.getD q ByteArray.empty)).length}) (fun (iZ : {r : Nat // r ≤ (kk0 pc o (C.getD q ByteArray.empty)).length}) => match iZ with | ⟨r, hq2⟩ => [(86, avI (r : Int))]) (fun (iZ : {r : Nat // r ≤ (kk0 pc o (C.getD q ByteArray.empty)).length}) => match iZ with | ⟨r, hq2⟩ => [mapE kvS g56 eI (subP (subP (amtP st) ((C.take q).flatMap (kk0 pc o))) ((kk0 pc o (C.getD q ByteArray.empty)).take r))]) (fun (iZ : {r : Nat // r ≤ (kk0 pc o (C.getD q ByteArray.empty)).length}) => match iZ with | ⟨r, hq2⟩ => 3000) (fun (iZ : {r : Nat // r ≤ (kk0 pc o (C.getD q ByteArray.empty)).length}) => match iZ with | ⟨r, hq2⟩ => (kk0 pc o (C.getD q ByteArray.empty)).length - r) ⟨0, Nat.zero_le _⟩ (Le.mk hB [0] ⟨rfl, rfl, rfl, rfl, rfl, rfl, rfl, rfl, rfl, rfl, rfl, trivial⟩ rfl (by dsimp only; rw [List.take_zero]; rfl) (show 3000 ≤ 3000 by omega)) ?_
     rintro ⟨r, hq2⟩
     show VC _ _ _ _ ⟨[(86, avI (r : Int))] ++ [(4, _), (5, _), (7, _), (9, _), (11, _), (69, _), (70, _), (71, _), (84, _), (85, _)], [mapE kvS g56 eI (subP (subP (amtP st) ((C.take q).flatMap (kk0 pc o))) ((kk0 pc o (C.getD q ByteArray.empty)).take r))], 3000⟩
     have hlo := hw.left q hq1 r
     have hlo2 := hw.left q hq1 (r + 1)
     have hup := fun k => cov_bd hw hs0.2 hq1 r k hkk (fun y hy => (hko.2 y (List.mem_of_mem_take hy)).1)
     have hnb := need_bd (by decide) hko.2 r
     refine VC.sr ?_
     refine VO.val rfl rfl (OpV.lss rfl rfl rfl) ?_
     refine VO.nil ?_
     refine VC.seq ?_
     refine VC.cond rfl (fun aH4b => ?_) (fun aH4b => ?_)
     ·have aH4 := aH4b
      try simp only [qqT, qqF, qqN, qqM, qqL, qqE] at aH4
      refine VC.skip ?_
      refine VC.seq ?_
      refine VC.block ?_
      refine VC.sr ?_
      refine VO.val rfl rfl (OpV.indexAddr_E rfl Tryz.underlying77 Tryz.sizeOf96 rfl rfl rfl (by omega)) ?_
      refine VO.val rfl rfl (OpV.loadK_at rfl hB OutW.no Tryz.isAgg96 Tryz.sizeOf96 rfl rfl) ?_
      refine VO.op rfl (OpE.alloc rfl hB rfl Tryz.zeroValue96 rfl ?_)
      intro g19
      refine VO.op rfl (OpE.store (i := 1) rfl hB rfl Tryz.sizeOf96 rfl rfl rfl rfl rfl rfl (Nle rfl) trivial ?_)
      refine VO.nil ?_
      refine VC.sr ?_
      refine VO.mv rfl rfl rfl rfl ?_
      refine VO.val rfl rfl (OpV.fieldAddrO 0 rfl Tryz.underlying96 rfl rfl Tryz.sizeOf9 rfl) ?_
      refine VO.val rfl rfl (OpV.load_own (i := 1) rfl hB Tryz.isAgg9 rfl rfl rfl (fun h => h)) ?_
      refine VO.val rfl rfl (OpV.lookup_own (i := 0) rfl hB Tryz.underlying100 (KeyOk.str Tryz.underlying9) Tryz.zeroValue3 rfl (KeyE.v rfl) rfl (fun h => h)) ?_
      refine VO.le _ (Le.recast (t := 93) (y := avI (mgetD (subP (subP (amtP st) ((C.take q).flatMap (kk0 pc o))) ((kk0 pc o (C.getD q ByteArray.empty)).take r)) ((kk0 pc o (C.getD q ByteArray.empty)).getD r default).key 0)) rfl (fun w Z u h => by unfold mgetD; revert h; cases mget (subP (subP (amtP st) ((C.take q).flatMap (kk0 pc o))) ((kk0 pc o (C.getD q ByteArray.empty)).take r)) ((kk0 pc o (C.getD q ByteArray.empty)).getD r default).key <;> exact id)) ?_
      refine VO.val rfl rfl (OpV.fieldAddrO 1 rfl Tryz.underlying96 rfl rfl Tryz.sizeOf3 rfl) ?_
      refine VO.val rfl rfl (OpV.load_own (i := 1) rfl hB Tryz.isAgg3 rfl rfl rfl (fun h => h)) ?_
      refine VO.val rfl rfl (OpV.sub rfl rfl rfl (by have h := hlo ((kk0 pc o (C.getD q ByteArray.empty)).getD r default).key; have h2 := hup ((kk0 pc o (C.getD q ByteArray.empty)).getD r default).key; unfold fits; omega)) ?_
      refine VO.op rfl (OpE.mapUpdate (i := 0) (xx := mgetD (subP (subP (amtP st) ((C.take q).flatMap (kk0 pc o))) ((kk0 pc o (C.getD q ByteArray.empty)).take r)) ((kk0 pc o (C.getD q ByteArray.empty)).getD r default).key 0 - ((kk0 pc o (C.getD q ByteArray.empty)).getD r default).count) rfl hB rfl Tryz.underlying100 (KeyOk.str Tryz.underlying9) rfl (KeyE.v rfl) rfl rfl trivial ?_)
      refine VO.nil ?_
      refine VC.seq ?_
      have hst2 := subP_take (m := subP (amtP st) ((C.take q).flatMap (kk0 pc o))) (l := kk0 pc o (C.getD q ByteArray.empty)) (q := r) (by omega)
      refine VC.region ?_
      refine VO.mv rfl rfl rfl rfl ?_
      refine VO.val rfl rfl (OpV.fieldAddrO 0 rfl Tryz.underlying96 rfl rfl Tryz.sizeOf9 rfl) ?_
      refine VO.val rfl rfl (OpV.load_own (i := 1) rfl hB Tryz.isAgg9 rfl rfl rfl (fun h => h)) ?_
      refine VO.val rfl rfl (OpV.lookup_own (i := 0) rfl hB Tryz.underlying100 (KeyOk.str Tryz.underlying9) Tryz.zeroValue3 rfl (KeyE.v rfl) rfl (fun h => h)) ?_
      refine VO.le _ (Le.recast (t := 100) (y := avI (mgetD (subP (subP (amtP st) ((C.take q).flatMap (kk0 pc o))) ((kk0 pc o (C.getD q ByteArray.empty)).take (r + 1))) ((kk0 pc o (C.getD q ByteArray.empty)).getD r default).key 0)) rfl (fun w Z u h => by rw [hst2, mgetD]; revert h; cases mget (mput (subP (subP (amtP st) ((C.take q).flatMap (kk0 pc o))) ((kk0 pc o (C.getD q ByteArray.empty)).take r)) ((kk0 pc o (C.getD q ByteArray.empty)).getD r default).key (mgetD (subP (subP (amtP st) ((C.take q).flatMap (kk0 pc o))) ((kk0 pc o (C.getD q ByteArray.empty)).take r)) ((kk0 pc o (C.getD q ByteArray.empty)).getD r default).key 0 - ((kk0 pc o (C.getD q ByteArray.empty)).getD r default).count)) ((kk0 pc o (C.getD q ByteArray.empty)).getD r default).key <;> exact id)) ?_
      refine VO.val rfl rfl (OpV.lss rfl rfl rfl) ?_
      refine VO.nil ?_
      refine VC.cond rfl (fun k5b => ?_) (fun k5b => ?_)
      ·have k5 := k5b
       try simp only [qqT, qqF, qqN, qqM, qqL, qqE] at k5
       exact VC.absurd (by have h := hlo2 ((kk0 pc o (C.getD q ByteArray.empty)).getD r default).key; omega)
      ·have k5 := k5b
       try simp only [qqT, qqF, qqN, qqM, qqL, qqE] at k5
       refine VC.skip ?_
       refine VC.region ?_
       refine VO.val rfl rfl (OpV.add rfl rfl rfl (by unfold fits; omega)) ?_
       refine VO.mv rfl rfl rfl rfl ?_
       refine VO.nil ?_
       exact Exists.intro (⟨r + 1, by omega⟩) (And.intro (Le.mk hB [0] ⟨rfl, rfl, rfl, rfl, rfl, rfl, rfl, rfl, rfl, rfl, rfl, trivial⟩ rfl (by dsimp only; rw [subP_take (by omega)]; rfl) (show 3000 ≤ 3000 by omega)) (by first | omega | (show _ < _; omega) | (simp only []; omega)))
     ·have aH4 := aH4b
      try simp only [qqT, qqF, qqN, qqM, qqL, qqE] at aH4
      obtain rfl : r = (kk0 pc o (C.getD q ByteArray.empty)).length := by omega
      rw [List.take_length]
      refine VC.exit ?_
      refine VC.region ?_
      refine VO.val rfl rfl (OpV.add rfl rfl rfl (by unfold fits; omega)) ?_
      refine VO.mv rfl rfl rfl rfl ?_
      refine VO.nil ?_
      exact Exists.intro (⟨q + 1, by omega⟩) (And.intro (Le.mk hB [0] ⟨rfl, rfl, rfl, rfl, rfl, rfl, rfl, rfl, trivial⟩ rfl (by dsimp only; rw [cov_next (by omega), subP_app]; rfl) (show 3000 ≤ 3000 by omega)) (by first | omega | (show _ < _; omega) | (simp only []; omega)))
   ·have aH2 := aH2b
    try simp only [qqT, qqF, qqN, qqM, qqL, qqE] at aH2
    refine VC.exit ?_
    refine VC.sr ?_
    refine VO.mv rfl rfl rfl rfl ?_
    refine VO.val rfl rfl (OpV.len_im rfl Tryz.underlying77 rfl) ?_
    refine VO.val rfl rfl (OpV.gtr rfl rfl rfl) ?_
    refine VO.mv rfl rfl rfl rfl ?_
    refine VO.opG rfl rfl rfl rfl (fun aK5b => ?_) (fun aK5b => ?_)
    ·replace aK5b : _ = false := aK5b
     have aK5 := aK5b
     try simp only [qqT, qqF, qqN, qqM, qqL, qqE] at aK5
     refine OpE.val (W := NoB) (OpV.move (.inl rfl) rfl) rfl ?_
     refine VO.opY rfl rfl rfl rfl aK5b ?_
     refine OpE.val (W := NoB) (OpV.len_im rfl Tryz.underlying67 rfl) rfl ?_
     refine VO.opY rfl rfl rfl rfl aK5b ?_
     refine OpE.val (W := NoB) (OpV.move (.inl rfl) rfl) rfl ?_
     refine VO.opY rfl rfl rfl rfl aK5b ?_
     refine OpE.val (W := NoB) (OpV.len_im rfl Tryz.underlying75 rfl) rfl ?_
     refine VO.opY rfl rfl rfl rfl aK5b ?_
     refine OpE.val (W := NoB) (OpV.eql rfl rfl rfl) rfl ?_
     refine VO.val rfl rfl (OpV.pickF rfl rfl rfl rfl aK5b) ?_
     refine VO.le _ (Le.boolT (t := 113) rfl (by first | rfl | exact decide_eq_true (by have := hw.all (cov_nil hz (by omega)); omega))) ?_
     refine VO.mv rfl rfl rfl rfl ?_
     refine VO.opY rfl rfl rfl rfl rfl ?_
     refine OpE.val (W := NoB) (OpV.move (.inl rfl) rfl) rfl ?_
     refine VO.opY rfl rfl rfl rfl rfl ?_
     refine OpE.call rfl hB rfl Tryz.call65 rfl (SpecN.spec (slices_IsSorted_strC (by omega) hw.ord)) ?_
     rintro _ rfl
     refine VO.val rfl rfl (OpV.pickT rfl rfl rfl rfl rfl) ?_
     refine VO.mv rfl rfl rfl rfl ?_
     refine VO.opY rfl rfl rfl rfl rfl ?_
     refine OpE.call rfl hB rfl Tryz.call38 rfl (SpecN.spec (rk_ready)) ?_
     rintro _ rfl
     refine VO.val rfl rfl (OpV.pickT rfl rfl rfl rfl rfl) ?_
     refine VO.ma rfl rfl rfl rfl ?_
     refine VO.nil ?_
     refine VC.ret ?_
     exact And.intro rfl rfl
    ·replace aK5b : _ = true := aK5b
     have aK5 := aK5b
     try simp only [qqT, qqF, qqN, qqM, qqL, qqE] at aK5
     refine VO.opX rfl rfl rfl rfl aK5b ?_
     refine VO.opX rfl rfl rfl rfl aK5b ?_
     refine VO.opX rfl rfl rfl rfl aK5b ?_
     refine VO.opX rfl rfl rfl rfl aK5b ?_
     refine VO.val rfl rfl (OpV.pickT rfl rfl rfl rfl aK5b) ?_
     refine VO.le _ (Le.boolT (t := 113) rfl (by first | rfl | exact decide_eq_true (by have := hw.all (cov_nil hz (by omega)); omega))) ?_
     refine VO.mv rfl rfl rfl rfl ?_
     refine VO.opY rfl rfl rfl rfl rfl ?_
     refine OpE.val (W := NoB) (OpV.move (.inl rfl) rfl) rfl ?_
     refine VO.opY rfl rfl rfl rfl rfl ?_
     refine OpE.call rfl hB rfl Tryz.call65 rfl (SpecN.spec (slices_IsSorted_strC (by omega) hw.ord)) ?_
     rintro _ rfl
     refine VO.val rfl rfl (OpV.pickT rfl rfl rfl rfl rfl) ?_
     refine VO.mv rfl rfl rfl rfl ?_
     refine VO.opY rfl rfl rfl rfl rfl ?_
     refine OpE.call rfl hB rfl Tryz.call38 rfl (SpecN.spec (rk_ready)) ?_
     rintro _ rfl
     refine VO.val rfl rfl (OpV.pickT rfl rfl rfl rfl rfl) ?_
     refine VO.ma rfl rfl rfl rfl ?_
     refine VO.nil ?_
     refine VC.ret ?_
     exact And.intro rfl rfl
end Go.Proofs.YtaaokimiadfidaaGreatDoor
