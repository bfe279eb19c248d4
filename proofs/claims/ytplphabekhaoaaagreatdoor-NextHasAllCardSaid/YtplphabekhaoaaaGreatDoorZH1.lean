/- Part 1 of a proof: the walks and laws that it needs. -/
import Derived.Test.YtplphabekhaoaaaGreatDoorZB5
namespace Go.Proofs.YtplphabekhaoaaaGreatDoor
open Go.RowKit
set_option linter.unusedVariables false
set_option linter.unusedSimpArgs false
theorem set_ne {s : List ByteArray} {i j : Nat} {x : ByteArray} (h : i ≠ j) : (s.set i x).getD j ByteArray.empty = s.getD j ByteArray.empty := by
 simp only [List.getD_eq_getElem?_getD, List.getElem?_set]
 rw [if_neg h]
theorem set_at {s : List ByteArray} {i : Nat} {x : ByteArray} (h : i < s.length) : (s.set i x).getD i ByteArray.empty = x := by simp [h]
section
variable {s parts : List ByteArray} {later : List (List ByteArray)}
theorem miss_slot (hf : Fits s parts) {q : Nat} (hq : q < (missF s parts).length) : (slotF (nextL parts later s ((missF s parts).take q)) parts later).toNat < s.length ∧
  (nextL parts later s ((missF s parts).take q)).getD (slotF (nextL parts later s ((missF s parts).take q)) parts later).toNat ByteArray.empty ∉ parts := by
 have hnd := missF_nodup (s := s) hf.pnd
 have hns : ∀ x ∈ missF s parts, x ∉ s := fun x hx => (missF_mem.1 hx).2
 have hx := nextL_not (parts := parts) (later := later) hnd hns hq
 have hxm : (missF s parts).getD q ByteArray.empty ∈ missF s parts := by simp [hq]
 obtain ⟨k1, k2, k3⟩ := slotF_in (later := later) (nextL_fits (later := later) hf hnd hns q (by omega)) (missF_mem.1 hxm).1 hx
 have hcl : (nextL parts later s ((missF s parts).take q)).length = s.length := nextL_len _ _ _ _
 exact ⟨by omega, has_not.1 k3⟩
theorem next_keep (hf : Fits s parts) : ∀ q, q ≤ (missF s parts).length → ∀ j, s.getD j ByteArray.empty ∈ parts → (nextL parts later s ((missF s parts).take q)).getD j ByteArray.empty = s.getD j ByteArray.empty
 | 0, _, j, _ => rfl
 | q + 1, hq, j, hj => by
  have ih := next_keep hf q (by omega) j hj
  obtain ⟨_, k2⟩ := miss_slot (later := later) hf (q := q) (by omega)
  rw [nextL_take_succ (by omega), set_ne (fun e => k2 (by rw [e, ih]; exact hj)), ih]
theorem next_put (hf : Fits s parts) : ∀ q, q ≤ (missF s parts).length → ∀ i, i < q → ∃ j, j < s.length ∧ (nextL parts later s ((missF s parts).take q)).getD j ByteArray.empty = (missF s parts).getD i ByteArray.empty
 | 0, _, i, hi => by omega
 | q + 1, hq, i, hi => by
  obtain ⟨k1, k2⟩ := miss_slot (later := later) hf (q := q) (by omega)
  have hcl : (nextL parts later s ((missF s parts).take q)).length = s.length := nextL_len _ _ _ _
  rw [nextL_take_succ (by omega)]
  by_cases e : i = q
  ·subst e
   exact ⟨_, k1, set_at (by omega)⟩
  ·obtain ⟨j, hj, h⟩ := next_put hf q (by omega) i (by omega)
   have hm : (missF s parts).getD i ByteArray.empty ∈ missF s parts := by simp [show i < (missF s parts).length by omega]
   exact ⟨j, hj, by rw [set_ne (fun e => k2 (by rw [e, h]; exact (missF_mem.1 hm).1)), h]⟩
theorem nextF_keep (hf : Fits s parts) {j : Nat} (hj : s.getD j ByteArray.empty ∈ parts) : (nextF s parts later).getD j ByteArray.empty = s.getD j ByteArray.empty := by
 have := next_keep (later := later) hf (missF s parts).length (Nat.le_refl _) j hj
 rwa [List.take_length] at this
theorem nextF_has (hf : Fits s parts) {x : ByteArray} (hx : x ∈ parts) : x ∈ nextF s parts later := by
 have hl := nextL_len parts later (missF s parts) s
 by_cases hs : x ∈ s
 ·obtain ⟨j, hj, rfl⟩ := getD_mem hs
  have := nextF_keep (later := later) hf hx
  rw [← this]
  have hj' : j < (nextF s parts later).length := by rw [nextF]; omega
  simp [hj']
 ·obtain ⟨i, hi, rfl⟩ := getD_mem (missF_mem.2 ⟨hx, hs⟩)
  obtain ⟨j, hj, h⟩ := next_put (later := later) hf (missF s parts).length (Nat.le_refl _) i hi
  rw [List.take_length] at h
  rw [← h]
  have hj' : j < (nextF s parts later).length := by rw [nextF]; omega
  rw [nextF] at hj'
  rw [nextF]
  simp [hj']
theorem nextF_none (hf : Fits s parts) : missF (nextF s parts later) parts = [] := by
 refine List.filter_eq_nil_iff.2 fun x hx => ?_
 rw [has_iff.2 (nextF_has (later := later) hf hx)]
 simp
theorem nextF_old (hf : Fits s parts) {j : Nat} (hj : j < s.length) : (nextF s parts later).getD j ByteArray.empty = s.getD j ByteArray.empty ∨ (nextF s parts later).getD j ByteArray.empty ∈ parts := by
 have := nextL_old (s := s) (l := missF s parts) (parts := parts) (later := later) (fun x hx => (missF_mem.1 hx).1) (missF s parts).length j (Nat.le_refl _) hj
 rwa [List.take_length] at this
end
theorem chg_all {a b : List ByteArray} : ∀ q, (∀ j, j < q → a.getD j ByteArray.empty ≠ b.getD j ByteArray.empty → b.getD j ByteArray.empty ≠ ε) → loadN (chgF a b q) = (chgF a b q).length
 | 0, _ => rfl
 | q + 1, h => by
  have ih := chg_all (a := a) (b := b) q fun j hj => h j (by omega)
  rw [chgF]
  split
  ·exact ih
  ·rename_i h1
   have h2 : a.getD q ByteArray.empty ≠ b.getD q ByteArray.empty := fun e => h1 (sEq_eq.2 e)
   rw [loadN_snoc, ih, if_neg (fun e => h q (by omega) h2 (sEq_eq.1 e)), List.length_append]
   simp
theorem next_count {s parts : List ByteArray} {later : List (List ByteArray)} (hf : Fits s parts) : (chgF s (nextF s parts later) s.length).length = (missF s parts).length := by
 have h1 := nextF_loads (later := later) hf
 have h2 := chg_all (a := s) (b := nextF s parts later) s.length fun j hj hne => by
  rcases nextF_old (later := later) hf hj with h | h
  ·exact absurd h.symm hne
  ·exact hf.keys _ h
 omega
theorem nextF_setup {s parts : List ByteArray} {later : List (List ByteArray)} (hs : setupF s = 0) (hp : RightP s.length parts) : setupF (nextF s parts later) = 0 := by
 have hg := (Good'.of hs).nextF hp later
 have hl := nextF_len s parts later
 refine setupF_ok hg.pos hg.len fun j hj => ?_
 cases he : sEq ((nextF s parts later).getD j ByteArray.empty) ε with
 | true => exact setupE_e he
 | false =>
  have hne : (nextF s parts later).getD j ByteArray.empty ≠ ε := fun e => by rw [e, sEq_refl] at he; cases he
  refine setupE_0 he ?_ ?_
  ·rcases nextF_old (later := later) (hp.fits (setup_once hs)) (j := j) (by omega) with h | h
   ·rw [h] at he ⊢
    have h0 := setupF_zero hs j (by omega)
    cases hk : keyF (s.getD j ByteArray.empty) with
    | true => rfl
    | false => rw [setupE_5 he hk] at h0; cases h0
   ·obtain ⟨i, hi, e⟩ := getD_mem h
    rw [← e]; exact canE_key (hp.can i hi)
  ·rw [has_not]
   intro hc
   obtain ⟨i, hi, e⟩ := List.mem_iff_getElem.1 hc
   have hi' : i < j := by simp at hi; omega
   rw [List.getElem_take] at e
   refine hne (hg.once i j hi' hj ?_)
   rw [← e]
   simp [show i < (nextF s parts later).length by omega]
end Go.Proofs.YtplphabekhaoaaaGreatDoor
namespace Go.Proofs.YtplphabekhaoaaaGreatDoor
open Go.RowKit
set_option linter.unusedVariables false
set_option linter.unusedSimpArgs false
theorem parts_one {n : Int} {p : List (List ByteArray)} (h : partsF n p = 0) {q : Nat} (hq : q < p.length) : partsF n [p.getD q default] = 0 := by
 obtain ⟨h1, h2, h3⟩ := partsF_zero h
 exact partsF_ok h1 (by simp) fun j hj => by
  simp at hj
  subst hj
  exact h3 q hq
theorem miss_zero {s : List ByteArray} {p : List (List ByteArray)} (hs : setupF s = 0) (h : partsF s.length p = 0) {q : Nat} (hq : q < p.length) : missE s (p.getD q default) = 0 := by
 rw [missE, setsF, if_neg (by omega)]
 exact parts_one h hq
theorem setup_Missing_ok {s p : List ByteArray} (hs : SmS s) (hp : SmS p) (h : missE s p = 0) : SpecH Tryz.prog 78 [avStrs s, avStrs p] [] (fun y hp' => ∃ u, y = .tup [.v u, avI 0] ∧ hp' = [.row u (missF s p).length 1 (strsL (missF s p)) 9]) := by
 have := setup_Missing hs hp
 rw [if_pos h, h] at this
 exact this
theorem cons_drop {p : List (List ByteArray)} (h : 0 < p.length) : p.getD 0 default :: (p.take p.length).drop 1 = p := by
 rw [List.take_length]
 cases p with
 | nil => simp at h
 | cons x r => rfl
theorem nextE_zero {s : List ByteArray} {p : List (List ByteArray)} (hs : setupF s = 0) (h : partsF s.length p = 0) (h0 : 0 < p.length) : nextE s (p.getD 0 default) ((p.take p.length).drop 1) = 0 := by
 rw [nextE, if_neg (by omega), cons_drop h0]; exact h
set_option maxRecDepth 100000 in
set_option maxHeartbeats 40000000 in
theorem nextHasAll_any (a0 : Option Addr) (cap0 : Nat) (L : List Int) (w : World) (hin : Inp w a0 L) :
  Calls Tryz.prog 12 #[.slice a0 L.length cap0] w fun e w' => e = .returned (.bool true) ∧ Chg NoB w w' := by
 refine law_calls Tryz.func12 rfl Tryz.ntmps12 (Nle rfl) Tryz.results12 ?_
 have hB := B0.ok w (fun _ => True) 152
 have hnew : True := trivial
 refine VC.sr ?_
 refine VO.ma rfl rfl rfl rfl ?_
 refine VO.nil ?_
 refine VC.sr ?_
 refine VO.mv rfl rfl rfl rfl ?_
 refine VO.val rfl rfl (OpV.build (pls := #[(0, 1), (1, 1)]) rfl Tryz.zeroValue25 Tryz.underlying25 (fun w => by kernel_rfl) rfl rfl) ?_
 refine VO.op rfl (OpE.box rfl hB rfl rfl rfl ?_)
 intro g
 refine VO.ma rfl rfl rfl rfl ?_
 refine VO.nil ?_
 refine VC.stream (i := 0) (sl := [(3, sp g)]) (by exact rfl) (by exact rfl) hin (by exact ⟨rfl, trivial⟩) (fun p hp => by simp at hp; subst hp; exact ⟨_, rfl⟩) (fun w1 hge hB => ?_)
 refine VC.sr ?_
 refine VO.mv rfl rfl rfl rfl ?_
 refine VO.op rfl (OpE.callT' (0) rfl rfl hB rfl Tryz.call49 rfl ((range_T (by omega) (by omega) (by omega))) (by omega) ?_)
 rintro _ ⟨r23, hr23, rfl⟩
 obtain ⟨n, rfl⟩ : ∃ n : Nat, r23 = n := ⟨r23.toNat, by omega⟩
 refine VO.ma rfl rfl rfl rfl ?_
 refine VO.nil ?_
 refine VC.sr ?_
 refine VO.mv rfl rfl rfl rfl ?_
 refine VO.mv rfl rfl rfl rfl ?_
 refine VO.op rfl (OpE.callT' (0 + 1) rfl rfl hB rfl Tryz.call72 rfl (aSetup_T (n := n) (by omega)) (by omega) ?_)
 rintro _ ⟨a, ha, rfl⟩
 refine VO.mv rfl rfl rfl rfl ?_
 refine VO.mv rfl rfl rfl rfl ?_
 refine VO.op rfl (OpE.callT' (0 + 1 + 30) rfl rfl hB rfl Tryz.call58 rfl (partLists_M (by omega) (by decide)) (by omega) ?_)
 rintro _ ⟨p, hp, rfl⟩
 refine VO.ma rfl rfl rfl rfl ?_
 refine VO.ma rfl rfl rfl rfl ?_
 refine VO.nil ?_
 refine VC.seq ?_
 refine VC.seq ?_
 have has := ha.sms (by decide)
 have hps := hp.1.smss
 have hls := has.1
 have hal := ha.1
 have hpl := hp.1.1
 refine VC.region ?_
 refine VO.mv rfl rfl rfl rfl ?_
 refine VO.val rfl rfl (OpV.len_im rfl Tryz.underlying91 rfl) ?_
 refine VO.val rfl rfl (OpV.eql rfl rfl rfl) ?_
 refine VO.mv rfl rfl rfl rfl ?_
 refine VO.opG rfl rfl rfl rfl (fun aK1b => ?_) (fun aK1b => ?_)
 ·replace aK1b : _ = false := aK1b
  have aK1 := aK1b
  try simp only [qqT, qqF, qqN, qqM, qqL, qqE] at aK1
  refine OpE.val (W := NoB) (OpV.move (.inl rfl) rfl) rfl ?_
  refine VO.opY rfl rfl rfl rfl aK1b ?_
  refine OpE.call rfl hB rfl Tryz.call73 rfl (SpecN.spec (rf_SetupFault has)) ?_
  rintro _ rfl
  refine VO.opY rfl rfl rfl rfl aK1b ?_
  refine OpE.val (W := NoB) (OpV.neq rfl rfl rfl) rfl ?_
  refine VO.val rfl rfl (OpV.pickF rfl rfl rfl rfl aK1b) ?_
  refine VO.mv rfl rfl rfl rfl ?_
  refine VO.opG rfl rfl rfl rfl (fun aK2b => ?_) (fun aK2b => ?_)
  ·replace aK2b : _ = false := aK2b
   have aK2 := aK2b
   try simp only [qqT, qqF, qqN, qqM, qqL, qqE] at aK2
   refine OpE.val (W := NoB) (OpV.move (.inl rfl) rfl) rfl ?_
   refine VO.opY rfl rfl rfl rfl aK2b ?_
   refine OpE.val (W := NoB) (OpV.len_im rfl Tryz.underlying94 rfl) rfl ?_
   refine VO.opY rfl rfl rfl rfl aK2b ?_
   refine OpE.val (W := NoB) (OpV.move (.inl rfl) rfl) rfl ?_
   refine VO.opY rfl rfl rfl rfl aK2b ?_
   refine OpE.val (W := NoB) (OpV.neq rfl rfl rfl) rfl ?_
   refine VO.val rfl rfl (OpV.pickF rfl rfl rfl rfl aK2b) ?_
   refine VO.mv rfl rfl rfl rfl ?_
   refine VO.opG rfl rfl rfl rfl (fun aK3b => ?_) (fun aK3b => ?_)
   ·replace aK3b : _ = false := aK3b
    have aK3 := aK3b
    try simp only [qqT, qqF, qqN, qqM, qqL, qqE] at aK3
    refine OpE.val (W := NoB) (OpV.move (.inl rfl) rfl) rfl ?_
    refine VO.opY rfl rfl rfl rfl aK3b ?_
    refine OpE.val (W := NoB) (OpV.move (.inl rfl) rfl) rfl ?_
    refine VO.opY rfl rfl rfl rfl aK3b ?_
    refine OpE.call rfl hB rfl Tryz.call59 rfl (SpecN.spec (rf_PartsFault hps)) ?_
    rintro _ rfl
    refine VO.opY rfl rfl rfl rfl aK3b ?_
    refine OpE.val (W := NoB) (OpV.neq rfl rfl rfl) rfl ?_
    refine VO.val rfl rfl (OpV.pickF rfl rfl rfl rfl aK3b) ?_
    refine VO.nil ?_
    refine VC.cond rfl (fun aH4b => ?_) (fun aH4b => ?_)
    ·have aH4 := aH4b
     try simp only [qqT, qqF, qqN, qqM, qqL, qqE] at aH4
     refine VC.sr ?_
     refine VO.op rfl (OpE.call rfl hB rfl Tryz.call51 rfl (SpecN.spec (rk_ready)) ?_)
     rintro _ rfl
     refine VO.ma rfl rfl rfl rfl ?_
     refine VO.nil ?_
     refine VC.ret ?_
     exact And.intro rfl rfl
    ·have aH4 := aH4b
     try simp only [qqT, qqF, qqN, qqM, qqL, qqE] at aH4
     refine VC.skip ?_
     refine VC.seq ?_
     have hsf : setupF a = 0 := by omega
     have hnn : a.length = n := by omega
     have hpf : partsF (a.length : Int) p = 0 := by rw [hnn]; omega
     have hp0 : 0 < p.length := by omega
     have hMa := miss_zero hsf hpf hp0
     have hE := nextE_zero hsf hpf hp0
     have hr : RightP a.length (p.getD 0 default) := RightP.of rfl hpf hp0
     have hcons := hps
     rw [← cons_drop hp0] at hcons
     have hlt : SmSS ((p.take p.length).drop 1) := (hps.take _).drop _
     have hpa := hps.2 0
     generalize hle : p.getD 0 default = l at hMa hE hr hcons hpa
     generalize hlte : (p.take p.length).drop 1 = lt at hE hcons hlt
     have hf := hr.fits (setup_once hsf)
     have hN := setup_Next has hcons hlt
     rw [nextR, if_pos hE, hE] at hN
     obtain ⟨x, hx⟩ : ∃ x, nextF a l lt = x := ⟨_, rfl⟩
     have hxl : x.length = a.length := by rw [← hx]; exact nextF_len _ _ _
     have hxs : SmS x := by rw [← hx]; exact ((Good'.of hsf).nextF hr lt).sms
     have hxf : setupF x = 0 := by rw [← hx]; exact nextF_setup hsf hr
     have hk : ∀ j, a.getD j ByteArray.empty ∈ l → x.getD j ByteArray.empty = a.getD j ByteArray.empty := fun j hj => by rw [← hx]; exact nextF_keep hf hj
     have hnone : missF x l = [] := by rw [← hx]; exact nextF_none hf
     have hload : loadN (chgF a x a.length) = (missF a l).length := by rw [← hx]; exact nextF_loads hf
     have hcnt : (chgF a x a.length).length = (missF a l).length := by rw [← hx]; exact next_count hf
     have hce : changesE a x = 0 := by rw [changesE, if_neg (by omega), if_neg (by omega), if_neg (by omega)]
     rw [hx] at hN
     have hM := setup_Missing_ok has hpa hMa
     have hMx := setup_Missing_ok hxs hpa (by rw [missE, setsF, if_neg (by omega), hxl]; rw [missE, setsF, if_neg (by omega)] at hMa; exact hMa)
     rw [hnone] at hMx
     have hL := setup_Loads has hxs
     rw [changesF, if_pos hce, hce, hload] at hL
     have hC := setup_Changes has hxs
     rw [changesF, if_pos hce, hce, hcnt] at hC
     have hK := setup_CheckSetup hxs
     rw [hxf] at hK
     have hml := missF_len a l
     have hrl := hr.len
     have hpa1 := hpa.1
     refine VC.draw (fun _ => NoB) hB (by kernel_rfl) ?_
     refine VA.take (i := 0) rfl (by kernel_rfl) (by kernel_rfl) (by kernel_rfl) rfl rfl (OpV.move (.inl rfl) rfl) ?_
     refine VA.take (i := 1) rfl (by kernel_rfl) (by kernel_rfl) (by kernel_rfl) rfl rfl (OpV.move (.inl rfl) rfl) ?_
     refine VA.take (i := 2) rfl (by kernel_rfl) (by kernel_rfl) (by kernel_rfl) rfl rfl (OpV.indexAddr_1 rfl Tryz.underlying91 Tryz.sizeOf94 rfl rfl rfl (by omega)) ?_
     refine VA.take (i := 3) rfl (by kernel_rfl) (by kernel_rfl) (by kernel_rfl) rfl rfl (OpV.load_at rfl hB OutW.wi0 Tryz.isAgg94 rfl rfl) ?_
     refine VA.le _ (Le.recast (t := 55) (y := avStrs l) rfl (fun w Z u h => by rw [← hle]; exact h)) ?_
     refine VA.take (i := 4) rfl (by kernel_rfl) (by kernel_rfl) (by kernel_rfl) rfl rfl (OpV.move (.inl rfl) rfl) ?_
     refine VA.take (i := 5) rfl (by kernel_rfl) (by kernel_rfl) (by kernel_rfl) rfl rfl (OpV.slice_M (l := 1) rfl Tryz.underlying91 Tryz.sizeOf94 rfl ⟨_, _, rfl, rfl⟩ rfl (by omega) (by omega)) ?_
     refine VA.le _ (Le.recast (t := 57) (y := avM lt) rfl (fun w Z u h => by rw [← hlte]; exact h)) ?_
     refine VA.all (rs := [6]) (by kernel_rfl) (by decide) ?_
     refine ⟨⟨_, rfl, .inl rfl, ?_⟩, trivial⟩
     refine OpE.callH (hp := []) (rest := _) rfl hB rfl Tryz.call62 rfl rfl (hN) (List.Perm.refl _) (fun _ h => by obtain ⟨e, he, _⟩ := h; cases he) ?_
     rintro _ _ ⟨u58, rfl, rfl⟩
     refine VA.take (i := 7) rfl (by kernel_rfl) (by kernel_rfl) (by kernel_rfl) rfl rfl (OpV.move (.inl rfl) rfl) ?_
     refine VA.take (i := 8) rfl (by kernel_rfl) (by kernel_rfl) (by kernel_rfl) rfl rfl (OpV.extract rfl rfl rfl) ?_
     refine VA.le _ (Le.rowS (t := 59) (i := 0) hB hnew rfl rfl rfl) ?_
     refine VA.take (i := 9) rfl (by kernel_rfl) (by kernel_rfl) (by kernel_rfl) rfl rfl (OpV.extract rfl rfl rfl) ?_
     refine VA.take (i := 10) rfl (by kernel_rfl) (by kernel_rfl) (by kernel_rfl) rfl rfl (OpV.move (.inr rfl) rfl) ?_
     refine VA.take (i := 11) rfl (by kernel_rfl) (by kernel_rfl) (by kernel_rfl) rfl rfl (OpV.move (.inr rfl) rfl) ?_
     refine VA.done (by kernel_rfl) ?_
     refine VC.sr ?_
     refine VO.mv rfl rfl rfl rfl ?_
     refine VO.mv rfl rfl rfl rfl ?_
     refine VO.val rfl rfl (OpV.indexAddr_1 rfl Tryz.underlying91 Tryz.sizeOf94 rfl rfl rfl (by omega)) ?_
     refine VO.val rfl rfl (OpV.load_at rfl hB OutW.no Tryz.isAgg94 rfl rfl) ?_
     refine VO.le _ (Le.recast (t := 65) (y := avStrs l) rfl (fun w Z u h => by rw [← hle]; exact h)) ?_
     refine VO.op rfl (OpE.callH (hp := []) (rest := _) rfl hB rfl Tryz.call78 rfl rfl (hM) (List.Perm.refl _) (fun _ h => by obtain ⟨e, he, _⟩ := h; cases he) ?_)
     rintro _ _ ⟨u66, rfl, rfl⟩
     refine VO.mv rfl rfl rfl rfl ?_
     refine VO.val rfl rfl (OpV.extract rfl rfl rfl) ?_
     refine VO.le _ (Le.rowS (t := 67) (i := 0) hB hnew rfl rfl (by first | rfl | simp)) ?_
     refine VO.val rfl rfl (OpV.extract rfl rfl rfl) ?_
     refine VO.ma rfl rfl rfl rfl ?_
     refine VO.ma rfl rfl rfl rfl ?_
     refine VO.nil ?_
     refine VC.sr ?_
     refine VO.mv rfl rfl rfl rfl ?_
     refine VO.mv rfl rfl rfl rfl ?_
     refine VO.val rfl rfl (OpV.indexAddr_1 rfl Tryz.underlying91 Tryz.sizeOf94 rfl rfl rfl (by omega)) ?_
     refine VO.val rfl rfl (OpV.load_at rfl hB OutW.no Tryz.isAgg94 rfl rfl) ?_
     refine VO.le _ (Le.recast (t := 73) (y := avStrs l) rfl (fun w Z u h => by rw [← hle]; exact h)) ?_
     refine VO.op rfl (OpE.callH (hp := []) (rest := _) rfl hB rfl Tryz.call78 rfl rfl (hMx) (List.Perm.refl _) (fun _ h => by obtain ⟨e, he, _⟩ := h; cases he) ?_)
     rintro _ _ ⟨u74, rfl, rfl⟩
     refine VO.mv rfl rfl rfl rfl ?_
     refine VO.val rfl rfl (OpV.extract rfl rfl rfl) ?_
     refine VO.le _ (Le.rowS (t := 75) (i := 0) hB hnew rfl rfl (by first | rfl | simp)) ?_
     refine VO.val rfl rfl (OpV.extract rfl rfl rfl) ?_
     refine VO.ma rfl rfl rfl rfl ?_
     refine VO.ma rfl rfl rfl rfl ?_
     refine VO.nil ?_
     refine VC.sr ?_
     refine VO.mv rfl rfl rfl rfl ?_
     refine VO.mv rfl rfl rfl rfl ?_
     refine VO.op rfl (OpE.call rfl hB rfl Tryz.call63 rfl (SpecN.spec (hL)) ?_)
     rintro _ rfl
     refine VO.mv rfl rfl rfl rfl ?_
     refine VO.val rfl rfl (OpV.extract rfl rfl rfl) ?_
     refine VO.val rfl rfl (OpV.extract rfl rfl rfl) ?_
     refine VO.ma rfl rfl rfl rfl ?_
     refine VO.ma rfl rfl rfl rfl ?_
     refine VO.nil ?_
     refine VC.sr ?_
     refine VO.mv rfl rfl rfl rfl ?_
     refine VO.mv rfl rfl rfl rfl ?_
     refine VO.op rfl (OpE.callH (hp := []) (rest := _) rfl hB rfl Tryz.call79 rfl rfl (hC) (List.Perm.refl _) (fun _ h => by obtain ⟨e, he, _⟩ := h; cases he) ?_)
     rintro _ _ ⟨u86, rfl, rfl⟩
     refine VO.mv rfl rfl rfl rfl ?_
     refine VO.val rfl rfl (OpV.extract rfl rfl rfl) ?_
     refine VO.le _ (Le.rowT (t := 87) (i := 0) hB hnew rfl rfl hcnt.symm) ?_
     refine VO.val rfl rfl (OpV.extract rfl rfl rfl) ?_
     refine VO.ma rfl rfl rfl rfl ?_
     refine VO.ma rfl rfl rfl rfl ?_
     refine VO.nil ?_
     refine VC.seq ?_
     refine VC.sr ?_
     refine VO.mv rfl rfl rfl rfl ?_
     refine VO.mv rfl rfl rfl rfl ?_
     refine VO.mv rfl rfl rfl rfl ?_
     refine VO.mv rfl rfl rfl rfl ?_
     refine VO.mv rfl rfl rfl rfl ?_
     refine VO.op rfl (OpE.buildSlice (zc := #[.int .i64 0, .int .i64 0, .int .i64 0, .int .i64 0, .int .i64 0]) rfl hB rfl Tryz.underlying130 Tryz.sizeOf38 Tryz.zeroValue38 (by decide) (by decide) (by kernel_rfl) rfl rfl ?_)
     refine VO.le _ (Le.lits (t := 94) (xs := [0, 0, 0, 0, 0]) rfl rfl) ?_
     refine VO.op rfl (OpE.call rfl hB rfl Tryz.call56 rfl (SpecN.spec (rk_errs (by simp))) ?_)
     rintro _ rfl
     refine VO.val rfl rfl (OpV.neq rfl rfl rfl) ?_
     refine VO.le _ (Le.boolF (t := 96) rfl rfl) ?_
     refine VO.mv rfl rfl rfl rfl ?_
     refine VO.opY rfl rfl rfl rfl rfl ?_
     refine OpE.val (W := NoB) (OpV.move (.inl rfl) rfl) rfl ?_
     refine VO.opY rfl rfl rfl rfl rfl ?_
     refine OpE.val (W := NoB) (OpV.len_im rfl Tryz.underlying94 rfl) rfl ?_
     refine VO.opY rfl rfl rfl rfl rfl ?_
     refine OpE.val (W := NoB) (OpV.gtr rfl rfl rfl) rfl ?_
     refine VO.le _ (Le.boolF (t := 100) rfl (by simp)) ?_
     refine VO.val rfl rfl (OpV.pickF rfl rfl rfl rfl rfl) ?_
     refine VO.mv rfl rfl rfl rfl ?_
     refine VO.opY rfl rfl rfl rfl rfl ?_
     refine OpE.val (W := NoB) (OpV.move (.inl rfl) rfl) rfl ?_
     refine VO.opY rfl rfl rfl rfl rfl ?_
     refine OpE.val (W := NoB) (OpV.move (.inl rfl) rfl) rfl ?_
     refine VO.opY rfl rfl rfl rfl rfl ?_
     refine OpE.val (W := NoB) (OpV.len_im rfl Tryz.underlying94 rfl) rfl ?_
     refine VO.opY rfl rfl rfl rfl rfl ?_
     refine OpE.val (W := NoB) (OpV.neq rfl rfl rfl) rfl ?_
     refine VO.le _ (Le.boolF (t := 106) rfl (by simp)) ?_
     refine VO.val rfl rfl (OpV.pickF rfl rfl rfl rfl rfl) ?_
     refine VO.mv rfl rfl rfl rfl ?_
     refine VO.opY rfl rfl rfl rfl rfl ?_
     refine OpE.val (W := NoB) (OpV.move (.inl rfl) rfl) rfl ?_
     refine VO.opY rfl rfl rfl rfl rfl ?_
     refine OpE.val (W := NoB) (OpV.len_im rfl Tryz.underlying116 rfl) rfl ?_
     refine VO.opY rfl rfl rfl rfl rfl ?_
     refine OpE.val (W := NoB) (OpV.move (.inl rfl) rfl) rfl ?_
     refine VO.opY rfl rfl rfl rfl rfl ?_
     refine OpE.val (W := NoB) (OpV.neq rfl rfl rfl) rfl ?_
     refine VO.le _ (Le.boolF (t := 112) rfl (by simp [hcnt])) ?_
     refine VO.val rfl rfl (OpV.pickF rfl rfl rfl rfl rfl) ?_
     refine VO.mv rfl rfl rfl rfl ?_
     refine VO.opY rfl rfl rfl rfl rfl ?_
     refine OpE.val (W := NoB) (OpV.move (.inl rfl) rfl) rfl ?_
     refine VO.opY rfl rfl rfl rfl rfl ?_
     refine OpE.call rfl hB rfl Tryz.call80 rfl (SpecN.spec (hK)) ?_
     rintro _ rfl
     refine VO.opY rfl rfl rfl rfl rfl ?_
     refine OpE.val (W := NoB) (OpV.neq rfl rfl rfl) rfl ?_
     refine VO.le _ (Le.boolF (t := 117) rfl rfl) ?_
     refine VO.val rfl rfl (OpV.pickF rfl rfl rfl rfl rfl) ?_
     refine VO.mv rfl rfl rfl rfl ?_
     refine VO.opY rfl rfl rfl rfl rfl ?_
     refine OpE.val (W := NoB) (OpV.move (.inl rfl) rfl) rfl ?_
     refine VO.opY rfl rfl rfl rfl rfl ?_
     refine OpE.val (W := NoB) (OpV.len_im rfl Tryz.underlying94 rfl) rfl ?_
     refine VO.opY rfl rfl rfl rfl rfl ?_
     refine OpE.val (W := NoB) (OpV.move (.inl rfl) rfl) rfl ?_
     refine VO.opY rfl rfl rfl rfl rfl ?_
     refine OpE.val (W := NoB) (OpV.len_im rfl Tryz.underlying94 rfl) rfl ?_
     refine VO.opY rfl rfl rfl rfl rfl ?_
     refine OpE.val (W := NoB) (OpV.neq rfl rfl rfl) rfl ?_
     refine VO.le _ (Le.boolF (t := 124) rfl (by simp [hxl])) ?_
     refine VO.val rfl rfl (OpV.pickF rfl rfl rfl rfl rfl) ?_
     refine VO.nil ?_
     refine VC.condF rfl rfl ?_
     refine VC.skip ?_
     refine VC.seq ?_
     refine VC.sr ?_
     refine VO.mv rfl rfl rfl rfl ?_
     refine VO.val rfl rfl (OpV.len_im rfl Tryz.underlying94 rfl) ?_
     refine VO.mv rfl rfl rfl rfl ?_
     refine VO.nil ?_
     refine VC.block ?_
     refine VC.loopK [(6, _), (7, _), (126, _), (127, _)] ⟨rfl, rfl, rfl, rfl, trivial⟩ ({q : Nat // q ≤ a.length}) (fun (iZ : {q : Nat // q ≤ a.length}) => match iZ with | ⟨q, hq⟩ => [(128, avI (q : Int))]) (fun (iZ : {q : Nat // q ≤ a.length}) => match iZ with | ⟨q, hq⟩ => []) (fun (iZ : {q : Nat // q ≤ a.length}) => match iZ with | ⟨q, hq⟩ => 100000) (fun (iZ : {q : Nat // q ≤ a.length}) => match iZ with | ⟨q, hq⟩ => a.length - q) ⟨0, Nat.zero_le _⟩ (Le.mk hB [] ⟨rfl, rfl, rfl, rfl, rfl, trivial⟩ rfl rfl (Nle rfl)) ?_
     rintro ⟨q, hq⟩
     show VC _ _ _ _ ⟨[(128, avI (q : Int))] ++ [(6, _), (7, _), (126, _), (127, _)], [], 100000⟩
     refine VC.sr ?_
     refine VO.val rfl rfl (OpV.lss rfl rfl rfl) ?_
     refine VO.nil ?_
     refine VC.seq ?_
     refine VC.cond rfl (fun aH5b => ?_) (fun aH5b => ?_)
     ·have aH5 := aH5b
      try simp only [qqT, qqF, qqN, qqM, qqL, qqE] at aH5
      refine VC.skip ?_
      refine VC.seq ?_
      refine VC.block ?_
      refine VC.sr ?_
      refine VO.mv rfl rfl rfl rfl ?_
      refine VO.val rfl rfl (OpV.indexAddr_1 rfl Tryz.underlying94 Tryz.sizeOf9 rfl rfl rfl (by omega)) ?_
      refine VO.val rfl rfl (OpV.load_at rfl hB OutW.no Tryz.isAgg9 rfl rfl) ?_
      refine VO.ma rfl rfl rfl rfl ?_
      refine VO.ma rfl rfl rfl rfl ?_
      refine VO.nil ?_
      refine VC.sr ?_
      refine VO.mv rfl rfl rfl rfl ?_
      refine VO.val rfl rfl (OpV.sneq rfl rfl rfl) ?_
      refine VO.mv rfl rfl rfl rfl ?_
      refine VO.opG rfl rfl rfl rfl (fun aK6b => ?_) (fun aK6b => ?_)
      ·replace aK6b : _ = true := aK6b
       have aK6 := aK6b
       try simp only [qqT, qqF, qqN, qqM, qqL, qqE] at aK6
       refine OpE.val (W := NoB) (OpV.move (.inl rfl) rfl) rfl ?_
       refine VO.opY rfl rfl rfl rfl aK6b ?_
       refine OpE.val (W := NoB) (OpV.indexAddr_1 rfl Tryz.underlying91 Tryz.sizeOf94 rfl rfl rfl (by omega)) rfl ?_
       refine VO.opY rfl rfl rfl rfl aK6b ?_
       refine OpE.val (W := NoB) (OpV.load_at rfl hB OutW.no Tryz.isAgg94 rfl rfl) rfl ?_
       refine VO.le _ (Le.recast (t := 138) (y := avStrs l) rfl (fun w Z u h => by rw [← hle]; exact h)) ?_
       refine VO.opY rfl rfl rfl rfl aK6b ?_
       refine OpE.val (W := NoB) (OpV.move (.inl rfl) rfl) rfl ?_
       refine VO.opY rfl rfl rfl rfl aK6b ?_
       refine OpE.call rfl hB rfl Tryz.call77 rfl (SpecN.spec (slices_Contains_str (by omega))) ?_
       rintro _ rfl
       refine VO.val rfl rfl (OpV.pickT rfl rfl rfl rfl aK6b) ?_
       refine VO.mv rfl rfl rfl rfl ?_
       refine VO.opG rfl rfl rfl rfl (fun aK7b => ?_) (fun aK7b => ?_)
       ·replace aK7b : _ = true := aK7b
        have aK7 := aK7b
        try simp only [qqT, qqF, qqN, qqM, qqL, qqE] at aK7
        refine OpE.val (W := NoB) (OpV.move (.inl rfl) rfl) rfl ?_
        refine VO.opY rfl rfl rfl rfl aK7b ?_
        refine OpE.val (W := NoB) (OpV.move (.inl rfl) rfl) rfl ?_
        refine VO.opY rfl rfl rfl rfl aK7b ?_
        refine OpE.val (W := NoB) (OpV.indexAddr_1 rfl Tryz.underlying94 Tryz.sizeOf9 rfl rfl rfl (by omega)) rfl ?_
        refine VO.opY rfl rfl rfl rfl aK7b ?_
        refine OpE.val (W := NoB) (OpV.load_at rfl hB OutW.no Tryz.isAgg9 rfl rfl) rfl ?_
        refine VO.opY rfl rfl rfl rfl aK7b ?_
        refine OpE.val (W := NoB) (OpV.move (.inl rfl) rfl) rfl ?_
        refine VO.opY rfl rfl rfl rfl aK7b ?_
        refine OpE.val (W := NoB) (OpV.sneq rfl rfl rfl) rfl ?_
        refine VO.le _ (Le.boolF (t := 148) rfl (by rw [hk q (has_iff.1 (by assumption)), sEq_refl]; rfl)) ?_
        refine VO.val rfl rfl (OpV.pickT rfl rfl rfl rfl aK7b) ?_
        refine VO.nil ?_
        refine VC.condF rfl rfl ?_
        refine VC.skip ?_
        refine VC.region ?_
        refine VO.val rfl rfl (OpV.add rfl rfl rfl (by unfold fits; omega)) ?_
        refine VO.mv rfl rfl rfl rfl ?_
        refine VO.nil ?_
        exact Exists.intro (⟨q + 1, by omega⟩) (And.intro (Le.mk hB [] ⟨rfl, rfl, rfl, rfl, rfl, trivial⟩ rfl rfl (Nle rfl)) (by first | omega | (show _ < _; omega) | (simp only []; omega)))
       ·replace aK7b : _ = false := aK7b
        have aK7 := aK7b
        try simp only [qqT, qqF, qqN, qqM, qqL, qqE] at aK7
        refine VO.opX rfl rfl rfl rfl aK7b ?_
        refine VO.opX rfl rfl rfl rfl aK7b ?_
        refine VO.opX rfl rfl rfl rfl aK7b ?_
        refine VO.opX rfl rfl rfl rfl aK7b ?_
        refine VO.opX rfl rfl rfl rfl aK7b ?_
        refine VO.val rfl rfl (OpV.pickF rfl rfl rfl rfl aK7b) ?_
        refine VO.nil ?_
        refine VC.condF rfl rfl ?_
        refine VC.skip ?_
        refine VC.region ?_
        refine VO.val rfl rfl (OpV.add rfl rfl rfl (by unfold fits; omega)) ?_
        refine VO.mv rfl rfl rfl rfl ?_
        refine VO.nil ?_
        exact Exists.intro (⟨q + 1, by omega⟩) (And.intro (Le.mk hB [] ⟨rfl, rfl, rfl, rfl, rfl, trivial⟩ rfl rfl (Nle rfl)) (by first | omega | (show _ < _; omega) | (simp only []; omega)))
      ·replace aK6b : _ = false := aK6b
       have aK6 := aK6b
       try simp only [qqT, qqF, qqN, qqM, qqL, qqE] at aK6
       refine VO.opX rfl rfl rfl rfl aK6b ?_
       refine VO.opX rfl rfl rfl rfl aK6b ?_
       refine VO.opX rfl rfl rfl rfl aK6b ?_
       refine VO.opX rfl rfl rfl rfl aK6b ?_
       refine VO.val rfl rfl (OpV.pickF rfl rfl rfl rfl aK6b) ?_
       refine VO.mv rfl rfl rfl rfl ?_
       refine VO.opX rfl rfl rfl rfl rfl ?_
       refine VO.opX rfl rfl rfl rfl rfl ?_
       refine VO.opX rfl rfl rfl rfl rfl ?_
       refine VO.opX rfl rfl rfl rfl rfl ?_
       refine VO.opX rfl rfl rfl rfl rfl ?_
       refine VO.opX rfl rfl rfl rfl rfl ?_
       refine VO.val rfl rfl (OpV.pickF rfl rfl rfl rfl rfl) ?_
       refine VO.nil ?_
       refine VC.condF rfl rfl ?_
       refine VC.skip ?_
       refine VC.region ?_
       refine VO.val rfl rfl (OpV.add rfl rfl rfl (by unfold fits; omega)) ?_
       refine VO.mv rfl rfl rfl rfl ?_
       refine VO.nil ?_
       exact Exists.intro (⟨q + 1, by omega⟩) (And.intro (Le.mk hB [] ⟨rfl, rfl, rfl, rfl, rfl, trivial⟩ rfl rfl (Nle rfl)) (by first | omega | (show _ < _; omega) | (simp only []; omega)))
     ·have aH5 := aH5b
      try simp only [qqT, qqF, qqN, qqM, qqL, qqE] at aH5
      refine VC.exit ?_
      refine VC.sr ?_
      refine VO.op rfl (OpE.call rfl hB rfl Tryz.call51 rfl (SpecN.spec (rk_ready)) ?_)
      rintro _ rfl
      refine VO.ma rfl rfl rfl rfl ?_
      refine VO.nil ?_
      refine VC.ret ?_
      exact And.intro rfl rfl
   ·replace aK3b : _ = true := aK3b
    have aK3 := aK3b
    try simp only [qqT, qqF, qqN, qqM, qqL, qqE] at aK3
    refine VO.opX rfl rfl rfl rfl aK3b ?_
    refine VO.opX rfl rfl rfl rfl aK3b ?_
    refine VO.opX rfl rfl rfl rfl aK3b ?_
    refine VO.val rfl rfl (OpV.pickT rfl rfl rfl rfl aK3b) ?_
    refine VO.nil ?_
    refine VC.condT rfl rfl ?_
    refine VC.sr ?_
    refine VO.op rfl (OpE.call rfl hB rfl Tryz.call51 rfl (SpecN.spec (rk_ready)) ?_)
    rintro _ rfl
    refine VO.ma rfl rfl rfl rfl ?_
    refine VO.nil ?_
    refine VC.ret ?_
    exact And.intro rfl rfl
  ·replace aK2b : _ = true := aK2b
   have aK2 := aK2b
   try simp only [qqT, qqF, qqN, qqM, qqL, qqE] at aK2
   refine VO.opX rfl rfl rfl rfl aK2b ?_
   refine VO.opX rfl rfl rfl rfl aK2b ?_
   refine VO.opX rfl rfl rfl rfl aK2b ?_
   refine VO.val rfl rfl (OpV.pickT rfl rfl rfl rfl aK2b) ?_
   refine VO.mv rfl rfl rfl rfl ?_
   refine VO.opX rfl rfl rfl rfl rfl ?_
   refine VO.opX rfl rfl rfl rfl rfl ?_
   refine VO.opX rfl rfl rfl rfl rfl ?_
   refine VO.opX rfl rfl rfl rfl rfl ?_
   refine VO.val rfl rfl (OpV.pickT rfl rfl rfl rfl rfl) ?_
   refine VO.nil ?_
   refine VC.condT rfl rfl ?_
   refine VC.sr ?_
   refine VO.op rfl (OpE.call rfl hB rfl Tryz.call51 rfl (SpecN.spec (rk_ready)) ?_)
   rintro _ rfl
   refine VO.ma rfl rfl rfl rfl ?_
   refine VO.nil ?_
   refine VC.ret ?_
   exact And.intro rfl rfl
 ·replace aK1b : _ = true := aK1b
  have aK1 := aK1b
  try simp only [qqT, qqF, qqN, qqM, qqL, qqE] at aK1
  refine VO.opX rfl rfl rfl rfl aK1b ?_
  refine VO.opX rfl rfl rfl rfl aK1b ?_
  refine VO.val rfl rfl (OpV.pickT rfl rfl rfl rfl aK1b) ?_
  refine VO.mv rfl rfl rfl rfl ?_
  refine VO.opX rfl rfl rfl rfl rfl ?_
  refine VO.opX rfl rfl rfl rfl rfl ?_
  refine VO.opX rfl rfl rfl rfl rfl ?_
  refine VO.opX rfl rfl rfl rfl rfl ?_
  refine VO.val rfl rfl (OpV.pickT rfl rfl rfl rfl rfl) ?_
  refine VO.mv rfl rfl rfl rfl ?_
  refine VO.opX rfl rfl rfl rfl rfl ?_
  refine VO.opX rfl rfl rfl rfl rfl ?_
  refine VO.opX rfl rfl rfl rfl rfl ?_
  refine VO.opX rfl rfl rfl rfl rfl ?_
  refine VO.val rfl rfl (OpV.pickT rfl rfl rfl rfl rfl) ?_
  refine VO.nil ?_
  refine VC.condT rfl rfl ?_
  refine VC.sr ?_
  refine VO.op rfl (OpE.call rfl hB rfl Tryz.call51 rfl (SpecN.spec (rk_ready)) ?_)
  rintro _ rfl
  refine VO.ma rfl rfl rfl rfl ?_
  refine VO.nil ?_
  refine VC.ret ?_
  exact And.intro rfl rfl
end Go.Proofs.YtplphabekhaoaaaGreatDoor
