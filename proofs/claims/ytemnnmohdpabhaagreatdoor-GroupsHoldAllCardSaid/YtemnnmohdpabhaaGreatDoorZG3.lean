/- Part 3 of a proof: the walks and laws that it needs. -/
import Derived.Test.YtemnnmohdpabhaaGreatDoorZG2
namespace Go.Proofs.YtemnnmohdpabhaaGreatDoor
open Go.RowKit
set_option linter.unusedVariables false
set_option linter.unusedSimpArgs false
theorem least_some {α : Type} {T : Nat → Option α} : ∀ n, (T n).isSome = true → ∃ m, m ≤ n ∧ (T m).isSome = true ∧ ∀ j, j < m → T j = none := fun n => by
 induction n using Nat.strongRecOn with
 | _ n ih =>
  intro h
  by_cases hx : ∃ j, j < n ∧ (T j).isSome = true
  ·obtain ⟨j, h1, h2⟩ := hx
   obtain ⟨m, k1, k2⟩ := ih j h1 h2
   exact ⟨m, by omega, k2⟩
  ·refine ⟨n, Nat.le_refl _, h, fun j hj => ?_⟩
   cases e : T j with
   | none => rfl
   | some x => exact absurd ⟨j, hj, by rw [e]; rfl⟩ hx
theorem grp_yes {slots : Int} {p : List (List ByteArray)} (hp : p.length ≤ 10) (h : partsF slots p = 0) : GrpF slots.toNat p (grpR slots p) := by
 obtain ⟨k1, _, _⟩ := partsF_zero h
 have hs : slots = (slots.toNat : Int) := by unfold outR at k1; simp at k1; omega
 have hpr : ∀ i, i < p.length → RightP slots.toNat (p.getD i default) := fun i hi => RightP.of hs h hi
 have hnd : ∀ i, i < p.length → (p.getD i default).Nodup := fun i hi => sort_nodup (can_sort (hpr i hi).can)
 have h1 := (alone (fun i hi => (hpr i hi).len) p.length (Nat.le_refl _)).1
 have h2 := tryG_some p.length 0 (fun j => j) (show OkG p slots.toNat _ _ (0 + p.length) by rw [Nat.zero_add]; exact h1)
 have h3 : stG p (fun j => j) 0 = ⟨[], []⟩ := rfl
 rw [h3] at h2
 obtain ⟨m, m1, m2, m3⟩ := least_some (T := fun m => tryG p slots.toNat m p.length 0 ⟨[], []⟩) p.length h2
 obtain ⟨r, hr⟩ := Option.isSome_iff_exists.1 m2
 rw [(grpE_3 h hp hs).2, grpLst, grpO_at m1 m3 hr]
 exact grp_facts hnd m3 hr
theorem flat_ge {G : List (List Int)} : (∀ k, k < G.length → 0 < (G.getD k []).length) → G.length ≤ G.flatten.length := by
 induction G with
 | nil => intro _; exact Nat.le_refl _
 | cons x G ih =>
  intro h
  have h0 := h 0 (by simp)
  have := ih fun k hk => h (k + 1) (by simp; omega)
  rw [List.flatten_cons, List.length_append, List.length_cons]
  have h0' : 0 < x.length := h0
  omega
theorem flat_mem {G : List (List Int)} : ∀ k, (G.getD k default).length ≤ G.flatten.length := by
 induction G with
 | nil => intro k; simp; rfl
 | cons x G ih =>
  intro k
  rw [List.flatten_cons, List.length_append]
  cases k with
  | zero => show x.length ≤ _; omega
  | succ k => have := ih k; show (G.getD k default).length ≤ _; omega
theorem grp_sorted {n : Nat} {l f : List Int} (h1 : f.Perm (idO n)) (h2 : l.Perm f) (h3 : OrdL ltI l) : l = idO n := by
 have hi : OrdL ltI (idO n) := by
  unfold OrdL idO
  rw [List.pairwise_map]
  refine List.Pairwise.imp (fun {a b} h => ?_) List.pairwise_lt_range
  exact decide_eq_false (by omega)
 refine ord_unique (h2.trans h1) ((h2.trans h1).nodup_iff.2 (idO_ord n).nd) (fun a _ b _ hne h => ?_) h3 hi
 have := of_decide_eq_false h
 exact decide_eq_true (by omega)
set_option maxRecDepth 100000 in
set_option maxHeartbeats 40000000 in
theorem groupsHold_any (a0 : Option Addr) (cap0 : Nat) (L : List Int) (w : World) (hin : Inp w a0 L) :
  Calls Tryz.prog 4 #[.slice a0 L.length cap0] w fun e w' => e = .returned (.bool true) ∧ Chg NoB w w' := by
 refine law_calls Tryz.func4 rfl Tryz.ntmps4 (Nle rfl) Tryz.results4 ?_
 have hB := B0.ok w (fun _ => True) 126
 have hnew : True := trivial
 refine VC.sr ?_
 refine VO.ma rfl rfl rfl rfl ?_
 refine VO.nil ?_
 refine VC.sr ?_
 refine VO.mv rfl rfl rfl rfl ?_
 refine VO.val rfl rfl (OpV.build (pls := #[(0, 1), (1, 1)]) rfl Tryz.zeroValue25 Tryz.underlying25 (fun w => by kernel_rfl) rfl rfl) ?_
 refine VO.op rfl (OpE.box rfl hB rfl rfl rfl ?_)
 intro g
 refine VO.ma rfl rfl rfl rfl ?_
 refine VO.nil ?_
 refine VC.stream (i := 0) (sl := [(3, sp g)]) (by exact rfl) (by exact rfl) hin (by exact ⟨rfl, trivial⟩) (fun p hp => by simp at hp; subst hp; exact ⟨_, rfl⟩) (fun w1 hge hB => ?_)
 refine VC.sr ?_
 refine VO.mv rfl rfl rfl rfl ?_
 refine VO.op rfl (OpE.callT' (0) rfl rfl hB rfl Tryz.call26 rfl ((range_T (by omega) (by omega) (by omega))) (by omega) ?_)
 rintro _ ⟨r20, hr20, rfl⟩
 refine VO.ma rfl rfl rfl rfl ?_
 refine VO.nil ?_
 refine VC.sr ?_
 refine VO.mv rfl rfl rfl rfl ?_
 refine VO.mv rfl rfl rfl rfl ?_
 refine VO.op rfl (OpE.callT' (0 + 1) rfl rfl hB rfl Tryz.call27 rfl (partLists_M (by omega) (by decide)) (by omega) ?_)
 rintro _ ⟨p, hp, rfl⟩
 refine VO.op rfl (OpE.alloc rfl hB rfl Tryz.zeroValue55 rfl ?_)
 intro gp
 refine VO.op rfl (OpE.store (i := 0) rfl hB rfl Tryz.sizeOf55 rfl rfl rfl rfl rfl rfl (Nle rfl) trivial ?_)
 refine VO.nil ?_
 refine VC.seq ?_
 obtain ⟨sl, hsl⟩ : ∃ sl : Int, 2 + r20 = sl := ⟨_, rfl⟩
 have hps := hp.1.smss
 have hp6 : p.length ≤ 6 := by have := hp.2; omega
 refine VC.region ?_
 refine VO.mv rfl rfl rfl rfl ?_
 refine VO.val rfl rfl (OpV.load_own (i := 0) rfl hB Tryz.isAgg55 rfl rfl rfl (fun h => h)) ?_
 refine VO.op rfl (OpE.call rfl hB rfl Tryz.call28 rfl (setup_Groups hps) ?_)
 rintro _ rfl
 refine VO.mv rfl rfl rfl rfl ?_
 refine VO.val rfl rfl (OpV.extract rfl rfl rfl) ?_
 refine VO.val rfl rfl (OpV.extract rfl rfl rfl) ?_
 refine VO.ma rfl rfl rfl rfl ?_
 refine VO.ma rfl rfl rfl rfl ?_
 refine VO.nil ?_
 refine VC.seq ?_
 refine VC.sr ?_
 refine VO.mv rfl rfl rfl rfl ?_
 refine VO.val rfl rfl (OpV.neq rfl rfl rfl) ?_
 refine VO.nil ?_
 refine VC.cond rfl (fun h0b => ?_) (fun h0b => ?_)
 ·have h0 := h0b
  try simp only [qqT, qqF, qqN, qqM, qqL, qqE] at h0
  have hE : grpE r20 p = partsF r20 p := by
   by_cases hf : partsF r20 p = 0
   ·exact absurd (grpE_3 hf (by omega) (show r20 = (r20.toNat : Int) by omega)).1 h0
   ·exact (grpE_1 hf).1
  refine VC.sr ?_
  refine VO.mv rfl rfl rfl rfl ?_
  refine VO.val rfl rfl (OpV.load_own (i := 0) rfl hB Tryz.isAgg55 rfl rfl rfl (fun h => h)) ?_
  refine VO.op rfl (OpE.call rfl hB rfl Tryz.call29 rfl (SpecN.spec (rf_PartsFault hps)) ?_)
  rintro _ rfl
  refine VO.mv rfl rfl rfl rfl ?_
  refine VO.val rfl rfl (OpV.eql rfl rfl rfl) ?_
  refine VO.le _ (Le.boolT (t := 36) rfl (decide_eq_true hE.symm)) ?_
  refine VO.mv rfl rfl rfl rfl ?_
  refine VO.opY rfl rfl rfl rfl rfl ?_
  refine OpE.call rfl hB rfl Tryz.call30 rfl (SpecN.spec (rk_ready)) ?_
  rintro _ rfl
  refine VO.val rfl rfl (OpV.pickT rfl rfl rfl rfl rfl) ?_
  refine VO.ma rfl rfl rfl rfl ?_
  refine VO.nil ?_
  refine VC.ret ?_
  exact And.intro rfl rfl
 ·have h0 := h0b
  try simp only [qqT, qqF, qqN, qqM, qqL, qqE] at h0
  have hf : partsF r20 p = 0 := by
   by_cases hf : partsF r20 p = 0
   ·exact hf
   ·exact absurd ((grpE_1 hf).1.symm.trans (by omega)) hf
  have F := grp_yes (by omega) hf
  obtain ⟨G, hG⟩ : ∃ G, grpR r20 p = G := ⟨_, rfl⟩
  rw [hG] at F
  have hfl : G.flatten.length = p.length := by rw [F.perm.length_eq, idO_len]
  have hGl := flat_ge F.ne
  have hGm := flat_mem (G := G)
  have hpk : ∀ i, (p.getD i default).length ≤ 1000 := fun i => by
   rcases Nat.lt_or_ge i p.length with h | h
   ·have := (RightP.of (show r20 = (r20.toNat : Int) by omega) hf h).len; omega
   ·rw [List.getD_eq_getElem?_getD, List.getElem?_eq_none (by omega)]; exact Nat.zero_le _
  refine VC.le _ (Le.recast (t := 6) (y := avM G) rfl (fun w Z u h => by rw [← hG]; exact h)) ?_
  refine VC.skip ?_
  refine VC.seq ?_
  refine VC.le _ (Le.freezeAt (t := 5) (m := 1) (f := fun _ => avM p) (i := 0) rfl rfl (Nat.le_refl _) (fun w Z u h => h.at_congr (g := fun _ => avM p) (fun j hj => by rcases j with _ | j <;> first | rfl | omega)) hnew hB) ?_
  refine VC.region ?_
  refine VO.val rfl rfl (OpV.makeFuncF1 rfl rfl) ?_
  refine VO.ma rfl rfl rfl rfl ?_
  refine VO.nil ?_
  refine VC.sr ?_
  refine VO.mv rfl rfl rfl rfl ?_
  refine VO.op rfl (OpE.callH (hp := []) (rest := _) rfl hB rfl Tryz.call34 rfl rfl (slices_Concat_intX (ll := G) (by omega) (by omega)) (List.Perm.refl _) (fun _ h => by obtain ⟨e, he, _⟩ := h; cases he) ?_)
  rintro _ _ ⟨u42, rfl, rfl⟩
  refine VO.ma rfl rfl rfl rfl ?_
  refine VO.nil ?_
  refine VC.sr ?_
  refine VO.mv rfl rfl rfl rfl ?_
  refine VO.op rfl (OpE.callH0 rfl hB rfl Tryz.call35 rfl rfl (sort_int (l0 := G.flatten) (by omega)) (List.Perm.refl _) (fun _ _ => trivial) ?_)
  rintro _ _ ⟨l, hpl, rfl, rfl⟩
  refine VO.nil ?_
  refine VC.seq ?_
  refine VC.seq ?_
  have hl := grp_sorted F.perm hpl.1 hpl.2
  subst hl
  have hil := idO_len p.length
  refine VC.le _ (Le.rowI (t := 9) (i := 0) (xs := idO p.length) hB hnew rfl rfl (by omega)) ?_
  refine VC.region ?_
  refine VO.mv rfl rfl rfl rfl ?_
  refine VO.val rfl rfl (OpV.len_im rfl Tryz.underlying22 rfl) ?_
  refine VO.mv rfl rfl rfl rfl ?_
  refine VO.nil ?_
  refine VC.block ?_
  refine VC.loopK [(4, _), (5, _), (6, _), (8, _), (9, _), (45, _), (46, _)] ⟨rfl, rfl, rfl, rfl, rfl, rfl, rfl, trivial⟩ ({q : Nat // q ≤ (idO p.length).length}) (fun (iZ : {q : Nat // q ≤ (idO p.length).length}) => match iZ with | ⟨q, hq⟩ => [(47, avI (q : Int))]) (fun (iZ : {q : Nat // q ≤ (idO p.length).length}) => match iZ with | ⟨q, hq⟩ => []) (fun (iZ : {q : Nat // q ≤ (idO p.length).length}) => match iZ with | ⟨q, hq⟩ => 100000) (fun (iZ : {q : Nat // q ≤ (idO p.length).length}) => match iZ with | ⟨q, hq⟩ => (idO p.length).length - q) ⟨0, Nat.zero_le _⟩ (Le.mk hB [] ⟨rfl, rfl, rfl, rfl, rfl, rfl, rfl, rfl, trivial⟩ rfl rfl (Nle rfl)) ?_
  rintro ⟨q, hq⟩
  show VC _ _ _ _ ⟨[(47, avI (q : Int))] ++ [(4, _), (5, _), (6, _), (8, _), (9, _), (45, _), (46, _)], [], 100000⟩
  refine VC.sr ?_
  refine VO.val rfl rfl (OpV.lss rfl rfl rfl) ?_
  refine VO.nil ?_
  refine VC.seq ?_
  refine VC.cond rfl (fun aH1b => ?_) (fun aH1b => ?_)
  ·have aH1 := aH1b
   try simp only [qqT, qqF, qqN, qqM, qqL, qqE] at aH1
   refine VC.skip ?_
   refine VC.seq ?_
   refine VC.block ?_
   refine VC.sr ?_
   refine VO.mv rfl rfl rfl rfl ?_
   refine VO.val rfl rfl (OpV.indexAddr_1 rfl Tryz.underlying22 Tryz.sizeOf3 rfl rfl rfl (by omega)) ?_
   refine VO.val rfl rfl (OpV.load_at rfl hB OutW.no Tryz.isAgg3 rfl rfl) ?_
   refine VO.ma rfl rfl rfl rfl ?_
   refine VO.ma rfl rfl rfl rfl ?_
   refine VO.nil ?_
   refine VC.sr ?_
   refine VO.mv rfl rfl rfl rfl ?_
   refine VO.mv rfl rfl rfl rfl ?_
   refine VO.val rfl rfl (OpV.neq rfl rfl rfl) ?_
   refine VO.le _ (Le.boolF (t := 54) rfl (by rw [idO_get (by omega)]; simp)) ?_
   refine VO.nil ?_
   refine VC.condF rfl rfl ?_
   refine VC.skip ?_
   refine VC.region ?_
   refine VO.val rfl rfl (OpV.add rfl rfl rfl (by unfold fits; omega)) ?_
   refine VO.mv rfl rfl rfl rfl ?_
   refine VO.nil ?_
   exact Exists.intro (⟨q + 1, by omega⟩) (And.intro (Le.mk hB [] ⟨rfl, rfl, rfl, rfl, rfl, rfl, rfl, rfl, trivial⟩ rfl rfl (Nle rfl)) (by first | omega | (show _ < _; omega) | (simp only []; omega)))
  ·have aH1 := aH1b
   try simp only [qqT, qqF, qqN, qqM, qqL, qqE] at aH1
   refine VC.exit ?_
   refine VC.seq ?_
   refine VC.sr ?_
   refine VO.mv rfl rfl rfl rfl ?_
   refine VO.val rfl rfl (OpV.len_im rfl Tryz.underlying57 rfl) ?_
   refine VO.mv rfl rfl rfl rfl ?_
   refine VO.nil ?_
   refine VC.block ?_
   refine VC.loopK [(4, _), (5, _), (6, _), (8, _), (9, _), (56, _), (57, _)] ⟨rfl, rfl, rfl, rfl, rfl, rfl, rfl, trivial⟩ ({q : Nat // q ≤ G.length}) (fun (iZ : {q : Nat // q ≤ G.length}) => match iZ with | ⟨q, hq1⟩ => [(58, avI (q : Int))]) (fun (iZ : {q : Nat // q ≤ G.length}) => match iZ with | ⟨q, hq1⟩ => []) (fun (iZ : {q : Nat // q ≤ G.length}) => match iZ with | ⟨q, hq1⟩ => 100000) (fun (iZ : {q : Nat // q ≤ G.length}) => match iZ with | ⟨q, hq1⟩ => G.length - q) ⟨0, Nat.zero_le _⟩ (Le.mk hB [] ⟨rfl, rfl, rfl, rfl, rfl, rfl, rfl, rfl, trivial⟩ rfl rfl (Nle rfl)) ?_
   rintro ⟨q, hq1⟩
   show VC _ _ _ _ ⟨[(58, avI (q : Int))] ++ [(4, _), (5, _), (6, _), (8, _), (9, _), (56, _), (57, _)], [], 100000⟩
   have hGq := hGm q
   refine VC.sr ?_
   refine VO.val rfl rfl (OpV.lss rfl rfl rfl) ?_
   refine VO.nil ?_
   refine VC.seq ?_
   refine VC.cond rfl (fun aH2b => ?_) (fun aH2b => ?_)
   ·have aH2 := aH2b
    try simp only [qqT, qqF, qqN, qqM, qqL, qqE] at aH2
    refine VC.skip ?_
    refine VC.seq ?_
    refine VC.block ?_
    refine VC.sr ?_
    refine VO.mv rfl rfl rfl rfl ?_
    refine VO.val rfl rfl (OpV.indexAddr_1 rfl Tryz.underlying57 Tryz.sizeOf22 rfl rfl rfl (by omega)) ?_
    refine VO.val rfl rfl (OpV.load_at rfl hB OutW.no Tryz.isAgg22 rfl rfl) ?_
    refine VO.ma rfl rfl rfl rfl ?_
    refine VO.ma rfl rfl rfl rfl ?_
    refine VO.nil ?_
    refine VC.seq ?_
    refine VC.seq ?_
    refine VC.draw (fun _ => NoB) hB (by kernel_rfl) ?_
    refine VA.take (i := 0) rfl (by kernel_rfl) (by kernel_rfl) (by kernel_rfl) rfl rfl (OpV.move (.inl rfl) rfl) ?_
    refine VA.take (i := 1) rfl (by kernel_rfl) (by kernel_rfl) (by kernel_rfl) rfl rfl (OpV.len_im rfl Tryz.underlying22 rfl) ?_
    refine VA.take (i := 2) rfl (by kernel_rfl) (by kernel_rfl) (by kernel_rfl) rfl rfl (OpV.eql rfl rfl rfl) ?_
    refine VA.le _ (Le.boolF (t := 65) rfl (decide_eq_false (by have := F.ne q (by omega); show ¬ ((G.getD q default).length : Int) = 0; have e : (G.getD q default) = G.getD q [] := rfl; rw [e]; omega))) ?_
    refine VA.take (i := 3) rfl (by kernel_rfl) (by kernel_rfl) (by kernel_rfl) rfl rfl (OpV.move (.inl rfl) rfl) ?_
    refine VA.takeY (i := 4) rfl (by kernel_rfl) (by kernel_rfl) (by kernel_rfl) rfl rfl rfl rfl rfl (OpV.move (.inl rfl) rfl) ?_
    refine VA.takeY (i := 5) rfl (by kernel_rfl) (by kernel_rfl) (by kernel_rfl) rfl rfl rfl rfl rfl (OpV.move (.inl rfl) rfl) ?_
    refine VA.takeY (i := 7) rfl (by kernel_rfl) (by kernel_rfl) (by kernel_rfl) rfl rfl rfl rfl rfl (OpV.move (.inl rfl) rfl) ?_
    refine VA.all (rs := [6]) (by kernel_rfl) (by decide) ?_
    refine ⟨⟨_, rfl, .inr ⟨_, _, _, rfl, rfl, rfl⟩, ?_⟩, trivial⟩
    refine OpE.callF rfl hB rfl Tryz.call31 rfl rfl (grp_union (p := p) (xs := G.getD q default) (by omega) (by omega) hpk) ?_
    rintro _ rfl
    refine VA.takeY (i := 8) rfl (by kernel_rfl) (by kernel_rfl) (by kernel_rfl) rfl rfl rfl rfl rfl (OpV.gtr rfl rfl rfl) ?_
    refine VA.le _ (Le.boolF (t := 71) rfl (decide_eq_false (by have h9 := F.uni q (by omega); have e : (G.getD q default) = G.getD q [] := rfl; rw [e]; omega))) ?_
    refine VA.take (i := 9) rfl (by kernel_rfl) (by kernel_rfl) (by kernel_rfl) rfl rfl (OpV.pickF rfl rfl rfl rfl rfl) ?_
    refine VA.take (i := 10) rfl (by kernel_rfl) (by kernel_rfl) (by kernel_rfl) rfl rfl (OpV.move (.inl rfl) rfl) ?_
    refine VA.takeY (i := 11) rfl (by kernel_rfl) (by kernel_rfl) (by kernel_rfl) rfl rfl rfl rfl rfl (OpV.move (.inl rfl) rfl) ?_
    refine VA.takeY (i := 12) rfl (by kernel_rfl) (by kernel_rfl) (by kernel_rfl) rfl rfl rfl rfl rfl (OpV.gtr rfl rfl rfl) ?_
    refine VA.takeY (i := 13) rfl (by kernel_rfl) (by kernel_rfl) (by kernel_rfl) rfl rfl rfl rfl rfl (OpV.move (.inl rfl) rfl) ?_
    refine VA.split (t := 76) rfl (fun aK3b => ?_) (fun aK3b => ?_)
    ·have aK3 := aK3b
     try simp only [qqT, qqF, qqN, qqM, qqL, qqE] at aK3
     refine VA.takeY (i := 14) rfl (by kernel_rfl) (by kernel_rfl) (by kernel_rfl) rfl rfl rfl rfl aK3b (OpV.move (.inl rfl) rfl) ?_
     refine VA.takeY (i := 15) rfl (by kernel_rfl) (by kernel_rfl) (by kernel_rfl) rfl rfl rfl rfl aK3b (OpV.move (.inl rfl) rfl) ?_
     refine VA.takeY (i := 16) rfl (by kernel_rfl) (by kernel_rfl) (by kernel_rfl) rfl rfl rfl rfl aK3b (OpV.sub rfl rfl rfl (by unfold fits; omega)) ?_
     refine VA.le _ (Le.recast (t := 79) (y := avI ((q - 1 : Nat) : Int)) rfl (fun w Z u h => by rw [show ((q - 1 : Nat) : Int) = (q : Int) - 1 by omega]; exact h)) ?_
     refine VA.takeY (i := 17) rfl (by kernel_rfl) (by kernel_rfl) (by kernel_rfl) rfl rfl rfl rfl aK3b (OpV.indexAddr_1 rfl Tryz.underlying57 Tryz.sizeOf22 rfl rfl rfl (by omega)) ?_
     refine VA.takeY (i := 18) rfl (by kernel_rfl) (by kernel_rfl) (by kernel_rfl) rfl rfl rfl rfl aK3b (OpV.load_at rfl hB OutW.wi0 Tryz.isAgg22 rfl rfl) ?_
     refine VA.takeY (i := 19) rfl (by kernel_rfl) (by kernel_rfl) (by kernel_rfl) rfl rfl rfl rfl aK3b (OpV.len_im rfl Tryz.underlying22 rfl) ?_
     refine VA.takeY (i := 20) rfl (by kernel_rfl) (by kernel_rfl) (by kernel_rfl) rfl rfl rfl rfl aK3b (OpV.gtr rfl rfl rfl) ?_
     refine VA.le _ (Le.boolT (t := 83) rfl (decide_eq_true (by have h9 := F.ne (q - 1) (by omega); have e : (G.getD (q - 1) default) = G.getD (q - 1) [] := rfl; rw [e]; omega))) ?_
     refine VA.takeY (i := 21) rfl (by kernel_rfl) (by kernel_rfl) (by kernel_rfl) rfl rfl rfl rfl rfl (OpV.pickT rfl rfl rfl rfl aK3b) ?_
     refine VA.takeY (i := 22) rfl (by kernel_rfl) (by kernel_rfl) (by kernel_rfl) rfl rfl rfl rfl rfl (OpV.move (.inl rfl) rfl) ?_
     refine VA.takeY (i := 23) rfl (by kernel_rfl) (by kernel_rfl) (by kernel_rfl) rfl rfl rfl rfl rfl (OpV.move (.inl rfl) rfl) ?_
     refine VA.takeY (i := 24) rfl (by kernel_rfl) (by kernel_rfl) (by kernel_rfl) rfl rfl rfl rfl rfl (OpV.indexAddr_1 rfl Tryz.underlying22 Tryz.sizeOf3 rfl rfl rfl (by have h9 := F.ne q (by omega); have e : (G.getD q default) = G.getD q [] := rfl; rw [e]; omega)) ?_
     refine VA.takeY (i := 25) rfl (by kernel_rfl) (by kernel_rfl) (by kernel_rfl) rfl rfl rfl rfl rfl (OpV.load_at rfl hB OutW.wi0 Tryz.isAgg3 rfl rfl) ?_
     refine VA.takeY (i := 26) rfl (by kernel_rfl) (by kernel_rfl) (by kernel_rfl) rfl rfl rfl rfl rfl (OpV.move (.inl rfl) rfl) ?_
     refine VA.takeY (i := 27) rfl (by kernel_rfl) (by kernel_rfl) (by kernel_rfl) rfl rfl rfl rfl rfl (OpV.move (.inl rfl) rfl) ?_
     refine VA.takeY (i := 28) rfl (by kernel_rfl) (by kernel_rfl) (by kernel_rfl) rfl rfl rfl rfl rfl (OpV.sub rfl rfl rfl (by unfold fits; omega)) ?_
     refine VA.le _ (Le.recast (t := 91) (y := avI ((q - 1 : Nat) : Int)) rfl (fun w Z u h => by rw [show ((q - 1 : Nat) : Int) = (q : Int) - 1 by omega]; exact h)) ?_
     refine VA.takeY (i := 29) rfl (by kernel_rfl) (by kernel_rfl) (by kernel_rfl) rfl rfl rfl rfl rfl (OpV.indexAddr_1 rfl Tryz.underlying57 Tryz.sizeOf22 rfl rfl rfl (by omega)) ?_
     refine VA.takeY (i := 30) rfl (by kernel_rfl) (by kernel_rfl) (by kernel_rfl) rfl rfl rfl rfl rfl (OpV.load_at rfl hB OutW.wi0 Tryz.isAgg22 rfl rfl) ?_
     refine VA.takeY (i := 31) rfl (by kernel_rfl) (by kernel_rfl) (by kernel_rfl) rfl rfl rfl rfl rfl (OpV.indexAddr_1 rfl Tryz.underlying22 Tryz.sizeOf3 rfl rfl rfl (by have h9 := F.ne (q - 1) (by omega); have e : (G.getD (q - 1) default) = G.getD (q - 1) [] := rfl; rw [e]; omega)) ?_
     refine VA.takeY (i := 32) rfl (by kernel_rfl) (by kernel_rfl) (by kernel_rfl) rfl rfl rfl rfl rfl (OpV.load_at rfl hB OutW.wi0 Tryz.isAgg3 rfl rfl) ?_
     refine VA.takeY (i := 33) rfl (by kernel_rfl) (by kernel_rfl) (by kernel_rfl) rfl rfl rfl rfl rfl (OpV.lss rfl rfl rfl) ?_
     refine VA.le _ (Le.boolF (t := 96) rfl (decide_eq_false (by have h9 := F.hd (q - 1) (by omega); rw [show q - 1 + 1 = q by omega] at h9; show ¬ (G.getD q []).getD 0 0 < (G.getD (q - 1) []).getD 0 0; omega))) ?_
     refine VA.takeY (i := 34) rfl (by kernel_rfl) (by kernel_rfl) (by kernel_rfl) rfl rfl rfl rfl rfl (OpV.pickT rfl rfl rfl rfl rfl) ?_
     refine VA.take (i := 35) rfl (by kernel_rfl) (by kernel_rfl) (by kernel_rfl) rfl rfl (OpV.pickF rfl rfl rfl rfl rfl) ?_
     refine VA.done (by kernel_rfl) ?_
     refine VC.condF rfl rfl ?_
     refine VC.skip ?_
     refine VC.sr ?_
     refine VO.mv rfl rfl rfl rfl ?_
     refine VO.mv rfl rfl rfl rfl ?_
     refine VO.val rfl rfl (OpV.add rfl rfl rfl (by unfold fits; omega)) ?_
     refine VO.val rfl rfl (OpV.slice_M (l := q + 1) rfl Tryz.underlying57 Tryz.sizeOf22 rfl ⟨_, _, rfl, by omega⟩ rfl (by omega) (by omega)) ?_
     refine VO.le _ (Le.recast (t := 102) (y := avM (G.drop (q + 1))) rfl (fun w Z u h => by rw [List.take_length] at h; exact h)) ?_
     refine VO.val rfl rfl (OpV.len_im rfl Tryz.underlying57 rfl) ?_
     refine VO.mv rfl rfl rfl rfl ?_
     refine VO.nil ?_
     refine VC.block ?_
     refine VC.loopK [(4, _), (5, _), (6, _), (8, _), (9, _), (13, _), (56, _), (57, _), (58, _), (102, _), (103, _)] ⟨rfl, rfl, rfl, rfl, rfl, rfl, rfl, rfl, rfl, rfl, rfl, trivial⟩ ({r : Nat // r ≤ (G.drop (q + 1)).length}) (fun (iZ : {r : Nat // r ≤ (G.drop (q + 1)).length}) => match iZ with | ⟨r, hq2⟩ => [(104, avI (r : Int))]) (fun (iZ : {r : Nat // r ≤ (G.drop (q + 1)).length}) => match iZ with | ⟨r, hq2⟩ => []) (fun (iZ : {r : Nat // r ≤ (G.drop (q + 1)).length}) => match iZ with | ⟨r, hq2⟩ => 100000) (fun (iZ : {r : Nat // r ≤ (G.drop (q + 1)).length}) => match iZ with | ⟨r, hq2⟩ => (G.drop (q + 1)).length - r) ⟨0, Nat.zero_le _⟩ (Le.mk hB [] ⟨rfl, rfl, rfl, rfl, rfl, rfl, rfl, rfl, rfl, rfl, rfl, rfl, trivial⟩ rfl rfl (Nle rfl)) ?_
     rintro ⟨r, hq2⟩
     show VC _ _ _ _ ⟨[(104, avI (r : Int))] ++ [(4, _), (5, _), (6, _), (8, _), (9, _), (13, _), (56, _), (57, _), (58, _), (102, _), (103, _)], [], 100000⟩
     have hdl : (G.drop (q + 1)).length = G.length - (q + 1) := List.length_drop
     refine VC.sr ?_
     refine VO.val rfl rfl (OpV.lss rfl rfl rfl) ?_
     refine VO.nil ?_
     refine VC.seq ?_
     refine VC.cond rfl (fun aH4b => ?_) (fun aH4b => ?_)
     ·have aH4 := aH4b
      try simp only [qqT, qqF, qqN, qqM, qqL, qqE] at aH4
      refine VC.skip ?_
      refine VC.seq ?_
      refine VC.block ?_
      refine VC.sr ?_
      refine VO.val rfl rfl (OpV.indexAddr_1 rfl Tryz.underlying57 Tryz.sizeOf22 rfl rfl rfl (by omega)) ?_
      refine VO.val rfl rfl (OpV.load_at rfl hB OutW.no Tryz.isAgg22 rfl rfl) ?_
      refine VO.le _ (Le.recast (t := 107) (y := avInts (G.getD (q + 1 + r) [])) rfl (fun w Z u h => by rw [show G.getD (q + 1 + r) [] = (G.drop (q + 1)).getD r default by simp [List.getD_eq_getElem?_getD]; rfl]; exact h)) ?_
      refine VO.ma rfl rfl rfl rfl ?_
      refine VO.nil ?_
      refine VC.sr ?_
      refine VO.mv rfl rfl rfl rfl ?_
      refine VO.mv rfl rfl rfl rfl ?_
      refine VO.mv rfl rfl rfl rfl ?_
      refine VO.op rfl (OpE.buildSlice (zc := #[.slice none 0 0, .slice none 0 0]) rfl hB rfl Tryz.underlying57 Tryz.sizeOf22 Tryz.zeroValue22 (by decide) (by decide) (by kernel_rfl) rfl rfl ?_)
      refine VO.le _ (Le.recast (t := 111) (y := avM [G.getD q [], G.getD (q + 1 + r) []]) rfl (fun w Z u h => Rep.listM (xs := [G.getD q [], G.getD (q + 1 + r) []]) rfl h)) ?_
      have hGr : (G.getD (q + 1 + r) []).length ≤ G.flatten.length := hGm (q + 1 + r)
      have hGq' : (G.getD q []).length ≤ G.flatten.length := hGq
      refine VO.op rfl (OpE.callH (hp := []) (rest := _) rfl hB rfl Tryz.call34 rfl rfl (slices_Concat_intX (ll := [G.getD q [], G.getD (q + 1 + r) []]) (by simp) (by rw [List.flatten_cons, List.flatten_cons, List.flatten_nil, List.length_append, List.length_append, List.length_nil]; omega)) (List.Perm.refl _) (fun _ h => by obtain ⟨e, he, _⟩ := h; cases he) ?_)
      rintro _ _ ⟨u112, rfl, rfl⟩
      refine VO.le _ (Le.rowI (t := 112) (i := 0) hB hnew rfl rfl (by first | rfl | simp)) ?_
      refine VO.le _ (Le.recast (t := 112) (y := avInts (G.getD q [] ++ G.getD (q + 1 + r) [])) rfl (fun w Z u h => by simpa using h)) ?_
      refine VO.op rfl (OpE.callF rfl hB rfl Tryz.call31 rfl rfl (grp_union (p := p) (xs := G.getD q [] ++ G.getD (q + 1 + r) []) (by rw [List.length_append]; omega) (by omega) hpk) ?_)
      rintro _ rfl
      refine VO.mv rfl rfl rfl rfl ?_
      refine VO.val rfl rfl (OpV.leq rfl rfl rfl) ?_
      refine VO.le _ (Le.boolF (t := 115) rfl (decide_eq_false (by have h9 := F.pr q (q + 1 + r) (by omega) (by omega); omega))) ?_
      refine VO.nil ?_
      refine VC.condF rfl rfl ?_
      refine VC.skip ?_
      refine VC.region ?_
      refine VO.val rfl rfl (OpV.add rfl rfl rfl (by unfold fits; omega)) ?_
      refine VO.mv rfl rfl rfl rfl ?_
      refine VO.nil ?_
      exact Exists.intro (⟨r + 1, by omega⟩) (And.intro (Le.mk hB [] ⟨rfl, rfl, rfl, rfl, rfl, rfl, rfl, rfl, rfl, rfl, rfl, rfl, trivial⟩ rfl rfl (Nle rfl)) (by first | omega | (show _ < _; omega) | (simp only []; omega)))
     ·have aH4 := aH4b
      try simp only [qqT, qqF, qqN, qqM, qqL, qqE] at aH4
      refine VC.exit ?_
      refine VC.region ?_
      refine VO.val rfl rfl (OpV.add rfl rfl rfl (by unfold fits; omega)) ?_
      refine VO.mv rfl rfl rfl rfl ?_
      refine VO.nil ?_
      exact Exists.intro (⟨q + 1, by omega⟩) (And.intro (Le.mk hB [] ⟨rfl, rfl, rfl, rfl, rfl, rfl, rfl, rfl, trivial⟩ rfl rfl (Nle rfl)) (by first | omega | (show _ < _; omega) | (simp only []; omega)))
    ·have aK3 := aK3b
     try simp only [qqT, qqF, qqN, qqM, qqL, qqE] at aK3
     refine VA.takeX (i := 14) rfl (by kernel_rfl) (by kernel_rfl) (by kernel_rfl) rfl rfl rfl rfl aK3b ?_
     refine VA.takeX (i := 15) rfl (by kernel_rfl) (by kernel_rfl) (by kernel_rfl) rfl rfl rfl rfl aK3b ?_
     refine VA.takeX (i := 16) rfl (by kernel_rfl) (by kernel_rfl) (by kernel_rfl) rfl rfl rfl rfl aK3b ?_
     refine VA.takeX (i := 17) rfl (by kernel_rfl) (by kernel_rfl) (by kernel_rfl) rfl rfl rfl rfl aK3b ?_
     refine VA.takeX (i := 18) rfl (by kernel_rfl) (by kernel_rfl) (by kernel_rfl) rfl rfl rfl rfl aK3b ?_
     refine VA.takeX (i := 19) rfl (by kernel_rfl) (by kernel_rfl) (by kernel_rfl) rfl rfl rfl rfl aK3b ?_
     refine VA.takeX (i := 20) rfl (by kernel_rfl) (by kernel_rfl) (by kernel_rfl) rfl rfl rfl rfl aK3b ?_
     refine VA.takeY (i := 21) rfl (by kernel_rfl) (by kernel_rfl) (by kernel_rfl) rfl rfl rfl rfl rfl (OpV.pickF rfl rfl rfl rfl aK3b) ?_
     refine VA.takeY (i := 22) rfl (by kernel_rfl) (by kernel_rfl) (by kernel_rfl) rfl rfl rfl rfl rfl (OpV.move (.inl rfl) rfl) ?_
     refine VA.takeX (i := 23) rfl (by kernel_rfl) (by kernel_rfl) (by kernel_rfl) rfl rfl rfl rfl rfl ?_
     refine VA.takeX (i := 24) rfl (by kernel_rfl) (by kernel_rfl) (by kernel_rfl) rfl rfl rfl rfl rfl ?_
     refine VA.takeX (i := 25) rfl (by kernel_rfl) (by kernel_rfl) (by kernel_rfl) rfl rfl rfl rfl rfl ?_
     refine VA.takeX (i := 26) rfl (by kernel_rfl) (by kernel_rfl) (by kernel_rfl) rfl rfl rfl rfl rfl ?_
     refine VA.takeX (i := 27) rfl (by kernel_rfl) (by kernel_rfl) (by kernel_rfl) rfl rfl rfl rfl rfl ?_
     refine VA.takeX (i := 28) rfl (by kernel_rfl) (by kernel_rfl) (by kernel_rfl) rfl rfl rfl rfl rfl ?_
     refine VA.takeX (i := 29) rfl (by kernel_rfl) (by kernel_rfl) (by kernel_rfl) rfl rfl rfl rfl rfl ?_
     refine VA.takeX (i := 30) rfl (by kernel_rfl) (by kernel_rfl) (by kernel_rfl) rfl rfl rfl rfl rfl ?_
     refine VA.takeX (i := 31) rfl (by kernel_rfl) (by kernel_rfl) (by kernel_rfl) rfl rfl rfl rfl rfl ?_
     refine VA.takeX (i := 32) rfl (by kernel_rfl) (by kernel_rfl) (by kernel_rfl) rfl rfl rfl rfl rfl ?_
     refine VA.takeX (i := 33) rfl (by kernel_rfl) (by kernel_rfl) (by kernel_rfl) rfl rfl rfl rfl rfl ?_
     refine VA.takeY (i := 34) rfl (by kernel_rfl) (by kernel_rfl) (by kernel_rfl) rfl rfl rfl rfl rfl (OpV.pickF rfl rfl rfl rfl rfl) ?_
     refine VA.take (i := 35) rfl (by kernel_rfl) (by kernel_rfl) (by kernel_rfl) rfl rfl (OpV.pickF rfl rfl rfl rfl rfl) ?_
     refine VA.done (by kernel_rfl) ?_
     refine VC.condF rfl rfl ?_
     refine VC.skip ?_
     refine VC.sr ?_
     refine VO.mv rfl rfl rfl rfl ?_
     refine VO.mv rfl rfl rfl rfl ?_
     refine VO.val rfl rfl (OpV.add rfl rfl rfl (by unfold fits; omega)) ?_
     refine VO.val rfl rfl (OpV.slice_M (l := q + 1) rfl Tryz.underlying57 Tryz.sizeOf22 rfl ⟨_, _, rfl, by omega⟩ rfl (by omega) (by omega)) ?_
     refine VO.le _ (Le.recast (t := 102) (y := avM (G.drop (q + 1))) rfl (fun w Z u h => by rw [List.take_length] at h; exact h)) ?_
     refine VO.val rfl rfl (OpV.len_im rfl Tryz.underlying57 rfl) ?_
     refine VO.mv rfl rfl rfl rfl ?_
     refine VO.nil ?_
     refine VC.block ?_
     refine VC.loopK [(4, _), (5, _), (6, _), (8, _), (9, _), (13, _), (56, _), (57, _), (58, _), (102, _), (103, _)] ⟨rfl, rfl, rfl, rfl, rfl, rfl, rfl, rfl, rfl, rfl, rfl, trivial⟩ ({r : Nat // r ≤ (G.drop (q + 1)).length}) (fun (iZ : {r : Nat // r ≤ (G.drop (q + 1)).length}) => match iZ with | ⟨r, hq2⟩ => [(104, avI (r : Int))]) (fun (iZ : {r : Nat // r ≤ (G.drop (q + 1)).length}) => match iZ with | ⟨r, hq2⟩ => []) (fun (iZ : {r : Nat // r ≤ (G.drop (q + 1)).length}) => match iZ with | ⟨r, hq2⟩ => 100000) (fun (iZ : {r : Nat // r ≤ (G.drop (q + 1)).length}) => match iZ with | ⟨r, hq2⟩ => (G.drop (q + 1)).length - r) ⟨0, Nat.zero_le _⟩ (Le.mk hB [] ⟨rfl, rfl, rfl, rfl, rfl, rfl, rfl, rfl, rfl, rfl, rfl, rfl, trivial⟩ rfl rfl (Nle rfl)) ?_
     rintro ⟨r, hq2⟩
     show VC _ _ _ _ ⟨[(104, avI (r : Int))] ++ [(4, _), (5, _), (6, _), (8, _), (9, _), (13, _), (56, _), (57, _), (58, _), (102, _), (103, _)], [], 100000⟩
     have hdl : (G.drop (q + 1)).length = G.length - (q + 1) := List.length_drop
     refine VC.sr ?_
     refine VO.val rfl rfl (OpV.lss rfl rfl rfl) ?_
     refine VO.nil ?_
     refine VC.seq ?_
     refine VC.cond rfl (fun aH5b => ?_) (fun aH5b => ?_)
     ·have aH5 := aH5b
      try simp only [qqT, qqF, qqN, qqM, qqL, qqE] at aH5
      refine VC.skip ?_
      refine VC.seq ?_
      refine VC.block ?_
      refine VC.sr ?_
      refine VO.val rfl rfl (OpV.indexAddr_1 rfl Tryz.underlying57 Tryz.sizeOf22 rfl rfl rfl (by omega)) ?_
      refine VO.val rfl rfl (OpV.load_at rfl hB OutW.no Tryz.isAgg22 rfl rfl) ?_
      refine VO.le _ (Le.recast (t := 107) (y := avInts (G.getD (q + 1 + r) [])) rfl (fun w Z u h => by rw [show G.getD (q + 1 + r) [] = (G.drop (q + 1)).getD r default by simp [List.getD_eq_getElem?_getD]; rfl]; exact h)) ?_
      refine VO.ma rfl rfl rfl rfl ?_
      refine VO.nil ?_
      refine VC.sr ?_
      refine VO.mv rfl rfl rfl rfl ?_
      refine VO.mv rfl rfl rfl rfl ?_
      refine VO.mv rfl rfl rfl rfl ?_
      refine VO.op rfl (OpE.buildSlice (zc := #[.slice none 0 0, .slice none 0 0]) rfl hB rfl Tryz.underlying57 Tryz.sizeOf22 Tryz.zeroValue22 (by decide) (by decide) (by kernel_rfl) rfl rfl ?_)
      refine VO.le _ (Le.recast (t := 111) (y := avM [G.getD q [], G.getD (q + 1 + r) []]) rfl (fun w Z u h => Rep.listM (xs := [G.getD q [], G.getD (q + 1 + r) []]) rfl h)) ?_
      have hGr : (G.getD (q + 1 + r) []).length ≤ G.flatten.length := hGm (q + 1 + r)
      have hGq' : (G.getD q []).length ≤ G.flatten.length := hGq
      refine VO.op rfl (OpE.callH (hp := []) (rest := _) rfl hB rfl Tryz.call34 rfl rfl (slices_Concat_intX (ll := [G.getD q [], G.getD (q + 1 + r) []]) (by simp) (by rw [List.flatten_cons, List.flatten_cons, List.flatten_nil, List.length_append, List.length_append, List.length_nil]; omega)) (List.Perm.refl _) (fun _ h => by obtain ⟨e, he, _⟩ := h; cases he) ?_)
      rintro _ _ ⟨u112, rfl, rfl⟩
      refine VO.le _ (Le.rowI (t := 112) (i := 0) hB hnew rfl rfl (by first | rfl | simp)) ?_
      refine VO.le _ (Le.recast (t := 112) (y := avInts (G.getD q [] ++ G.getD (q + 1 + r) [])) rfl (fun w Z u h => by simpa using h)) ?_
      refine VO.op rfl (OpE.callF rfl hB rfl Tryz.call31 rfl rfl (grp_union (p := p) (xs := G.getD q [] ++ G.getD (q + 1 + r) []) (by rw [List.length_append]; omega) (by omega) hpk) ?_)
      rintro _ rfl
      refine VO.mv rfl rfl rfl rfl ?_
      refine VO.val rfl rfl (OpV.leq rfl rfl rfl) ?_
      refine VO.le _ (Le.boolF (t := 115) rfl (decide_eq_false (by have h9 := F.pr q (q + 1 + r) (by omega) (by omega); omega))) ?_
      refine VO.nil ?_
      refine VC.condF rfl rfl ?_
      refine VC.skip ?_
      refine VC.region ?_
      refine VO.val rfl rfl (OpV.add rfl rfl rfl (by unfold fits; omega)) ?_
      refine VO.mv rfl rfl rfl rfl ?_
      refine VO.nil ?_
      exact Exists.intro (⟨r + 1, by omega⟩) (And.intro (Le.mk hB [] ⟨rfl, rfl, rfl, rfl, rfl, rfl, rfl, rfl, rfl, rfl, rfl, rfl, trivial⟩ rfl rfl (Nle rfl)) (by first | omega | (show _ < _; omega) | (simp only []; omega)))
     ·have aH5 := aH5b
      try simp only [qqT, qqF, qqN, qqM, qqL, qqE] at aH5
      refine VC.exit ?_
      refine VC.region ?_
      refine VO.val rfl rfl (OpV.add rfl rfl rfl (by unfold fits; omega)) ?_
      refine VO.mv rfl rfl rfl rfl ?_
      refine VO.nil ?_
      exact Exists.intro (⟨q + 1, by omega⟩) (And.intro (Le.mk hB [] ⟨rfl, rfl, rfl, rfl, rfl, rfl, rfl, rfl, trivial⟩ rfl rfl (Nle rfl)) (by first | omega | (show _ < _; omega) | (simp only []; omega)))
   ·have aH2 := aH2b
    try simp only [qqT, qqF, qqN, qqM, qqL, qqE] at aH2
    refine VC.exit ?_
    refine VC.sr ?_
    refine VO.mv rfl rfl rfl rfl ?_
    refine VO.val rfl rfl (OpV.len_im rfl Tryz.underlying22 rfl) ?_
    refine VO.val rfl rfl (OpV.load_at rfl hB OutW.no Tryz.isAgg55 rfl rfl) ?_
    refine VO.val rfl rfl (OpV.len_im rfl Tryz.underlying55 rfl) ?_
    refine VO.val rfl rfl (OpV.eql rfl rfl rfl) ?_
    refine VO.le _ (Le.boolT (t := 122) rfl (decide_eq_true (by rw [idO_len]))) ?_
    refine VO.mv rfl rfl rfl rfl ?_
    refine VO.opY rfl rfl rfl rfl rfl ?_
    refine OpE.call rfl hB rfl Tryz.call30 rfl (SpecN.spec (rk_ready)) ?_
    rintro _ rfl
    refine VO.val rfl rfl (OpV.pickT rfl rfl rfl rfl rfl) ?_
    refine VO.ma rfl rfl rfl rfl ?_
    refine VO.nil ?_
    refine VC.ret ?_
    exact And.intro rfl rfl
end Go.Proofs.YtemnnmohdpabhaaGreatDoor
