/- Part 4 of a proof: the walks and laws that it needs. -/
import Derived.Test.YtmahammdnmmmoaaGreatDoorZC3
namespace Go.Proofs.YtmahammdnmmmoaaGreatDoor
open Go.RowKit
set_option linter.unusedVariables false
set_option linter.unusedSimpArgs false
def r9K : ByteArray := ⟨#[114, 57]⟩
def setR (l : List LookS) : List LookS := l.set 0 ({l.getD 0 default with reel := r9K} : LookS)
theorem setR_ok {m : Nat} {l : List LookS} (h : ∀ x ∈ l, LkG m x) : ∀ x ∈ setR l, LkG m x :=
 have hx := LkG.getD h 0
 LkG.setD h 0 (y := {l.getD 0 default with reel := r9K}) ⟨hx.board, hx.name, hx.at_, hx.machine, hx.nozzle, by show r9K.size ≤ 1000; decide⟩
theorem drop_ok {m : Nat} {l : List LookS} (h : ∀ x ∈ l, LkG m x) (k : Nat) : ∀ x ∈ (l.take l.length).drop k, LkG m x := fun x hx => h x (List.mem_of_mem_take (List.mem_of_mem_drop hx))
structure BOk (b : List LookS) : Prop where
 all : ∀ x ∈ b, LkG 4 x
 len : b.length ≤ 12
set_option maxRecDepth 100000 in
set_option maxHeartbeats 40000000 in
theorem looksCounted_any (a0 : Option Addr) (cap0 : Nat) (L : List Int) (w : World) (hin : Inp w a0 L) :
  Calls Tryz.prog 5 #[.slice a0 L.length cap0] w fun e w' => e = .returned (.bool true) ∧ Chg NoB w w' := by
 refine law_calls Tryz.func5 rfl Tryz.ntmps5 (Nle rfl) Tryz.results5 ?_
 have hB := B0.ok w (fun _ => True) 153
 have hnew : True := trivial
 refine VC.sr ?_
 refine VO.ma rfl rfl rfl rfl ?_
 refine VO.nil ?_
 refine VC.sr ?_
 refine VO.mv rfl rfl rfl rfl ?_
 refine VO.val rfl rfl (OpV.build (pls := #[(0, 1), (1, 1)]) rfl Tryz.zeroValue25 Tryz.underlying25 (fun w => by kernel_rfl) rfl rfl) ?_
 refine VO.op rfl (OpE.box rfl hB rfl rfl rfl ?_)
 intro g
 refine VO.ma rfl rfl rfl rfl ?_
 refine VO.nil ?_
 refine VC.stream (i := 0) (sl := [(3, sp g)]) (by exact rfl) (by exact rfl) hin (by exact ⟨rfl, trivial⟩) (fun p hp => by simp at hp; subst hp; exact ⟨_, rfl⟩) (fun w1 hge hB => ?_)
 refine VC.sr ?_
 refine VO.mv rfl rfl rfl rfl ?_
 refine VO.mv rfl rfl rfl rfl ?_
 refine VO.op rfl (OpE.callT' (0) rfl rfl hB rfl Tryz.call40 rfl ((range_T (by omega) (by omega) (by omega))) (by omega) ?_)
 rintro _ ⟨r27, hr27, rfl⟩
 obtain ⟨na, rfl⟩ : ∃ na : Nat, r27 = na := ⟨r27.toNat, by omega⟩
 refine VO.op rfl (OpE.callTO (0 + 1) rfl rfl hB rfl Tryz.call39 rfl (looks_O (by omega)) (by omega) ?_)
 rintro _ _ ⟨a, ua, hal, rfl, rfl⟩
 refine VO.le _ (Le.rowT (t := 28) (i := 0) (xs := a) hB hnew rfl rfl rfl) ?_
 refine VO.mv rfl rfl rfl rfl ?_
 refine VO.mv rfl rfl rfl rfl ?_
 refine VO.op rfl (OpE.callT' (0 + 1 + 200) rfl rfl hB rfl Tryz.call40 rfl ((range_T (by omega) (by omega) (by omega))) (by omega) ?_)
 rintro _ ⟨r31, hr31, rfl⟩
 obtain ⟨nb, rfl⟩ : ∃ nb : Nat, r31 = nb := ⟨r31.toNat, by omega⟩
 refine VO.op rfl (OpE.callTO (0 + 1 + 200 + 1) rfl rfl hB rfl Tryz.call39 rfl (looks_O (by omega)) (by omega) ?_)
 rintro _ _ ⟨b0, ub, hbl, rfl, rfl⟩
 refine VO.le _ (Le.rowT (t := 32) (i := 0) (xs := b0) hB hnew rfl rfl rfl) ?_
 refine VO.ma rfl rfl rfl rfl ?_
 refine VO.ma rfl rfl rfl rfl ?_
 refine VO.nil ?_
 refine VC.seq ?_
 refine VC.seq ?_
 have hak : ∀ x ∈ a, LkG 4 x := fun x hx => (hal.2 x hx).mono (by omega)
 have hbk : BOk b0 := ⟨fun x hx => (hbl.2 x hx).mono (by omega), by omega⟩
 have ha12 : a.length ≤ 12 := by omega
 have hs := LkG.sm hak (by omega)
 refine VC.region ?_
 refine VO.mv rfl rfl rfl rfl ?_
 refine VO.val rfl rfl (OpV.len_im rfl Tryz.underlying61 rfl) ?_
 refine VO.val rfl rfl (OpV.gtr rfl rfl rfl) ?_
 refine VO.mv rfl rfl rfl rfl ?_
 refine VO.opG rfl rfl rfl rfl (fun aK1b => ?_) (fun aK1b => ?_)
 ·replace aK1b : _ = true := aK1b
  have aK1 := aK1b
  try simp only [qqT, qqF, qqN, qqM, qqL, qqE] at aK1
  refine OpE.val (W := NoB) (OpV.move (.inl rfl) rfl) rfl ?_
  refine VO.opY rfl rfl rfl rfl aK1b ?_
  refine OpE.callT' (0 + 1 + 200 + 1 + 200) rfl rfl hB rfl Tryz.call17 rfl (flip_T (by decide)) (by omega) ?_
  rintro _ ⟨r38, rfl⟩
  refine VO.val rfl rfl (OpV.pickT rfl rfl rfl rfl aK1b) ?_
  refine VO.nil ?_
  refine VC.cond rfl (fun aH2b => ?_) (fun aH2b => ?_)
  ·have aH2 := aH2b
   try simp only [qqT, qqF, qqN, qqM, qqL, qqE] at aH2
   refine VC.sr ?_
   refine VO.mv rfl rfl rfl rfl ?_
   refine VO.mv rfl rfl rfl rfl ?_
   refine VO.mv rfl rfl rfl rfl ?_
   refine VO.val rfl rfl (OpV.len_im rfl Tryz.underlying61 rfl) ?_
   refine VO.op rfl (OpE.callT' (0 + 1 + 200 + 1 + 200 + 1) rfl rfl hB rfl Tryz.call42 rfl ((next_T (by omega))) (by omega) ?_)
   rintro _ ⟨r44, hr44, rfl⟩
   obtain ⟨k, rfl⟩ : ∃ k : Nat, r44 = k := ⟨r44.toNat, by omega⟩
   refine VO.val rfl rfl (OpV.slice_L (l := k) rfl Tryz.underlying61 Tryz.sizeOf66 rfl ⟨_, _, rfl, rfl⟩ rfl (by omega) (by omega)) ?_
   obtain ⟨bd, hbd⟩ : ∃ bd, (a.take a.length).drop k = bd := ⟨_, rfl⟩
   have hbdk : BOk bd := ⟨by rw [← hbd]; exact drop_ok hak k, by rw [← hbd]; simp; omega⟩
   have hbd0 : 0 < bd.length := by rw [← hbd]; simp; omega
   refine VO.le _ (Le.recast (t := 45) (y := avL bd) rfl (fun w Z u h => by rw [← hbd]; exact h)) ?_
   refine VO.op rfl (OpE.callH (hp := []) (rest := _) rfl hB rfl Tryz.call41 rfl rfl (slices_CloneLk (by have := hbdk.len; omega)) (List.Perm.refl _) (fun _ h => by obtain ⟨e, he, _⟩ := h; cases he) ?_)
   rintro _ _ ⟨u46, rfl, rfl⟩
   refine VO.ma rfl rfl rfl rfl ?_
   refine VO.nil ?_
   refine VC.sr ?_
   refine VO.mv rfl rfl rfl rfl ?_
   refine VO.op rfl (OpE.callT' (0 + 1 + 200 + 1 + 200 + 1 + 1) rfl rfl hB rfl Tryz.call17 rfl ((flip_T (by omega))) (by omega) ?_)
   rintro _ ⟨r48, rfl⟩
   refine VO.nil ?_
   refine VC.cond rfl (fun aH3b => ?_) (fun aH3b => ?_)
   ·have aH3 := aH3b
    try simp only [qqT, qqF, qqN, qqM, qqL, qqE] at aH3
    refine VC.asBox (i := 0) rfl hbd0 (fun gb cap hu hcap hmx => ?_)
    subst hu
    refine VC.region ?_
    refine VO.mv rfl rfl rfl rfl ?_
    refine VO.val rfl rfl (OpV.indexAddr_q rfl Tryz.underlying61 Tryz.sizeOf66 rfl rfl rfl (by omega)) ?_
    refine VO.val rfl rfl (OpV.fieldAddrO 7 rfl Tryz.underlying66 rfl rfl Tryz.sizeOf9 rfl) ?_
    refine VO.op rfl (OpE.store1 (i := 0) rfl hB rfl Tryz.sizeOf9 rfl rfl rfl rfl rfl rfl (rowL_in rfl hbd0 (by decide)) (rowL_set (x := ({bd.getD 0 default with reel := r9K} : LookS)) rfl hbd0 (by decide) rfl (fun i hi hn => lk_upd (by simp) (by simp) (by simp) (by simp) (by simp) (by simp) (by simp) (by simp) i hi hn)) trivial ?_)
    refine VO.nil ?_
    refine VC.seq ?_
    (refine VC.le _ (Le.boxT (t := 5) (i := 0) (n := bd.length) (xs := setR bd) hB hnew rfl rfl (by simp [setR]) hcap hmx) ?_; obtain ⟨b, hbe, hb⟩ : ∃ b, setR bd = b ∧ BOk b := ⟨_, rfl, setR_ok hbdk.all, by simp [setR]; exact hbdk.len⟩; refine VC.le _ (Le.recast (t := 5) (y := avL b) rfl (fun w Z u h => by rw [← hbe]; exact h)) ?_)
    have hb12 := hb.len
    have hsb := LkG.sm hb.all (by omega)
    refine VC.le ⟨[(3, _), (4, _), (5, _)], [], 0 + 1 + 200 + 1 + 200 + 1 + 1 + 1⟩ (Le.mk hB [] ⟨rfl, rfl, rfl, trivial⟩ rfl rfl (Nat.le_refl _)) ?_
    refine VC.region ?_
    refine VO.mv rfl rfl rfl rfl ?_
    refine VO.mv rfl rfl rfl rfl ?_
    refine VO.op rfl (OpE.call rfl hB rfl Tryz.call43 rfl (SpecN.spec (inspect_Merge hs hsb (fun o h1 h2 h3 => mg_small hak hb.all h1 h2 h3))) ?_)
    rintro _ ⟨lm, hlm, rfl⟩
    refine VO.mv rfl rfl rfl rfl ?_
    refine VO.val rfl rfl (OpV.extract rfl rfl rfl) ?_
    refine VO.val rfl rfl (OpV.extract rfl rfl rfl) ?_
    refine VO.ma rfl rfl rfl rfl ?_
    refine VO.ma rfl rfl rfl rfl ?_
    refine VO.nil ?_
    refine VC.sr ?_
    refine VO.mv rfl rfl rfl rfl ?_
    refine VO.op rfl (OpE.call rfl hB rfl Tryz.call44 rfl (SpecN.spec (inspect_Counts hs (by omega))) ?_)
    rintro _ rfl
    refine VO.mv rfl rfl rfl rfl ?_
    refine VO.val rfl rfl (OpV.extract rfl rfl rfl) ?_
    refine VO.val rfl rfl (OpV.extract rfl rfl rfl) ?_
    refine VO.ma rfl rfl rfl rfl ?_
    refine VO.ma rfl rfl rfl rfl ?_
    refine VO.nil ?_
    refine VC.sr ?_
    refine VO.mv rfl rfl rfl rfl ?_
    refine VO.op rfl (OpE.call rfl hB rfl Tryz.call45 rfl (SpecN.spec (inspect_Million hs)) ?_)
    rintro _ rfl
    refine VO.mv rfl rfl rfl rfl ?_
    refine VO.val rfl rfl (OpV.extract rfl rfl rfl) ?_
    refine VO.val rfl rfl (OpV.extract rfl rfl rfl) ?_
    refine VO.op rfl (OpE.alloc rfl hB rfl Tryz.zeroValue74 rfl ?_)
    intro g10
    refine VO.op rfl (OpE.store (i := 0) rfl hB rfl Tryz.sizeOf74 rfl rfl rfl rfl rfl rfl (Nle rfl) trivial ?_)
    refine VO.ma rfl rfl rfl rfl ?_
    refine VO.nil ?_
    refine VC.sr ?_
    refine VO.mv rfl rfl rfl rfl ?_
    refine VO.op rfl (OpE.call rfl hB rfl Tryz.call46 rfl (SpecN.spec (inspect_FalseCalls hs (by omega))) ?_)
    rintro _ rfl
    refine VO.mv rfl rfl rfl rfl ?_
    refine VO.val rfl rfl (OpV.extract rfl rfl rfl) ?_
    refine VO.val rfl rfl (OpV.extract rfl rfl rfl) ?_
    refine VO.op rfl (OpE.alloc rfl hB rfl Tryz.zeroValue74 rfl ?_)
    intro g12
    refine VO.op rfl (OpE.store (i := 1) rfl hB rfl Tryz.sizeOf74 rfl rfl rfl rfl rfl rfl (Nle rfl) trivial ?_)
    refine VO.ma rfl rfl rfl rfl ?_
    refine VO.nil ?_
    refine VC.sr ?_
    refine VO.mv rfl rfl rfl rfl ?_
    refine VO.op rfl (OpE.call rfl hB rfl Tryz.call47 rfl (SpecN.spec (rf_LooksFault hs)) ?_)
    rintro _ rfl
    refine VO.ma rfl rfl rfl rfl ?_
    refine VO.nil ?_
    refine VC.sr ?_
    refine VO.mv rfl rfl rfl rfl ?_
    refine VO.mv rfl rfl rfl rfl ?_
    refine VO.op rfl (OpE.call rfl hB rfl Tryz.call47 rfl (SpecN.spec (rf_LooksFault hsb)) ?_)
    rintro _ rfl
    refine VO.op rfl (OpE.buildSlice (zc := #[.int .i64 0, .int .i64 0]) rfl hB rfl Tryz.underlying155 Tryz.sizeOf38 Tryz.zeroValue38 (by decide) (by decide) (by kernel_rfl) rfl rfl ?_)
    refine VO.le _ (Le.lits (t := 78) (xs := [lookF a, lookF b]) rfl rfl) ?_
    refine VO.op rfl (OpE.call rfl hB rfl Tryz.call24 rfl (SpecN.spec (rl_errsL (by simp))) ?_)
    rintro _ rfl
    refine VO.mv rfl rfl rfl rfl ?_
    refine VO.mv rfl rfl rfl rfl ?_
    refine VO.ma rfl rfl rfl rfl ?_
    refine VO.ma rfl rfl rfl rfl ?_
    refine VO.ma rfl rfl rfl rfl ?_
    refine VO.nil ?_
    refine VC.sr ?_
    refine VO.ma rfl rfl rfl rfl ?_
    refine VO.nil ?_
    refine VC.seq ?_
    refine VC.sr ?_
    refine VO.mv rfl rfl rfl rfl ?_
    refine VO.val rfl rfl (OpV.eql rfl rfl rfl) ?_
    refine VO.nil ?_
    refine VC.cond rfl (fun h2b => ?_) (fun h2b => ?_)
    ·have h2 := h2b
     try simp only [qqT, qqF, qqN, qqM, qqL, qqE] at h2
     have h00 := errs2L h2
     have hE00 : mrgE a b = mrgE a b := rfl
     refine VC.region ?_
     refine VO.mv rfl rfl rfl rfl ?_
     refine VO.mv rfl rfl rfl rfl ?_
     refine VO.op rfl (OpE.call rfl hB rfl Tryz.call48 rfl (SpecN.spec (rf_MergedLooks h00.1 h00.2 (fun o h3 => mg_small hak hb.all h00.1 h00.2 h3))) ?_)
     rintro _ ⟨lw, hlw, rfl⟩
     obtain rfl := hlw.uniq hlm
     refine VO.mv rfl rfl rfl rfl ?_
     refine VO.val rfl rfl (OpV.extract rfl rfl rfl) ?_
     refine VO.val rfl rfl (OpV.extract rfl rfl rfl) ?_
     refine VO.ma rfl rfl rfl rfl ?_
     refine VO.ma rfl rfl rfl rfl ?_
     refine VO.nil ?_
     refine VC.seq ?_
     skip
     refine VC.region ?_
     refine VO.ma rfl rfl rfl rfl ?_
     first | refine VO.le _ (Le.recast (t := 19) (y := avL ([] : List PairS)) rfl (fun w Z u h => by rw [h.eq_v]; exact .nil _ _)) ?_ | skip
     refine VO.nil ?_
     refine VC.sr ?_
     refine VO.val rfl rfl (OpV.build (pls := #[(0, 1), (1, 1)]) rfl Tryz.zeroValue74 Tryz.underlying74 (fun w => by kernel_rfl) rfl rfl) ?_
     refine VO.val rfl rfl (OpV.build (pls := #[(0, 1), (1, 1)]) rfl Tryz.zeroValue74 Tryz.underlying74 (fun w => by kernel_rfl) rfl rfl) ?_
     refine VO.op rfl (OpE.alloc rfl hB rfl Tryz.zeroValue74 rfl ?_)
     intro g20
     refine VO.op rfl (OpE.alloc rfl hB rfl Tryz.zeroValue74 rfl ?_)
     intro g21
     refine VO.op rfl (OpE.store (i := 2) rfl hB rfl Tryz.sizeOf74 rfl rfl rfl rfl rfl rfl (Nle rfl) trivial ?_)
     refine VO.op rfl (OpE.store (i := 3) rfl hB rfl Tryz.sizeOf74 rfl rfl rfl rfl rfl rfl (Nle rfl) trivial ?_)
     refine VO.nil ?_
     refine VC.seq ?_
     refine VC.sr ?_
     refine VO.mv rfl rfl rfl rfl ?_
     refine VO.val rfl rfl (OpV.eql rfl rfl rfl) ?_
     refine VO.nil ?_
     refine VC.cond rfl (fun h3b => ?_) (fun h3b => ?_)
     ·have h3 := h3b
      try simp only [qqT, qqF, qqN, qqM, qqL, qqE] at h3
      refine VC.sr ?_
      refine VO.mv rfl rfl rfl rfl ?_
      refine VO.op rfl (OpE.call rfl hB rfl Tryz.call49 rfl (SpecN.spec (rf_LookCounts (by omega))) ?_)
      rintro _ rfl
      refine VO.ma rfl rfl rfl rfl ?_
      first | refine VO.le _ (Le.recast (t := 19) (y := avL ([] : List PairS)) rfl (fun w Z u h => by rw [h.eq_v]; exact .nil _ _)) ?_ | skip
      refine VO.nil ?_
      refine VC.sr ?_
      refine VO.mv rfl rfl rfl rfl ?_
      refine VO.op rfl (OpE.call rfl hB rfl Tryz.call50 rfl (SpecN.spec (rf_MillionOf (by omega))) ?_)
      rintro _ rfl
      refine VO.mv rfl rfl rfl rfl ?_
      refine VO.val rfl rfl (OpV.extract rfl rfl rfl) ?_
      refine VO.val rfl rfl (OpV.extract rfl rfl rfl) ?_
      refine VO.op rfl (OpE.store (i := 2) rfl hB rfl Tryz.sizeOf74 rfl rfl rfl rfl rfl rfl (Nle rfl) trivial ?_)
      refine VO.ma rfl rfl rfl rfl ?_
      refine VO.nil ?_
      refine VC.region ?_
      refine VO.mv rfl rfl rfl rfl ?_
      refine VO.op rfl (OpE.call rfl hB rfl Tryz.call51 rfl (SpecN.spec (rf_FalseOf (by omega))) ?_)
      rintro _ rfl
      refine VO.mv rfl rfl rfl rfl ?_
      refine VO.val rfl rfl (OpV.extract rfl rfl rfl) ?_
      refine VO.val rfl rfl (OpV.extract rfl rfl rfl) ?_
      refine VO.op rfl (OpE.store (i := 3) rfl hB rfl Tryz.sizeOf74 rfl rfl rfl rfl rfl rfl (Nle rfl) trivial ?_)
      refine VO.ma rfl rfl rfl rfl ?_
      refine VO.nil ?_
      refine VC.seq ?_
      have hml := hlm.len
      skip
      refine VC.region ?_
      refine VO.mv rfl rfl rfl rfl ?_
      refine VO.op rfl (OpE.call rfl hB rfl Tryz.call52 rfl (SpecN.spec (inspect_CheckLooks hs)) ?_)
      rintro _ rfl
      refine VO.mv rfl rfl rfl rfl ?_
      refine VO.val rfl rfl (OpV.eql rfl rfl rfl) ?_
      refine VO.le _ (Le.boolT (t := 109) rfl (decide_eq_true rfl)) ?_
      refine VO.mv rfl rfl rfl rfl ?_
      refine VO.opY rfl rfl rfl rfl rfl ?_
      refine OpE.val (W := NoB) (OpV.move (.inl rfl) rfl) rfl ?_
      refine VO.opY rfl rfl rfl rfl rfl ?_
      refine OpE.val (W := NoB) (OpV.move (.inl rfl) rfl) rfl ?_
      refine VO.opY rfl rfl rfl rfl rfl ?_
      refine OpE.val (W := NoB) (OpV.eql rfl rfl rfl) rfl ?_
      refine VO.le _ (Le.boolT (t := 113) rfl (decide_eq_true rfl)) ?_
      refine VO.val rfl rfl (OpV.pickT rfl rfl rfl rfl rfl) ?_
      refine VO.mv rfl rfl rfl rfl ?_
      refine VO.opY rfl rfl rfl rfl rfl ?_
      refine OpE.val (W := NoB) (OpV.move (.inl rfl) rfl) rfl ?_
      refine VO.opY rfl rfl rfl rfl rfl ?_
      refine OpE.val (W := NoB) (OpV.move (.inl rfl) rfl) rfl ?_
      refine VO.opY rfl rfl rfl rfl rfl ?_
      refine OpE.call rfl hB rfl Tryz.call53 rfl (SpecN.spec (slices_Equal_lk (by omega) (by omega))) ?_
      rintro _ rfl
      refine VO.le _ (Le.boolT (t := 118) rfl (eqLs_self eqLk_self _)) ?_
      refine VO.val rfl rfl (OpV.pickT rfl rfl rfl rfl rfl) ?_
      refine VO.mv rfl rfl rfl rfl ?_
      refine VO.opY rfl rfl rfl rfl rfl ?_
      refine OpE.val (W := NoB) (OpV.move (.inl rfl) rfl) rfl ?_
      refine VO.opY rfl rfl rfl rfl rfl ?_
      refine OpE.val (W := NoB) (OpV.move (.inl rfl) rfl) rfl ?_
      refine VO.opY rfl rfl rfl rfl rfl ?_
      refine OpE.val (W := NoB) (OpV.eql rfl rfl rfl) rfl ?_
      refine VO.le _ (Le.boolT (t := 123) rfl (decide_eq_true rfl)) ?_
      refine VO.val rfl rfl (OpV.pickT rfl rfl rfl rfl rfl) ?_
      refine VO.mv rfl rfl rfl rfl ?_
      refine VO.opY rfl rfl rfl rfl rfl ?_
      refine OpE.val (W := NoB) (OpV.move (.inl rfl) rfl) rfl ?_
      refine VO.opY rfl rfl rfl rfl rfl ?_
      refine OpE.val (W := NoB) (OpV.move (.inl rfl) rfl) rfl ?_
      refine VO.opY rfl rfl rfl rfl rfl ?_
      refine OpE.call rfl hB rfl Tryz.call54 rfl (SpecN.spec (slices_Equal_pair (by first | (rw [if_pos h3]; rw [ctPairs_len]; decide) | (rw [if_neg h3]; decide)) (by first | (rw [ctPairs_len]; decide) | decide))) ?_
      rintro _ rfl
      refine VO.le _ (Le.boolT (t := 128) rfl (by first | (rw [if_pos h3]; exact eqLs_self eqPr_self _) | (rw [if_neg h3]; rfl))) ?_
      refine VO.val rfl rfl (OpV.pickT rfl rfl rfl rfl rfl) ?_
      refine VO.mv rfl rfl rfl rfl ?_
      refine VO.opY rfl rfl rfl rfl rfl ?_
      refine OpE.val (W := NoB) (OpV.move (.inl rfl) rfl) rfl ?_
      refine VO.opY rfl rfl rfl rfl rfl ?_
      refine OpE.val (W := NoB) (OpV.move (.inl rfl) rfl) rfl ?_
      refine VO.opY rfl rfl rfl rfl rfl ?_
      refine OpE.val (W := NoB) (OpV.eql rfl rfl rfl) rfl ?_
      refine VO.le _ (Le.boolT (t := 133) rfl (decide_eq_true (by first | exact (mill_eq h3).2 | exact (mill_no h3).2))) ?_
      refine VO.val rfl rfl (OpV.pickT rfl rfl rfl rfl rfl) ?_
      refine VO.mv rfl rfl rfl rfl ?_
      refine VO.opY rfl rfl rfl rfl rfl ?_
      refine OpE.val (W := NoB) (OpV.loadK_own (i := 0) rfl hB Tryz.isAgg74 Tryz.sizeOf74 rfl rfl rfl (fun h => h)) rfl ?_
      refine VO.opY rfl rfl rfl rfl rfl ?_
      refine OpE.val (W := NoB) (OpV.loadK_own (i := 2) rfl hB Tryz.isAgg74 Tryz.sizeOf74 rfl rfl rfl (fun h => h)) rfl ?_
      refine VO.opY rfl rfl rfl rfl rfl ?_
      refine OpE.val (W := NoB) (OpV.aeql rfl Tryz.underlying74 (by kernel_rfl) (by kernel_rfl) rfl rfl (EqFs.int Tryz.underlying3 Tryz.isAgg3 rfl (by decide) (EqFs.int Tryz.underlying3 Tryz.isAgg3 rfl (by decide) (EqFs.nil _)))) rfl ?_
      refine VO.le _ (Le.boolT (t := 138) rfl (by first | (rw [(mill_eq h3).1]; simp; done) | (rw [(mill_no h3).1]; rfl))) ?_
      refine VO.val rfl rfl (OpV.pickT rfl rfl rfl rfl rfl) ?_
      refine VO.mv rfl rfl rfl rfl ?_
      refine VO.opY rfl rfl rfl rfl rfl ?_
      refine OpE.val (W := NoB) (OpV.move (.inl rfl) rfl) rfl ?_
      refine VO.opY rfl rfl rfl rfl rfl ?_
      refine OpE.val (W := NoB) (OpV.move (.inl rfl) rfl) rfl ?_
      refine VO.opY rfl rfl rfl rfl rfl ?_
      refine OpE.val (W := NoB) (OpV.eql rfl rfl rfl) rfl ?_
      refine VO.le _ (Le.boolT (t := 143) rfl (decide_eq_true (by first | (rw [falE, if_neg (by omega)]; done) | (rw [falE, if_pos h3]; done)))) ?_
      refine VO.val rfl rfl (OpV.pickT rfl rfl rfl rfl rfl) ?_
      refine VO.mv rfl rfl rfl rfl ?_
      refine VO.opY rfl rfl rfl rfl rfl ?_
      refine OpE.val (W := NoB) (OpV.loadK_own (i := 1) rfl hB Tryz.isAgg74 Tryz.sizeOf74 rfl rfl rfl (fun h => h)) rfl ?_
      refine VO.opY rfl rfl rfl rfl rfl ?_
      refine OpE.val (W := NoB) (OpV.loadK_own (i := 3) rfl hB Tryz.isAgg74 Tryz.sizeOf74 rfl rfl rfl (fun h => h)) rfl ?_
      refine VO.opY rfl rfl rfl rfl rfl ?_
      refine OpE.val (W := NoB) (OpV.aeql rfl Tryz.underlying74 (by kernel_rfl) (by kernel_rfl) rfl rfl (EqFs.int Tryz.underlying3 Tryz.isAgg3 rfl (by decide) (EqFs.int Tryz.underlying3 Tryz.isAgg3 rfl (by decide) (EqFs.nil _)))) rfl ?_
      refine VO.le _ (Le.boolT (t := 148) rfl (by first | (rw [falN, if_neg (by omega)]; simp; done) | (rw [falN, if_pos h3]; rfl))) ?_
      refine VO.val rfl rfl (OpV.pickT rfl rfl rfl rfl rfl) ?_
      refine VO.mv rfl rfl rfl rfl ?_
      refine VO.opY rfl rfl rfl rfl rfl ?_
      refine OpE.call rfl hB rfl Tryz.call55 rfl (SpecN.spec (rl_looked)) ?_
      rintro _ rfl
      refine VO.val rfl rfl (OpV.pickT rfl rfl rfl rfl rfl) ?_
      refine VO.ma rfl rfl rfl rfl ?_
      refine VO.nil ?_
      refine VC.ret ?_
      exact And.intro rfl rfl
     ·have h3 := h3b
      try simp only [qqT, qqF, qqN, qqM, qqL, qqE] at h3
      refine VC.skip ?_
      refine VC.seq ?_
      have hml := hlm.len
      skip
      refine VC.region ?_
      refine VO.mv rfl rfl rfl rfl ?_
      refine VO.op rfl (OpE.call rfl hB rfl Tryz.call52 rfl (SpecN.spec (inspect_CheckLooks hs)) ?_)
      rintro _ rfl
      refine VO.mv rfl rfl rfl rfl ?_
      refine VO.val rfl rfl (OpV.eql rfl rfl rfl) ?_
      refine VO.le _ (Le.boolT (t := 109) rfl (decide_eq_true rfl)) ?_
      refine VO.mv rfl rfl rfl rfl ?_
      refine VO.opY rfl rfl rfl rfl rfl ?_
      refine OpE.val (W := NoB) (OpV.move (.inl rfl) rfl) rfl ?_
      refine VO.opY rfl rfl rfl rfl rfl ?_
      refine OpE.val (W := NoB) (OpV.move (.inl rfl) rfl) rfl ?_
      refine VO.opY rfl rfl rfl rfl rfl ?_
      refine OpE.val (W := NoB) (OpV.eql rfl rfl rfl) rfl ?_
      refine VO.le _ (Le.boolT (t := 113) rfl (decide_eq_true rfl)) ?_
      refine VO.val rfl rfl (OpV.pickT rfl rfl rfl rfl rfl) ?_
      refine VO.mv rfl rfl rfl rfl ?_
      refine VO.opY rfl rfl rfl rfl rfl ?_
      refine OpE.val (W := NoB) (OpV.move (.inl rfl) rfl) rfl ?_
      refine VO.opY rfl rfl rfl rfl rfl ?_
      refine OpE.val (W := NoB) (OpV.move (.inl rfl) rfl) rfl ?_
      refine VO.opY rfl rfl rfl rfl rfl ?_
      refine OpE.call rfl hB rfl Tryz.call53 rfl (SpecN.spec (slices_Equal_lk (by omega) (by omega))) ?_
      rintro _ rfl
      refine VO.le _ (Le.boolT (t := 118) rfl (eqLs_self eqLk_self _)) ?_
      refine VO.val rfl rfl (OpV.pickT rfl rfl rfl rfl rfl) ?_
      refine VO.mv rfl rfl rfl rfl ?_
      refine VO.opY rfl rfl rfl rfl rfl ?_
      refine OpE.val (W := NoB) (OpV.move (.inl rfl) rfl) rfl ?_
      refine VO.opY rfl rfl rfl rfl rfl ?_
      refine OpE.val (W := NoB) (OpV.move (.inl rfl) rfl) rfl ?_
      refine VO.opY rfl rfl rfl rfl rfl ?_
      refine OpE.val (W := NoB) (OpV.eql rfl rfl rfl) rfl ?_
      refine VO.le _ (Le.boolT (t := 123) rfl (decide_eq_true rfl)) ?_
      refine VO.val rfl rfl (OpV.pickT rfl rfl rfl rfl rfl) ?_
      refine VO.mv rfl rfl rfl rfl ?_
      refine VO.opY rfl rfl rfl rfl rfl ?_
      refine OpE.val (W := NoB) (OpV.move (.inl rfl) rfl) rfl ?_
      refine VO.opY rfl rfl rfl rfl rfl ?_
      refine OpE.val (W := NoB) (OpV.move (.inl rfl) rfl) rfl ?_
      refine VO.opY rfl rfl rfl rfl rfl ?_
      refine OpE.call rfl hB rfl Tryz.call54 rfl (SpecN.spec (slices_Equal_pair (by first | (rw [if_pos h3]; rw [ctPairs_len]; decide) | (rw [if_neg h3]; decide)) (by first | (rw [ctPairs_len]; decide) | decide))) ?_
      rintro _ rfl
      refine VO.le _ (Le.boolT (t := 128) rfl (by first | (rw [if_pos h3]; exact eqLs_self eqPr_self _) | (rw [if_neg h3]; rfl))) ?_
      refine VO.val rfl rfl (OpV.pickT rfl rfl rfl rfl rfl) ?_
      refine VO.mv rfl rfl rfl rfl ?_
      refine VO.opY rfl rfl rfl rfl rfl ?_
      refine OpE.val (W := NoB) (OpV.move (.inl rfl) rfl) rfl ?_
      refine VO.opY rfl rfl rfl rfl rfl ?_
      refine OpE.val (W := NoB) (OpV.move (.inl rfl) rfl) rfl ?_
      refine VO.opY rfl rfl rfl rfl rfl ?_
      refine OpE.val (W := NoB) (OpV.eql rfl rfl rfl) rfl ?_
      refine VO.le _ (Le.boolT (t := 133) rfl (decide_eq_true (by first | exact (mill_eq h3).2 | exact (mill_no h3).2))) ?_
      refine VO.val rfl rfl (OpV.pickT rfl rfl rfl rfl rfl) ?_
      refine VO.mv rfl rfl rfl rfl ?_
      refine VO.opY rfl rfl rfl rfl rfl ?_
      refine OpE.val (W := NoB) (OpV.loadK_own (i := 0) rfl hB Tryz.isAgg74 Tryz.sizeOf74 rfl rfl rfl (fun h => h)) rfl ?_
      refine VO.opY rfl rfl rfl rfl rfl ?_
      refine OpE.val (W := NoB) (OpV.loadK_own (i := 2) rfl hB Tryz.isAgg74 Tryz.sizeOf74 rfl rfl rfl (fun h => h)) rfl ?_
      refine VO.opY rfl rfl rfl rfl rfl ?_
      refine OpE.val (W := NoB) (OpV.aeql rfl Tryz.underlying74 (by kernel_rfl) (by kernel_rfl) rfl rfl (EqFs.int Tryz.underlying3 Tryz.isAgg3 rfl (by decide) (EqFs.int Tryz.underlying3 Tryz.isAgg3 rfl (by decide) (EqFs.nil _)))) rfl ?_
      refine VO.le _ (Le.boolT (t := 138) rfl (by first | (rw [(mill_eq h3).1]; simp; done) | (rw [(mill_no h3).1]; rfl))) ?_
      refine VO.val rfl rfl (OpV.pickT rfl rfl rfl rfl rfl) ?_
      refine VO.mv rfl rfl rfl rfl ?_
      refine VO.opY rfl rfl rfl rfl rfl ?_
      refine OpE.val (W := NoB) (OpV.move (.inl rfl) rfl) rfl ?_
      refine VO.opY rfl rfl rfl rfl rfl ?_
      refine OpE.val (W := NoB) (OpV.move (.inl rfl) rfl) rfl ?_
      refine VO.opY rfl rfl rfl rfl rfl ?_
      refine OpE.val (W := NoB) (OpV.eql rfl rfl rfl) rfl ?_
      refine VO.le _ (Le.boolT (t := 143) rfl (decide_eq_true (by first | (rw [falE, if_neg (by omega)]; done) | (rw [falE, if_pos h3]; done)))) ?_
      refine VO.val rfl rfl (OpV.pickT rfl rfl rfl rfl rfl) ?_
      refine VO.mv rfl rfl rfl rfl ?_
      refine VO.opY rfl rfl rfl rfl rfl ?_
      refine OpE.val (W := NoB) (OpV.loadK_own (i := 1) rfl hB Tryz.isAgg74 Tryz.sizeOf74 rfl rfl rfl (fun h => h)) rfl ?_
      refine VO.opY rfl rfl rfl rfl rfl ?_
      refine OpE.val (W := NoB) (OpV.loadK_own (i := 3) rfl hB Tryz.isAgg74 Tryz.sizeOf74 rfl rfl rfl (fun h => h)) rfl ?_
      refine VO.opY rfl rfl rfl rfl rfl ?_
      refine OpE.val (W := NoB) (OpV.aeql rfl Tryz.underlying74 (by kernel_rfl) (by kernel_rfl) rfl rfl (EqFs.int Tryz.underlying3 Tryz.isAgg3 rfl (by decide) (EqFs.int Tryz.underlying3 Tryz.isAgg3 rfl (by decide) (EqFs.nil _)))) rfl ?_
      refine VO.le _ (Le.boolT (t := 148) rfl (by first | (rw [falN, if_neg (by omega)]; simp; done) | (rw [falN, if_pos h3]; rfl))) ?_
      refine VO.val rfl rfl (OpV.pickT rfl rfl rfl rfl rfl) ?_
      refine VO.mv rfl rfl rfl rfl ?_
      refine VO.opY rfl rfl rfl rfl rfl ?_
      refine OpE.call rfl hB rfl Tryz.call55 rfl (SpecN.spec (rl_looked)) ?_
      rintro _ rfl
      refine VO.val rfl rfl (OpV.pickT rfl rfl rfl rfl rfl) ?_
      refine VO.ma rfl rfl rfl rfl ?_
      refine VO.nil ?_
      refine VC.ret ?_
      exact And.intro rfl rfl
    ·have h2 := h2b
     try simp only [qqT, qqF, qqN, qqM, qqL, qqE] at h2
     have hme := mrgE_err h2
     have hln : lm = [] := hlm.nil (by rw [hme]; exact h2)
     refine VC.skip ?_
     refine VC.seq ?_
     (refine VC.le _ (Le.recast (t := 15) (y := avI (mrgE a b)) rfl (fun w Z u h => by rw [hme]; exact h)) ?_; refine VC.le _ (Le.recast (t := 18) (y := avL lm) rfl (fun w Z u h => by rw [hln, h.eq_v]; exact .nil _ _)) ?_)
     refine VC.region ?_
     refine VO.ma rfl rfl rfl rfl ?_
     first | refine VO.le _ (Le.recast (t := 19) (y := avL ([] : List PairS)) rfl (fun w Z u h => by rw [h.eq_v]; exact .nil _ _)) ?_ | skip
     refine VO.nil ?_
     refine VC.sr ?_
     refine VO.val rfl rfl (OpV.build (pls := #[(0, 1), (1, 1)]) rfl Tryz.zeroValue74 Tryz.underlying74 (fun w => by kernel_rfl) rfl rfl) ?_
     refine VO.val rfl rfl (OpV.build (pls := #[(0, 1), (1, 1)]) rfl Tryz.zeroValue74 Tryz.underlying74 (fun w => by kernel_rfl) rfl rfl) ?_
     refine VO.op rfl (OpE.alloc rfl hB rfl Tryz.zeroValue74 rfl ?_)
     intro g20
     refine VO.op rfl (OpE.alloc rfl hB rfl Tryz.zeroValue74 rfl ?_)
     intro g21
     refine VO.op rfl (OpE.store (i := 2) rfl hB rfl Tryz.sizeOf74 rfl rfl rfl rfl rfl rfl (Nle rfl) trivial ?_)
     refine VO.op rfl (OpE.store (i := 3) rfl hB rfl Tryz.sizeOf74 rfl rfl rfl rfl rfl rfl (Nle rfl) trivial ?_)
     refine VO.nil ?_
     refine VC.seq ?_
     refine VC.sr ?_
     refine VO.mv rfl rfl rfl rfl ?_
     refine VO.val rfl rfl (OpV.eql rfl rfl rfl) ?_
     refine VO.nil ?_
     refine VC.cond rfl (fun h3b => ?_) (fun h3b => ?_)
     ·have h3 := h3b
      try simp only [qqT, qqF, qqN, qqM, qqL, qqE] at h3
      refine VC.sr ?_
      refine VO.mv rfl rfl rfl rfl ?_
      refine VO.op rfl (OpE.call rfl hB rfl Tryz.call49 rfl (SpecN.spec (rf_LookCounts (by omega))) ?_)
      rintro _ rfl
      refine VO.ma rfl rfl rfl rfl ?_
      first | refine VO.le _ (Le.recast (t := 19) (y := avL ([] : List PairS)) rfl (fun w Z u h => by rw [h.eq_v]; exact .nil _ _)) ?_ | skip
      refine VO.nil ?_
      refine VC.sr ?_
      refine VO.mv rfl rfl rfl rfl ?_
      refine VO.op rfl (OpE.call rfl hB rfl Tryz.call50 rfl (SpecN.spec (rf_MillionOf (by omega))) ?_)
      rintro _ rfl
      refine VO.mv rfl rfl rfl rfl ?_
      refine VO.val rfl rfl (OpV.extract rfl rfl rfl) ?_
      refine VO.val rfl rfl (OpV.extract rfl rfl rfl) ?_
      refine VO.op rfl (OpE.store (i := 2) rfl hB rfl Tryz.sizeOf74 rfl rfl rfl rfl rfl rfl (Nle rfl) trivial ?_)
      refine VO.ma rfl rfl rfl rfl ?_
      refine VO.nil ?_
      refine VC.region ?_
      refine VO.mv rfl rfl rfl rfl ?_
      refine VO.op rfl (OpE.call rfl hB rfl Tryz.call51 rfl (SpecN.spec (rf_FalseOf (by omega))) ?_)
      rintro _ rfl
      refine VO.mv rfl rfl rfl rfl ?_
      refine VO.val rfl rfl (OpV.extract rfl rfl rfl) ?_
      refine VO.val rfl rfl (OpV.extract rfl rfl rfl) ?_
      refine VO.op rfl (OpE.store (i := 3) rfl hB rfl Tryz.sizeOf74 rfl rfl rfl rfl rfl rfl (Nle rfl) trivial ?_)
      refine VO.ma rfl rfl rfl rfl ?_
      refine VO.nil ?_
      refine VC.seq ?_
      have hml := hlm.len
      skip
      refine VC.region ?_
      refine VO.mv rfl rfl rfl rfl ?_
      refine VO.op rfl (OpE.call rfl hB rfl Tryz.call52 rfl (SpecN.spec (inspect_CheckLooks hs)) ?_)
      rintro _ rfl
      refine VO.mv rfl rfl rfl rfl ?_
      refine VO.val rfl rfl (OpV.eql rfl rfl rfl) ?_
      refine VO.le _ (Le.boolT (t := 109) rfl (decide_eq_true rfl)) ?_
      refine VO.mv rfl rfl rfl rfl ?_
      refine VO.opY rfl rfl rfl rfl rfl ?_
      refine OpE.val (W := NoB) (OpV.move (.inl rfl) rfl) rfl ?_
      refine VO.opY rfl rfl rfl rfl rfl ?_
      refine OpE.val (W := NoB) (OpV.move (.inl rfl) rfl) rfl ?_
      refine VO.opY rfl rfl rfl rfl rfl ?_
      refine OpE.val (W := NoB) (OpV.eql rfl rfl rfl) rfl ?_
      refine VO.le _ (Le.boolT (t := 113) rfl (decide_eq_true rfl)) ?_
      refine VO.val rfl rfl (OpV.pickT rfl rfl rfl rfl rfl) ?_
      refine VO.mv rfl rfl rfl rfl ?_
      refine VO.opY rfl rfl rfl rfl rfl ?_
      refine OpE.val (W := NoB) (OpV.move (.inl rfl) rfl) rfl ?_
      refine VO.opY rfl rfl rfl rfl rfl ?_
      refine OpE.val (W := NoB) (OpV.move (.inl rfl) rfl) rfl ?_
      refine VO.opY rfl rfl rfl rfl rfl ?_
      refine OpE.call rfl hB rfl Tryz.call53 rfl (SpecN.spec (slices_Equal_lk (by omega) (by omega))) ?_
      rintro _ rfl
      refine VO.le _ (Le.boolT (t := 118) rfl (eqLs_self eqLk_self _)) ?_
      refine VO.val rfl rfl (OpV.pickT rfl rfl rfl rfl rfl) ?_
      refine VO.mv rfl rfl rfl rfl ?_
      refine VO.opY rfl rfl rfl rfl rfl ?_
      refine OpE.val (W := NoB) (OpV.move (.inl rfl) rfl) rfl ?_
      refine VO.opY rfl rfl rfl rfl rfl ?_
      refine OpE.val (W := NoB) (OpV.move (.inl rfl) rfl) rfl ?_
      refine VO.opY rfl rfl rfl rfl rfl ?_
      refine OpE.val (W := NoB) (OpV.eql rfl rfl rfl) rfl ?_
      refine VO.le _ (Le.boolT (t := 123) rfl (decide_eq_true rfl)) ?_
      refine VO.val rfl rfl (OpV.pickT rfl rfl rfl rfl rfl) ?_
      refine VO.mv rfl rfl rfl rfl ?_
      refine VO.opY rfl rfl rfl rfl rfl ?_
      refine OpE.val (W := NoB) (OpV.move (.inl rfl) rfl) rfl ?_
      refine VO.opY rfl rfl rfl rfl rfl ?_
      refine OpE.val (W := NoB) (OpV.move (.inl rfl) rfl) rfl ?_
      refine VO.opY rfl rfl rfl rfl rfl ?_
      refine OpE.call rfl hB rfl Tryz.call54 rfl (SpecN.spec (slices_Equal_pair (by first | (rw [if_pos h3]; rw [ctPairs_len]; decide) | (rw [if_neg h3]; decide)) (by first | (rw [ctPairs_len]; decide) | decide))) ?_
      rintro _ rfl
      refine VO.le _ (Le.boolT (t := 128) rfl (by first | (rw [if_pos h3]; exact eqLs_self eqPr_self _) | (rw [if_neg h3]; rfl))) ?_
      refine VO.val rfl rfl (OpV.pickT rfl rfl rfl rfl rfl) ?_
      refine VO.mv rfl rfl rfl rfl ?_
      refine VO.opY rfl rfl rfl rfl rfl ?_
      refine OpE.val (W := NoB) (OpV.move (.inl rfl) rfl) rfl ?_
      refine VO.opY rfl rfl rfl rfl rfl ?_
      refine OpE.val (W := NoB) (OpV.move (.inl rfl) rfl) rfl ?_
      refine VO.opY rfl rfl rfl rfl rfl ?_
      refine OpE.val (W := NoB) (OpV.eql rfl rfl rfl) rfl ?_
      refine VO.le _ (Le.boolT (t := 133) rfl (decide_eq_true (by first | exact (mill_eq h3).2 | exact (mill_no h3).2))) ?_
      refine VO.val rfl rfl (OpV.pickT rfl rfl rfl rfl rfl) ?_
      refine VO.mv rfl rfl rfl rfl ?_
      refine VO.opY rfl rfl rfl rfl rfl ?_
      refine OpE.val (W := NoB) (OpV.loadK_own (i := 0) rfl hB Tryz.isAgg74 Tryz.sizeOf74 rfl rfl rfl (fun h => h)) rfl ?_
      refine VO.opY rfl rfl rfl rfl rfl ?_
      refine OpE.val (W := NoB) (OpV.loadK_own (i := 2) rfl hB Tryz.isAgg74 Tryz.sizeOf74 rfl rfl rfl (fun h => h)) rfl ?_
      refine VO.opY rfl rfl rfl rfl rfl ?_
      refine OpE.val (W := NoB) (OpV.aeql rfl Tryz.underlying74 (by kernel_rfl) (by kernel_rfl) rfl rfl (EqFs.int Tryz.underlying3 Tryz.isAgg3 rfl (by decide) (EqFs.int Tryz.underlying3 Tryz.isAgg3 rfl (by decide) (EqFs.nil _)))) rfl ?_
      refine VO.le _ (Le.boolT (t := 138) rfl (by first | (rw [(mill_eq h3).1]; simp; done) | (rw [(mill_no h3).1]; rfl))) ?_
      refine VO.val rfl rfl (OpV.pickT rfl rfl rfl rfl rfl) ?_
      refine VO.mv rfl rfl rfl rfl ?_
      refine VO.opY rfl rfl rfl rfl rfl ?_
      refine OpE.val (W := NoB) (OpV.move (.inl rfl) rfl) rfl ?_
      refine VO.opY rfl rfl rfl rfl rfl ?_
      refine OpE.val (W := NoB) (OpV.move (.inl rfl) rfl) rfl ?_
      refine VO.opY rfl rfl rfl rfl rfl ?_
      refine OpE.val (W := NoB) (OpV.eql rfl rfl rfl) rfl ?_
      refine VO.le _ (Le.boolT (t := 143) rfl (decide_eq_true (by first | (rw [falE, if_neg (by omega)]; done) | (rw [falE, if_pos h3]; done)))) ?_
      refine VO.val rfl rfl (OpV.pickT rfl rfl rfl rfl rfl) ?_
      refine VO.mv rfl rfl rfl rfl ?_
      refine VO.opY rfl rfl rfl rfl rfl ?_
      refine OpE.val (W := NoB) (OpV.loadK_own (i := 1) rfl hB Tryz.isAgg74 Tryz.sizeOf74 rfl rfl rfl (fun h => h)) rfl ?_
      refine VO.opY rfl rfl rfl rfl rfl ?_
      refine OpE.val (W := NoB) (OpV.loadK_own (i := 3) rfl hB Tryz.isAgg74 Tryz.sizeOf74 rfl rfl rfl (fun h => h)) rfl ?_
      refine VO.opY rfl rfl rfl rfl rfl ?_
      refine OpE.val (W := NoB) (OpV.aeql rfl Tryz.underlying74 (by kernel_rfl) (by kernel_rfl) rfl rfl (EqFs.int Tryz.underlying3 Tryz.isAgg3 rfl (by decide) (EqFs.int Tryz.underlying3 Tryz.isAgg3 rfl (by decide) (EqFs.nil _)))) rfl ?_
      refine VO.le _ (Le.boolT (t := 148) rfl (by first | (rw [falN, if_neg (by omega)]; simp; done) | (rw [falN, if_pos h3]; rfl))) ?_
      refine VO.val rfl rfl (OpV.pickT rfl rfl rfl rfl rfl) ?_
      refine VO.mv rfl rfl rfl rfl ?_
      refine VO.opY rfl rfl rfl rfl rfl ?_
      refine OpE.call rfl hB rfl Tryz.call55 rfl (SpecN.spec (rl_looked)) ?_
      rintro _ rfl
      refine VO.val rfl rfl (OpV.pickT rfl rfl rfl rfl rfl) ?_
      refine VO.ma rfl rfl rfl rfl ?_
      refine VO.nil ?_
      refine VC.ret ?_
      exact And.intro rfl rfl
     ·have h3 := h3b
      try simp only [qqT, qqF, qqN, qqM, qqL, qqE] at h3
      refine VC.skip ?_
      refine VC.seq ?_
      have hml := hlm.len
      skip
      refine VC.region ?_
      refine VO.mv rfl rfl rfl rfl ?_
      refine VO.op rfl (OpE.call rfl hB rfl Tryz.call52 rfl (SpecN.spec (inspect_CheckLooks hs)) ?_)
      rintro _ rfl
      refine VO.mv rfl rfl rfl rfl ?_
      refine VO.val rfl rfl (OpV.eql rfl rfl rfl) ?_
      refine VO.le _ (Le.boolT (t := 109) rfl (decide_eq_true rfl)) ?_
      refine VO.mv rfl rfl rfl rfl ?_
      refine VO.opY rfl rfl rfl rfl rfl ?_
      refine OpE.val (W := NoB) (OpV.move (.inl rfl) rfl) rfl ?_
      refine VO.opY rfl rfl rfl rfl rfl ?_
      refine OpE.val (W := NoB) (OpV.move (.inl rfl) rfl) rfl ?_
      refine VO.opY rfl rfl rfl rfl rfl ?_
      refine OpE.val (W := NoB) (OpV.eql rfl rfl rfl) rfl ?_
      refine VO.le _ (Le.boolT (t := 113) rfl (decide_eq_true rfl)) ?_
      refine VO.val rfl rfl (OpV.pickT rfl rfl rfl rfl rfl) ?_
      refine VO.mv rfl rfl rfl rfl ?_
      refine VO.opY rfl rfl rfl rfl rfl ?_
      refine OpE.val (W := NoB) (OpV.move (.inl rfl) rfl) rfl ?_
      refine VO.opY rfl rfl rfl rfl rfl ?_
      refine OpE.val (W := NoB) (OpV.move (.inl rfl) rfl) rfl ?_
      refine VO.opY rfl rfl rfl rfl rfl ?_
      refine OpE.call rfl hB rfl Tryz.call53 rfl (SpecN.spec (slices_Equal_lk (by omega) (by omega))) ?_
      rintro _ rfl
      refine VO.le _ (Le.boolT (t := 118) rfl (eqLs_self eqLk_self _)) ?_
      refine VO.val rfl rfl (OpV.pickT rfl rfl rfl rfl rfl) ?_
      refine VO.mv rfl rfl rfl rfl ?_
      refine VO.opY rfl rfl rfl rfl rfl ?_
      refine OpE.val (W := NoB) (OpV.move (.inl rfl) rfl) rfl ?_
      refine VO.opY rfl rfl rfl rfl rfl ?_
      refine OpE.val (W := NoB) (OpV.move (.inl rfl) rfl) rfl ?_
      refine VO.opY rfl rfl rfl rfl rfl ?_
      refine OpE.val (W := NoB) (OpV.eql rfl rfl rfl) rfl ?_
      refine VO.le _ (Le.boolT (t := 123) rfl (decide_eq_true rfl)) ?_
      refine VO.val rfl rfl (OpV.pickT rfl rfl rfl rfl rfl) ?_
      refine VO.mv rfl rfl rfl rfl ?_
      refine VO.opY rfl rfl rfl rfl rfl ?_
      refine OpE.val (W := NoB) (OpV.move (.inl rfl) rfl) rfl ?_
      refine VO.opY rfl rfl rfl rfl rfl ?_
      refine OpE.val (W := NoB) (OpV.move (.inl rfl) rfl) rfl ?_
      refine VO.opY rfl rfl rfl rfl rfl ?_
      refine OpE.call rfl hB rfl Tryz.call54 rfl (SpecN.spec (slices_Equal_pair (by first | (rw [if_pos h3]; rw [ctPairs_len]; decide) | (rw [if_neg h3]; decide)) (by first | (rw [ctPairs_len]; decide) | decide))) ?_
      rintro _ rfl
      refine VO.le _ (Le.boolT (t := 128) rfl (by first | (rw [if_pos h3]; exact eqLs_self eqPr_self _) | (rw [if_neg h3]; rfl))) ?_
      refine VO.val rfl rfl (OpV.pickT rfl rfl rfl rfl rfl) ?_
      refine VO.mv rfl rfl rfl rfl ?_
      refine VO.opY rfl rfl rfl rfl rfl ?_
      refine OpE.val (W := NoB) (OpV.move (.inl rfl) rfl) rfl ?_
      refine VO.opY rfl rfl rfl rfl rfl ?_
      refine OpE.val (W := NoB) (OpV.move (.inl rfl) rfl) rfl ?_
      refine VO.opY rfl rfl rfl rfl rfl ?_
      refine OpE.val (W := NoB) (OpV.eql rfl rfl rfl) rfl ?_
      refine VO.le _ (Le.boolT (t := 133) rfl (decide_eq_true (by first | exact (mill_eq h3).2 | exact (mill_no h3).2))) ?_
      refine VO.val rfl rfl (OpV.pickT rfl rfl rfl rfl rfl) ?_
      refine VO.mv rfl rfl rfl rfl ?_
      refine VO.opY rfl rfl rfl rfl rfl ?_
      refine OpE.val (W := NoB) (OpV.loadK_own (i := 0) rfl hB Tryz.isAgg74 Tryz.sizeOf74 rfl rfl rfl (fun h => h)) rfl ?_
      refine VO.opY rfl rfl rfl rfl rfl ?_
      refine OpE.val (W := NoB) (OpV.loadK_own (i := 2) rfl hB Tryz.isAgg74 Tryz.sizeOf74 rfl rfl rfl (fun h => h)) rfl ?_
      refine VO.opY rfl rfl rfl rfl rfl ?_
      refine OpE.val (W := NoB) (OpV.aeql rfl Tryz.underlying74 (by kernel_rfl) (by kernel_rfl) rfl rfl (EqFs.int Tryz.underlying3 Tryz.isAgg3 rfl (by decide) (EqFs.int Tryz.underlying3 Tryz.isAgg3 rfl (by decide) (EqFs.nil _)))) rfl ?_
      refine VO.le _ (Le.boolT (t := 138) rfl (by first | (rw [(mill_eq h3).1]; simp; done) | (rw [(mill_no h3).1]; rfl))) ?_
      refine VO.val rfl rfl (OpV.pickT rfl rfl rfl rfl rfl) ?_
      refine VO.mv rfl rfl rfl rfl ?_
      refine VO.opY rfl rfl rfl rfl rfl ?_
      refine OpE.val (W := NoB) (OpV.move (.inl rfl) rfl) rfl ?_
      refine VO.opY rfl rfl rfl rfl rfl ?_
      refine OpE.val (W := NoB) (OpV.move (.inl rfl) rfl) rfl ?_
      refine VO.opY rfl rfl rfl rfl rfl ?_
      refine OpE.val (W := NoB) (OpV.eql rfl rfl rfl) rfl ?_
      refine VO.le _ (Le.boolT (t := 143) rfl (decide_eq_true (by first | (rw [falE, if_neg (by omega)]; done) | (rw [falE, if_pos h3]; done)))) ?_
      refine VO.val rfl rfl (OpV.pickT rfl rfl rfl rfl rfl) ?_
      refine VO.mv rfl rfl rfl rfl ?_
      refine VO.opY rfl rfl rfl rfl rfl ?_
      refine OpE.val (W := NoB) (OpV.loadK_own (i := 1) rfl hB Tryz.isAgg74 Tryz.sizeOf74 rfl rfl rfl (fun h => h)) rfl ?_
      refine VO.opY rfl rfl rfl rfl rfl ?_
      refine OpE.val (W := NoB) (OpV.loadK_own (i := 3) rfl hB Tryz.isAgg74 Tryz.sizeOf74 rfl rfl rfl (fun h => h)) rfl ?_
      refine VO.opY rfl rfl rfl rfl rfl ?_
      refine OpE.val (W := NoB) (OpV.aeql rfl Tryz.underlying74 (by kernel_rfl) (by kernel_rfl) rfl rfl (EqFs.int Tryz.underlying3 Tryz.isAgg3 rfl (by decide) (EqFs.int Tryz.underlying3 Tryz.isAgg3 rfl (by decide) (EqFs.nil _)))) rfl ?_
      refine VO.le _ (Le.boolT (t := 148) rfl (by first | (rw [falN, if_neg (by omega)]; simp; done) | (rw [falN, if_pos h3]; rfl))) ?_
      refine VO.val rfl rfl (OpV.pickT rfl rfl rfl rfl rfl) ?_
      refine VO.mv rfl rfl rfl rfl ?_
      refine VO.opY rfl rfl rfl rfl rfl ?_
      refine OpE.call rfl hB rfl Tryz.call55 rfl (SpecN.spec (rl_looked)) ?_
      rintro _ rfl
      refine VO.val rfl rfl (OpV.pickT rfl rfl rfl rfl rfl) ?_
      refine VO.ma rfl rfl rfl rfl ?_
      refine VO.nil ?_
      refine VC.ret ?_
      exact And.intro rfl rfl
   ·have aH3 := aH3b
    try simp only [qqT, qqF, qqN, qqM, qqL, qqE] at aH3
    refine VC.skip ?_
    refine VC.seq ?_
    (refine VC.le _ (Le.rowT (t := 5) (i := 0) (n := bd.length) (xs := bd) hB hnew rfl rfl rfl) ?_; obtain ⟨b, hbe, hb⟩ : ∃ b, b = bd ∧ BOk b := ⟨_, rfl, hbdk⟩; subst hbe)
    have hb12 := hb.len
    have hsb := LkG.sm hb.all (by omega)
    refine VC.le ⟨[(3, _), (4, _), (5, _)], [], 0 + 1 + 200 + 1 + 200 + 1 + 1 + 1⟩ (Le.mk hB [] ⟨rfl, rfl, rfl, trivial⟩ rfl rfl (Nat.le_refl _)) ?_
    refine VC.region ?_
    refine VO.mv rfl rfl rfl rfl ?_
    refine VO.mv rfl rfl rfl rfl ?_
    refine VO.op rfl (OpE.call rfl hB rfl Tryz.call43 rfl (SpecN.spec (inspect_Merge hs hsb (fun o h1 h2 h3 => mg_small hak hb.all h1 h2 h3))) ?_)
    rintro _ ⟨lm, hlm, rfl⟩
    refine VO.mv rfl rfl rfl rfl ?_
    refine VO.val rfl rfl (OpV.extract rfl rfl rfl) ?_
    refine VO.val rfl rfl (OpV.extract rfl rfl rfl) ?_
    refine VO.ma rfl rfl rfl rfl ?_
    refine VO.ma rfl rfl rfl rfl ?_
    refine VO.nil ?_
    refine VC.sr ?_
    refine VO.mv rfl rfl rfl rfl ?_
    refine VO.op rfl (OpE.call rfl hB rfl Tryz.call44 rfl (SpecN.spec (inspect_Counts hs (by omega))) ?_)
    rintro _ rfl
    refine VO.mv rfl rfl rfl rfl ?_
    refine VO.val rfl rfl (OpV.extract rfl rfl rfl) ?_
    refine VO.val rfl rfl (OpV.extract rfl rfl rfl) ?_
    refine VO.ma rfl rfl rfl rfl ?_
    refine VO.ma rfl rfl rfl rfl ?_
    refine VO.nil ?_
    refine VC.sr ?_
    refine VO.mv rfl rfl rfl rfl ?_
    refine VO.op rfl (OpE.call rfl hB rfl Tryz.call45 rfl (SpecN.spec (inspect_Million hs)) ?_)
    rintro _ rfl
    refine VO.mv rfl rfl rfl rfl ?_
    refine VO.val rfl rfl (OpV.extract rfl rfl rfl) ?_
    refine VO.val rfl rfl (OpV.extract rfl rfl rfl) ?_
    refine VO.op rfl (OpE.alloc rfl hB rfl Tryz.zeroValue74 rfl ?_)
    intro g10
    refine VO.op rfl (OpE.store (i := 0) rfl hB rfl Tryz.sizeOf74 rfl rfl rfl rfl rfl rfl (Nle rfl) trivial ?_)
    refine VO.ma rfl rfl rfl rfl ?_
    refine VO.nil ?_
    refine VC.sr ?_
    refine VO.mv rfl rfl rfl rfl ?_
    refine VO.op rfl (OpE.call rfl hB rfl Tryz.call46 rfl (SpecN.spec (inspect_FalseCalls hs (by omega))) ?_)
    rintro _ rfl
    refine VO.mv rfl rfl rfl rfl ?_
    refine VO.val rfl rfl (OpV.extract rfl rfl rfl) ?_
    refine VO.val rfl rfl (OpV.extract rfl rfl rfl) ?_
    refine VO.op rfl (OpE.alloc rfl hB rfl Tryz.zeroValue74 rfl ?_)
    intro g12
    refine VO.op rfl (OpE.store (i := 1) rfl hB rfl Tryz.sizeOf74 rfl rfl rfl rfl rfl rfl (Nle rfl) trivial ?_)
    refine VO.ma rfl rfl rfl rfl ?_
    refine VO.nil ?_
    refine VC.sr ?_
    refine VO.mv rfl rfl rfl rfl ?_
    refine VO.op rfl (OpE.call rfl hB rfl Tryz.call47 rfl (SpecN.spec (rf_LooksFault hs)) ?_)
    rintro _ rfl
    refine VO.ma rfl rfl rfl rfl ?_
    refine VO.nil ?_
    refine VC.sr ?_
    refine VO.mv rfl rfl rfl rfl ?_
    refine VO.mv rfl rfl rfl rfl ?_
    refine VO.op rfl (OpE.call rfl hB rfl Tryz.call47 rfl (SpecN.spec (rf_LooksFault hsb)) ?_)
    rintro _ rfl
    refine VO.op rfl (OpE.buildSlice (zc := #[.int .i64 0, .int .i64 0]) rfl hB rfl Tryz.underlying155 Tryz.sizeOf38 Tryz.zeroValue38 (by decide) (by decide) (by kernel_rfl) rfl rfl ?_)
    refine VO.le _ (Le.lits (t := 78) (xs := [lookF a, lookF b]) rfl rfl) ?_
    refine VO.op rfl (OpE.call rfl hB rfl Tryz.call24 rfl (SpecN.spec (rl_errsL (by simp))) ?_)
    rintro _ rfl
    refine VO.mv rfl rfl rfl rfl ?_
    refine VO.mv rfl rfl rfl rfl ?_
    refine VO.ma rfl rfl rfl rfl ?_
    refine VO.ma rfl rfl rfl rfl ?_
    refine VO.ma rfl rfl rfl rfl ?_
    refine VO.nil ?_
    refine VC.sr ?_
    refine VO.ma rfl rfl rfl rfl ?_
    refine VO.nil ?_
    refine VC.seq ?_
    refine VC.sr ?_
    refine VO.mv rfl rfl rfl rfl ?_
    refine VO.val rfl rfl (OpV.eql rfl rfl rfl) ?_
    refine VO.nil ?_
    refine VC.cond rfl (fun h2b => ?_) (fun h2b => ?_)
    ·have h2 := h2b
     try simp only [qqT, qqF, qqN, qqM, qqL, qqE] at h2
     have h00 := errs2L h2
     have hE00 : mrgE a b = mrgE a b := rfl
     refine VC.region ?_
     refine VO.mv rfl rfl rfl rfl ?_
     refine VO.mv rfl rfl rfl rfl ?_
     refine VO.op rfl (OpE.call rfl hB rfl Tryz.call48 rfl (SpecN.spec (rf_MergedLooks h00.1 h00.2 (fun o h3 => mg_small hak hb.all h00.1 h00.2 h3))) ?_)
     rintro _ ⟨lw, hlw, rfl⟩
     obtain rfl := hlw.uniq hlm
     refine VO.mv rfl rfl rfl rfl ?_
     refine VO.val rfl rfl (OpV.extract rfl rfl rfl) ?_
     refine VO.val rfl rfl (OpV.extract rfl rfl rfl) ?_
     refine VO.ma rfl rfl rfl rfl ?_
     refine VO.ma rfl rfl rfl rfl ?_
     refine VO.nil ?_
     refine VC.seq ?_
     skip
     refine VC.region ?_
     refine VO.ma rfl rfl rfl rfl ?_
     first | refine VO.le _ (Le.recast (t := 19) (y := avL ([] : List PairS)) rfl (fun w Z u h => by rw [h.eq_v]; exact .nil _ _)) ?_ | skip
     refine VO.nil ?_
     refine VC.sr ?_
     refine VO.val rfl rfl (OpV.build (pls := #[(0, 1), (1, 1)]) rfl Tryz.zeroValue74 Tryz.underlying74 (fun w => by kernel_rfl) rfl rfl) ?_
     refine VO.val rfl rfl (OpV.build (pls := #[(0, 1), (1, 1)]) rfl Tryz.zeroValue74 Tryz.underlying74 (fun w => by kernel_rfl) rfl rfl) ?_
     refine VO.op rfl (OpE.alloc rfl hB rfl Tryz.zeroValue74 rfl ?_)
     intro g20
     refine VO.op rfl (OpE.alloc rfl hB rfl Tryz.zeroValue74 rfl ?_)
     intro g21
     refine VO.op rfl (OpE.store (i := 2) rfl hB rfl Tryz.sizeOf74 rfl rfl rfl rfl rfl rfl (Nle rfl) trivial ?_)
     refine VO.op rfl (OpE.store (i := 3) rfl hB rfl Tryz.sizeOf74 rfl rfl rfl rfl rfl rfl (Nle rfl) trivial ?_)
     refine VO.nil ?_
     refine VC.seq ?_
     refine VC.sr ?_
     refine VO.mv rfl rfl rfl rfl ?_
     refine VO.val rfl rfl (OpV.eql rfl rfl rfl) ?_
     refine VO.nil ?_
     refine VC.cond rfl (fun h3b => ?_) (fun h3b => ?_)
     ·have h3 := h3b
      try simp only [qqT, qqF, qqN, qqM, qqL, qqE] at h3
      refine VC.sr ?_
      refine VO.mv rfl rfl rfl rfl ?_
      refine VO.op rfl (OpE.call rfl hB rfl Tryz.call49 rfl (SpecN.spec (rf_LookCounts (by omega))) ?_)
      rintro _ rfl
      refine VO.ma rfl rfl rfl rfl ?_
      first | refine VO.le _ (Le.recast (t := 19) (y := avL ([] : List PairS)) rfl (fun w Z u h => by rw [h.eq_v]; exact .nil _ _)) ?_ | skip
      refine VO.nil ?_
      refine VC.sr ?_
      refine VO.mv rfl rfl rfl rfl ?_
      refine VO.op rfl (OpE.call rfl hB rfl Tryz.call50 rfl (SpecN.spec (rf_MillionOf (by omega))) ?_)
      rintro _ rfl
      refine VO.mv rfl rfl rfl rfl ?_
      refine VO.val rfl rfl (OpV.extract rfl rfl rfl) ?_
      refine VO.val rfl rfl (OpV.extract rfl rfl rfl) ?_
      refine VO.op rfl (OpE.store (i := 2) rfl hB rfl Tryz.sizeOf74 rfl rfl rfl rfl rfl rfl (Nle rfl) trivial ?_)
      refine VO.ma rfl rfl rfl rfl ?_
      refine VO.nil ?_
      refine VC.region ?_
      refine VO.mv rfl rfl rfl rfl ?_
      refine VO.op rfl (OpE.call rfl hB rfl Tryz.call51 rfl (SpecN.spec (rf_FalseOf (by omega))) ?_)
      rintro _ rfl
      refine VO.mv rfl rfl rfl rfl ?_
      refine VO.val rfl rfl (OpV.extract rfl rfl rfl) ?_
      refine VO.val rfl rfl (OpV.extract rfl rfl rfl) ?_
      refine VO.op rfl (OpE.store (i := 3) rfl hB rfl Tryz.sizeOf74 rfl rfl rfl rfl rfl rfl (Nle rfl) trivial ?_)
      refine VO.ma rfl rfl rfl rfl ?_
      refine VO.nil ?_
      refine VC.seq ?_
      have hml := hlm.len
      skip
      refine VC.region ?_
      refine VO.mv rfl rfl rfl rfl ?_
      refine VO.op rfl (OpE.call rfl hB rfl Tryz.call52 rfl (SpecN.spec (inspect_CheckLooks hs)) ?_)
      rintro _ rfl
      refine VO.mv rfl rfl rfl rfl ?_
      refine VO.val rfl rfl (OpV.eql rfl rfl rfl) ?_
      refine VO.le _ (Le.boolT (t := 109) rfl (decide_eq_true rfl)) ?_
      refine VO.mv rfl rfl rfl rfl ?_
      refine VO.opY rfl rfl rfl rfl rfl ?_
      refine OpE.val (W := NoB) (OpV.move (.inl rfl) rfl) rfl ?_
      refine VO.opY rfl rfl rfl rfl rfl ?_
      refine OpE.val (W := NoB) (OpV.move (.inl rfl) rfl) rfl ?_
      refine VO.opY rfl rfl rfl rfl rfl ?_
      refine OpE.val (W := NoB) (OpV.eql rfl rfl rfl) rfl ?_
      refine VO.le _ (Le.boolT (t := 113) rfl (decide_eq_true rfl)) ?_
      refine VO.val rfl rfl (OpV.pickT rfl rfl rfl rfl rfl) ?_
      refine VO.mv rfl rfl rfl rfl ?_
      refine VO.opY rfl rfl rfl rfl rfl ?_
      refine OpE.val (W := NoB) (OpV.move (.inl rfl) rfl) rfl ?_
      refine VO.opY rfl rfl rfl rfl rfl ?_
      refine OpE.val (W := NoB) (OpV.move (.inl rfl) rfl) rfl ?_
      refine VO.opY rfl rfl rfl rfl rfl ?_
      refine OpE.call rfl hB rfl Tryz.call53 rfl (SpecN.spec (slices_Equal_lk (by omega) (by omega))) ?_
      rintro _ rfl
      refine VO.le _ (Le.boolT (t := 118) rfl (eqLs_self eqLk_self _)) ?_
      refine VO.val rfl rfl (OpV.pickT rfl rfl rfl rfl rfl) ?_
      refine VO.mv rfl rfl rfl rfl ?_
      refine VO.opY rfl rfl rfl rfl rfl ?_
      refine OpE.val (W := NoB) (OpV.move (.inl rfl) rfl) rfl ?_
      refine VO.opY rfl rfl rfl rfl rfl ?_
      refine OpE.val (W := NoB) (OpV.move (.inl rfl) rfl) rfl ?_
      refine VO.opY rfl rfl rfl rfl rfl ?_
      refine OpE.val (W := NoB) (OpV.eql rfl rfl rfl) rfl ?_
      refine VO.le _ (Le.boolT (t := 123) rfl (decide_eq_true rfl)) ?_
      refine VO.val rfl rfl (OpV.pickT rfl rfl rfl rfl rfl) ?_
      refine VO.mv rfl rfl rfl rfl ?_
      refine VO.opY rfl rfl rfl rfl rfl ?_
      refine OpE.val (W := NoB) (OpV.move (.inl rfl) rfl) rfl ?_
      refine VO.opY rfl rfl rfl rfl rfl ?_
      refine OpE.val (W := NoB) (OpV.move (.inl rfl) rfl) rfl ?_
      refine VO.opY rfl rfl rfl rfl rfl ?_
      refine OpE.call rfl hB rfl Tryz.call54 rfl (SpecN.spec (slices_Equal_pair (by first | (rw [if_pos h3]; rw [ctPairs_len]; decide) | (rw [if_neg h3]; decide)) (by first | (rw [ctPairs_len]; decide) | decide))) ?_
      rintro _ rfl
      refine VO.le _ (Le.boolT (t := 128) rfl (by first | (rw [if_pos h3]; exact eqLs_self eqPr_self _) | (rw [if_neg h3]; rfl))) ?_
      refine VO.val rfl rfl (OpV.pickT rfl rfl rfl rfl rfl) ?_
      refine VO.mv rfl rfl rfl rfl ?_
      refine VO.opY rfl rfl rfl rfl rfl ?_
      refine OpE.val (W := NoB) (OpV.move (.inl rfl) rfl) rfl ?_
      refine VO.opY rfl rfl rfl rfl rfl ?_
      refine OpE.val (W := NoB) (OpV.move (.inl rfl) rfl) rfl ?_
      refine VO.opY rfl rfl rfl rfl rfl ?_
      refine OpE.val (W := NoB) (OpV.eql rfl rfl rfl) rfl ?_
      refine VO.le _ (Le.boolT (t := 133) rfl (decide_eq_true (by first | exact (mill_eq h3).2 | exact (mill_no h3).2))) ?_
      refine VO.val rfl rfl (OpV.pickT rfl rfl rfl rfl rfl) ?_
      refine VO.mv rfl rfl rfl rfl ?_
      refine VO.opY rfl rfl rfl rfl rfl ?_
      refine OpE.val (W := NoB) (OpV.loadK_own (i := 0) rfl hB Tryz.isAgg74 Tryz.sizeOf74 rfl rfl rfl (fun h => h)) rfl ?_
      refine VO.opY rfl rfl rfl rfl rfl ?_
      refine OpE.val (W := NoB) (OpV.loadK_own (i := 2) rfl hB Tryz.isAgg74 Tryz.sizeOf74 rfl rfl rfl (fun h => h)) rfl ?_
      refine VO.opY rfl rfl rfl rfl rfl ?_
      refine OpE.val (W := NoB) (OpV.aeql rfl Tryz.underlying74 (by kernel_rfl) (by kernel_rfl) rfl rfl (EqFs.int Tryz.underlying3 Tryz.isAgg3 rfl (by decide) (EqFs.int Tryz.underlying3 Tryz.isAgg3 rfl (by decide) (EqFs.nil _)))) rfl ?_
      refine VO.le _ (Le.boolT (t := 138) rfl (by first | (rw [(mill_eq h3).1]; simp; done) | (rw [(mill_no h3).1]; rfl))) ?_
      refine VO.val rfl rfl (OpV.pickT rfl rfl rfl rfl rfl) ?_
      refine VO.mv rfl rfl rfl rfl ?_
      refine VO.opY rfl rfl rfl rfl rfl ?_
      refine OpE.val (W := NoB) (OpV.move (.inl rfl) rfl) rfl ?_
      refine VO.opY rfl rfl rfl rfl rfl ?_
      refine OpE.val (W := NoB) (OpV.move (.inl rfl) rfl) rfl ?_
      refine VO.opY rfl rfl rfl rfl rfl ?_
      refine OpE.val (W := NoB) (OpV.eql rfl rfl rfl) rfl ?_
      refine VO.le _ (Le.boolT (t := 143) rfl (decide_eq_true (by first | (rw [falE, if_neg (by omega)]; done) | (rw [falE, if_pos h3]; done)))) ?_
      refine VO.val rfl rfl (OpV.pickT rfl rfl rfl rfl rfl) ?_
      refine VO.mv rfl rfl rfl rfl ?_
      refine VO.opY rfl rfl rfl rfl rfl ?_
      refine OpE.val (W := NoB) (OpV.loadK_own (i := 1) rfl hB Tryz.isAgg74 Tryz.sizeOf74 rfl rfl rfl (fun h => h)) rfl ?_
      refine VO.opY rfl rfl rfl rfl rfl ?_
      refine OpE.val (W := NoB) (OpV.loadK_own (i := 3) rfl hB Tryz.isAgg74 Tryz.sizeOf74 rfl rfl rfl (fun h => h)) rfl ?_
      refine VO.opY rfl rfl rfl rfl rfl ?_
      refine OpE.val (W := NoB) (OpV.aeql rfl Tryz.underlying74 (by kernel_rfl) (by kernel_rfl) rfl rfl (EqFs.int Tryz.underlying3 Tryz.isAgg3 rfl (by decide) (EqFs.int Tryz.underlying3 Tryz.isAgg3 rfl (by decide) (EqFs.nil _)))) rfl ?_
      refine VO.le _ (Le.boolT (t := 148) rfl (by first | (rw [falN, if_neg (by omega)]; simp; done) | (rw [falN, if_pos h3]; rfl))) ?_
      refine VO.val rfl rfl (OpV.pickT rfl rfl rfl rfl rfl) ?_
      refine VO.mv rfl rfl rfl rfl ?_
      refine VO.opY rfl rfl rfl rfl rfl ?_
      refine OpE.call rfl hB rfl Tryz.call55 rfl (SpecN.spec (rl_looked)) ?_
      rintro _ rfl
      refine VO.val rfl rfl (OpV.pickT rfl rfl rfl rfl rfl) ?_
      refine VO.ma rfl rfl rfl rfl ?_
      refine VO.nil ?_
      refine VC.ret ?_
      exact And.intro rfl rfl
     ·have h3 := h3b
      try simp only [qqT, qqF, qqN, qqM, qqL, qqE] at h3
      refine VC.skip ?_
      refine VC.seq ?_
      have hml := hlm.len
      skip
      refine VC.region ?_
      refine VO.mv rfl rfl rfl rfl ?_
      refine VO.op rfl (OpE.call rfl hB rfl Tryz.call52 rfl (SpecN.spec (inspect_CheckLooks hs)) ?_)
      rintro _ rfl
      refine VO.mv rfl rfl rfl rfl ?_
      refine VO.val rfl rfl (OpV.eql rfl rfl rfl) ?_
      refine VO.le _ (Le.boolT (t := 109) rfl (decide_eq_true rfl)) ?_
      refine VO.mv rfl rfl rfl rfl ?_
      refine VO.opY rfl rfl rfl rfl rfl ?_
      refine OpE.val (W := NoB) (OpV.move (.inl rfl) rfl) rfl ?_
      refine VO.opY rfl rfl rfl rfl rfl ?_
      refine OpE.val (W := NoB) (OpV.move (.inl rfl) rfl) rfl ?_
      refine VO.opY rfl rfl rfl rfl rfl ?_
      refine OpE.val (W := NoB) (OpV.eql rfl rfl rfl) rfl ?_
      refine VO.le _ (Le.boolT (t := 113) rfl (decide_eq_true rfl)) ?_
      refine VO.val rfl rfl (OpV.pickT rfl rfl rfl rfl rfl) ?_
      refine VO.mv rfl rfl rfl rfl ?_
      refine VO.opY rfl rfl rfl rfl rfl ?_
      refine OpE.val (W := NoB) (OpV.move (.inl rfl) rfl) rfl ?_
      refine VO.opY rfl rfl rfl rfl rfl ?_
      refine OpE.val (W := NoB) (OpV.move (.inl rfl) rfl) rfl ?_
      refine VO.opY rfl rfl rfl rfl rfl ?_
      refine OpE.call rfl hB rfl Tryz.call53 rfl (SpecN.spec (slices_Equal_lk (by omega) (by omega))) ?_
      rintro _ rfl
      refine VO.le _ (Le.boolT (t := 118) rfl (eqLs_self eqLk_self _)) ?_
      refine VO.val rfl rfl (OpV.pickT rfl rfl rfl rfl rfl) ?_
      refine VO.mv rfl rfl rfl rfl ?_
      refine VO.opY rfl rfl rfl rfl rfl ?_
      refine OpE.val (W := NoB) (OpV.move (.inl rfl) rfl) rfl ?_
      refine VO.opY rfl rfl rfl rfl rfl ?_
      refine OpE.val (W := NoB) (OpV.move (.inl rfl) rfl) rfl ?_
      refine VO.opY rfl rfl rfl rfl rfl ?_
      refine OpE.val (W := NoB) (OpV.eql rfl rfl rfl) rfl ?_
      refine VO.le _ (Le.boolT (t := 123) rfl (decide_eq_true rfl)) ?_
      refine VO.val rfl rfl (OpV.pickT rfl rfl rfl rfl rfl) ?_
      refine VO.mv rfl rfl rfl rfl ?_
      refine VO.opY rfl rfl rfl rfl rfl ?_
      refine OpE.val (W := NoB) (OpV.move (.inl rfl) rfl) rfl ?_
      refine VO.opY rfl rfl rfl rfl rfl ?_
      refine OpE.val (W := NoB) (OpV.move (.inl rfl) rfl) rfl ?_
      refine VO.opY rfl rfl rfl rfl rfl ?_
      refine OpE.call rfl hB rfl Tryz.call54 rfl (SpecN.spec (slices_Equal_pair (by first | (rw [if_pos h3]; rw [ctPairs_len]; decide) | (rw [if_neg h3]; decide)) (by first | (rw [ctPairs_len]; decide) | decide))) ?_
      rintro _ rfl
      refine VO.le _ (Le.boolT (t := 128) rfl (by first | (rw [if_pos h3]; exact eqLs_self eqPr_self _) | (rw [if_neg h3]; rfl))) ?_
      refine VO.val rfl rfl (OpV.pickT rfl rfl rfl rfl rfl) ?_
      refine VO.mv rfl rfl rfl rfl ?_
      refine VO.opY rfl rfl rfl rfl rfl ?_
      refine OpE.val (W := NoB) (OpV.move (.inl rfl) rfl) rfl ?_
      refine VO.opY rfl rfl rfl rfl rfl ?_
      refine OpE.val (W := NoB) (OpV.move (.inl rfl) rfl) rfl ?_
      refine VO.opY rfl rfl rfl rfl rfl ?_
      refine OpE.val (W := NoB) (OpV.eql rfl rfl rfl) rfl ?_
      refine VO.le _ (Le.boolT (t := 133) rfl (decide_eq_true (by first | exact (mill_eq h3).2 | exact (mill_no h3).2))) ?_
      refine VO.val rfl rfl (OpV.pickT rfl rfl rfl rfl rfl) ?_
      refine VO.mv rfl rfl rfl rfl ?_
      refine VO.opY rfl rfl rfl rfl rfl ?_
      refine OpE.val (W := NoB) (OpV.loadK_own (i := 0) rfl hB Tryz.isAgg74 Tryz.sizeOf74 rfl rfl rfl (fun h => h)) rfl ?_
      refine VO.opY rfl rfl rfl rfl rfl ?_
      refine OpE.val (W := NoB) (OpV.loadK_own (i := 2) rfl hB Tryz.isAgg74 Tryz.sizeOf74 rfl rfl rfl (fun h => h)) rfl ?_
      refine VO.opY rfl rfl rfl rfl rfl ?_
      refine OpE.val (W := NoB) (OpV.aeql rfl Tryz.underlying74 (by kernel_rfl) (by kernel_rfl) rfl rfl (EqFs.int Tryz.underlying3 Tryz.isAgg3 rfl (by decide) (EqFs.int Tryz.underlying3 Tryz.isAgg3 rfl (by decide) (EqFs.nil _)))) rfl ?_
      refine VO.le _ (Le.boolT (t := 138) rfl (by first | (rw [(mill_eq h3).1]; simp; done) | (rw [(mill_no h3).1]; rfl))) ?_
      refine VO.val rfl rfl (OpV.pickT rfl rfl rfl rfl rfl) ?_
      refine VO.mv rfl rfl rfl rfl ?_
      refine VO.opY rfl rfl rfl rfl rfl ?_
      refine OpE.val (W := NoB) (OpV.move (.inl rfl) rfl) rfl ?_
      refine VO.opY rfl rfl rfl rfl rfl ?_
      refine OpE.val (W := NoB) (OpV.move (.inl rfl) rfl) rfl ?_
      refine VO.opY rfl rfl rfl rfl rfl ?_
      refine OpE.val (W := NoB) (OpV.eql rfl rfl rfl) rfl ?_
      refine VO.le _ (Le.boolT (t := 143) rfl (decide_eq_true (by first | (rw [falE, if_neg (by omega)]; done) | (rw [falE, if_pos h3]; done)))) ?_
      refine VO.val rfl rfl (OpV.pickT rfl rfl rfl rfl rfl) ?_
      refine VO.mv rfl rfl rfl rfl ?_
      refine VO.opY rfl rfl rfl rfl rfl ?_
      refine OpE.val (W := NoB) (OpV.loadK_own (i := 1) rfl hB Tryz.isAgg74 Tryz.sizeOf74 rfl rfl rfl (fun h => h)) rfl ?_
      refine VO.opY rfl rfl rfl rfl rfl ?_
      refine OpE.val (W := NoB) (OpV.loadK_own (i := 3) rfl hB Tryz.isAgg74 Tryz.sizeOf74 rfl rfl rfl (fun h => h)) rfl ?_
      refine VO.opY rfl rfl rfl rfl rfl ?_
      refine OpE.val (W := NoB) (OpV.aeql rfl Tryz.underlying74 (by kernel_rfl) (by kernel_rfl) rfl rfl (EqFs.int Tryz.underlying3 Tryz.isAgg3 rfl (by decide) (EqFs.int Tryz.underlying3 Tryz.isAgg3 rfl (by decide) (EqFs.nil _)))) rfl ?_
      refine VO.le _ (Le.boolT (t := 148) rfl (by first | (rw [falN, if_neg (by omega)]; simp; done) | (rw [falN, if_pos h3]; rfl))) ?_
      refine VO.val rfl rfl (OpV.pickT rfl rfl rfl rfl rfl) ?_
      refine VO.mv rfl rfl rfl rfl ?_
      refine VO.opY rfl rfl rfl rfl rfl ?_
      refine OpE.call rfl hB rfl Tryz.call55 rfl (SpecN.spec (rl_looked)) ?_
      rintro _ rfl
      refine VO.val rfl rfl (OpV.pickT rfl rfl rfl rfl rfl) ?_
      refine VO.ma rfl rfl rfl rfl ?_
      refine VO.nil ?_
      refine VC.ret ?_
      exact And.intro rfl rfl
    ·have h2 := h2b
     try simp only [qqT, qqF, qqN, qqM, qqL, qqE] at h2
     have hme := mrgE_err h2
     have hln : lm = [] := hlm.nil (by rw [hme]; exact h2)
     refine VC.skip ?_
     refine VC.seq ?_
     (refine VC.le _ (Le.recast (t := 15) (y := avI (mrgE a b)) rfl (fun w Z u h => by rw [hme]; exact h)) ?_; refine VC.le _ (Le.recast (t := 18) (y := avL lm) rfl (fun w Z u h => by rw [hln, h.eq_v]; exact .nil _ _)) ?_)
     refine VC.region ?_
     refine VO.ma rfl rfl rfl rfl ?_
     first | refine VO.le _ (Le.recast (t := 19) (y := avL ([] : List PairS)) rfl (fun w Z u h => by rw [h.eq_v]; exact .nil _ _)) ?_ | skip
     refine VO.nil ?_
     refine VC.sr ?_
     refine VO.val rfl rfl (OpV.build (pls := #[(0, 1), (1, 1)]) rfl Tryz.zeroValue74 Tryz.underlying74 (fun w => by kernel_rfl) rfl rfl) ?_
     refine VO.val rfl rfl (OpV.build (pls := #[(0, 1), (1, 1)]) rfl Tryz.zeroValue74 Tryz.underlying74 (fun w => by kernel_rfl) rfl rfl) ?_
     refine VO.op rfl (OpE.alloc rfl hB rfl Tryz.zeroValue74 rfl ?_)
     intro g20
     refine VO.op rfl (OpE.alloc rfl hB rfl Tryz.zeroValue74 rfl ?_)
     intro g21
     refine VO.op rfl (OpE.store (i := 2) rfl hB rfl Tryz.sizeOf74 rfl rfl rfl rfl rfl rfl (Nle rfl) trivial ?_)
     refine VO.op rfl (OpE.store (i := 3) rfl hB rfl Tryz.sizeOf74 rfl rfl rfl rfl rfl rfl (Nle rfl) trivial ?_)
     refine VO.nil ?_
     refine VC.seq ?_
     refine VC.sr ?_
     refine VO.mv rfl rfl rfl rfl ?_
     refine VO.val rfl rfl (OpV.eql rfl rfl rfl) ?_
     refine VO.nil ?_
     refine VC.cond rfl (fun h3b => ?_) (fun h3b => ?_)
     ·have h3 := h3b
      try simp only [qqT, qqF, qqN, qqM, qqL, qqE] at h3
      refine VC.sr ?_
      refine VO.mv rfl rfl rfl rfl ?_
      refine VO.op rfl (OpE.call rfl hB rfl Tryz.call49 rfl (SpecN.spec (rf_LookCounts (by omega))) ?_)
      rintro _ rfl
      refine VO.ma rfl rfl rfl rfl ?_
      first | refine VO.le _ (Le.recast (t := 19) (y := avL ([] : List PairS)) rfl (fun w Z u h => by rw [h.eq_v]; exact .nil _ _)) ?_ | skip
      refine VO.nil ?_
      refine VC.sr ?_
      refine VO.mv rfl rfl rfl rfl ?_
      refine VO.op rfl (OpE.call rfl hB rfl Tryz.call50 rfl (SpecN.spec (rf_MillionOf (by omega))) ?_)
      rintro _ rfl
      refine VO.mv rfl rfl rfl rfl ?_
      refine VO.val rfl rfl (OpV.extract rfl rfl rfl) ?_
      refine VO.val rfl rfl (OpV.extract rfl rfl rfl) ?_
      refine VO.op rfl (OpE.store (i := 2) rfl hB rfl Tryz.sizeOf74 rfl rfl rfl rfl rfl rfl (Nle rfl) trivial ?_)
      refine VO.ma rfl rfl rfl rfl ?_
      refine VO.nil ?_
      refine VC.region ?_
      refine VO.mv rfl rfl rfl rfl ?_
      refine VO.op rfl (OpE.call rfl hB rfl Tryz.call51 rfl (SpecN.spec (rf_FalseOf (by omega))) ?_)
      rintro _ rfl
      refine VO.mv rfl rfl rfl rfl ?_
      refine VO.val rfl rfl (OpV.extract rfl rfl rfl) ?_
      refine VO.val rfl rfl (OpV.extract rfl rfl rfl) ?_
      refine VO.op rfl (OpE.store (i := 3) rfl hB rfl Tryz.sizeOf74 rfl rfl rfl rfl rfl rfl (Nle rfl) trivial ?_)
      refine VO.ma rfl rfl rfl rfl ?_
      refine VO.nil ?_
      refine VC.seq ?_
      have hml := hlm.len
      skip
      refine VC.region ?_
      refine VO.mv rfl rfl rfl rfl ?_
      refine VO.op rfl (OpE.call rfl hB rfl Tryz.call52 rfl (SpecN.spec (inspect_CheckLooks hs)) ?_)
      rintro _ rfl
      refine VO.mv rfl rfl rfl rfl ?_
      refine VO.val rfl rfl (OpV.eql rfl rfl rfl) ?_
      refine VO.le _ (Le.boolT (t := 109) rfl (decide_eq_true rfl)) ?_
      refine VO.mv rfl rfl rfl rfl ?_
      refine VO.opY rfl rfl rfl rfl rfl ?_
      refine OpE.val (W := NoB) (OpV.move (.inl rfl) rfl) rfl ?_
      refine VO.opY rfl rfl rfl rfl rfl ?_
      refine OpE.val (W := NoB) (OpV.move (.inl rfl) rfl) rfl ?_
      refine VO.opY rfl rfl rfl rfl rfl ?_
      refine OpE.val (W := NoB) (OpV.eql rfl rfl rfl) rfl ?_
      refine VO.le _ (Le.boolT (t := 113) rfl (decide_eq_true rfl)) ?_
      refine VO.val rfl rfl (OpV.pickT rfl rfl rfl rfl rfl) ?_
      refine VO.mv rfl rfl rfl rfl ?_
      refine VO.opY rfl rfl rfl rfl rfl ?_
      refine OpE.val (W := NoB) (OpV.move (.inl rfl) rfl) rfl ?_
      refine VO.opY rfl rfl rfl rfl rfl ?_
      refine OpE.val (W := NoB) (OpV.move (.inl rfl) rfl) rfl ?_
      refine VO.opY rfl rfl rfl rfl rfl ?_
      refine OpE.call rfl hB rfl Tryz.call53 rfl (SpecN.spec (slices_Equal_lk (by omega) (by omega))) ?_
      rintro _ rfl
      refine VO.le _ (Le.boolT (t := 118) rfl (eqLs_self eqLk_self _)) ?_
      refine VO.val rfl rfl (OpV.pickT rfl rfl rfl rfl rfl) ?_
      refine VO.mv rfl rfl rfl rfl ?_
      refine VO.opY rfl rfl rfl rfl rfl ?_
      refine OpE.val (W := NoB) (OpV.move (.inl rfl) rfl) rfl ?_
      refine VO.opY rfl rfl rfl rfl rfl ?_
      refine OpE.val (W := NoB) (OpV.move (.inl rfl) rfl) rfl ?_
      refine VO.opY rfl rfl rfl rfl rfl ?_
      refine OpE.val (W := NoB) (OpV.eql rfl rfl rfl) rfl ?_
      refine VO.le _ (Le.boolT (t := 123) rfl (decide_eq_true rfl)) ?_
      refine VO.val rfl rfl (OpV.pickT rfl rfl rfl rfl rfl) ?_
      refine VO.mv rfl rfl rfl rfl ?_
      refine VO.opY rfl rfl rfl rfl rfl ?_
      refine OpE.val (W := NoB) (OpV.move (.inl rfl) rfl) rfl ?_
      refine VO.opY rfl rfl rfl rfl rfl ?_
      refine OpE.val (W := NoB) (OpV.move (.inl rfl) rfl) rfl ?_
      refine VO.opY rfl rfl rfl rfl rfl ?_
      refine OpE.call rfl hB rfl Tryz.call54 rfl (SpecN.spec (slices_Equal_pair (by first | (rw [if_pos h3]; rw [ctPairs_len]; decide) | (rw [if_neg h3]; decide)) (by first | (rw [ctPairs_len]; decide) | decide))) ?_
      rintro _ rfl
      refine VO.le _ (Le.boolT (t := 128) rfl (by first | (rw [if_pos h3]; exact eqLs_self eqPr_self _) | (rw [if_neg h3]; rfl))) ?_
      refine VO.val rfl rfl (OpV.pickT rfl rfl rfl rfl rfl) ?_
      refine VO.mv rfl rfl rfl rfl ?_
      refine VO.opY rfl rfl rfl rfl rfl ?_
      refine OpE.val (W := NoB) (OpV.move (.inl rfl) rfl) rfl ?_
      refine VO.opY rfl rfl rfl rfl rfl ?_
      refine OpE.val (W := NoB) (OpV.move (.inl rfl) rfl) rfl ?_
      refine VO.opY rfl rfl rfl rfl rfl ?_
      refine OpE.val (W := NoB) (OpV.eql rfl rfl rfl) rfl ?_
      refine VO.le _ (Le.boolT (t := 133) rfl (decide_eq_true (by first | exact (mill_eq h3).2 | exact (mill_no h3).2))) ?_
      refine VO.val rfl rfl (OpV.pickT rfl rfl rfl rfl rfl) ?_
      refine VO.mv rfl rfl rfl rfl ?_
      refine VO.opY rfl rfl rfl rfl rfl ?_
      refine OpE.val (W := NoB) (OpV.loadK_own (i := 0) rfl hB Tryz.isAgg74 Tryz.sizeOf74 rfl rfl rfl (fun h => h)) rfl ?_
      refine VO.opY rfl rfl rfl rfl rfl ?_
      refine OpE.val (W := NoB) (OpV.loadK_own (i := 2) rfl hB Tryz.isAgg74 Tryz.sizeOf74 rfl rfl rfl (fun h => h)) rfl ?_
      refine VO.opY rfl rfl rfl rfl rfl ?_
      refine OpE.val (W := NoB) (OpV.aeql rfl Tryz.underlying74 (by kernel_rfl) (by kernel_rfl) rfl rfl (EqFs.int Tryz.underlying3 Tryz.isAgg3 rfl (by decide) (EqFs.int Tryz.underlying3 Tryz.isAgg3 rfl (by decide) (EqFs.nil _)))) rfl ?_
      refine VO.le _ (Le.boolT (t := 138) rfl (by first | (rw [(mill_eq h3).1]; simp; done) | (rw [(mill_no h3).1]; rfl))) ?_
      refine VO.val rfl rfl (OpV.pickT rfl rfl rfl rfl rfl) ?_
      refine VO.mv rfl rfl rfl rfl ?_
      refine VO.opY rfl rfl rfl rfl rfl ?_
      refine OpE.val (W := NoB) (OpV.move (.inl rfl) rfl) rfl ?_
      refine VO.opY rfl rfl rfl rfl rfl ?_
      refine OpE.val (W := NoB) (OpV.move (.inl rfl) rfl) rfl ?_
      refine VO.opY rfl rfl rfl rfl rfl ?_
      refine OpE.val (W := NoB) (OpV.eql rfl rfl rfl) rfl ?_
      refine VO.le _ (Le.boolT (t := 143) rfl (decide_eq_true (by first | (rw [falE, if_neg (by omega)]; done) | (rw [falE, if_pos h3]; done)))) ?_
      refine VO.val rfl rfl (OpV.pickT rfl rfl rfl rfl rfl) ?_
      refine VO.mv rfl rfl rfl rfl ?_
      refine VO.opY rfl rfl rfl rfl rfl ?_
      refine OpE.val (W := NoB) (OpV.loadK_own (i := 1) rfl hB Tryz.isAgg74 Tryz.sizeOf74 rfl rfl rfl (fun h => h)) rfl ?_
      refine VO.opY rfl rfl rfl rfl rfl ?_
      refine OpE.val (W := NoB) (OpV.loadK_own (i := 3) rfl hB Tryz.isAgg74 Tryz.sizeOf74 rfl rfl rfl (fun h => h)) rfl ?_
      refine VO.opY rfl rfl rfl rfl rfl ?_
      refine OpE.val (W := NoB) (OpV.aeql rfl Tryz.underlying74 (by kernel_rfl) (by kernel_rfl) rfl rfl (EqFs.int Tryz.underlying3 Tryz.isAgg3 rfl (by decide) (EqFs.int Tryz.underlying3 Tryz.isAgg3 rfl (by decide) (EqFs.nil _)))) rfl ?_
      refine VO.le _ (Le.boolT (t := 148) rfl (by first | (rw [falN, if_neg (by omega)]; simp; done) | (rw [falN, if_pos h3]; rfl))) ?_
      refine VO.val rfl rfl (OpV.pickT rfl rfl rfl rfl rfl) ?_
      refine VO.mv rfl rfl rfl rfl ?_
      refine VO.opY rfl rfl rfl rfl rfl ?_
      refine OpE.call rfl hB rfl Tryz.call55 rfl (SpecN.spec (rl_looked)) ?_
      rintro _ rfl
      refine VO.val rfl rfl (OpV.pickT rfl rfl rfl rfl rfl) ?_
      refine VO.ma rfl rfl rfl rfl ?_
      refine VO.nil ?_
      refine VC.ret ?_
      exact And.intro rfl rfl
     ·have h3 := h3b
      try simp only [qqT, qqF, qqN, qqM, qqL, qqE] at h3
      refine VC.skip ?_
      refine VC.seq ?_
      have hml := hlm.len
      skip
      refine VC.region ?_
      refine VO.mv rfl rfl rfl rfl ?_
      refine VO.op rfl (OpE.call rfl hB rfl Tryz.call52 rfl (SpecN.spec (inspect_CheckLooks hs)) ?_)
      rintro _ rfl
      refine VO.mv rfl rfl rfl rfl ?_
      refine VO.val rfl rfl (OpV.eql rfl rfl rfl) ?_
      refine VO.le _ (Le.boolT (t := 109) rfl (decide_eq_true rfl)) ?_
      refine VO.mv rfl rfl rfl rfl ?_
      refine VO.opY rfl rfl rfl rfl rfl ?_
      refine OpE.val (W := NoB) (OpV.move (.inl rfl) rfl) rfl ?_
      refine VO.opY rfl rfl rfl rfl rfl ?_
      refine OpE.val (W := NoB) (OpV.move (.inl rfl) rfl) rfl ?_
      refine VO.opY rfl rfl rfl rfl rfl ?_
      refine OpE.val (W := NoB) (OpV.eql rfl rfl rfl) rfl ?_
      refine VO.le _ (Le.boolT (t := 113) rfl (decide_eq_true rfl)) ?_
      refine VO.val rfl rfl (OpV.pickT rfl rfl rfl rfl rfl) ?_
      refine VO.mv rfl rfl rfl rfl ?_
      refine VO.opY rfl rfl rfl rfl rfl ?_
      refine OpE.val (W := NoB) (OpV.move (.inl rfl) rfl) rfl ?_
      refine VO.opY rfl rfl rfl rfl rfl ?_
      refine OpE.val (W := NoB) (OpV.move (.inl rfl) rfl) rfl ?_
      refine VO.opY rfl rfl rfl rfl rfl ?_
      refine OpE.call rfl hB rfl Tryz.call53 rfl (SpecN.spec (slices_Equal_lk (by omega) (by omega))) ?_
      rintro _ rfl
      refine VO.le _ (Le.boolT (t := 118) rfl (eqLs_self eqLk_self _)) ?_
      refine VO.val rfl rfl (OpV.pickT rfl rfl rfl rfl rfl) ?_
      refine VO.mv rfl rfl rfl rfl ?_
      refine VO.opY rfl rfl rfl rfl rfl ?_
      refine OpE.val (W := NoB) (OpV.move (.inl rfl) rfl) rfl ?_
      refine VO.opY rfl rfl rfl rfl rfl ?_
      refine OpE.val (W := NoB) (OpV.move (.inl rfl) rfl) rfl ?_
      refine VO.opY rfl rfl rfl rfl rfl ?_
      refine OpE.val (W := NoB) (OpV.eql rfl rfl rfl) rfl ?_
      refine VO.le _ (Le.boolT (t := 123) rfl (decide_eq_true rfl)) ?_
      refine VO.val rfl rfl (OpV.pickT rfl rfl rfl rfl rfl) ?_
      refine VO.mv rfl rfl rfl rfl ?_
      refine VO.opY rfl rfl rfl rfl rfl ?_
      refine OpE.val (W := NoB) (OpV.move (.inl rfl) rfl) rfl ?_
      refine VO.opY rfl rfl rfl rfl rfl ?_
      refine OpE.val (W := NoB) (OpV.move (.inl rfl) rfl) rfl ?_
      refine VO.opY rfl rfl rfl rfl rfl ?_
      refine OpE.call rfl hB rfl Tryz.call54 rfl (SpecN.spec (slices_Equal_pair (by first | (rw [if_pos h3]; rw [ctPairs_len]; decide) | (rw [if_neg h3]; decide)) (by first | (rw [ctPairs_len]; decide) | decide))) ?_
      rintro _ rfl
      refine VO.le _ (Le.boolT (t := 128) rfl (by first | (rw [if_pos h3]; exact eqLs_self eqPr_self _) | (rw [if_neg h3]; rfl))) ?_
      refine VO.val rfl rfl (OpV.pickT rfl rfl rfl rfl rfl) ?_
      refine VO.mv rfl rfl rfl rfl ?_
      refine VO.opY rfl rfl rfl rfl rfl ?_
      refine OpE.val (W := NoB) (OpV.move (.inl rfl) rfl) rfl ?_
      refine VO.opY rfl rfl rfl rfl rfl ?_
      refine OpE.val (W := NoB) (OpV.move (.inl rfl) rfl) rfl ?_
      refine VO.opY rfl rfl rfl rfl rfl ?_
      refine OpE.val (W := NoB) (OpV.eql rfl rfl rfl) rfl ?_
      refine VO.le _ (Le.boolT (t := 133) rfl (decide_eq_true (by first | exact (mill_eq h3).2 | exact (mill_no h3).2))) ?_
      refine VO.val rfl rfl (OpV.pickT rfl rfl rfl rfl rfl) ?_
      refine VO.mv rfl rfl rfl rfl ?_
      refine VO.opY rfl rfl rfl rfl rfl ?_
      refine OpE.val (W := NoB) (OpV.loadK_own (i := 0) rfl hB Tryz.isAgg74 Tryz.sizeOf74 rfl rfl rfl (fun h => h)) rfl ?_
      refine VO.opY rfl rfl rfl rfl rfl ?_
      refine OpE.val (W := NoB) (OpV.loadK_own (i := 2) rfl hB Tryz.isAgg74 Tryz.sizeOf74 rfl rfl rfl (fun h => h)) rfl ?_
      refine VO.opY rfl rfl rfl rfl rfl ?_
      refine OpE.val (W := NoB) (OpV.aeql rfl Tryz.underlying74 (by kernel_rfl) (by kernel_rfl) rfl rfl (EqFs.int Tryz.underlying3 Tryz.isAgg3 rfl (by decide) (EqFs.int Tryz.underlying3 Tryz.isAgg3 rfl (by decide) (EqFs.nil _)))) rfl ?_
      refine VO.le _ (Le.boolT (t := 138) rfl (by first | (rw [(mill_eq h3).1]; simp; done) | (rw [(mill_no h3).1]; rfl))) ?_
      refine VO.val rfl rfl (OpV.pickT rfl rfl rfl rfl rfl) ?_
      refine VO.mv rfl rfl rfl rfl ?_
      refine VO.opY rfl rfl rfl rfl rfl ?_
      refine OpE.val (W := NoB) (OpV.move (.inl rfl) rfl) rfl ?_
      refine VO.opY rfl rfl rfl rfl rfl ?_
      refine OpE.val (W := NoB) (OpV.move (.inl rfl) rfl) rfl ?_
      refine VO.opY rfl rfl rfl rfl rfl ?_
      refine OpE.val (W := NoB) (OpV.eql rfl rfl rfl) rfl ?_
      refine VO.le _ (Le.boolT (t := 143) rfl (decide_eq_true (by first | (rw [falE, if_neg (by omega)]; done) | (rw [falE, if_pos h3]; done)))) ?_
      refine VO.val rfl rfl (OpV.pickT rfl rfl rfl rfl rfl) ?_
      refine VO.mv rfl rfl rfl rfl ?_
      refine VO.opY rfl rfl rfl rfl rfl ?_
      refine OpE.val (W := NoB) (OpV.loadK_own (i := 1) rfl hB Tryz.isAgg74 Tryz.sizeOf74 rfl rfl rfl (fun h => h)) rfl ?_
      refine VO.opY rfl rfl rfl rfl rfl ?_
      refine OpE.val (W := NoB) (OpV.loadK_own (i := 3) rfl hB Tryz.isAgg74 Tryz.sizeOf74 rfl rfl rfl (fun h => h)) rfl ?_
      refine VO.opY rfl rfl rfl rfl rfl ?_
      refine OpE.val (W := NoB) (OpV.aeql rfl Tryz.underlying74 (by kernel_rfl) (by kernel_rfl) rfl rfl (EqFs.int Tryz.underlying3 Tryz.isAgg3 rfl (by decide) (EqFs.int Tryz.underlying3 Tryz.isAgg3 rfl (by decide) (EqFs.nil _)))) rfl ?_
      refine VO.le _ (Le.boolT (t := 148) rfl (by first | (rw [falN, if_neg (by omega)]; simp; done) | (rw [falN, if_pos h3]; rfl))) ?_
      refine VO.val rfl rfl (OpV.pickT rfl rfl rfl rfl rfl) ?_
      refine VO.mv rfl rfl rfl rfl ?_
      refine VO.opY rfl rfl rfl rfl rfl ?_
      refine OpE.call rfl hB rfl Tryz.call55 rfl (SpecN.spec (rl_looked)) ?_
      rintro _ rfl
      refine VO.val rfl rfl (OpV.pickT rfl rfl rfl rfl rfl) ?_
      refine VO.ma rfl rfl rfl rfl ?_
      refine VO.nil ?_
      refine VC.ret ?_
      exact And.intro rfl rfl
  ·have aH2 := aH2b
   try simp only [qqT, qqF, qqN, qqM, qqL, qqE] at aH2
   refine VC.skip ?_
   refine VC.seq ?_
   (obtain ⟨b, hbe, hb⟩ : ∃ b, b = b0 ∧ BOk b := ⟨_, rfl, hbk⟩; subst hbe)
   have hb12 := hb.len
   have hsb := LkG.sm hb.all (by omega)
   refine VC.le ⟨[(3, _), (4, _), (5, _)], [], 0 + 1 + 200 + 1 + 200 + 1⟩ (Le.mk hB [] ⟨rfl, rfl, rfl, trivial⟩ rfl rfl (Nat.le_refl _)) ?_
   refine VC.region ?_
   refine VO.mv rfl rfl rfl rfl ?_
   refine VO.mv rfl rfl rfl rfl ?_
   refine VO.op rfl (OpE.call rfl hB rfl Tryz.call43 rfl (SpecN.spec (inspect_Merge hs hsb (fun o h1 h2 h3 => mg_small hak hb.all h1 h2 h3))) ?_)
   rintro _ ⟨lm, hlm, rfl⟩
   refine VO.mv rfl rfl rfl rfl ?_
   refine VO.val rfl rfl (OpV.extract rfl rfl rfl) ?_
   refine VO.val rfl rfl (OpV.extract rfl rfl rfl) ?_
   refine VO.ma rfl rfl rfl rfl ?_
   refine VO.ma rfl rfl rfl rfl ?_
   refine VO.nil ?_
   refine VC.sr ?_
   refine VO.mv rfl rfl rfl rfl ?_
   refine VO.op rfl (OpE.call rfl hB rfl Tryz.call44 rfl (SpecN.spec (inspect_Counts hs (by omega))) ?_)
   rintro _ rfl
   refine VO.mv rfl rfl rfl rfl ?_
   refine VO.val rfl rfl (OpV.extract rfl rfl rfl) ?_
   refine VO.val rfl rfl (OpV.extract rfl rfl rfl) ?_
   refine VO.ma rfl rfl rfl rfl ?_
   refine VO.ma rfl rfl rfl rfl ?_
   refine VO.nil ?_
   refine VC.sr ?_
   refine VO.mv rfl rfl rfl rfl ?_
   refine VO.op rfl (OpE.call rfl hB rfl Tryz.call45 rfl (SpecN.spec (inspect_Million hs)) ?_)
   rintro _ rfl
   refine VO.mv rfl rfl rfl rfl ?_
   refine VO.val rfl rfl (OpV.extract rfl rfl rfl) ?_
   refine VO.val rfl rfl (OpV.extract rfl rfl rfl) ?_
   refine VO.op rfl (OpE.alloc rfl hB rfl Tryz.zeroValue74 rfl ?_)
   intro g10
   refine VO.op rfl (OpE.store (i := 0) rfl hB rfl Tryz.sizeOf74 rfl rfl rfl rfl rfl rfl (Nle rfl) trivial ?_)
   refine VO.ma rfl rfl rfl rfl ?_
   refine VO.nil ?_
   refine VC.sr ?_
   refine VO.mv rfl rfl rfl rfl ?_
   refine VO.op rfl (OpE.call rfl hB rfl Tryz.call46 rfl (SpecN.spec (inspect_FalseCalls hs (by omega))) ?_)
   rintro _ rfl
   refine VO.mv rfl rfl rfl rfl ?_
   refine VO.val rfl rfl (OpV.extract rfl rfl rfl) ?_
   refine VO.val rfl rfl (OpV.extract rfl rfl rfl) ?_
   refine VO.op rfl (OpE.alloc rfl hB rfl Tryz.zeroValue74 rfl ?_)
   intro g12
   refine VO.op rfl (OpE.store (i := 1) rfl hB rfl Tryz.sizeOf74 rfl rfl rfl rfl rfl rfl (Nle rfl) trivial ?_)
   refine VO.ma rfl rfl rfl rfl ?_
   refine VO.nil ?_
   refine VC.sr ?_
   refine VO.mv rfl rfl rfl rfl ?_
   refine VO.op rfl (OpE.call rfl hB rfl Tryz.call47 rfl (SpecN.spec (rf_LooksFault hs)) ?_)
   rintro _ rfl
   refine VO.ma rfl rfl rfl rfl ?_
   refine VO.nil ?_
   refine VC.sr ?_
   refine VO.mv rfl rfl rfl rfl ?_
   refine VO.mv rfl rfl rfl rfl ?_
   refine VO.op rfl (OpE.call rfl hB rfl Tryz.call47 rfl (SpecN.spec (rf_LooksFault hsb)) ?_)
   rintro _ rfl
   refine VO.op rfl (OpE.buildSlice (zc := #[.int .i64 0, .int .i64 0]) rfl hB rfl Tryz.underlying155 Tryz.sizeOf38 Tryz.zeroValue38 (by decide) (by decide) (by kernel_rfl) rfl rfl ?_)
   refine VO.le _ (Le.lits (t := 78) (xs := [lookF a, lookF b]) rfl rfl) ?_
   refine VO.op rfl (OpE.call rfl hB rfl Tryz.call24 rfl (SpecN.spec (rl_errsL (by simp))) ?_)
   rintro _ rfl
   refine VO.mv rfl rfl rfl rfl ?_
   refine VO.mv rfl rfl rfl rfl ?_
   refine VO.ma rfl rfl rfl rfl ?_
   refine VO.ma rfl rfl rfl rfl ?_
   refine VO.ma rfl rfl rfl rfl ?_
   refine VO.nil ?_
   refine VC.sr ?_
   refine VO.ma rfl rfl rfl rfl ?_
   refine VO.nil ?_
   refine VC.seq ?_
   refine VC.sr ?_
   refine VO.mv rfl rfl rfl rfl ?_
   refine VO.val rfl rfl (OpV.eql rfl rfl rfl) ?_
   refine VO.nil ?_
   refine VC.cond rfl (fun h2b => ?_) (fun h2b => ?_)
   ·have h2 := h2b
    try simp only [qqT, qqF, qqN, qqM, qqL, qqE] at h2
    have h00 := errs2L h2
    have hE00 : mrgE a b = mrgE a b := rfl
    refine VC.region ?_
    refine VO.mv rfl rfl rfl rfl ?_
    refine VO.mv rfl rfl rfl rfl ?_
    refine VO.op rfl (OpE.call rfl hB rfl Tryz.call48 rfl (SpecN.spec (rf_MergedLooks h00.1 h00.2 (fun o h3 => mg_small hak hb.all h00.1 h00.2 h3))) ?_)
    rintro _ ⟨lw, hlw, rfl⟩
    obtain rfl := hlw.uniq hlm
    refine VO.mv rfl rfl rfl rfl ?_
    refine VO.val rfl rfl (OpV.extract rfl rfl rfl) ?_
    refine VO.val rfl rfl (OpV.extract rfl rfl rfl) ?_
    refine VO.ma rfl rfl rfl rfl ?_
    refine VO.ma rfl rfl rfl rfl ?_
    refine VO.nil ?_
    refine VC.seq ?_
    skip
    refine VC.region ?_
    refine VO.ma rfl rfl rfl rfl ?_
    first | refine VO.le _ (Le.recast (t := 19) (y := avL ([] : List PairS)) rfl (fun w Z u h => by rw [h.eq_v]; exact .nil _ _)) ?_ | skip
    refine VO.nil ?_
    refine VC.sr ?_
    refine VO.val rfl rfl (OpV.build (pls := #[(0, 1), (1, 1)]) rfl Tryz.zeroValue74 Tryz.underlying74 (fun w => by kernel_rfl) rfl rfl) ?_
    refine VO.val rfl rfl (OpV.build (pls := #[(0, 1), (1, 1)]) rfl Tryz.zeroValue74 Tryz.underlying74 (fun w => by kernel_rfl) rfl rfl) ?_
    refine VO.op rfl (OpE.alloc rfl hB rfl Tryz.zeroValue74 rfl ?_)
    intro g20
    refine VO.op rfl (OpE.alloc rfl hB rfl Tryz.zeroValue74 rfl ?_)
    intro g21
    refine VO.op rfl (OpE.store (i := 2) rfl hB rfl Tryz.sizeOf74 rfl rfl rfl rfl rfl rfl (Nle rfl) trivial ?_)
    refine VO.op rfl (OpE.store (i := 3) rfl hB rfl Tryz.sizeOf74 rfl rfl rfl rfl rfl rfl (Nle rfl) trivial ?_)
    refine VO.nil ?_
    refine VC.seq ?_
    refine VC.sr ?_
    refine VO.mv rfl rfl rfl rfl ?_
    refine VO.val rfl rfl (OpV.eql rfl rfl rfl) ?_
    refine VO.nil ?_
    refine VC.cond rfl (fun h3b => ?_) (fun h3b => ?_)
    ·have h3 := h3b
     try simp only [qqT, qqF, qqN, qqM, qqL, qqE] at h3
     refine VC.sr ?_
     refine VO.mv rfl rfl rfl rfl ?_
     refine VO.op rfl (OpE.call rfl hB rfl Tryz.call49 rfl (SpecN.spec (rf_LookCounts (by omega))) ?_)
     rintro _ rfl
     refine VO.ma rfl rfl rfl rfl ?_
     first | refine VO.le _ (Le.recast (t := 19) (y := avL ([] : List PairS)) rfl (fun w Z u h => by rw [h.eq_v]; exact .nil _ _)) ?_ | skip
     refine VO.nil ?_
     refine VC.sr ?_
     refine VO.mv rfl rfl rfl rfl ?_
     refine VO.op rfl (OpE.call rfl hB rfl Tryz.call50 rfl (SpecN.spec (rf_MillionOf (by omega))) ?_)
     rintro _ rfl
     refine VO.mv rfl rfl rfl rfl ?_
     refine VO.val rfl rfl (OpV.extract rfl rfl rfl) ?_
     refine VO.val rfl rfl (OpV.extract rfl rfl rfl) ?_
     refine VO.op rfl (OpE.store (i := 2) rfl hB rfl Tryz.sizeOf74 rfl rfl rfl rfl rfl rfl (Nle rfl) trivial ?_)
     refine VO.ma rfl rfl rfl rfl ?_
     refine VO.nil ?_
     refine VC.region ?_
     refine VO.mv rfl rfl rfl rfl ?_
     refine VO.op rfl (OpE.call rfl hB rfl Tryz.call51 rfl (SpecN.spec (rf_FalseOf (by omega))) ?_)
     rintro _ rfl
     refine VO.mv rfl rfl rfl rfl ?_
     refine VO.val rfl rfl (OpV.extract rfl rfl rfl) ?_
     refine VO.val rfl rfl (OpV.extract rfl rfl rfl) ?_
     refine VO.op rfl (OpE.store (i := 3) rfl hB rfl Tryz.sizeOf74 rfl rfl rfl rfl rfl rfl (Nle rfl) trivial ?_)
     refine VO.ma rfl rfl rfl rfl ?_
     refine VO.nil ?_
     refine VC.seq ?_
     have hml := hlm.len
     skip
     refine VC.region ?_
     refine VO.mv rfl rfl rfl rfl ?_
     refine VO.op rfl (OpE.call rfl hB rfl Tryz.call52 rfl (SpecN.spec (inspect_CheckLooks hs)) ?_)
     rintro _ rfl
     refine VO.mv rfl rfl rfl rfl ?_
     refine VO.val rfl rfl (OpV.eql rfl rfl rfl) ?_
     refine VO.le _ (Le.boolT (t := 109) rfl (decide_eq_true rfl)) ?_
     refine VO.mv rfl rfl rfl rfl ?_
     refine VO.opY rfl rfl rfl rfl rfl ?_
     refine OpE.val (W := NoB) (OpV.move (.inl rfl) rfl) rfl ?_
     refine VO.opY rfl rfl rfl rfl rfl ?_
     refine OpE.val (W := NoB) (OpV.move (.inl rfl) rfl) rfl ?_
     refine VO.opY rfl rfl rfl rfl rfl ?_
     refine OpE.val (W := NoB) (OpV.eql rfl rfl rfl) rfl ?_
     refine VO.le _ (Le.boolT (t := 113) rfl (decide_eq_true rfl)) ?_
     refine VO.val rfl rfl (OpV.pickT rfl rfl rfl rfl rfl) ?_
     refine VO.mv rfl rfl rfl rfl ?_
     refine VO.opY rfl rfl rfl rfl rfl ?_
     refine OpE.val (W := NoB) (OpV.move (.inl rfl) rfl) rfl ?_
     refine VO.opY rfl rfl rfl rfl rfl ?_
     refine OpE.val (W := NoB) (OpV.move (.inl rfl) rfl) rfl ?_
     refine VO.opY rfl rfl rfl rfl rfl ?_
     refine OpE.call rfl hB rfl Tryz.call53 rfl (SpecN.spec (slices_Equal_lk (by omega) (by omega))) ?_
     rintro _ rfl
     refine VO.le _ (Le.boolT (t := 118) rfl (eqLs_self eqLk_self _)) ?_
     refine VO.val rfl rfl (OpV.pickT rfl rfl rfl rfl rfl) ?_
     refine VO.mv rfl rfl rfl rfl ?_
     refine VO.opY rfl rfl rfl rfl rfl ?_
     refine OpE.val (W := NoB) (OpV.move (.inl rfl) rfl) rfl ?_
     refine VO.opY rfl rfl rfl rfl rfl ?_
     refine OpE.val (W := NoB) (OpV.move (.inl rfl) rfl) rfl ?_
     refine VO.opY rfl rfl rfl rfl rfl ?_
     refine OpE.val (W := NoB) (OpV.eql rfl rfl rfl) rfl ?_
     refine VO.le _ (Le.boolT (t := 123) rfl (decide_eq_true rfl)) ?_
     refine VO.val rfl rfl (OpV.pickT rfl rfl rfl rfl rfl) ?_
     refine VO.mv rfl rfl rfl rfl ?_
     refine VO.opY rfl rfl rfl rfl rfl ?_
     refine OpE.val (W := NoB) (OpV.move (.inl rfl) rfl) rfl ?_
     refine VO.opY rfl rfl rfl rfl rfl ?_
     refine OpE.val (W := NoB) (OpV.move (.inl rfl) rfl) rfl ?_
     refine VO.opY rfl rfl rfl rfl rfl ?_
     refine OpE.call rfl hB rfl Tryz.call54 rfl (SpecN.spec (slices_Equal_pair (by first | (rw [if_pos h3]; rw [ctPairs_len]; decide) | (rw [if_neg h3]; decide)) (by first | (rw [ctPairs_len]; decide) | decide))) ?_
     rintro _ rfl
     refine VO.le _ (Le.boolT (t := 128) rfl (by first | (rw [if_pos h3]; exact eqLs_self eqPr_self _) | (rw [if_neg h3]; rfl))) ?_
     refine VO.val rfl rfl (OpV.pickT rfl rfl rfl rfl rfl) ?_
     refine VO.mv rfl rfl rfl rfl ?_
     refine VO.opY rfl rfl rfl rfl rfl ?_
     refine OpE.val (W := NoB) (OpV.move (.inl rfl) rfl) rfl ?_
     refine VO.opY rfl rfl rfl rfl rfl ?_
     refine OpE.val (W := NoB) (OpV.move (.inl rfl) rfl) rfl ?_
     refine VO.opY rfl rfl rfl rfl rfl ?_
     refine OpE.val (W := NoB) (OpV.eql rfl rfl rfl) rfl ?_
     refine VO.le _ (Le.boolT (t := 133) rfl (decide_eq_true (by first | exact (mill_eq h3).2 | exact (mill_no h3).2))) ?_
     refine VO.val rfl rfl (OpV.pickT rfl rfl rfl rfl rfl) ?_
     refine VO.mv rfl rfl rfl rfl ?_
     refine VO.opY rfl rfl rfl rfl rfl ?_
     refine OpE.val (W := NoB) (OpV.loadK_own (i := 0) rfl hB Tryz.isAgg74 Tryz.sizeOf74 rfl rfl rfl (fun h => h)) rfl ?_
     refine VO.opY rfl rfl rfl rfl rfl ?_
     refine OpE.val (W := NoB) (OpV.loadK_own (i := 2) rfl hB Tryz.isAgg74 Tryz.sizeOf74 rfl rfl rfl (fun h => h)) rfl ?_
     refine VO.opY rfl rfl rfl rfl rfl ?_
     refine OpE.val (W := NoB) (OpV.aeql rfl Tryz.underlying74 (by kernel_rfl) (by kernel_rfl) rfl rfl (EqFs.int Tryz.underlying3 Tryz.isAgg3 rfl (by decide) (EqFs.int Tryz.underlying3 Tryz.isAgg3 rfl (by decide) (EqFs.nil _)))) rfl ?_
     refine VO.le _ (Le.boolT (t := 138) rfl (by first | (rw [(mill_eq h3).1]; simp; done) | (rw [(mill_no h3).1]; rfl))) ?_
     refine VO.val rfl rfl (OpV.pickT rfl rfl rfl rfl rfl) ?_
     refine VO.mv rfl rfl rfl rfl ?_
     refine VO.opY rfl rfl rfl rfl rfl ?_
     refine OpE.val (W := NoB) (OpV.move (.inl rfl) rfl) rfl ?_
     refine VO.opY rfl rfl rfl rfl rfl ?_
     refine OpE.val (W := NoB) (OpV.move (.inl rfl) rfl) rfl ?_
     refine VO.opY rfl rfl rfl rfl rfl ?_
     refine OpE.val (W := NoB) (OpV.eql rfl rfl rfl) rfl ?_
     refine VO.le _ (Le.boolT (t := 143) rfl (decide_eq_true (by first | (rw [falE, if_neg (by omega)]; done) | (rw [falE, if_pos h3]; done)))) ?_
     refine VO.val rfl rfl (OpV.pickT rfl rfl rfl rfl rfl) ?_
     refine VO.mv rfl rfl rfl rfl ?_
     refine VO.opY rfl rfl rfl rfl rfl ?_
     refine OpE.val (W := NoB) (OpV.loadK_own (i := 1) rfl hB Tryz.isAgg74 Tryz.sizeOf74 rfl rfl rfl (fun h => h)) rfl ?_
     refine VO.opY rfl rfl rfl rfl rfl ?_
     refine OpE.val (W := NoB) (OpV.loadK_own (i := 3) rfl hB Tryz.isAgg74 Tryz.sizeOf74 rfl rfl rfl (fun h => h)) rfl ?_
     refine VO.opY rfl rfl rfl rfl rfl ?_
     refine OpE.val (W := NoB) (OpV.aeql rfl Tryz.underlying74 (by kernel_rfl) (by kernel_rfl) rfl rfl (EqFs.int Tryz.underlying3 Tryz.isAgg3 rfl (by decide) (EqFs.int Tryz.underlying3 Tryz.isAgg3 rfl (by decide) (EqFs.nil _)))) rfl ?_
     refine VO.le _ (Le.boolT (t := 148) rfl (by first | (rw [falN, if_neg (by omega)]; simp; done) | (rw [falN, if_pos h3]; rfl))) ?_
     refine VO.val rfl rfl (OpV.pickT rfl rfl rfl rfl rfl) ?_
     refine VO.mv rfl rfl rfl rfl ?_
     refine VO.opY rfl rfl rfl rfl rfl ?_
     refine OpE.call rfl hB rfl Tryz.call55 rfl (SpecN.spec (rl_looked)) ?_
     rintro _ rfl
     refine VO.val rfl rfl (OpV.pickT rfl rfl rfl rfl rfl) ?_
     refine VO.ma rfl rfl rfl rfl ?_
     refine VO.nil ?_
     refine VC.ret ?_
     exact And.intro rfl rfl
    ·have h3 := h3b
     try simp only [qqT, qqF, qqN, qqM, qqL, qqE] at h3
     refine VC.skip ?_
     refine VC.seq ?_
     have hml := hlm.len
     skip
     refine VC.region ?_
     refine VO.mv rfl rfl rfl rfl ?_
     refine VO.op rfl (OpE.call rfl hB rfl Tryz.call52 rfl (SpecN.spec (inspect_CheckLooks hs)) ?_)
     rintro _ rfl
     refine VO.mv rfl rfl rfl rfl ?_
     refine VO.val rfl rfl (OpV.eql rfl rfl rfl) ?_
     refine VO.le _ (Le.boolT (t := 109) rfl (decide_eq_true rfl)) ?_
     refine VO.mv rfl rfl rfl rfl ?_
     refine VO.opY rfl rfl rfl rfl rfl ?_
     refine OpE.val (W := NoB) (OpV.move (.inl rfl) rfl) rfl ?_
     refine VO.opY rfl rfl rfl rfl rfl ?_
     refine OpE.val (W := NoB) (OpV.move (.inl rfl) rfl) rfl ?_
     refine VO.opY rfl rfl rfl rfl rfl ?_
     refine OpE.val (W := NoB) (OpV.eql rfl rfl rfl) rfl ?_
     refine VO.le _ (Le.boolT (t := 113) rfl (decide_eq_true rfl)) ?_
     refine VO.val rfl rfl (OpV.pickT rfl rfl rfl rfl rfl) ?_
     refine VO.mv rfl rfl rfl rfl ?_
     refine VO.opY rfl rfl rfl rfl rfl ?_
     refine OpE.val (W := NoB) (OpV.move (.inl rfl) rfl) rfl ?_
     refine VO.opY rfl rfl rfl rfl rfl ?_
     refine OpE.val (W := NoB) (OpV.move (.inl rfl) rfl) rfl ?_
     refine VO.opY rfl rfl rfl rfl rfl ?_
     refine OpE.call rfl hB rfl Tryz.call53 rfl (SpecN.spec (slices_Equal_lk (by omega) (by omega))) ?_
     rintro _ rfl
     refine VO.le _ (Le.boolT (t := 118) rfl (eqLs_self eqLk_self _)) ?_
     refine VO.val rfl rfl (OpV.pickT rfl rfl rfl rfl rfl) ?_
     refine VO.mv rfl rfl rfl rfl ?_
     refine VO.opY rfl rfl rfl rfl rfl ?_
     refine OpE.val (W := NoB) (OpV.move (.inl rfl) rfl) rfl ?_
     refine VO.opY rfl rfl rfl rfl rfl ?_
     refine OpE.val (W := NoB) (OpV.move (.inl rfl) rfl) rfl ?_
     refine VO.opY rfl rfl rfl rfl rfl ?_
     refine OpE.val (W := NoB) (OpV.eql rfl rfl rfl) rfl ?_
     refine VO.le _ (Le.boolT (t := 123) rfl (decide_eq_true rfl)) ?_
     refine VO.val rfl rfl (OpV.pickT rfl rfl rfl rfl rfl) ?_
     refine VO.mv rfl rfl rfl rfl ?_
     refine VO.opY rfl rfl rfl rfl rfl ?_
     refine OpE.val (W := NoB) (OpV.move (.inl rfl) rfl) rfl ?_
     refine VO.opY rfl rfl rfl rfl rfl ?_
     refine OpE.val (W := NoB) (OpV.move (.inl rfl) rfl) rfl ?_
     refine VO.opY rfl rfl rfl rfl rfl ?_
     refine OpE.call rfl hB rfl Tryz.call54 rfl (SpecN.spec (slices_Equal_pair (by first | (rw [if_pos h3]; rw [ctPairs_len]; decide) | (rw [if_neg h3]; decide)) (by first | (rw [ctPairs_len]; decide) | decide))) ?_
     rintro _ rfl
     refine VO.le _ (Le.boolT (t := 128) rfl (by first | (rw [if_pos h3]; exact eqLs_self eqPr_self _) | (rw [if_neg h3]; rfl))) ?_
     refine VO.val rfl rfl (OpV.pickT rfl rfl rfl rfl rfl) ?_
     refine VO.mv rfl rfl rfl rfl ?_
     refine VO.opY rfl rfl rfl rfl rfl ?_
     refine OpE.val (W := NoB) (OpV.move (.inl rfl) rfl) rfl ?_
     refine VO.opY rfl rfl rfl rfl rfl ?_
     refine OpE.val (W := NoB) (OpV.move (.inl rfl) rfl) rfl ?_
     refine VO.opY rfl rfl rfl rfl rfl ?_
     refine OpE.val (W := NoB) (OpV.eql rfl rfl rfl) rfl ?_
     refine VO.le _ (Le.boolT (t := 133) rfl (decide_eq_true (by first | exact (mill_eq h3).2 | exact (mill_no h3).2))) ?_
     refine VO.val rfl rfl (OpV.pickT rfl rfl rfl rfl rfl) ?_
     refine VO.mv rfl rfl rfl rfl ?_
     refine VO.opY rfl rfl rfl rfl rfl ?_
     refine OpE.val (W := NoB) (OpV.loadK_own (i := 0) rfl hB Tryz.isAgg74 Tryz.sizeOf74 rfl rfl rfl (fun h => h)) rfl ?_
     refine VO.opY rfl rfl rfl rfl rfl ?_
     refine OpE.val (W := NoB) (OpV.loadK_own (i := 2) rfl hB Tryz.isAgg74 Tryz.sizeOf74 rfl rfl rfl (fun h => h)) rfl ?_
     refine VO.opY rfl rfl rfl rfl rfl ?_
     refine OpE.val (W := NoB) (OpV.aeql rfl Tryz.underlying74 (by kernel_rfl) (by kernel_rfl) rfl rfl (EqFs.int Tryz.underlying3 Tryz.isAgg3 rfl (by decide) (EqFs.int Tryz.underlying3 Tryz.isAgg3 rfl (by decide) (EqFs.nil _)))) rfl ?_
     refine VO.le _ (Le.boolT (t := 138) rfl (by first | (rw [(mill_eq h3).1]; simp; done) | (rw [(mill_no h3).1]; rfl))) ?_
     refine VO.val rfl rfl (OpV.pickT rfl rfl rfl rfl rfl) ?_
     refine VO.mv rfl rfl rfl rfl ?_
     refine VO.opY rfl rfl rfl rfl rfl ?_
     refine OpE.val (W := NoB) (OpV.move (.inl rfl) rfl) rfl ?_
     refine VO.opY rfl rfl rfl rfl rfl ?_
     refine OpE.val (W := NoB) (OpV.move (.inl rfl) rfl) rfl ?_
     refine VO.opY rfl rfl rfl rfl rfl ?_
     refine OpE.val (W := NoB) (OpV.eql rfl rfl rfl) rfl ?_
     refine VO.le _ (Le.boolT (t := 143) rfl (decide_eq_true (by first | (rw [falE, if_neg (by omega)]; done) | (rw [falE, if_pos h3]; done)))) ?_
     refine VO.val rfl rfl (OpV.pickT rfl rfl rfl rfl rfl) ?_
     refine VO.mv rfl rfl rfl rfl ?_
     refine VO.opY rfl rfl rfl rfl rfl ?_
     refine OpE.val (W := NoB) (OpV.loadK_own (i := 1) rfl hB Tryz.isAgg74 Tryz.sizeOf74 rfl rfl rfl (fun h => h)) rfl ?_
     refine VO.opY rfl rfl rfl rfl rfl ?_
     refine OpE.val (W := NoB) (OpV.loadK_own (i := 3) rfl hB Tryz.isAgg74 Tryz.sizeOf74 rfl rfl rfl (fun h => h)) rfl ?_
     refine VO.opY rfl rfl rfl rfl rfl ?_
     refine OpE.val (W := NoB) (OpV.aeql rfl Tryz.underlying74 (by kernel_rfl) (by kernel_rfl) rfl rfl (EqFs.int Tryz.underlying3 Tryz.isAgg3 rfl (by decide) (EqFs.int Tryz.underlying3 Tryz.isAgg3 rfl (by decide) (EqFs.nil _)))) rfl ?_
     refine VO.le _ (Le.boolT (t := 148) rfl (by first | (rw [falN, if_neg (by omega)]; simp; done) | (rw [falN, if_pos h3]; rfl))) ?_
     refine VO.val rfl rfl (OpV.pickT rfl rfl rfl rfl rfl) ?_
     refine VO.mv rfl rfl rfl rfl ?_
     refine VO.opY rfl rfl rfl rfl rfl ?_
     refine OpE.call rfl hB rfl Tryz.call55 rfl (SpecN.spec (rl_looked)) ?_
     rintro _ rfl
     refine VO.val rfl rfl (OpV.pickT rfl rfl rfl rfl rfl) ?_
     refine VO.ma rfl rfl rfl rfl ?_
     refine VO.nil ?_
     refine VC.ret ?_
     exact And.intro rfl rfl
   ·have h2 := h2b
    try simp only [qqT, qqF, qqN, qqM, qqL, qqE] at h2
    have hme := mrgE_err h2
    have hln : lm = [] := hlm.nil (by rw [hme]; exact h2)
    refine VC.skip ?_
    refine VC.seq ?_
    (refine VC.le _ (Le.recast (t := 15) (y := avI (mrgE a b)) rfl (fun w Z u h => by rw [hme]; exact h)) ?_; refine VC.le _ (Le.recast (t := 18) (y := avL lm) rfl (fun w Z u h => by rw [hln, h.eq_v]; exact .nil _ _)) ?_)
    refine VC.region ?_
    refine VO.ma rfl rfl rfl rfl ?_
    first | refine VO.le _ (Le.recast (t := 19) (y := avL ([] : List PairS)) rfl (fun w Z u h => by rw [h.eq_v]; exact .nil _ _)) ?_ | skip
    refine VO.nil ?_
    refine VC.sr ?_
    refine VO.val rfl rfl (OpV.build (pls := #[(0, 1), (1, 1)]) rfl Tryz.zeroValue74 Tryz.underlying74 (fun w => by kernel_rfl) rfl rfl) ?_
    refine VO.val rfl rfl (OpV.build (pls := #[(0, 1), (1, 1)]) rfl Tryz.zeroValue74 Tryz.underlying74 (fun w => by kernel_rfl) rfl rfl) ?_
    refine VO.op rfl (OpE.alloc rfl hB rfl Tryz.zeroValue74 rfl ?_)
    intro g20
    refine VO.op rfl (OpE.alloc rfl hB rfl Tryz.zeroValue74 rfl ?_)
    intro g21
    refine VO.op rfl (OpE.store (i := 2) rfl hB rfl Tryz.sizeOf74 rfl rfl rfl rfl rfl rfl (Nle rfl) trivial ?_)
    refine VO.op rfl (OpE.store (i := 3) rfl hB rfl Tryz.sizeOf74 rfl rfl rfl rfl rfl rfl (Nle rfl) trivial ?_)
    refine VO.nil ?_
    refine VC.seq ?_
    refine VC.sr ?_
    refine VO.mv rfl rfl rfl rfl ?_
    refine VO.val rfl rfl (OpV.eql rfl rfl rfl) ?_
    refine VO.nil ?_
    refine VC.cond rfl (fun h3b => ?_) (fun h3b => ?_)
    ·have h3 := h3b
     try simp only [qqT, qqF, qqN, qqM, qqL, qqE] at h3
     refine VC.sr ?_
     refine VO.mv rfl rfl rfl rfl ?_
     refine VO.op rfl (OpE.call rfl hB rfl Tryz.call49 rfl (SpecN.spec (rf_LookCounts (by omega))) ?_)
     rintro _ rfl
     refine VO.ma rfl rfl rfl rfl ?_
     first | refine VO.le _ (Le.recast (t := 19) (y := avL ([] : List PairS)) rfl (fun w Z u h => by rw [h.eq_v]; exact .nil _ _)) ?_ | skip
     refine VO.nil ?_
     refine VC.sr ?_
     refine VO.mv rfl rfl rfl rfl ?_
     refine VO.op rfl (OpE.call rfl hB rfl Tryz.call50 rfl (SpecN.spec (rf_MillionOf (by omega))) ?_)
     rintro _ rfl
     refine VO.mv rfl rfl rfl rfl ?_
     refine VO.val rfl rfl (OpV.extract rfl rfl rfl) ?_
     refine VO.val rfl rfl (OpV.extract rfl rfl rfl) ?_
     refine VO.op rfl (OpE.store (i := 2) rfl hB rfl Tryz.sizeOf74 rfl rfl rfl rfl rfl rfl (Nle rfl) trivial ?_)
     refine VO.ma rfl rfl rfl rfl ?_
     refine VO.nil ?_
     refine VC.region ?_
     refine VO.mv rfl rfl rfl rfl ?_
     refine VO.op rfl (OpE.call rfl hB rfl Tryz.call51 rfl (SpecN.spec (rf_FalseOf (by omega))) ?_)
     rintro _ rfl
     refine VO.mv rfl rfl rfl rfl ?_
     refine VO.val rfl rfl (OpV.extract rfl rfl rfl) ?_
     refine VO.val rfl rfl (OpV.extract rfl rfl rfl) ?_
     refine VO.op rfl (OpE.store (i := 3) rfl hB rfl Tryz.sizeOf74 rfl rfl rfl rfl rfl rfl (Nle rfl) trivial ?_)
     refine VO.ma rfl rfl rfl rfl ?_
     refine VO.nil ?_
     refine VC.seq ?_
     have hml := hlm.len
     skip
     refine VC.region ?_
     refine VO.mv rfl rfl rfl rfl ?_
     refine VO.op rfl (OpE.call rfl hB rfl Tryz.call52 rfl (SpecN.spec (inspect_CheckLooks hs)) ?_)
     rintro _ rfl
     refine VO.mv rfl rfl rfl rfl ?_
     refine VO.val rfl rfl (OpV.eql rfl rfl rfl) ?_
     refine VO.le _ (Le.boolT (t := 109) rfl (decide_eq_true rfl)) ?_
     refine VO.mv rfl rfl rfl rfl ?_
     refine VO.opY rfl rfl rfl rfl rfl ?_
     refine OpE.val (W := NoB) (OpV.move (.inl rfl) rfl) rfl ?_
     refine VO.opY rfl rfl rfl rfl rfl ?_
     refine OpE.val (W := NoB) (OpV.move (.inl rfl) rfl) rfl ?_
     refine VO.opY rfl rfl rfl rfl rfl ?_
     refine OpE.val (W := NoB) (OpV.eql rfl rfl rfl) rfl ?_
     refine VO.le _ (Le.boolT (t := 113) rfl (decide_eq_true rfl)) ?_
     refine VO.val rfl rfl (OpV.pickT rfl rfl rfl rfl rfl) ?_
     refine VO.mv rfl rfl rfl rfl ?_
     refine VO.opY rfl rfl rfl rfl rfl ?_
     refine OpE.val (W := NoB) (OpV.move (.inl rfl) rfl) rfl ?_
     refine VO.opY rfl rfl rfl rfl rfl ?_
     refine OpE.val (W := NoB) (OpV.move (.inl rfl) rfl) rfl ?_
     refine VO.opY rfl rfl rfl rfl rfl ?_
     refine OpE.call rfl hB rfl Tryz.call53 rfl (SpecN.spec (slices_Equal_lk (by omega) (by omega))) ?_
     rintro _ rfl
     refine VO.le _ (Le.boolT (t := 118) rfl (eqLs_self eqLk_self _)) ?_
     refine VO.val rfl rfl (OpV.pickT rfl rfl rfl rfl rfl) ?_
     refine VO.mv rfl rfl rfl rfl ?_
     refine VO.opY rfl rfl rfl rfl rfl ?_
     refine OpE.val (W := NoB) (OpV.move (.inl rfl) rfl) rfl ?_
     refine VO.opY rfl rfl rfl rfl rfl ?_
     refine OpE.val (W := NoB) (OpV.move (.inl rfl) rfl) rfl ?_
     refine VO.opY rfl rfl rfl rfl rfl ?_
     refine OpE.val (W := NoB) (OpV.eql rfl rfl rfl) rfl ?_
     refine VO.le _ (Le.boolT (t := 123) rfl (decide_eq_true rfl)) ?_
     refine VO.val rfl rfl (OpV.pickT rfl rfl rfl rfl rfl) ?_
     refine VO.mv rfl rfl rfl rfl ?_
     refine VO.opY rfl rfl rfl rfl rfl ?_
     refine OpE.val (W := NoB) (OpV.move (.inl rfl) rfl) rfl ?_
     refine VO.opY rfl rfl rfl rfl rfl ?_
     refine OpE.val (W := NoB) (OpV.move (.inl rfl) rfl) rfl ?_
     refine VO.opY rfl rfl rfl rfl rfl ?_
     refine OpE.call rfl hB rfl Tryz.call54 rfl (SpecN.spec (slices_Equal_pair (by first | (rw [if_pos h3]; rw [ctPairs_len]; decide) | (rw [if_neg h3]; decide)) (by first | (rw [ctPairs_len]; decide) | decide))) ?_
     rintro _ rfl
     refine VO.le _ (Le.boolT (t := 128) rfl (by first | (rw [if_pos h3]; exact eqLs_self eqPr_self _) | (rw [if_neg h3]; rfl))) ?_
     refine VO.val rfl rfl (OpV.pickT rfl rfl rfl rfl rfl) ?_
     refine VO.mv rfl rfl rfl rfl ?_
     refine VO.opY rfl rfl rfl rfl rfl ?_
     refine OpE.val (W := NoB) (OpV.move (.inl rfl) rfl) rfl ?_
     refine VO.opY rfl rfl rfl rfl rfl ?_
     refine OpE.val (W := NoB) (OpV.move (.inl rfl) rfl) rfl ?_
     refine VO.opY rfl rfl rfl rfl rfl ?_
     refine OpE.val (W := NoB) (OpV.eql rfl rfl rfl) rfl ?_
     refine VO.le _ (Le.boolT (t := 133) rfl (decide_eq_true (by first | exact (mill_eq h3).2 | exact (mill_no h3).2))) ?_
     refine VO.val rfl rfl (OpV.pickT rfl rfl rfl rfl rfl) ?_
     refine VO.mv rfl rfl rfl rfl ?_
     refine VO.opY rfl rfl rfl rfl rfl ?_
     refine OpE.val (W := NoB) (OpV.loadK_own (i := 0) rfl hB Tryz.isAgg74 Tryz.sizeOf74 rfl rfl rfl (fun h => h)) rfl ?_
     refine VO.opY rfl rfl rfl rfl rfl ?_
     refine OpE.val (W := NoB) (OpV.loadK_own (i := 2) rfl hB Tryz.isAgg74 Tryz.sizeOf74 rfl rfl rfl (fun h => h)) rfl ?_
     refine VO.opY rfl rfl rfl rfl rfl ?_
     refine OpE.val (W := NoB) (OpV.aeql rfl Tryz.underlying74 (by kernel_rfl) (by kernel_rfl) rfl rfl (EqFs.int Tryz.underlying3 Tryz.isAgg3 rfl (by decide) (EqFs.int Tryz.underlying3 Tryz.isAgg3 rfl (by decide) (EqFs.nil _)))) rfl ?_
     refine VO.le _ (Le.boolT (t := 138) rfl (by first | (rw [(mill_eq h3).1]; simp; done) | (rw [(mill_no h3).1]; rfl))) ?_
     refine VO.val rfl rfl (OpV.pickT rfl rfl rfl rfl rfl) ?_
     refine VO.mv rfl rfl rfl rfl ?_
     refine VO.opY rfl rfl rfl rfl rfl ?_
     refine OpE.val (W := NoB) (OpV.move (.inl rfl) rfl) rfl ?_
     refine VO.opY rfl rfl rfl rfl rfl ?_
     refine OpE.val (W := NoB) (OpV.move (.inl rfl) rfl) rfl ?_
     refine VO.opY rfl rfl rfl rfl rfl ?_
     refine OpE.val (W := NoB) (OpV.eql rfl rfl rfl) rfl ?_
     refine VO.le _ (Le.boolT (t := 143) rfl (decide_eq_true (by first | (rw [falE, if_neg (by omega)]; done) | (rw [falE, if_pos h3]; done)))) ?_
     refine VO.val rfl rfl (OpV.pickT rfl rfl rfl rfl rfl) ?_
     refine VO.mv rfl rfl rfl rfl ?_
     refine VO.opY rfl rfl rfl rfl rfl ?_
     refine OpE.val (W := NoB) (OpV.loadK_own (i := 1) rfl hB Tryz.isAgg74 Tryz.sizeOf74 rfl rfl rfl (fun h => h)) rfl ?_
     refine VO.opY rfl rfl rfl rfl rfl ?_
     refine OpE.val (W := NoB) (OpV.loadK_own (i := 3) rfl hB Tryz.isAgg74 Tryz.sizeOf74 rfl rfl rfl (fun h => h)) rfl ?_
     refine VO.opY rfl rfl rfl rfl rfl ?_
     refine OpE.val (W := NoB) (OpV.aeql rfl Tryz.underlying74 (by kernel_rfl) (by kernel_rfl) rfl rfl (EqFs.int Tryz.underlying3 Tryz.isAgg3 rfl (by decide) (EqFs.int Tryz.underlying3 Tryz.isAgg3 rfl (by decide) (EqFs.nil _)))) rfl ?_
     refine VO.le _ (Le.boolT (t := 148) rfl (by first | (rw [falN, if_neg (by omega)]; simp; done) | (rw [falN, if_pos h3]; rfl))) ?_
     refine VO.val rfl rfl (OpV.pickT rfl rfl rfl rfl rfl) ?_
     refine VO.mv rfl rfl rfl rfl ?_
     refine VO.opY rfl rfl rfl rfl rfl ?_
     refine OpE.call rfl hB rfl Tryz.call55 rfl (SpecN.spec (rl_looked)) ?_
     rintro _ rfl
     refine VO.val rfl rfl (OpV.pickT rfl rfl rfl rfl rfl) ?_
     refine VO.ma rfl rfl rfl rfl ?_
     refine VO.nil ?_
     refine VC.ret ?_
     exact And.intro rfl rfl
    ·have h3 := h3b
     try simp only [qqT, qqF, qqN, qqM, qqL, qqE] at h3
     refine VC.skip ?_
     refine VC.seq ?_
     have hml := hlm.len
     skip
     refine VC.region ?_
     refine VO.mv rfl rfl rfl rfl ?_
     refine VO.op rfl (OpE.call rfl hB rfl Tryz.call52 rfl (SpecN.spec (inspect_CheckLooks hs)) ?_)
     rintro _ rfl
     refine VO.mv rfl rfl rfl rfl ?_
     refine VO.val rfl rfl (OpV.eql rfl rfl rfl) ?_
     refine VO.le _ (Le.boolT (t := 109) rfl (decide_eq_true rfl)) ?_
     refine VO.mv rfl rfl rfl rfl ?_
     refine VO.opY rfl rfl rfl rfl rfl ?_
     refine OpE.val (W := NoB) (OpV.move (.inl rfl) rfl) rfl ?_
     refine VO.opY rfl rfl rfl rfl rfl ?_
     refine OpE.val (W := NoB) (OpV.move (.inl rfl) rfl) rfl ?_
     refine VO.opY rfl rfl rfl rfl rfl ?_
     refine OpE.val (W := NoB) (OpV.eql rfl rfl rfl) rfl ?_
     refine VO.le _ (Le.boolT (t := 113) rfl (decide_eq_true rfl)) ?_
     refine VO.val rfl rfl (OpV.pickT rfl rfl rfl rfl rfl) ?_
     refine VO.mv rfl rfl rfl rfl ?_
     refine VO.opY rfl rfl rfl rfl rfl ?_
     refine OpE.val (W := NoB) (OpV.move (.inl rfl) rfl) rfl ?_
     refine VO.opY rfl rfl rfl rfl rfl ?_
     refine OpE.val (W := NoB) (OpV.move (.inl rfl) rfl) rfl ?_
     refine VO.opY rfl rfl rfl rfl rfl ?_
     refine OpE.call rfl hB rfl Tryz.call53 rfl (SpecN.spec (slices_Equal_lk (by omega) (by omega))) ?_
     rintro _ rfl
     refine VO.le _ (Le.boolT (t := 118) rfl (eqLs_self eqLk_self _)) ?_
     refine VO.val rfl rfl (OpV.pickT rfl rfl rfl rfl rfl) ?_
     refine VO.mv rfl rfl rfl rfl ?_
     refine VO.opY rfl rfl rfl rfl rfl ?_
     refine OpE.val (W := NoB) (OpV.move (.inl rfl) rfl) rfl ?_
     refine VO.opY rfl rfl rfl rfl rfl ?_
     refine OpE.val (W := NoB) (OpV.move (.inl rfl) rfl) rfl ?_
     refine VO.opY rfl rfl rfl rfl rfl ?_
     refine OpE.val (W := NoB) (OpV.eql rfl rfl rfl) rfl ?_
     refine VO.le _ (Le.boolT (t := 123) rfl (decide_eq_true rfl)) ?_
     refine VO.val rfl rfl (OpV.pickT rfl rfl rfl rfl rfl) ?_
     refine VO.mv rfl rfl rfl rfl ?_
     refine VO.opY rfl rfl rfl rfl rfl ?_
     refine OpE.val (W := NoB) (OpV.move (.inl rfl) rfl) rfl ?_
     refine VO.opY rfl rfl rfl rfl rfl ?_
     refine OpE.val (W := NoB) (OpV.move (.inl rfl) rfl) rfl ?_
     refine VO.opY rfl rfl rfl rfl rfl ?_
     refine OpE.call rfl hB rfl Tryz.call54 rfl (SpecN.spec (slices_Equal_pair (by first | (rw [if_pos h3]; rw [ctPairs_len]; decide) | (rw [if_neg h3]; decide)) (by first | (rw [ctPairs_len]; decide) | decide))) ?_
     rintro _ rfl
     refine VO.le _ (Le.boolT (t := 128) rfl (by first | (rw [if_pos h3]; exact eqLs_self eqPr_self _) | (rw [if_neg h3]; rfl))) ?_
     refine VO.val rfl rfl (OpV.pickT rfl rfl rfl rfl rfl) ?_
     refine VO.mv rfl rfl rfl rfl ?_
     refine VO.opY rfl rfl rfl rfl rfl ?_
     refine OpE.val (W := NoB) (OpV.move (.inl rfl) rfl) rfl ?_
     refine VO.opY rfl rfl rfl rfl rfl ?_
     refine OpE.val (W := NoB) (OpV.move (.inl rfl) rfl) rfl ?_
     refine VO.opY rfl rfl rfl rfl rfl ?_
     refine OpE.val (W := NoB) (OpV.eql rfl rfl rfl) rfl ?_
     refine VO.le _ (Le.boolT (t := 133) rfl (decide_eq_true (by first | exact (mill_eq h3).2 | exact (mill_no h3).2))) ?_
     refine VO.val rfl rfl (OpV.pickT rfl rfl rfl rfl rfl) ?_
     refine VO.mv rfl rfl rfl rfl ?_
     refine VO.opY rfl rfl rfl rfl rfl ?_
     refine OpE.val (W := NoB) (OpV.loadK_own (i := 0) rfl hB Tryz.isAgg74 Tryz.sizeOf74 rfl rfl rfl (fun h => h)) rfl ?_
     refine VO.opY rfl rfl rfl rfl rfl ?_
     refine OpE.val (W := NoB) (OpV.loadK_own (i := 2) rfl hB Tryz.isAgg74 Tryz.sizeOf74 rfl rfl rfl (fun h => h)) rfl ?_
     refine VO.opY rfl rfl rfl rfl rfl ?_
     refine OpE.val (W := NoB) (OpV.aeql rfl Tryz.underlying74 (by kernel_rfl) (by kernel_rfl) rfl rfl (EqFs.int Tryz.underlying3 Tryz.isAgg3 rfl (by decide) (EqFs.int Tryz.underlying3 Tryz.isAgg3 rfl (by decide) (EqFs.nil _)))) rfl ?_
     refine VO.le _ (Le.boolT (t := 138) rfl (by first | (rw [(mill_eq h3).1]; simp; done) | (rw [(mill_no h3).1]; rfl))) ?_
     refine VO.val rfl rfl (OpV.pickT rfl rfl rfl rfl rfl) ?_
     refine VO.mv rfl rfl rfl rfl ?_
     refine VO.opY rfl rfl rfl rfl rfl ?_
     refine OpE.val (W := NoB) (OpV.move (.inl rfl) rfl) rfl ?_
     refine VO.opY rfl rfl rfl rfl rfl ?_
     refine OpE.val (W := NoB) (OpV.move (.inl rfl) rfl) rfl ?_
     refine VO.opY rfl rfl rfl rfl rfl ?_
     refine OpE.val (W := NoB) (OpV.eql rfl rfl rfl) rfl ?_
     refine VO.le _ (Le.boolT (t := 143) rfl (decide_eq_true (by first | (rw [falE, if_neg (by omega)]; done) | (rw [falE, if_pos h3]; done)))) ?_
     refine VO.val rfl rfl (OpV.pickT rfl rfl rfl rfl rfl) ?_
     refine VO.mv rfl rfl rfl rfl ?_
     refine VO.opY rfl rfl rfl rfl rfl ?_
     refine OpE.val (W := NoB) (OpV.loadK_own (i := 1) rfl hB Tryz.isAgg74 Tryz.sizeOf74 rfl rfl rfl (fun h => h)) rfl ?_
     refine VO.opY rfl rfl rfl rfl rfl ?_
     refine OpE.val (W := NoB) (OpV.loadK_own (i := 3) rfl hB Tryz.isAgg74 Tryz.sizeOf74 rfl rfl rfl (fun h => h)) rfl ?_
     refine VO.opY rfl rfl rfl rfl rfl ?_
     refine OpE.val (W := NoB) (OpV.aeql rfl Tryz.underlying74 (by kernel_rfl) (by kernel_rfl) rfl rfl (EqFs.int Tryz.underlying3 Tryz.isAgg3 rfl (by decide) (EqFs.int Tryz.underlying3 Tryz.isAgg3 rfl (by decide) (EqFs.nil _)))) rfl ?_
     refine VO.le _ (Le.boolT (t := 148) rfl (by first | (rw [falN, if_neg (by omega)]; simp; done) | (rw [falN, if_pos h3]; rfl))) ?_
     refine VO.val rfl rfl (OpV.pickT rfl rfl rfl rfl rfl) ?_
     refine VO.mv rfl rfl rfl rfl ?_
     refine VO.opY rfl rfl rfl rfl rfl ?_
     refine OpE.call rfl hB rfl Tryz.call55 rfl (SpecN.spec (rl_looked)) ?_
     rintro _ rfl
     refine VO.val rfl rfl (OpV.pickT rfl rfl rfl rfl rfl) ?_
     refine VO.ma rfl rfl rfl rfl ?_
     refine VO.nil ?_
     refine VC.ret ?_
     exact And.intro rfl rfl
 ·replace aK1b : _ = false := aK1b
  have aK1 := aK1b
  try simp only [qqT, qqF, qqN, qqM, qqL, qqE] at aK1
  refine VO.opX rfl rfl rfl rfl aK1b ?_
  refine VO.val rfl rfl (OpV.pickF rfl rfl rfl rfl aK1b) ?_
  refine VO.nil ?_
  refine VC.condF rfl rfl ?_
  refine VC.skip ?_
  refine VC.seq ?_
  (obtain ⟨b, hbe, hb⟩ : ∃ b, b = b0 ∧ BOk b := ⟨_, rfl, hbk⟩; subst hbe)
  have hb12 := hb.len
  have hsb := LkG.sm hb.all (by omega)
  refine VC.le ⟨[(3, _), (4, _), (5, _)], [], 0 + 1 + 200 + 1 + 200⟩ (Le.mk hB [] ⟨rfl, rfl, rfl, trivial⟩ rfl rfl (Nat.le_refl _)) ?_
  refine VC.region ?_
  refine VO.mv rfl rfl rfl rfl ?_
  refine VO.mv rfl rfl rfl rfl ?_
  refine VO.op rfl (OpE.call rfl hB rfl Tryz.call43 rfl (SpecN.spec (inspect_Merge hs hsb (fun o h1 h2 h3 => mg_small hak hb.all h1 h2 h3))) ?_)
  rintro _ ⟨lm, hlm, rfl⟩
  refine VO.mv rfl rfl rfl rfl ?_
  refine VO.val rfl rfl (OpV.extract rfl rfl rfl) ?_
  refine VO.val rfl rfl (OpV.extract rfl rfl rfl) ?_
  refine VO.ma rfl rfl rfl rfl ?_
  refine VO.ma rfl rfl rfl rfl ?_
  refine VO.nil ?_
  refine VC.sr ?_
  refine VO.mv rfl rfl rfl rfl ?_
  refine VO.op rfl (OpE.call rfl hB rfl Tryz.call44 rfl (SpecN.spec (inspect_Counts hs (by omega))) ?_)
  rintro _ rfl
  refine VO.mv rfl rfl rfl rfl ?_
  refine VO.val rfl rfl (OpV.extract rfl rfl rfl) ?_
  refine VO.val rfl rfl (OpV.extract rfl rfl rfl) ?_
  refine VO.ma rfl rfl rfl rfl ?_
  refine VO.ma rfl rfl rfl rfl ?_
  refine VO.nil ?_
  refine VC.sr ?_
  refine VO.mv rfl rfl rfl rfl ?_
  refine VO.op rfl (OpE.call rfl hB rfl Tryz.call45 rfl (SpecN.spec (inspect_Million hs)) ?_)
  rintro _ rfl
  refine VO.mv rfl rfl rfl rfl ?_
  refine VO.val rfl rfl (OpV.extract rfl rfl rfl) ?_
  refine VO.val rfl rfl (OpV.extract rfl rfl rfl) ?_
  refine VO.op rfl (OpE.alloc rfl hB rfl Tryz.zeroValue74 rfl ?_)
  intro g10
  refine VO.op rfl (OpE.store (i := 0) rfl hB rfl Tryz.sizeOf74 rfl rfl rfl rfl rfl rfl (Nle rfl) trivial ?_)
  refine VO.ma rfl rfl rfl rfl ?_
  refine VO.nil ?_
  refine VC.sr ?_
  refine VO.mv rfl rfl rfl rfl ?_
  refine VO.op rfl (OpE.call rfl hB rfl Tryz.call46 rfl (SpecN.spec (inspect_FalseCalls hs (by omega))) ?_)
  rintro _ rfl
  refine VO.mv rfl rfl rfl rfl ?_
  refine VO.val rfl rfl (OpV.extract rfl rfl rfl) ?_
  refine VO.val rfl rfl (OpV.extract rfl rfl rfl) ?_
  refine VO.op rfl (OpE.alloc rfl hB rfl Tryz.zeroValue74 rfl ?_)
  intro g12
  refine VO.op rfl (OpE.store (i := 1) rfl hB rfl Tryz.sizeOf74 rfl rfl rfl rfl rfl rfl (Nle rfl) trivial ?_)
  refine VO.ma rfl rfl rfl rfl ?_
  refine VO.nil ?_
  refine VC.sr ?_
  refine VO.mv rfl rfl rfl rfl ?_
  refine VO.op rfl (OpE.call rfl hB rfl Tryz.call47 rfl (SpecN.spec (rf_LooksFault hs)) ?_)
  rintro _ rfl
  refine VO.ma rfl rfl rfl rfl ?_
  refine VO.nil ?_
  refine VC.sr ?_
  refine VO.mv rfl rfl rfl rfl ?_
  refine VO.mv rfl rfl rfl rfl ?_
  refine VO.op rfl (OpE.call rfl hB rfl Tryz.call47 rfl (SpecN.spec (rf_LooksFault hsb)) ?_)
  rintro _ rfl
  refine VO.op rfl (OpE.buildSlice (zc := #[.int .i64 0, .int .i64 0]) rfl hB rfl Tryz.underlying155 Tryz.sizeOf38 Tryz.zeroValue38 (by decide) (by decide) (by kernel_rfl) rfl rfl ?_)
  refine VO.le _ (Le.lits (t := 78) (xs := [lookF a, lookF b]) rfl rfl) ?_
  refine VO.op rfl (OpE.call rfl hB rfl Tryz.call24 rfl (SpecN.spec (rl_errsL (by simp))) ?_)
  rintro _ rfl
  refine VO.mv rfl rfl rfl rfl ?_
  refine VO.mv rfl rfl rfl rfl ?_
  refine VO.ma rfl rfl rfl rfl ?_
  refine VO.ma rfl rfl rfl rfl ?_
  refine VO.ma rfl rfl rfl rfl ?_
  refine VO.nil ?_
  refine VC.sr ?_
  refine VO.ma rfl rfl rfl rfl ?_
  refine VO.nil ?_
  refine VC.seq ?_
  refine VC.sr ?_
  refine VO.mv rfl rfl rfl rfl ?_
  refine VO.val rfl rfl (OpV.eql rfl rfl rfl) ?_
  refine VO.nil ?_
  refine VC.cond rfl (fun h2b => ?_) (fun h2b => ?_)
  ·have h2 := h2b
   try simp only [qqT, qqF, qqN, qqM, qqL, qqE] at h2
   have h00 := errs2L h2
   have hE00 : mrgE a b = mrgE a b := rfl
   refine VC.region ?_
   refine VO.mv rfl rfl rfl rfl ?_
   refine VO.mv rfl rfl rfl rfl ?_
   refine VO.op rfl (OpE.call rfl hB rfl Tryz.call48 rfl (SpecN.spec (rf_MergedLooks h00.1 h00.2 (fun o h3 => mg_small hak hb.all h00.1 h00.2 h3))) ?_)
   rintro _ ⟨lw, hlw, rfl⟩
   obtain rfl := hlw.uniq hlm
   refine VO.mv rfl rfl rfl rfl ?_
   refine VO.val rfl rfl (OpV.extract rfl rfl rfl) ?_
   refine VO.val rfl rfl (OpV.extract rfl rfl rfl) ?_
   refine VO.ma rfl rfl rfl rfl ?_
   refine VO.ma rfl rfl rfl rfl ?_
   refine VO.nil ?_
   refine VC.seq ?_
   skip
   refine VC.region ?_
   refine VO.ma rfl rfl rfl rfl ?_
   first | refine VO.le _ (Le.recast (t := 19) (y := avL ([] : List PairS)) rfl (fun w Z u h => by rw [h.eq_v]; exact .nil _ _)) ?_ | skip
   refine VO.nil ?_
   refine VC.sr ?_
   refine VO.val rfl rfl (OpV.build (pls := #[(0, 1), (1, 1)]) rfl Tryz.zeroValue74 Tryz.underlying74 (fun w => by kernel_rfl) rfl rfl) ?_
   refine VO.val rfl rfl (OpV.build (pls := #[(0, 1), (1, 1)]) rfl Tryz.zeroValue74 Tryz.underlying74 (fun w => by kernel_rfl) rfl rfl) ?_
   refine VO.op rfl (OpE.alloc rfl hB rfl Tryz.zeroValue74 rfl ?_)
   intro g20
   refine VO.op rfl (OpE.alloc rfl hB rfl Tryz.zeroValue74 rfl ?_)
   intro g21
   refine VO.op rfl (OpE.store (i := 2) rfl hB rfl Tryz.sizeOf74 rfl rfl rfl rfl rfl rfl (Nle rfl) trivial ?_)
   refine VO.op rfl (OpE.store (i := 3) rfl hB rfl Tryz.sizeOf74 rfl rfl rfl rfl rfl rfl (Nle rfl) trivial ?_)
   refine VO.nil ?_
   refine VC.seq ?_
   refine VC.sr ?_
   refine VO.mv rfl rfl rfl rfl ?_
   refine VO.val rfl rfl (OpV.eql rfl rfl rfl) ?_
   refine VO.nil ?_
   refine VC.cond rfl (fun h3b => ?_) (fun h3b => ?_)
   ·have h3 := h3b
    try simp only [qqT, qqF, qqN, qqM, qqL, qqE] at h3
    refine VC.sr ?_
    refine VO.mv rfl rfl rfl rfl ?_
    refine VO.op rfl (OpE.call rfl hB rfl Tryz.call49 rfl (SpecN.spec (rf_LookCounts (by omega))) ?_)
    rintro _ rfl
    refine VO.ma rfl rfl rfl rfl ?_
    first | refine VO.le _ (Le.recast (t := 19) (y := avL ([] : List PairS)) rfl (fun w Z u h => by rw [h.eq_v]; exact .nil _ _)) ?_ | skip
    refine VO.nil ?_
    refine VC.sr ?_
    refine VO.mv rfl rfl rfl rfl ?_
    refine VO.op rfl (OpE.call rfl hB rfl Tryz.call50 rfl (SpecN.spec (rf_MillionOf (by omega))) ?_)
    rintro _ rfl
    refine VO.mv rfl rfl rfl rfl ?_
    refine VO.val rfl rfl (OpV.extract rfl rfl rfl) ?_
    refine VO.val rfl rfl (OpV.extract rfl rfl rfl) ?_
    refine VO.op rfl (OpE.store (i := 2) rfl hB rfl Tryz.sizeOf74 rfl rfl rfl rfl rfl rfl (Nle rfl) trivial ?_)
    refine VO.ma rfl rfl rfl rfl ?_
    refine VO.nil ?_
    refine VC.region ?_
    refine VO.mv rfl rfl rfl rfl ?_
    refine VO.op rfl (OpE.call rfl hB rfl Tryz.call51 rfl (SpecN.spec (rf_FalseOf (by omega))) ?_)
    rintro _ rfl
    refine VO.mv rfl rfl rfl rfl ?_
    refine VO.val rfl rfl (OpV.extract rfl rfl rfl) ?_
    refine VO.val rfl rfl (OpV.extract rfl rfl rfl) ?_
    refine VO.op rfl (OpE.store (i := 3) rfl hB rfl Tryz.sizeOf74 rfl rfl rfl rfl rfl rfl (Nle rfl) trivial ?_)
    refine VO.ma rfl rfl rfl rfl ?_
    refine VO.nil ?_
    refine VC.seq ?_
    have hml := hlm.len
    skip
    refine VC.region ?_
    refine VO.mv rfl rfl rfl rfl ?_
    refine VO.op rfl (OpE.call rfl hB rfl Tryz.call52 rfl (SpecN.spec (inspect_CheckLooks hs)) ?_)
    rintro _ rfl
    refine VO.mv rfl rfl rfl rfl ?_
    refine VO.val rfl rfl (OpV.eql rfl rfl rfl) ?_
    refine VO.le _ (Le.boolT (t := 109) rfl (decide_eq_true rfl)) ?_
    refine VO.mv rfl rfl rfl rfl ?_
    refine VO.opY rfl rfl rfl rfl rfl ?_
    refine OpE.val (W := NoB) (OpV.move (.inl rfl) rfl) rfl ?_
    refine VO.opY rfl rfl rfl rfl rfl ?_
    refine OpE.val (W := NoB) (OpV.move (.inl rfl) rfl) rfl ?_
    refine VO.opY rfl rfl rfl rfl rfl ?_
    refine OpE.val (W := NoB) (OpV.eql rfl rfl rfl) rfl ?_
    refine VO.le _ (Le.boolT (t := 113) rfl (decide_eq_true rfl)) ?_
    refine VO.val rfl rfl (OpV.pickT rfl rfl rfl rfl rfl) ?_
    refine VO.mv rfl rfl rfl rfl ?_
    refine VO.opY rfl rfl rfl rfl rfl ?_
    refine OpE.val (W := NoB) (OpV.move (.inl rfl) rfl) rfl ?_
    refine VO.opY rfl rfl rfl rfl rfl ?_
    refine OpE.val (W := NoB) (OpV.move (.inl rfl) rfl) rfl ?_
    refine VO.opY rfl rfl rfl rfl rfl ?_
    refine OpE.call rfl hB rfl Tryz.call53 rfl (SpecN.spec (slices_Equal_lk (by omega) (by omega))) ?_
    rintro _ rfl
    refine VO.le _ (Le.boolT (t := 118) rfl (eqLs_self eqLk_self _)) ?_
    refine VO.val rfl rfl (OpV.pickT rfl rfl rfl rfl rfl) ?_
    refine VO.mv rfl rfl rfl rfl ?_
    refine VO.opY rfl rfl rfl rfl rfl ?_
    refine OpE.val (W := NoB) (OpV.move (.inl rfl) rfl) rfl ?_
    refine VO.opY rfl rfl rfl rfl rfl ?_
    refine OpE.val (W := NoB) (OpV.move (.inl rfl) rfl) rfl ?_
    refine VO.opY rfl rfl rfl rfl rfl ?_
    refine OpE.val (W := NoB) (OpV.eql rfl rfl rfl) rfl ?_
    refine VO.le _ (Le.boolT (t := 123) rfl (decide_eq_true rfl)) ?_
    refine VO.val rfl rfl (OpV.pickT rfl rfl rfl rfl rfl) ?_
    refine VO.mv rfl rfl rfl rfl ?_
    refine VO.opY rfl rfl rfl rfl rfl ?_
    refine OpE.val (W := NoB) (OpV.move (.inl rfl) rfl) rfl ?_
    refine VO.opY rfl rfl rfl rfl rfl ?_
    refine OpE.val (W := NoB) (OpV.move (.inl rfl) rfl) rfl ?_
    refine VO.opY rfl rfl rfl rfl rfl ?_
    refine OpE.call rfl hB rfl Tryz.call54 rfl (SpecN.spec (slices_Equal_pair (by first | (rw [if_pos h3]; rw [ctPairs_len]; decide) | (rw [if_neg h3]; decide)) (by first | (rw [ctPairs_len]; decide) | decide))) ?_
    rintro _ rfl
    refine VO.le _ (Le.boolT (t := 128) rfl (by first | (rw [if_pos h3]; exact eqLs_self eqPr_self _) | (rw [if_neg h3]; rfl))) ?_
    refine VO.val rfl rfl (OpV.pickT rfl rfl rfl rfl rfl) ?_
    refine VO.mv rfl rfl rfl rfl ?_
    refine VO.opY rfl rfl rfl rfl rfl ?_
    refine OpE.val (W := NoB) (OpV.move (.inl rfl) rfl) rfl ?_
    refine VO.opY rfl rfl rfl rfl rfl ?_
    refine OpE.val (W := NoB) (OpV.move (.inl rfl) rfl) rfl ?_
    refine VO.opY rfl rfl rfl rfl rfl ?_
    refine OpE.val (W := NoB) (OpV.eql rfl rfl rfl) rfl ?_
    refine VO.le _ (Le.boolT (t := 133) rfl (decide_eq_true (by first | exact (mill_eq h3).2 | exact (mill_no h3).2))) ?_
    refine VO.val rfl rfl (OpV.pickT rfl rfl rfl rfl rfl) ?_
    refine VO.mv rfl rfl rfl rfl ?_
    refine VO.opY rfl rfl rfl rfl rfl ?_
    refine OpE.val (W := NoB) (OpV.loadK_own (i := 0) rfl hB Tryz.isAgg74 Tryz.sizeOf74 rfl rfl rfl (fun h => h)) rfl ?_
    refine VO.opY rfl rfl rfl rfl rfl ?_
    refine OpE.val (W := NoB) (OpV.loadK_own (i := 2) rfl hB Tryz.isAgg74 Tryz.sizeOf74 rfl rfl rfl (fun h => h)) rfl ?_
    refine VO.opY rfl rfl rfl rfl rfl ?_
    refine OpE.val (W := NoB) (OpV.aeql rfl Tryz.underlying74 (by kernel_rfl) (by kernel_rfl) rfl rfl (EqFs.int Tryz.underlying3 Tryz.isAgg3 rfl (by decide) (EqFs.int Tryz.underlying3 Tryz.isAgg3 rfl (by decide) (EqFs.nil _)))) rfl ?_
    refine VO.le _ (Le.boolT (t := 138) rfl (by first | (rw [(mill_eq h3).1]; simp; done) | (rw [(mill_no h3).1]; rfl))) ?_
    refine VO.val rfl rfl (OpV.pickT rfl rfl rfl rfl rfl) ?_
    refine VO.mv rfl rfl rfl rfl ?_
    refine VO.opY rfl rfl rfl rfl rfl ?_
    refine OpE.val (W := NoB) (OpV.move (.inl rfl) rfl) rfl ?_
    refine VO.opY rfl rfl rfl rfl rfl ?_
    refine OpE.val (W := NoB) (OpV.move (.inl rfl) rfl) rfl ?_
    refine VO.opY rfl rfl rfl rfl rfl ?_
    refine OpE.val (W := NoB) (OpV.eql rfl rfl rfl) rfl ?_
    refine VO.le _ (Le.boolT (t := 143) rfl (decide_eq_true (by first | (rw [falE, if_neg (by omega)]; done) | (rw [falE, if_pos h3]; done)))) ?_
    refine VO.val rfl rfl (OpV.pickT rfl rfl rfl rfl rfl) ?_
    refine VO.mv rfl rfl rfl rfl ?_
    refine VO.opY rfl rfl rfl rfl rfl ?_
    refine OpE.val (W := NoB) (OpV.loadK_own (i := 1) rfl hB Tryz.isAgg74 Tryz.sizeOf74 rfl rfl rfl (fun h => h)) rfl ?_
    refine VO.opY rfl rfl rfl rfl rfl ?_
    refine OpE.val (W := NoB) (OpV.loadK_own (i := 3) rfl hB Tryz.isAgg74 Tryz.sizeOf74 rfl rfl rfl (fun h => h)) rfl ?_
    refine VO.opY rfl rfl rfl rfl rfl ?_
    refine OpE.val (W := NoB) (OpV.aeql rfl Tryz.underlying74 (by kernel_rfl) (by kernel_rfl) rfl rfl (EqFs.int Tryz.underlying3 Tryz.isAgg3 rfl (by decide) (EqFs.int Tryz.underlying3 Tryz.isAgg3 rfl (by decide) (EqFs.nil _)))) rfl ?_
    refine VO.le _ (Le.boolT (t := 148) rfl (by first | (rw [falN, if_neg (by omega)]; simp; done) | (rw [falN, if_pos h3]; rfl))) ?_
    refine VO.val rfl rfl (OpV.pickT rfl rfl rfl rfl rfl) ?_
    refine VO.mv rfl rfl rfl rfl ?_
    refine VO.opY rfl rfl rfl rfl rfl ?_
    refine OpE.call rfl hB rfl Tryz.call55 rfl (SpecN.spec (rl_looked)) ?_
    rintro _ rfl
    refine VO.val rfl rfl (OpV.pickT rfl rfl rfl rfl rfl) ?_
    refine VO.ma rfl rfl rfl rfl ?_
    refine VO.nil ?_
    refine VC.ret ?_
    exact And.intro rfl rfl
   ·have h3 := h3b
    try simp only [qqT, qqF, qqN, qqM, qqL, qqE] at h3
    refine VC.skip ?_
    refine VC.seq ?_
    have hml := hlm.len
    skip
    refine VC.region ?_
    refine VO.mv rfl rfl rfl rfl ?_
    refine VO.op rfl (OpE.call rfl hB rfl Tryz.call52 rfl (SpecN.spec (inspect_CheckLooks hs)) ?_)
    rintro _ rfl
    refine VO.mv rfl rfl rfl rfl ?_
    refine VO.val rfl rfl (OpV.eql rfl rfl rfl) ?_
    refine VO.le _ (Le.boolT (t := 109) rfl (decide_eq_true rfl)) ?_
    refine VO.mv rfl rfl rfl rfl ?_
    refine VO.opY rfl rfl rfl rfl rfl ?_
    refine OpE.val (W := NoB) (OpV.move (.inl rfl) rfl) rfl ?_
    refine VO.opY rfl rfl rfl rfl rfl ?_
    refine OpE.val (W := NoB) (OpV.move (.inl rfl) rfl) rfl ?_
    refine VO.opY rfl rfl rfl rfl rfl ?_
    refine OpE.val (W := NoB) (OpV.eql rfl rfl rfl) rfl ?_
    refine VO.le _ (Le.boolT (t := 113) rfl (decide_eq_true rfl)) ?_
    refine VO.val rfl rfl (OpV.pickT rfl rfl rfl rfl rfl) ?_
    refine VO.mv rfl rfl rfl rfl ?_
    refine VO.opY rfl rfl rfl rfl rfl ?_
    refine OpE.val (W := NoB) (OpV.move (.inl rfl) rfl) rfl ?_
    refine VO.opY rfl rfl rfl rfl rfl ?_
    refine OpE.val (W := NoB) (OpV.move (.inl rfl) rfl) rfl ?_
    refine VO.opY rfl rfl rfl rfl rfl ?_
    refine OpE.call rfl hB rfl Tryz.call53 rfl (SpecN.spec (slices_Equal_lk (by omega) (by omega))) ?_
    rintro _ rfl
    refine VO.le _ (Le.boolT (t := 118) rfl (eqLs_self eqLk_self _)) ?_
    refine VO.val rfl rfl (OpV.pickT rfl rfl rfl rfl rfl) ?_
    refine VO.mv rfl rfl rfl rfl ?_
    refine VO.opY rfl rfl rfl rfl rfl ?_
    refine OpE.val (W := NoB) (OpV.move (.inl rfl) rfl) rfl ?_
    refine VO.opY rfl rfl rfl rfl rfl ?_
    refine OpE.val (W := NoB) (OpV.move (.inl rfl) rfl) rfl ?_
    refine VO.opY rfl rfl rfl rfl rfl ?_
    refine OpE.val (W := NoB) (OpV.eql rfl rfl rfl) rfl ?_
    refine VO.le _ (Le.boolT (t := 123) rfl (decide_eq_true rfl)) ?_
    refine VO.val rfl rfl (OpV.pickT rfl rfl rfl rfl rfl) ?_
    refine VO.mv rfl rfl rfl rfl ?_
    refine VO.opY rfl rfl rfl rfl rfl ?_
    refine OpE.val (W := NoB) (OpV.move (.inl rfl) rfl) rfl ?_
    refine VO.opY rfl rfl rfl rfl rfl ?_
    refine OpE.val (W := NoB) (OpV.move (.inl rfl) rfl) rfl ?_
    refine VO.opY rfl rfl rfl rfl rfl ?_
    refine OpE.call rfl hB rfl Tryz.call54 rfl (SpecN.spec (slices_Equal_pair (by first | (rw [if_pos h3]; rw [ctPairs_len]; decide) | (rw [if_neg h3]; decide)) (by first | (rw [ctPairs_len]; decide) | decide))) ?_
    rintro _ rfl
    refine VO.le _ (Le.boolT (t := 128) rfl (by first | (rw [if_pos h3]; exact eqLs_self eqPr_self _) | (rw [if_neg h3]; rfl))) ?_
    refine VO.val rfl rfl (OpV.pickT rfl rfl rfl rfl rfl) ?_
    refine VO.mv rfl rfl rfl rfl ?_
    refine VO.opY rfl rfl rfl rfl rfl ?_
    refine OpE.val (W := NoB) (OpV.move (.inl rfl) rfl) rfl ?_
    refine VO.opY rfl rfl rfl rfl rfl ?_
    refine OpE.val (W := NoB) (OpV.move (.inl rfl) rfl) rfl ?_
    refine VO.opY rfl rfl rfl rfl rfl ?_
    refine OpE.val (W := NoB) (OpV.eql rfl rfl rfl) rfl ?_
    refine VO.le _ (Le.boolT (t := 133) rfl (decide_eq_true (by first | exact (mill_eq h3).2 | exact (mill_no h3).2))) ?_
    refine VO.val rfl rfl (OpV.pickT rfl rfl rfl rfl rfl) ?_
    refine VO.mv rfl rfl rfl rfl ?_
    refine VO.opY rfl rfl rfl rfl rfl ?_
    refine OpE.val (W := NoB) (OpV.loadK_own (i := 0) rfl hB Tryz.isAgg74 Tryz.sizeOf74 rfl rfl rfl (fun h => h)) rfl ?_
    refine VO.opY rfl rfl rfl rfl rfl ?_
    refine OpE.val (W := NoB) (OpV.loadK_own (i := 2) rfl hB Tryz.isAgg74 Tryz.sizeOf74 rfl rfl rfl (fun h => h)) rfl ?_
    refine VO.opY rfl rfl rfl rfl rfl ?_
    refine OpE.val (W := NoB) (OpV.aeql rfl Tryz.underlying74 (by kernel_rfl) (by kernel_rfl) rfl rfl (EqFs.int Tryz.underlying3 Tryz.isAgg3 rfl (by decide) (EqFs.int Tryz.underlying3 Tryz.isAgg3 rfl (by decide) (EqFs.nil _)))) rfl ?_
    refine VO.le _ (Le.boolT (t := 138) rfl (by first | (rw [(mill_eq h3).1]; simp; done) | (rw [(mill_no h3).1]; rfl))) ?_
    refine VO.val rfl rfl (OpV.pickT rfl rfl rfl rfl rfl) ?_
    refine VO.mv rfl rfl rfl rfl ?_
    refine VO.opY rfl rfl rfl rfl rfl ?_
    refine OpE.val (W := NoB) (OpV.move (.inl rfl) rfl) rfl ?_
    refine VO.opY rfl rfl rfl rfl rfl ?_
    refine OpE.val (W := NoB) (OpV.move (.inl rfl) rfl) rfl ?_
    refine VO.opY rfl rfl rfl rfl rfl ?_
    refine OpE.val (W := NoB) (OpV.eql rfl rfl rfl) rfl ?_
    refine VO.le _ (Le.boolT (t := 143) rfl (decide_eq_true (by first | (rw [falE, if_neg (by omega)]; done) | (rw [falE, if_pos h3]; done)))) ?_
    refine VO.val rfl rfl (OpV.pickT rfl rfl rfl rfl rfl) ?_
    refine VO.mv rfl rfl rfl rfl ?_
    refine VO.opY rfl rfl rfl rfl rfl ?_
    refine OpE.val (W := NoB) (OpV.loadK_own (i := 1) rfl hB Tryz.isAgg74 Tryz.sizeOf74 rfl rfl rfl (fun h => h)) rfl ?_
    refine VO.opY rfl rfl rfl rfl rfl ?_
    refine OpE.val (W := NoB) (OpV.loadK_own (i := 3) rfl hB Tryz.isAgg74 Tryz.sizeOf74 rfl rfl rfl (fun h => h)) rfl ?_
    refine VO.opY rfl rfl rfl rfl rfl ?_
    refine OpE.val (W := NoB) (OpV.aeql rfl Tryz.underlying74 (by kernel_rfl) (by kernel_rfl) rfl rfl (EqFs.int Tryz.underlying3 Tryz.isAgg3 rfl (by decide) (EqFs.int Tryz.underlying3 Tryz.isAgg3 rfl (by decide) (EqFs.nil _)))) rfl ?_
    refine VO.le _ (Le.boolT (t := 148) rfl (by first | (rw [falN, if_neg (by omega)]; simp; done) | (rw [falN, if_pos h3]; rfl))) ?_
    refine VO.val rfl rfl (OpV.pickT rfl rfl rfl rfl rfl) ?_
    refine VO.mv rfl rfl rfl rfl ?_
    refine VO.opY rfl rfl rfl rfl rfl ?_
    refine OpE.call rfl hB rfl Tryz.call55 rfl (SpecN.spec (rl_looked)) ?_
    rintro _ rfl
    refine VO.val rfl rfl (OpV.pickT rfl rfl rfl rfl rfl) ?_
    refine VO.ma rfl rfl rfl rfl ?_
    refine VO.nil ?_
    refine VC.ret ?_
    exact And.intro rfl rfl
  ·have h2 := h2b
   try simp only [qqT, qqF, qqN, qqM, qqL, qqE] at h2
   have hme := mrgE_err h2
   have hln : lm = [] := hlm.nil (by rw [hme]; exact h2)
   refine VC.skip ?_
   refine VC.seq ?_
   (refine VC.le _ (Le.recast (t := 15) (y := avI (mrgE a b)) rfl (fun w Z u h => by rw [hme]; exact h)) ?_; refine VC.le _ (Le.recast (t := 18) (y := avL lm) rfl (fun w Z u h => by rw [hln, h.eq_v]; exact .nil _ _)) ?_)
   refine VC.region ?_
   refine VO.ma rfl rfl rfl rfl ?_
   first | refine VO.le _ (Le.recast (t := 19) (y := avL ([] : List PairS)) rfl (fun w Z u h => by rw [h.eq_v]; exact .nil _ _)) ?_ | skip
   refine VO.nil ?_
   refine VC.sr ?_
   refine VO.val rfl rfl (OpV.build (pls := #[(0, 1), (1, 1)]) rfl Tryz.zeroValue74 Tryz.underlying74 (fun w => by kernel_rfl) rfl rfl) ?_
   refine VO.val rfl rfl (OpV.build (pls := #[(0, 1), (1, 1)]) rfl Tryz.zeroValue74 Tryz.underlying74 (fun w => by kernel_rfl) rfl rfl) ?_
   refine VO.op rfl (OpE.alloc rfl hB rfl Tryz.zeroValue74 rfl ?_)
   intro g20
   refine VO.op rfl (OpE.alloc rfl hB rfl Tryz.zeroValue74 rfl ?_)
   intro g21
   refine VO.op rfl (OpE.store (i := 2) rfl hB rfl Tryz.sizeOf74 rfl rfl rfl rfl rfl rfl (Nle rfl) trivial ?_)
   refine VO.op rfl (OpE.store (i := 3) rfl hB rfl Tryz.sizeOf74 rfl rfl rfl rfl rfl rfl (Nle rfl) trivial ?_)
   refine VO.nil ?_
   refine VC.seq ?_
   refine VC.sr ?_
   refine VO.mv rfl rfl rfl rfl ?_
   refine VO.val rfl rfl (OpV.eql rfl rfl rfl) ?_
   refine VO.nil ?_
   refine VC.cond rfl (fun h3b => ?_) (fun h3b => ?_)
   ·have h3 := h3b
    try simp only [qqT, qqF, qqN, qqM, qqL, qqE] at h3
    refine VC.sr ?_
    refine VO.mv rfl rfl rfl rfl ?_
    refine VO.op rfl (OpE.call rfl hB rfl Tryz.call49 rfl (SpecN.spec (rf_LookCounts (by omega))) ?_)
    rintro _ rfl
    refine VO.ma rfl rfl rfl rfl ?_
    first | refine VO.le _ (Le.recast (t := 19) (y := avL ([] : List PairS)) rfl (fun w Z u h => by rw [h.eq_v]; exact .nil _ _)) ?_ | skip
    refine VO.nil ?_
    refine VC.sr ?_
    refine VO.mv rfl rfl rfl rfl ?_
    refine VO.op rfl (OpE.call rfl hB rfl Tryz.call50 rfl (SpecN.spec (rf_MillionOf (by omega))) ?_)
    rintro _ rfl
    refine VO.mv rfl rfl rfl rfl ?_
    refine VO.val rfl rfl (OpV.extract rfl rfl rfl) ?_
    refine VO.val rfl rfl (OpV.extract rfl rfl rfl) ?_
    refine VO.op rfl (OpE.store (i := 2) rfl hB rfl Tryz.sizeOf74 rfl rfl rfl rfl rfl rfl (Nle rfl) trivial ?_)
    refine VO.ma rfl rfl rfl rfl ?_
    refine VO.nil ?_
    refine VC.region ?_
    refine VO.mv rfl rfl rfl rfl ?_
    refine VO.op rfl (OpE.call rfl hB rfl Tryz.call51 rfl (SpecN.spec (rf_FalseOf (by omega))) ?_)
    rintro _ rfl
    refine VO.mv rfl rfl rfl rfl ?_
    refine VO.val rfl rfl (OpV.extract rfl rfl rfl) ?_
    refine VO.val rfl rfl (OpV.extract rfl rfl rfl) ?_
    refine VO.op rfl (OpE.store (i := 3) rfl hB rfl Tryz.sizeOf74 rfl rfl rfl rfl rfl rfl (Nle rfl) trivial ?_)
    refine VO.ma rfl rfl rfl rfl ?_
    refine VO.nil ?_
    refine VC.seq ?_
    have hml := hlm.len
    skip
    refine VC.region ?_
    refine VO.mv rfl rfl rfl rfl ?_
    refine VO.op rfl (OpE.call rfl hB rfl Tryz.call52 rfl (SpecN.spec (inspect_CheckLooks hs)) ?_)
    rintro _ rfl
    refine VO.mv rfl rfl rfl rfl ?_
    refine VO.val rfl rfl (OpV.eql rfl rfl rfl) ?_
    refine VO.le _ (Le.boolT (t := 109) rfl (decide_eq_true rfl)) ?_
    refine VO.mv rfl rfl rfl rfl ?_
    refine VO.opY rfl rfl rfl rfl rfl ?_
    refine OpE.val (W := NoB) (OpV.move (.inl rfl) rfl) rfl ?_
    refine VO.opY rfl rfl rfl rfl rfl ?_
    refine OpE.val (W := NoB) (OpV.move (.inl rfl) rfl) rfl ?_
    refine VO.opY rfl rfl rfl rfl rfl ?_
    refine OpE.val (W := NoB) (OpV.eql rfl rfl rfl) rfl ?_
    refine VO.le _ (Le.boolT (t := 113) rfl (decide_eq_true rfl)) ?_
    refine VO.val rfl rfl (OpV.pickT rfl rfl rfl rfl rfl) ?_
    refine VO.mv rfl rfl rfl rfl ?_
    refine VO.opY rfl rfl rfl rfl rfl ?_
    refine OpE.val (W := NoB) (OpV.move (.inl rfl) rfl) rfl ?_
    refine VO.opY rfl rfl rfl rfl rfl ?_
    refine OpE.val (W := NoB) (OpV.move (.inl rfl) rfl) rfl ?_
    refine VO.opY rfl rfl rfl rfl rfl ?_
    refine OpE.call rfl hB rfl Tryz.call53 rfl (SpecN.spec (slices_Equal_lk (by omega) (by omega))) ?_
    rintro _ rfl
    refine VO.le _ (Le.boolT (t := 118) rfl (eqLs_self eqLk_self _)) ?_
    refine VO.val rfl rfl (OpV.pickT rfl rfl rfl rfl rfl) ?_
    refine VO.mv rfl rfl rfl rfl ?_
    refine VO.opY rfl rfl rfl rfl rfl ?_
    refine OpE.val (W := NoB) (OpV.move (.inl rfl) rfl) rfl ?_
    refine VO.opY rfl rfl rfl rfl rfl ?_
    refine OpE.val (W := NoB) (OpV.move (.inl rfl) rfl) rfl ?_
    refine VO.opY rfl rfl rfl rfl rfl ?_
    refine OpE.val (W := NoB) (OpV.eql rfl rfl rfl) rfl ?_
    refine VO.le _ (Le.boolT (t := 123) rfl (decide_eq_true rfl)) ?_
    refine VO.val rfl rfl (OpV.pickT rfl rfl rfl rfl rfl) ?_
    refine VO.mv rfl rfl rfl rfl ?_
    refine VO.opY rfl rfl rfl rfl rfl ?_
    refine OpE.val (W := NoB) (OpV.move (.inl rfl) rfl) rfl ?_
    refine VO.opY rfl rfl rfl rfl rfl ?_
    refine OpE.val (W := NoB) (OpV.move (.inl rfl) rfl) rfl ?_
    refine VO.opY rfl rfl rfl rfl rfl ?_
    refine OpE.call rfl hB rfl Tryz.call54 rfl (SpecN.spec (slices_Equal_pair (by first | (rw [if_pos h3]; rw [ctPairs_len]; decide) | (rw [if_neg h3]; decide)) (by first | (rw [ctPairs_len]; decide) | decide))) ?_
    rintro _ rfl
    refine VO.le _ (Le.boolT (t := 128) rfl (by first | (rw [if_pos h3]; exact eqLs_self eqPr_self _) | (rw [if_neg h3]; rfl))) ?_
    refine VO.val rfl rfl (OpV.pickT rfl rfl rfl rfl rfl) ?_
    refine VO.mv rfl rfl rfl rfl ?_
    refine VO.opY rfl rfl rfl rfl rfl ?_
    refine OpE.val (W := NoB) (OpV.move (.inl rfl) rfl) rfl ?_
    refine VO.opY rfl rfl rfl rfl rfl ?_
    refine OpE.val (W := NoB) (OpV.move (.inl rfl) rfl) rfl ?_
    refine VO.opY rfl rfl rfl rfl rfl ?_
    refine OpE.val (W := NoB) (OpV.eql rfl rfl rfl) rfl ?_
    refine VO.le _ (Le.boolT (t := 133) rfl (decide_eq_true (by first | exact (mill_eq h3).2 | exact (mill_no h3).2))) ?_
    refine VO.val rfl rfl (OpV.pickT rfl rfl rfl rfl rfl) ?_
    refine VO.mv rfl rfl rfl rfl ?_
    refine VO.opY rfl rfl rfl rfl rfl ?_
    refine OpE.val (W := NoB) (OpV.loadK_own (i := 0) rfl hB Tryz.isAgg74 Tryz.sizeOf74 rfl rfl rfl (fun h => h)) rfl ?_
    refine VO.opY rfl rfl rfl rfl rfl ?_
    refine OpE.val (W := NoB) (OpV.loadK_own (i := 2) rfl hB Tryz.isAgg74 Tryz.sizeOf74 rfl rfl rfl (fun h => h)) rfl ?_
    refine VO.opY rfl rfl rfl rfl rfl ?_
    refine OpE.val (W := NoB) (OpV.aeql rfl Tryz.underlying74 (by kernel_rfl) (by kernel_rfl) rfl rfl (EqFs.int Tryz.underlying3 Tryz.isAgg3 rfl (by decide) (EqFs.int Tryz.underlying3 Tryz.isAgg3 rfl (by decide) (EqFs.nil _)))) rfl ?_
    refine VO.le _ (Le.boolT (t := 138) rfl (by first | (rw [(mill_eq h3).1]; simp; done) | (rw [(mill_no h3).1]; rfl))) ?_
    refine VO.val rfl rfl (OpV.pickT rfl rfl rfl rfl rfl) ?_
    refine VO.mv rfl rfl rfl rfl ?_
    refine VO.opY rfl rfl rfl rfl rfl ?_
    refine OpE.val (W := NoB) (OpV.move (.inl rfl) rfl) rfl ?_
    refine VO.opY rfl rfl rfl rfl rfl ?_
    refine OpE.val (W := NoB) (OpV.move (.inl rfl) rfl) rfl ?_
    refine VO.opY rfl rfl rfl rfl rfl ?_
    refine OpE.val (W := NoB) (OpV.eql rfl rfl rfl) rfl ?_
    refine VO.le _ (Le.boolT (t := 143) rfl (decide_eq_true (by first | (rw [falE, if_neg (by omega)]; done) | (rw [falE, if_pos h3]; done)))) ?_
    refine VO.val rfl rfl (OpV.pickT rfl rfl rfl rfl rfl) ?_
    refine VO.mv rfl rfl rfl rfl ?_
    refine VO.opY rfl rfl rfl rfl rfl ?_
    refine OpE.val (W := NoB) (OpV.loadK_own (i := 1) rfl hB Tryz.isAgg74 Tryz.sizeOf74 rfl rfl rfl (fun h => h)) rfl ?_
    refine VO.opY rfl rfl rfl rfl rfl ?_
    refine OpE.val (W := NoB) (OpV.loadK_own (i := 3) rfl hB Tryz.isAgg74 Tryz.sizeOf74 rfl rfl rfl (fun h => h)) rfl ?_
    refine VO.opY rfl rfl rfl rfl rfl ?_
    refine OpE.val (W := NoB) (OpV.aeql rfl Tryz.underlying74 (by kernel_rfl) (by kernel_rfl) rfl rfl (EqFs.int Tryz.underlying3 Tryz.isAgg3 rfl (by decide) (EqFs.int Tryz.underlying3 Tryz.isAgg3 rfl (by decide) (EqFs.nil _)))) rfl ?_
    refine VO.le _ (Le.boolT (t := 148) rfl (by first | (rw [falN, if_neg (by omega)]; simp; done) | (rw [falN, if_pos h3]; rfl))) ?_
    refine VO.val rfl rfl (OpV.pickT rfl rfl rfl rfl rfl) ?_
    refine VO.mv rfl rfl rfl rfl ?_
    refine VO.opY rfl rfl rfl rfl rfl ?_
    refine OpE.call rfl hB rfl Tryz.call55 rfl (SpecN.spec (rl_looked)) ?_
    rintro _ rfl
    refine VO.val rfl rfl (OpV.pickT rfl rfl rfl rfl rfl) ?_
    refine VO.ma rfl rfl rfl rfl ?_
    refine VO.nil ?_
    refine VC.ret ?_
    exact And.intro rfl rfl
   ·have h3 := h3b
    try simp only [qqT, qqF, qqN, qqM, qqL, qqE] at h3
    refine VC.skip ?_
    refine VC.seq ?_
    have hml := hlm.len
    skip
    refine VC.region ?_
    refine VO.mv rfl rfl rfl rfl ?_
    refine VO.op rfl (OpE.call rfl hB rfl Tryz.call52 rfl (SpecN.spec (inspect_CheckLooks hs)) ?_)
    rintro _ rfl
    refine VO.mv rfl rfl rfl rfl ?_
    refine VO.val rfl rfl (OpV.eql rfl rfl rfl) ?_
    refine VO.le _ (Le.boolT (t := 109) rfl (decide_eq_true rfl)) ?_
    refine VO.mv rfl rfl rfl rfl ?_
    refine VO.opY rfl rfl rfl rfl rfl ?_
    refine OpE.val (W := NoB) (OpV.move (.inl rfl) rfl) rfl ?_
    refine VO.opY rfl rfl rfl rfl rfl ?_
    refine OpE.val (W := NoB) (OpV.move (.inl rfl) rfl) rfl ?_
    refine VO.opY rfl rfl rfl rfl rfl ?_
    refine OpE.val (W := NoB) (OpV.eql rfl rfl rfl) rfl ?_
    refine VO.le _ (Le.boolT (t := 113) rfl (decide_eq_true rfl)) ?_
    refine VO.val rfl rfl (OpV.pickT rfl rfl rfl rfl rfl) ?_
    refine VO.mv rfl rfl rfl rfl ?_
    refine VO.opY rfl rfl rfl rfl rfl ?_
    refine OpE.val (W := NoB) (OpV.move (.inl rfl) rfl) rfl ?_
    refine VO.opY rfl rfl rfl rfl rfl ?_
    refine OpE.val (W := NoB) (OpV.move (.inl rfl) rfl) rfl ?_
    refine VO.opY rfl rfl rfl rfl rfl ?_
    refine OpE.call rfl hB rfl Tryz.call53 rfl (SpecN.spec (slices_Equal_lk (by omega) (by omega))) ?_
    rintro _ rfl
    refine VO.le _ (Le.boolT (t := 118) rfl (eqLs_self eqLk_self _)) ?_
    refine VO.val rfl rfl (OpV.pickT rfl rfl rfl rfl rfl) ?_
    refine VO.mv rfl rfl rfl rfl ?_
    refine VO.opY rfl rfl rfl rfl rfl ?_
    refine OpE.val (W := NoB) (OpV.move (.inl rfl) rfl) rfl ?_
    refine VO.opY rfl rfl rfl rfl rfl ?_
    refine OpE.val (W := NoB) (OpV.move (.inl rfl) rfl) rfl ?_
    refine VO.opY rfl rfl rfl rfl rfl ?_
    refine OpE.val (W := NoB) (OpV.eql rfl rfl rfl) rfl ?_
    refine VO.le _ (Le.boolT (t := 123) rfl (decide_eq_true rfl)) ?_
    refine VO.val rfl rfl (OpV.pickT rfl rfl rfl rfl rfl) ?_
    refine VO.mv rfl rfl rfl rfl ?_
    refine VO.opY rfl rfl rfl rfl rfl ?_
    refine OpE.val (W := NoB) (OpV.move (.inl rfl) rfl) rfl ?_
    refine VO.opY rfl rfl rfl rfl rfl ?_
    refine OpE.val (W := NoB) (OpV.move (.inl rfl) rfl) rfl ?_
    refine VO.opY rfl rfl rfl rfl rfl ?_
    refine OpE.call rfl hB rfl Tryz.call54 rfl (SpecN.spec (slices_Equal_pair (by first | (rw [if_pos h3]; rw [ctPairs_len]; decide) | (rw [if_neg h3]; decide)) (by first | (rw [ctPairs_len]; decide) | decide))) ?_
    rintro _ rfl
    refine VO.le _ (Le.boolT (t := 128) rfl (by first | (rw [if_pos h3]; exact eqLs_self eqPr_self _) | (rw [if_neg h3]; rfl))) ?_
    refine VO.val rfl rfl (OpV.pickT rfl rfl rfl rfl rfl) ?_
    refine VO.mv rfl rfl rfl rfl ?_
    refine VO.opY rfl rfl rfl rfl rfl ?_
    refine OpE.val (W := NoB) (OpV.move (.inl rfl) rfl) rfl ?_
    refine VO.opY rfl rfl rfl rfl rfl ?_
    refine OpE.val (W := NoB) (OpV.move (.inl rfl) rfl) rfl ?_
    refine VO.opY rfl rfl rfl rfl rfl ?_
    refine OpE.val (W := NoB) (OpV.eql rfl rfl rfl) rfl ?_
    refine VO.le _ (Le.boolT (t := 133) rfl (decide_eq_true (by first | exact (mill_eq h3).2 | exact (mill_no h3).2))) ?_
    refine VO.val rfl rfl (OpV.pickT rfl rfl rfl rfl rfl) ?_
    refine VO.mv rfl rfl rfl rfl ?_
    refine VO.opY rfl rfl rfl rfl rfl ?_
    refine OpE.val (W := NoB) (OpV.loadK_own (i := 0) rfl hB Tryz.isAgg74 Tryz.sizeOf74 rfl rfl rfl (fun h => h)) rfl ?_
    refine VO.opY rfl rfl rfl rfl rfl ?_
    refine OpE.val (W := NoB) (OpV.loadK_own (i := 2) rfl hB Tryz.isAgg74 Tryz.sizeOf74 rfl rfl rfl (fun h => h)) rfl ?_
    refine VO.opY rfl rfl rfl rfl rfl ?_
    refine OpE.val (W := NoB) (OpV.aeql rfl Tryz.underlying74 (by kernel_rfl) (by kernel_rfl) rfl rfl (EqFs.int Tryz.underlying3 Tryz.isAgg3 rfl (by decide) (EqFs.int Tryz.underlying3 Tryz.isAgg3 rfl (by decide) (EqFs.nil _)))) rfl ?_
    refine VO.le _ (Le.boolT (t := 138) rfl (by first | (rw [(mill_eq h3).1]; simp; done) | (rw [(mill_no h3).1]; rfl))) ?_
    refine VO.val rfl rfl (OpV.pickT rfl rfl rfl rfl rfl) ?_
    refine VO.mv rfl rfl rfl rfl ?_
    refine VO.opY rfl rfl rfl rfl rfl ?_
    refine OpE.val (W := NoB) (OpV.move (.inl rfl) rfl) rfl ?_
    refine VO.opY rfl rfl rfl rfl rfl ?_
    refine OpE.val (W := NoB) (OpV.move (.inl rfl) rfl) rfl ?_
    refine VO.opY rfl rfl rfl rfl rfl ?_
    refine OpE.val (W := NoB) (OpV.eql rfl rfl rfl) rfl ?_
    refine VO.le _ (Le.boolT (t := 143) rfl (decide_eq_true (by first | (rw [falE, if_neg (by omega)]; done) | (rw [falE, if_pos h3]; done)))) ?_
    refine VO.val rfl rfl (OpV.pickT rfl rfl rfl rfl rfl) ?_
    refine VO.mv rfl rfl rfl rfl ?_
    refine VO.opY rfl rfl rfl rfl rfl ?_
    refine OpE.val (W := NoB) (OpV.loadK_own (i := 1) rfl hB Tryz.isAgg74 Tryz.sizeOf74 rfl rfl rfl (fun h => h)) rfl ?_
    refine VO.opY rfl rfl rfl rfl rfl ?_
    refine OpE.val (W := NoB) (OpV.loadK_own (i := 3) rfl hB Tryz.isAgg74 Tryz.sizeOf74 rfl rfl rfl (fun h => h)) rfl ?_
    refine VO.opY rfl rfl rfl rfl rfl ?_
    refine OpE.val (W := NoB) (OpV.aeql rfl Tryz.underlying74 (by kernel_rfl) (by kernel_rfl) rfl rfl (EqFs.int Tryz.underlying3 Tryz.isAgg3 rfl (by decide) (EqFs.int Tryz.underlying3 Tryz.isAgg3 rfl (by decide) (EqFs.nil _)))) rfl ?_
    refine VO.le _ (Le.boolT (t := 148) rfl (by first | (rw [falN, if_neg (by omega)]; simp; done) | (rw [falN, if_pos h3]; rfl))) ?_
    refine VO.val rfl rfl (OpV.pickT rfl rfl rfl rfl rfl) ?_
    refine VO.mv rfl rfl rfl rfl ?_
    refine VO.opY rfl rfl rfl rfl rfl ?_
    refine OpE.call rfl hB rfl Tryz.call55 rfl (SpecN.spec (rl_looked)) ?_
    rintro _ rfl
    refine VO.val rfl rfl (OpV.pickT rfl rfl rfl rfl rfl) ?_
    refine VO.ma rfl rfl rfl rfl ?_
    refine VO.nil ?_
    refine VC.ret ?_
    exact And.intro rfl rfl
end Go.Proofs.YtmahammdnmmmoaaGreatDoor
