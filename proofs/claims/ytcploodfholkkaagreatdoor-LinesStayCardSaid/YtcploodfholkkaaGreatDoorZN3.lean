/- Part 3 of a proof: the walks and laws that it needs. -/
import Derived.MapKept
import Derived.Laws.StructEq
import Derived.Shelf.SlIter.Nil
import Derived.Shelf.SortM.Plain
import Derived.Shelf.SortM.SortNone
import Derived.Ground.GgzProg
import Derived.Ground.SlgmProg
import Derived.Test.YtcploodfholkkaaGreatDoorProg
import Derived.StringKeys
import Derived.Laws.Bits64
import Derived.Test.YtcploodfholkkaaGreatDoorZN2
set_option linter.unusedVariables false
set_option linter.unusedSimpArgs false
namespace Go.Proofs.YtcploodfholkkaaGreatDoor
open Go.RowKit
set_option maxRecDepth 100000 in
set_option maxHeartbeats 8000000 in
theorem linePlan_X {p0 cap : Nat} {a0 : Option Addr} {p k : Nat} {L : List Int} {ms : List Mach} {ns : List NeedS} (hk : k ≤ 700000) (hm : SmallM ms) (h0 : 0 < ms.length) (hm6 : ms.length ≤ 100) (hn : ns.length ≤ 10000) (hp0 : p0 ≤ p) :
  SpecHX (TXI a0 L p0) Tryz.prog 25 [sp p, avL ms, avL ns] [bxStr p a0 cap L k] (fun y hp' => ∃ (plan : List Int) (k' : Nat), (plan.length ≤ 1000000 ∧ k' ≤ k + ns.length + 2) ∧ y = avInts plan ∧ hp' = [bxStr p a0 cap L k']) := by
 refine SpecHX.of_VC txi_stab Tryz.func25 rfl Tryz.ntmps25 (Nle rfl) fun w A hB hGX => ?_
 have hnew : True := trivial
 refine VC.sr ?_
 refine VO.mb ?_
 refine VO.nil ?_
 refine VC.sr ?_
 refine VO.mb ?_
 refine VO.nil ?_
 refine VC.seq ?_
 refine VC.sr ?_
 refine VO.mw ?_
 refine VO.vv (OpV.len_im rfl Tryz.underlying68 rfl) ?_
 refine VO.mw ?_
 refine VO.nil ?_
 refine VC.block ?_
 refine VC.le _ (Le.nilRow 1 3) ?_
 refine VC.loopK [] trivial ({t : Value × List Int × Nat // t.2.2 ≤ ns.length ∧ t.2.1.length = t.2.2}) (fun (iZ : {t : Value × List Int × Nat // t.2.2 ≤ ns.length ∧ t.2.1.length = t.2.2}) => match iZ with | ⟨⟨u, xs, q⟩, hq, hl⟩ => [(0, sp p), (1, avL ms), (7, .v u), (13, avL ns), (14, avI ns.length), (15, avI (q : Int))]) (fun (iZ : {t : Value × List Int × Nat // t.2.2 ≤ ns.length ∧ t.2.1.length = t.2.2}) => match iZ with | ⟨⟨u, xs, q⟩, hq, hl⟩ => [bxStr p a0 cap L (k + q), .row u xs.length 1 (intsL xs) 3]) (fun (iZ : {t : Value × List Int × Nat // t.2.2 ≤ ns.length ∧ t.2.1.length = t.2.2}) => match iZ with | ⟨⟨u, xs, q⟩, hq, hl⟩ => 0) (fun (iZ : {t : Value × List Int × Nat // t.2.2 ≤ ns.length ∧ t.2.1.length = t.2.2}) => match iZ with | ⟨⟨u, xs, q⟩, hq, hl⟩ => ns.length - q) ⟨(.slice none 0 0, [], 0), Nat.zero_le _, rfl⟩ (Le.mk hB [0, 1] ⟨rfl, rfl, rfl, rfl, rfl, rfl, trivial⟩ rfl rfl (Nat.le_refl _)) ?_
 rintro ⟨⟨u, xs, q⟩, hq, hl⟩
 show VC _ _ _ _ ⟨[(0, sp p), (1, avL ms), (7, .v u), (13, avL ns), (14, avI ns.length), (15, avI (q : Int))] ++ [], [bxStr p a0 cap L (k + q), .row u xs.length 1 (intsL xs) 3], 0⟩
 simp only at hq hl
 refine VC.sr ?_
 refine VO.vv (OpV.lss rfl rfl rfl) ?_
 refine VO.nil ?_
 refine VC.seq ?_
 refine VC.cond rfl (fun aH1b => ?_) (fun aH1b => ?_)
 ·have aH1 := aH1b
  try simp only [qq] at aH1
  refine VC.skip ?_
  refine VC.seq ?_
  refine VC.block ?_
  refine VC.sr ?_
  refine VO.vv (OpV.indexAddr_E rfl Tryz.underlying68 Tryz.sizeOf90 rfl rfl rfl (by omega)) ?_
  refine VO.vv (OpV.loadK_at rfl hB OutW.no Tryz.isAgg90 Tryz.sizeOf90 rfl rfl) ?_
  refine VO.op rfl (OpE.alloc rfl hB rfl Tryz.zeroValue90 rfl ?_)
  intro g9
  refine VO.op rfl (OpE.store (i := 2) rfl hB rfl Tryz.sizeOf90 rfl rfl rfl rfl rfl rfl (Nle rfl) trivial ?_)
  refine VO.nil ?_
  refine VC.sr ?_
  refine VO.mw ?_
  refine VO.mw ?_
  refine VO.vv (OpV.len_im rfl Tryz.underlying66 rfl) ?_
  refine VO.vv (OpV.max2 rfl rfl rfl) ?_
  refine VO.op rfl (OpE.callHX (rest := _ :: _) txi_stab hGX rfl hB rfl Tryz.call78 rfl rfl (next_X hp0 (by omega) (by omega)) (List.Perm.refl _) (fun _ _ => trivial) ?_)
  rintro _ _ ⟨rfl, rfl⟩
  have hx1 := nxt_lo L (k + q) (max 1 (ms.length : Int))
  have hx2 := nxt_lt L (k + q) (max 1 (ms.length : Int)) (by omega)
  obtain ⟨d, hd0⟩ : ∃ d : Nat, nxt L (k + q) (max 1 (ms.length : Int)) = d := ⟨(nxt L (k + q) (max 1 (ms.length : Int))).toNat, by omega⟩
  have hd : d < ms.length := by omega
  refine VO.le _ (Le.recast (t := 23) (y := avI (d : Int)) rfl (fun w Z u h => by rw [← hd0]; exact h)) ?_
  refine VO.mb ?_
  refine VO.nil ?_
  refine VC.seq ?_
  refine VC.sr ?_
  refine VO.mw ?_
  refine VO.vv (OpV.len_im rfl Tryz.underlying66 rfl) ?_
  refine VO.mw ?_
  refine VO.nil ?_
  refine VC.block ?_
  refine VC.loopK [] trivial ({t : Nat × Nat // t.1 ≤ ms.length ∧ t.2 < ms.length}) (fun (iZ : {t : Nat × Nat // t.1 ≤ ms.length ∧ t.2 < ms.length}) => match iZ with | ⟨⟨r, c⟩, hr, hc⟩ => [(0, sp p), (1, avL ms), (7, .v u), (9, .v (.pointer (some ⟨g9, 0, none⟩))), (10, avI (c : Int)), (13, avL ns), (14, avI ns.length), (15, avI (q : Int)), (25, avI ms.length), (26, avI (r : Int))]) (fun (iZ : {t : Nat × Nat // t.1 ≤ ms.length ∧ t.2 < ms.length}) => match iZ with | ⟨⟨r, c⟩, hr, hc⟩ => [bxStr p a0 cap L (k + q + 1), .row u xs.length 1 (intsL xs) 3, .box g9 ⟨tab 2 (Sxc.cell (ns.getD q default)), 90, 2⟩]) (fun (iZ : {t : Nat × Nat // t.1 ≤ ms.length ∧ t.2 < ms.length}) => match iZ with | ⟨⟨r, c⟩, hr, hc⟩ => 0) (fun (iZ : {t : Nat × Nat // t.1 ≤ ms.length ∧ t.2 < ms.length}) => match iZ with | ⟨⟨r, c⟩, hr, hc⟩ => ms.length - r) ⟨(0, d), Nat.zero_le _, hd⟩ (Le.mk hB [0, 1, 2] (by repeat first | refine ⟨rfl, ?_⟩ | trivial) rfl rfl (Nat.le_refl _)) ?_
  rintro ⟨⟨r, c⟩, hr, hc⟩
  show VC _ _ _ _ ⟨[(0, sp p), (1, avL ms), (7, .v u), (9, .v (.pointer (some ⟨g9, 0, none⟩))), (10, avI (c : Int)), (13, avL ns), (14, avI ns.length), (15, avI (q : Int)), (25, avI ms.length), (26, avI (r : Int))] ++ [], [bxStr p a0 cap L (k + q + 1), .row u xs.length 1 (intsL xs) 3, .box g9 ⟨tab 2 (Sxc.cell (ns.getD q default)), 90, 2⟩], 0⟩
  simp only at hr hc
  refine VC.sr ?_
  refine VO.vv (OpV.lss rfl rfl rfl) ?_
  refine VO.nil ?_
  refine VC.seq ?_
  refine VC.cond rfl (fun aH2b => ?_) (fun aH2b => ?_)
  ·have aH2 := aH2b
   try simp only [qq] at aH2
   refine VC.skip ?_
   refine VC.seq ?_
   refine VC.block ?_
   refine VC.sr ?_
   refine VO.mw ?_
   refine VO.mb ?_
   refine VO.nil ?_
   refine VC.sr ?_
   refine VO.mw ?_
   refine VO.mw ?_
   refine VO.vv (OpV.add rfl rfl rfl (by unfold fits; omega)) ?_
   refine VO.mw ?_
   refine VO.vv (OpV.len_im rfl Tryz.underlying66 rfl) ?_
   refine VO.vv (OpV.rem rfl rfl rfl (by omega) ((by have := Int.tmod_eq_emod_of_nonneg (a := (c : Int) + r) (b := (ms.length : Int)) (by omega); rw [this]; have h1 := Int.emod_lt_of_pos ((c : Int) + r) (b := (ms.length : Int)) (by omega); have h2 := Int.emod_nonneg ((c : Int) + r) (b := (ms.length : Int)) (by omega); unfold fits; omega))) ?_
   refine VO.mb ?_
   refine VO.nil ?_
   refine VC.seq ?_
   refine VC.draw (fun _ => NoB) hB (by kernel_rfl) ?_
   refine VA.tk (i := 0) rfl (OpV.move (.inl rfl) rfl) ?_
   refine VA.tk (i := 1) rfl (OpV.move (.inl rfl) rfl) ?_
   refine VA.tk (i := 2) rfl (OpV.indexAddr_E rfl Tryz.underlying66 Tryz.sizeOf84 rfl rfl (rfl : ((c : Int) + r).tmod ms.length = (((c + r) % ms.length : Nat) : Int)) (Nat.mod_lt _ h0)) ?_
   refine VA.tk (i := 3) rfl (OpV.fieldAddr_atO 4 rfl Tryz.underlying84 rfl rfl Tryz.sizeOf82 rfl rfl) ?_
   refine VA.tk (i := 4) rfl (OpV.load_at rfl hB OutW.wi0 Tryz.isAgg82 rfl rfl) ?_
   refine VA.tk (i := 5) rfl (OpV.fieldAddrO 0 rfl Tryz.underlying90 rfl rfl Tryz.sizeOf9 rfl) ?_
   refine VA.tk (i := 6) rfl (OpV.load_own (i := 2) rfl hB Tryz.isAgg9 rfl rfl rfl Wi.not0) ?_
   refine VA.all (rs := [7]) (by kernel_rfl) (by decide) ?_
   refine ⟨⟨_, rfl, .inl rfl, ?_⟩, trivial⟩
   refine OpE.call rfl hB rfl Tryz.call86 rfl (SpecN.spec (slices_Contains_str (hm.c _))) ?_
   rintro _ rfl
   refine VA.done (by kernel_rfl) ?_
   refine VC.cond rfl (fun aH3b => ?_) (fun aH3b => ?_)
   ·have aH3 := aH3b
    try simp only [qq] at aH3
    refine VC.sr ?_
    refine VO.mw ?_
    refine VO.mb ?_
    refine VO.nil ?_
    refine VC.exit ?_
    refine VC.region ?_
    refine VO.mw ?_
    refine VO.mw ?_
    refine VO.op rfl (bI rfl hB rfl (by decide) rfl rfl ?_)
    refine VO.op rfl (OpE.append1 (i := 1) rfl hB rfl Tryz.underlying22 (infoOf Tryz.t3 1 (by kernel_rfl) rfl rfl) rfl (by decide) (by decide) rfl rfl rfl rfl (intsL_snoc _ _) (by omega) (fun _ _ => trivial) ?_)
    intro u2
    refine VO.mb ?_
    refine VO.nil ?_
    refine VC.region ?_
    refine VO.vv (OpV.add rfl rfl rfl (by unfold fits; omega)) ?_
    refine VO.mw ?_
    refine VO.nil ?_
    exact Exists.intro (⟨(u2, xs ++ [((c : Int) + r).tmod ms.length], q + 1), by show q + 1 ≤ ns.length; omega, by show (xs ++ [_]).length = q + 1; simp; omega⟩) (And.intro (Le.mk hB [0, 1] ⟨rfl, rfl, rfl, rfl, rfl, rfl, trivial⟩ rfl (by dsimp only; first | rfl | (rw [List.length_append]; rfl)) (Nat.le_refl _)) (by first | omega | (show _ < _; omega) | (simp only []; omega)))
   ·have aH3 := aH3b
    try simp only [qq] at aH3
    refine VC.skip ?_
    refine VC.region ?_
    refine VO.vv (OpV.add rfl rfl rfl (by unfold fits; omega)) ?_
    refine VO.mw ?_
    refine VO.nil ?_
    exact Exists.intro (⟨(r + 1, c), by show r + 1 ≤ ms.length; omega, hc⟩) (And.intro (Le.mk hB [0, 1, 2] (by repeat first | refine ⟨rfl, ?_⟩ | trivial) rfl rfl (Nat.le_refl _)) (by first | omega | (show _ < _; omega) | (simp only []; omega)))
  ·have aH2 := aH2b
   try simp only [qq] at aH2
   refine VC.exit ?_
   refine VC.region ?_
   refine VO.mw ?_
   refine VO.mw ?_
   refine VO.op rfl (bI rfl hB rfl (by decide) rfl rfl ?_)
   refine VO.op rfl (OpE.append1 (i := 1) rfl hB rfl Tryz.underlying22 (infoOf Tryz.t3 1 (by kernel_rfl) rfl rfl) rfl (by decide) (by decide) rfl rfl rfl rfl (intsL_snoc _ _) (by omega) (fun _ _ => trivial) ?_)
   intro u2
   refine VO.mb ?_
   refine VO.nil ?_
   refine VC.region ?_
   refine VO.vv (OpV.add rfl rfl rfl (by unfold fits; omega)) ?_
   refine VO.mw ?_
   refine VO.nil ?_
   exact Exists.intro (⟨(u2, xs ++ [(c : Int)], q + 1), by show q + 1 ≤ ns.length; omega, by show (xs ++ [_]).length = q + 1; simp; omega⟩) (And.intro (Le.mk hB [0, 1] ⟨rfl, rfl, rfl, rfl, rfl, rfl, trivial⟩ rfl (by dsimp only; first | rfl | (rw [List.length_append]; rfl)) (Nat.le_refl _)) (by first | omega | (show _ < _; omega) | (simp only []; omega)))
 ·have aH1 := aH1b
  try simp only [qq] at aH1
  refine VC.exit ?_
  refine VC.seq ?_
  refine VC.sr ?_
  refine VO.mw ?_
  refine VO.op rfl (OpE.callHX (rest := _ :: _) txi_stab hGX rfl hB rfl Tryz.call76 rfl rfl (flip_X (by omega) (by omega) hp0) (List.Perm.refl _) (fun _ _ => trivial) ?_)
  rintro _ _ ⟨rfl, rfl⟩
  refine VO.nil ?_
  refine VC.cond rfl (fun aH4b => ?_) (fun aH4b => ?_)
  ·have aH4 := aH4b
   try simp only [qq] at aH4
   refine VC.region ?_
   refine VO.mw ?_
   refine VO.mw ?_
   refine VO.mw ?_
   refine VO.vv (OpV.len_im rfl Tryz.underlying66 rfl) ?_
   refine VO.op rfl (bI rfl hB rfl (by decide) rfl rfl ?_)
   refine VO.le _ (Le.lI (t := 56) (xs := [0, -1, (ms.length : Int)]) rfl rfl) ?_
   refine VO.op rfl (OpE.callHX (rest := _ :: _) txi_stab hGX rfl hB rfl Tryz.call77 rfl rfl (pick_E (xs := [0, -1, (ms.length : Int)]) (by omega) (by simp) hp0) (List.Perm.refl _) (fun _ _ => trivial) ?_)
   rintro _ _ ⟨rfl, rfl⟩
   refine VO.op rfl (bI rfl hB rfl (by decide) rfl rfl ?_)
   refine VO.op rfl (OpE.append1 (i := 1) rfl hB rfl Tryz.underlying22 (infoOf Tryz.t3 1 (by kernel_rfl) rfl rfl) rfl (by decide) (by decide) rfl rfl rfl rfl (intsL_snoc _ _) (by omega) (fun _ _ => trivial) ?_)
   intro u3
   refine VO.mb ?_
   refine VO.nil ?_
   refine VC.sr ?_
   refine VO.mw ?_
   refine VO.mb ?_
   refine VO.nil ?_
   refine VC.le _ (Le.rowI (t := 6) (i := 1) hB hnew rfl rfl (by simp)) ?_
   refine VC.ret ?_
   exact Exists.intro _ (And.intro (RetV.one Tryz.results25 (ResV.tmp rfl)) (by first | exact ⟨xs, _, ⟨by omega, by omega⟩, rfl, rfl⟩ | exact ⟨_, _, ⟨by simp; omega, by omega⟩, rfl, rfl⟩))
  ·have aH4 := aH4b
   try simp only [qq] at aH4
   refine VC.skip ?_
   refine VC.sr ?_
   refine VO.mw ?_
   refine VO.mb ?_
   refine VO.nil ?_
   refine VC.le _ (Le.rowI (t := 6) (i := 1) hB hnew rfl rfl (by simp)) ?_
   refine VC.ret ?_
   exact Exists.intro _ (And.intro (RetV.one Tryz.results25 (ResV.tmp rfl)) (by first | exact ⟨xs, _, ⟨by omega, by omega⟩, rfl, rfl⟩ | exact ⟨_, _, ⟨by simp; omega, by omega⟩, rfl, rfl⟩))
def ln5 : List Int := [10, 10, 15, 30, 7]
def bf4 : List Int := [0, 0, 1, 2]
def cz4 : List Int := [0, -1, 10000000, 10000001]
def bz2 : List Int := [0, -1]
def bz3 : List Int := [-1, 2000, 2001]
set_option maxRecDepth 100000 in
set_option maxHeartbeats 16000000 in
theorem line_X {p0 cap : Nat} {a0 : Option Addr} {p k : Nat} {L : List Int} (hk : k ≤ 700000) (hp0 : p0 ≤ p) :
    SpecHX (TXI a0 L p0) Tryz.prog 31 [sp p] [bxStr p a0 cap L k] (fun y hp' => ∃ (c b : List Int) (k' : Nat), (c.length ≤ 10 ∧ b.length ≤ 10) ∧ y = .tup [avInts c, avInts b] ∧ hp' = [bxStr p a0 cap L k']) := by
  have e5 : ln5.length = 5 := rfl
  have e4 : bf4.length = 4 := rfl
  have e4c : cz4.length = 4 := rfl
  have e2 : bz2.length = 2 := rfl
  have e3 : bz3.length = 3 := rfl
  have hr0 := rng_lo L k 1 4
  have hr1 := rng_hi L k 1 4 (by omega)
  obtain ⟨N, hN⟩ : ∃ N : Nat, rng L k 1 4 = N := ⟨(rng L k 1 4).toNat, by omega⟩
  refine SpecHX.of_VC txi_stab Tryz.func31 rfl Tryz.ntmps31 (Nle rfl) fun w A hB hGX => ?_
  have hnew : True := trivial
  refine VC.sr ?_
  refine VO.mb ?_
  refine VO.mb ?_
  refine VO.nil ?_
  refine VC.sr ?_
  refine VO.mb ?_
  refine VO.mb ?_
  refine VO.nil ?_
  refine VC.seq ?_
  refine VC.sr ?_
  refine VO.mw ?_
  refine VO.op rfl (OpE.callHX (rest := []) txi_stab hGX rfl hB rfl Tryz.call58 rfl rfl (range_X (by omega) (by omega) (by omega) (by omega) hp0) (List.Perm.refl _) (fun _ _ => trivial) ?_)
  rintro _ _ ⟨rfl, rfl⟩
  refine VO.le _ (Le.recast (t := 7) (y := avI (N : Int)) rfl (fun w Z u h => by rw [← hN]; exact h)) ?_
  refine VO.mw ?_
  refine VO.nil ?_
  refine VC.block ?_
  refine VC.le _ (Le.nilRow 1 3) ?_
  refine VC.loopK [(0, _), (5, _), (7, _)] ⟨rfl, rfl, rfl, trivial⟩ ({t : Value × List Int × Nat // t.2.2 ≤ N ∧ t.2.1.length = t.2.2}) (fun (iZ : {t : Value × List Int × Nat // t.2.2 ≤ N ∧ t.2.1.length = t.2.2}) => match iZ with | ⟨⟨u, xs, q⟩, hq, hl⟩ => [(4, .v u), (8, avI (q : Int))]) (fun (iZ : {t : Value × List Int × Nat // t.2.2 ≤ N ∧ t.2.1.length = t.2.2}) => match iZ with | ⟨⟨u, xs, q⟩, hq, hl⟩ => [bxStr p a0 cap L (k + 1 + q), .row u xs.length 1 (intsL xs) 3]) (fun (iZ : {t : Value × List Int × Nat // t.2.2 ≤ N ∧ t.2.1.length = t.2.2}) => match iZ with | ⟨⟨u, xs, q⟩, hq, hl⟩ => 0) (fun (iZ : {t : Value × List Int × Nat // t.2.2 ≤ N ∧ t.2.1.length = t.2.2}) => match iZ with | ⟨⟨u, xs, q⟩, hq, hl⟩ => N - q) ⟨(.slice none 0 0, [], 0), Nat.zero_le _, rfl⟩ (Le.mk hB [0, 1] ⟨rfl, rfl, rfl, rfl, rfl, trivial⟩ rfl rfl (Nat.le_refl _)) ?_
  rintro ⟨⟨u, xs, q⟩, hq, hl⟩
  show VC _ _ _ _ ⟨[(4, .v u), (8, avI (q : Int))] ++ [(0, _), (5, _), (7, _)], [bxStr p a0 cap L (k + 1 + q), .row u xs.length 1 (intsL xs) 3], 0⟩
  simp only at hq hl
  refine VC.sr ?_
  refine VO.vv (OpV.lss rfl rfl rfl) ?_
  refine VO.nil ?_
  refine VC.seq ?_
  refine VC.cond rfl (fun aH1b => ?_) (fun aH1b => ?_)
  · have aH1 := aH1b
    try simp only [qq] at aH1
    refine VC.skip ?_
    refine VC.seq ?_
    refine VC.block ?_
    refine VC.region ?_
    refine VO.mw ?_
    refine VO.mw ?_
    refine VO.op rfl (bI rfl hB rfl (by decide) rfl rfl ?_)
    refine VO.le _ (Le.lI (t := 12) (xs := ln5) rfl rfl) ?_
    refine VO.op rfl (OpE.callHX (rest := _ :: _) txi_stab hGX rfl hB rfl Tryz.call77 rfl rfl (pick_E (xs := ln5) (by omega) (by omega) hp0) (List.Perm.refl _) (fun _ _ => trivial) ?_)
    rintro _ _ ⟨rfl, rfl⟩
    refine VO.op rfl (bI rfl hB rfl (by decide) rfl rfl ?_)
    refine VO.op rfl (OpE.append1 (i := 1) rfl hB rfl Tryz.underlying22 (infoOf Tryz.t3 1 (by kernel_rfl) rfl rfl) rfl (by decide) (by decide) rfl rfl rfl rfl (intsL_snoc _ _) (by omega) (fun _ _ => trivial) ?_)
    intro u15
    refine VO.mb ?_
    refine VO.nil ?_
    refine VC.region ?_
    refine VO.vv (OpV.add rfl rfl rfl (by unfold fits; omega)) ?_
    refine VO.mw ?_
    refine VO.nil ?_
    exact Exists.intro (⟨(u15, xs ++ [pickV L (k + 1 + q) ln5], q + 1), by show q + 1 ≤ N; omega, by show (xs ++ [_]).length = q + 1; simp; omega⟩) (And.intro (Le.mk hB [0, 1] ⟨rfl, rfl, rfl, rfl, rfl, trivial⟩ rfl (by dsimp only; rw [List.length_append]; rfl) (Nat.le_refl _)) (by first | omega | (show _ < _; omega) | (simp only []; omega)))
  · have aH1 := aH1b
    try simp only [qq] at aH1
    refine VC.exit ?_
    refine VC.seq ?_
    refine VC.sr ?_
    refine VO.mw ?_
    refine VO.vv (OpV.len_row (i := 1) rfl Tryz.underlying22 rfl rfl) ?_
    refine VO.vv (OpV.sub rfl rfl rfl (by unfold fits; omega)) ?_
    refine VO.mw ?_
    refine VO.nil ?_
    refine VC.block ?_
    refine VC.le _ (Le.nilRow 1 3) ?_
    refine VC.loopK [(0, _), (4, _), (19, _)] ⟨rfl, rfl, rfl, trivial⟩ ({t : Value × List Int × Nat // t.2.2 ≤ 4 ∧ t.2.1.length = t.2.2 ∧ t.2.2 ≤ xs.length - 1}) (fun (iZ : {t : Value × List Int × Nat // t.2.2 ≤ 4 ∧ t.2.1.length = t.2.2 ∧ t.2.2 ≤ xs.length - 1}) => match iZ with | ⟨⟨v, ys, r⟩, hr, hyl, hr2⟩ => [(5, .v v), (20, avI (r : Int))]) (fun (iZ : {t : Value × List Int × Nat // t.2.2 ≤ 4 ∧ t.2.1.length = t.2.2 ∧ t.2.2 ≤ xs.length - 1}) => match iZ with | ⟨⟨v, ys, r⟩, hr, hyl, hr2⟩ => [bxStr p a0 cap L (k + 1 + q + r), .row u xs.length 1 (intsL xs) 3, .row v ys.length 1 (intsL ys) 3]) (fun (iZ : {t : Value × List Int × Nat // t.2.2 ≤ 4 ∧ t.2.1.length = t.2.2 ∧ t.2.2 ≤ xs.length - 1}) => match iZ with | ⟨⟨v, ys, r⟩, hr, hyl, hr2⟩ => 0) (fun (iZ : {t : Value × List Int × Nat // t.2.2 ≤ 4 ∧ t.2.1.length = t.2.2 ∧ t.2.2 ≤ xs.length - 1}) => match iZ with | ⟨⟨v, ys, r⟩, hr, hyl, hr2⟩ => 4 - r) ⟨(.slice none 0 0, [], 0), Nat.zero_le _, rfl, Nat.zero_le _⟩ (Le.mk hB [0, 1, 2] ⟨rfl, rfl, rfl, rfl, rfl, trivial⟩ rfl rfl (Nat.le_refl _)) ?_
    rintro ⟨⟨v, ys, r⟩, hr, hyl, hr2⟩
    show VC _ _ _ _ ⟨[(5, .v v), (20, avI (r : Int))] ++ [(0, _), (4, _), (19, _)], [bxStr p a0 cap L (k + 1 + q + r), .row u xs.length 1 (intsL xs) 3, .row v ys.length 1 (intsL ys) 3], 0⟩
    simp only at hr hyl hr2
    refine VC.sr ?_
    refine VO.vv (OpV.lss rfl rfl rfl) ?_
    refine VO.nil ?_
    refine VC.seq ?_
    refine VC.cond rfl (fun aH2b => ?_) (fun aH2b => ?_)
    · have aH2 := aH2b
      try simp only [qq] at aH2
      refine VC.skip ?_
      refine VC.seq ?_
      refine VC.block ?_
      refine VC.region ?_
      refine VO.mw ?_
      refine VO.mw ?_
      refine VO.op rfl (bI rfl hB rfl (by decide) rfl rfl ?_)
      refine VO.le _ (Le.lI (t := 24) (xs := bf4) rfl rfl) ?_
      refine VO.op rfl (OpE.callHX (rest := _ :: _) txi_stab hGX rfl hB rfl Tryz.call77 rfl rfl (pick_E (xs := bf4) (by omega) (by omega) hp0) (List.Perm.refl _) (fun _ _ => trivial) ?_)
      rintro _ _ ⟨rfl, rfl⟩
      refine VO.op rfl (bI rfl hB rfl (by decide) rfl rfl ?_)
      refine VO.op rfl (OpE.append1 (i := 2) rfl hB rfl Tryz.underlying22 (infoOf Tryz.t3 1 (by kernel_rfl) rfl rfl) rfl (by decide) (by decide) rfl rfl rfl rfl (intsL_snoc _ _) (by omega) (fun _ _ => trivial) ?_)
      intro u27
      refine VO.mb ?_
      refine VO.nil ?_
      refine VC.region ?_
      refine VO.vv (OpV.add rfl rfl rfl (by unfold fits; omega)) ?_
      refine VO.mw ?_
      refine VO.nil ?_
      exact Exists.intro (⟨(u27, ys ++ [pickV L (k + 1 + q + r) bf4], r + 1), by show r + 1 ≤ 4; omega, by show (ys ++ [_]).length = r + 1; simp; omega, by show r + 1 ≤ xs.length - 1; omega⟩) (And.intro (Le.mk hB [0, 1, 2] ⟨rfl, rfl, rfl, rfl, rfl, trivial⟩ rfl (by dsimp only; rw [List.length_append]; rfl) (Nat.le_refl _)) (by first | omega | (show _ < _; omega) | (simp only []; omega)))
    · have aH2 := aH2b
      try simp only [qq] at aH2
      obtain ⟨j, hj⟩ : ∃ j, k + 1 + q + r = j := ⟨_, rfl⟩
      rw [hj]
      have hx0 : 0 < xs.length := by omega
      refine VC.exit ?_
      refine VC.seq ?_
      refine VC.sr ?_
      refine VO.mw ?_
      refine VO.op rfl (OpE.callHX (rest := _ :: _) txi_stab hGX rfl hB rfl Tryz.call76 rfl rfl (flip_X (by omega) (by omega) hp0) (List.Perm.refl _) (fun _ _ => trivial) ?_)
      rintro _ _ ⟨rfl, rfl⟩
      refine VO.nil ?_
      refine VC.cond rfl (fun aH3b => ?_) (fun aH3b => ?_)
      · have aH3 := aH3b
        try simp only [qq] at aH3
        refine VC.sr ?_
        refine VO.mw ?_
        refine VO.op rfl (OpE.callHX (rest := _ :: _) txi_stab hGX rfl hB rfl Tryz.call78 rfl rfl (next_X hp0 (by omega) (by omega)) (List.Perm.refl _) (fun _ _ => trivial) ?_)
        rintro _ _ ⟨rfl, rfl⟩
        refine VO.nil ?_
        refine VC.block ?_
        refine VC.sr ?_
        refine VO.vv (OpV.eql rfl rfl rfl) ?_
        refine VO.mb ?_
        refine VO.nil ?_
        refine VC.cond rfl (fun aH4b => ?_) (fun aH4b => ?_)
        · have aH4 := aH4b
          try simp only [qq] at aH4
          refine VC.asBox (i := 1) rfl (by omega) (fun gr capL hu hcap hmx => ?_)
          subst hu
          refine VC.region ?_
          refine VO.mw ?_
          refine VO.mw ?_
          refine VO.mw ?_
          refine VO.vv (OpV.len_v rfl Tryz.underlying22 rfl) ?_
          refine VO.op rfl (OpE.callHX (rest := _ :: _) txi_stab hGX rfl hB rfl Tryz.call78 rfl rfl (next_X hp0 (by omega) (by omega)) (List.Perm.refl _) (fun _ _ => trivial) ?_)
          rintro _ _ ⟨rfl, rfl⟩
          have hx1 := nxt_lo L (j + 2) xs.length
          have hx2 := nxt_lt L (j + 2) xs.length (by omega)
          obtain ⟨i, hi⟩ : ∃ i : Nat, nxt L (j + 2) xs.length = i := ⟨(nxt L (j + 2) xs.length).toNat, by omega⟩
          have hil : i < xs.length := by omega
          refine VO.le _ (Le.recast (t := 51) (y := avI (i : Int)) rfl (fun w Z u h => by rw [← hi]; exact h)) ?_
          refine VO.mw ?_
          refine VO.op rfl (bI rfl hB rfl (by decide) rfl rfl ?_)
          refine VO.le _ (Le.lI (t := 53) (xs := cz4) rfl rfl) ?_
          refine VO.op rfl (OpE.callHX (rest := _ :: _) txi_stab hGX rfl hB rfl Tryz.call77 rfl rfl (pick_E (xs := cz4) (by omega) (by omega) hp0) (List.Perm.refl _) (fun _ _ => trivial) ?_)
          rintro _ _ ⟨rfl, rfl⟩
          refine VO.vv (OpV.indexAddr_o rfl Tryz.underlying22 Tryz.sizeOf3 rfl rfl rfl (by omega)) ?_
          refine VO.op rfl (OpE.store1 (i := 1) rfl hB rfl Tryz.sizeOf3 rfl rfl rfl rfl rfl rfl (by rw [intsL_len]; omega) (intsL_set _ _ _) trivial ?_)
          refine VO.nil ?_
          refine VC.seq ?_
          refine VC.seq ?_
          refine VC.le _ (Le.boxRow (i := 1) (n := xs.length) (sz := 1) rfl (by rw [intsL_len, List.length_set]; omega) hcap hmx) ?_
          refine VC.region ?_
          refine VO.mw ?_
          refine VO.op rfl (OpE.callHX (rest := _ :: _) txi_stab hGX rfl hB rfl Tryz.call76 rfl rfl (flip_X (by omega) (by omega) hp0) (List.Perm.refl _) (fun _ _ => trivial) ?_)
          rintro _ _ ⟨rfl, rfl⟩
          refine VO.nil ?_
          refine VC.cond rfl (fun aH5b => ?_) (fun aH5b => ?_)
          · have aH5 := aH5b
            try simp only [qq] at aH5
            refine VC.region ?_
            refine VO.mb ?_
            refine VO.mb ?_
            refine VO.nil ?_
            refine VC.sr ?_
            refine VO.mw ?_
            refine VO.mw ?_
            refine VO.mb ?_
            refine VO.mb ?_
            refine VO.nil ?_
            (refine VC.le _ (Le.recast (t := 2) (y := avInts []) rfl (fun w Z u h => by rw [h.eq_v]; exact .nil _ _)) ?_; refine VC.le _ (Le.recast (t := 3) (y := avInts []) rfl (fun w Z u h => by rw [h.eq_v]; exact .nil _ _)) ?_; refine VC.le _ (Le.pickH [0] rfl rfl) ?_)
            refine VC.ret ?_
            exact Exists.intro _ (And.intro (RetV.two Tryz.results31 (ResV.tmp rfl) (ResV.tmp rfl)) (⟨_, _, _, ⟨by first | omega | (simp <;> omega), by first | omega | (simp <;> omega)⟩, rfl, rfl⟩))
          · have aH5 := aH5b
            try simp only [qq] at aH5
            refine VC.skip ?_
            refine VC.sr ?_
            refine VO.mw ?_
            refine VO.mw ?_
            refine VO.mb ?_
            refine VO.mb ?_
            refine VO.nil ?_
            (refine VC.le _ (Le.rowI (t := 2) (i := 1) hB hnew rfl rfl (by simp)) ?_; refine VC.le _ (Le.rowI (t := 3) (i := 1) hB hnew rfl rfl (by simp)) ?_)
            refine VC.ret ?_
            exact Exists.intro _ (And.intro (RetV.two Tryz.results31 (ResV.tmp rfl) (ResV.tmp rfl)) (⟨_, _, _, ⟨by first | omega | (simp <;> omega), by first | omega | (simp <;> omega)⟩, rfl, rfl⟩))
        · have aH4 := aH4b
          try simp only [qq] at aH4
          refine VC.sr ?_
          refine VO.vv (OpV.eql rfl rfl rfl) ?_
          refine VO.mb ?_
          refine VO.nil ?_
          refine VC.cond rfl (fun aH6b => ?_) (fun aH6b => ?_)
          · have aH6 := aH6b
            try simp only [qq] at aH6
            refine VC.region ?_
            refine VO.mw ?_
            refine VO.mw ?_
            refine VO.op rfl (bI rfl hB rfl (by decide) rfl rfl ?_)
            refine VO.le _ (Le.lI (t := 60) (xs := bz2) rfl rfl) ?_
            refine VO.op rfl (OpE.callHX (rest := _ :: _) txi_stab hGX rfl hB rfl Tryz.call77 rfl rfl (pick_E (xs := bz2) (by omega) (by omega) hp0) (List.Perm.refl _) (fun _ _ => trivial) ?_)
            rintro _ _ ⟨rfl, rfl⟩
            refine VO.op rfl (bI rfl hB rfl (by decide) rfl rfl ?_)
            refine VO.op rfl (OpE.append1 (i := 2) rfl hB rfl Tryz.underlying22 (infoOf Tryz.t3 1 (by kernel_rfl) rfl rfl) rfl (by decide) (by decide) rfl rfl rfl rfl (intsL_snoc _ _) (by omega) (fun _ _ => trivial) ?_)
            intro u63
            refine VO.mb ?_
            refine VO.nil ?_
            refine VC.seq ?_
            refine VC.seq ?_
            skip
            refine VC.region ?_
            refine VO.mw ?_
            refine VO.op rfl (OpE.callHX (rest := _ :: _) txi_stab hGX rfl hB rfl Tryz.call76 rfl rfl (flip_X (by omega) (by omega) hp0) (List.Perm.refl _) (fun _ _ => trivial) ?_)
            rintro _ _ ⟨rfl, rfl⟩
            refine VO.nil ?_
            refine VC.cond rfl (fun aH7b => ?_) (fun aH7b => ?_)
            · have aH7 := aH7b
              try simp only [qq] at aH7
              refine VC.region ?_
              refine VO.mb ?_
              refine VO.mb ?_
              refine VO.nil ?_
              refine VC.sr ?_
              refine VO.mw ?_
              refine VO.mw ?_
              refine VO.mb ?_
              refine VO.mb ?_
              refine VO.nil ?_
              (refine VC.le _ (Le.recast (t := 2) (y := avInts []) rfl (fun w Z u h => by rw [h.eq_v]; exact .nil _ _)) ?_; refine VC.le _ (Le.recast (t := 3) (y := avInts []) rfl (fun w Z u h => by rw [h.eq_v]; exact .nil _ _)) ?_; refine VC.le _ (Le.pickH [0] rfl rfl) ?_)
              refine VC.ret ?_
              exact Exists.intro _ (And.intro (RetV.two Tryz.results31 (ResV.tmp rfl) (ResV.tmp rfl)) (⟨_, _, _, ⟨by first | omega | (simp <;> omega), by first | omega | (simp <;> omega)⟩, rfl, rfl⟩))
            · have aH7 := aH7b
              try simp only [qq] at aH7
              refine VC.skip ?_
              refine VC.sr ?_
              refine VO.mw ?_
              refine VO.mw ?_
              refine VO.mb ?_
              refine VO.mb ?_
              refine VO.nil ?_
              (refine VC.le _ (Le.rowI (t := 2) (i := 1) hB hnew rfl rfl (by simp)) ?_; refine VC.le _ (Le.rowI (t := 3) (i := 1) hB hnew rfl rfl (by simp)) ?_)
              refine VC.ret ?_
              exact Exists.intro _ (And.intro (RetV.two Tryz.results31 (ResV.tmp rfl) (ResV.tmp rfl)) (⟨_, _, _, ⟨by first | omega | (simp <;> omega), by first | omega | (simp <;> omega)⟩, rfl, rfl⟩))
          · have aH6 := aH6b
            try simp only [qq] at aH6
            refine VC.sr ?_
            refine VO.mw ?_
            refine VO.vv (OpV.len_row (i := 2) rfl Tryz.underlying22 rfl rfl) ?_
            refine VO.vv (OpV.gtr rfl rfl rfl) ?_
            refine VO.nil ?_
            refine VC.cond rfl (fun aH8b => ?_) (fun aH8b => ?_)
            · have aH8 := aH8b
              try simp only [qq] at aH8
              refine VC.asBox (i := 2) rfl (by omega) (fun gr capL hu hcap hmx => ?_)
              subst hu
              refine VC.region ?_
              refine VO.mw ?_
              refine VO.mw ?_
              refine VO.mw ?_
              refine VO.vv (OpV.len_v rfl Tryz.underlying22 rfl) ?_
              refine VO.op rfl (OpE.callHX (rest := _ :: _) txi_stab hGX rfl hB rfl Tryz.call78 rfl rfl (next_X hp0 (by omega) (by omega)) (List.Perm.refl _) (fun _ _ => trivial) ?_)
              rintro _ _ ⟨rfl, rfl⟩
              have hx1 := nxt_lo L (j + 2) ys.length
              have hx2 := nxt_lt L (j + 2) ys.length (by omega)
              obtain ⟨i, hi⟩ : ∃ i : Nat, nxt L (j + 2) ys.length = i := ⟨(nxt L (j + 2) ys.length).toNat, by omega⟩
              have hil : i < ys.length := by omega
              refine VO.le _ (Le.recast (t := 40) (y := avI (i : Int)) rfl (fun w Z u h => by rw [← hi]; exact h)) ?_
              refine VO.mw ?_
              refine VO.op rfl (bI rfl hB rfl (by decide) rfl rfl ?_)
              refine VO.le _ (Le.lI (t := 42) (xs := bz3) rfl rfl) ?_
              refine VO.op rfl (OpE.callHX (rest := _ :: _) txi_stab hGX rfl hB rfl Tryz.call77 rfl rfl (pick_E (xs := bz3) (by omega) (by omega) hp0) (List.Perm.refl _) (fun _ _ => trivial) ?_)
              rintro _ _ ⟨rfl, rfl⟩
              refine VO.vv (OpV.indexAddr_o rfl Tryz.underlying22 Tryz.sizeOf3 rfl rfl rfl (by omega)) ?_
              refine VO.op rfl (OpE.store1 (i := 2) rfl hB rfl Tryz.sizeOf3 rfl rfl rfl rfl rfl rfl (by rw [intsL_len]; omega) (intsL_set _ _ _) trivial ?_)
              refine VO.nil ?_
              refine VC.seq ?_
              refine VC.seq ?_
              refine VC.le _ (Le.boxRow (i := 2) (n := ys.length) (sz := 1) rfl (by rw [intsL_len, List.length_set]; omega) hcap hmx) ?_
              refine VC.region ?_
              refine VO.mw ?_
              refine VO.op rfl (OpE.callHX (rest := _ :: _) txi_stab hGX rfl hB rfl Tryz.call76 rfl rfl (flip_X (by omega) (by omega) hp0) (List.Perm.refl _) (fun _ _ => trivial) ?_)
              rintro _ _ ⟨rfl, rfl⟩
              refine VO.nil ?_
              refine VC.cond rfl (fun aH9b => ?_) (fun aH9b => ?_)
              · have aH9 := aH9b
                try simp only [qq] at aH9
                refine VC.region ?_
                refine VO.mb ?_
                refine VO.mb ?_
                refine VO.nil ?_
                refine VC.sr ?_
                refine VO.mw ?_
                refine VO.mw ?_
                refine VO.mb ?_
                refine VO.mb ?_
                refine VO.nil ?_
                (refine VC.le _ (Le.recast (t := 2) (y := avInts []) rfl (fun w Z u h => by rw [h.eq_v]; exact .nil _ _)) ?_; refine VC.le _ (Le.recast (t := 3) (y := avInts []) rfl (fun w Z u h => by rw [h.eq_v]; exact .nil _ _)) ?_; refine VC.le _ (Le.pickH [0] rfl rfl) ?_)
                refine VC.ret ?_
                exact Exists.intro _ (And.intro (RetV.two Tryz.results31 (ResV.tmp rfl) (ResV.tmp rfl)) (⟨_, _, _, ⟨by first | omega | (simp <;> omega), by first | omega | (simp <;> omega)⟩, rfl, rfl⟩))
              · have aH9 := aH9b
                try simp only [qq] at aH9
                refine VC.skip ?_
                refine VC.sr ?_
                refine VO.mw ?_
                refine VO.mw ?_
                refine VO.mb ?_
                refine VO.mb ?_
                refine VO.nil ?_
                (refine VC.le _ (Le.rowI (t := 2) (i := 1) hB hnew rfl rfl (by simp)) ?_; refine VC.le _ (Le.rowI (t := 3) (i := 1) hB hnew rfl rfl (by simp)) ?_)
                refine VC.ret ?_
                exact Exists.intro _ (And.intro (RetV.two Tryz.results31 (ResV.tmp rfl) (ResV.tmp rfl)) (⟨_, _, _, ⟨by first | omega | (simp <;> omega), by first | omega | (simp <;> omega)⟩, rfl, rfl⟩))
            · have aH8 := aH8b
              try simp only [qq] at aH8
              refine VC.skip ?_
              refine VC.seq ?_
              refine VC.seq ?_
              skip
              refine VC.region ?_
              refine VO.mw ?_
              refine VO.op rfl (OpE.callHX (rest := _ :: _) txi_stab hGX rfl hB rfl Tryz.call76 rfl rfl (flip_X (by omega) (by omega) hp0) (List.Perm.refl _) (fun _ _ => trivial) ?_)
              rintro _ _ ⟨rfl, rfl⟩
              refine VO.nil ?_
              refine VC.cond rfl (fun aH10b => ?_) (fun aH10b => ?_)
              · have aH10 := aH10b
                try simp only [qq] at aH10
                refine VC.region ?_
                refine VO.mb ?_
                refine VO.mb ?_
                refine VO.nil ?_
                refine VC.sr ?_
                refine VO.mw ?_
                refine VO.mw ?_
                refine VO.mb ?_
                refine VO.mb ?_
                refine VO.nil ?_
                (refine VC.le _ (Le.recast (t := 2) (y := avInts []) rfl (fun w Z u h => by rw [h.eq_v]; exact .nil _ _)) ?_; refine VC.le _ (Le.recast (t := 3) (y := avInts []) rfl (fun w Z u h => by rw [h.eq_v]; exact .nil _ _)) ?_; refine VC.le _ (Le.pickH [0] rfl rfl) ?_)
                refine VC.ret ?_
                exact Exists.intro _ (And.intro (RetV.two Tryz.results31 (ResV.tmp rfl) (ResV.tmp rfl)) (⟨_, _, _, ⟨by first | omega | (simp <;> omega), by first | omega | (simp <;> omega)⟩, rfl, rfl⟩))
              · have aH10 := aH10b
                try simp only [qq] at aH10
                refine VC.skip ?_
                refine VC.sr ?_
                refine VO.mw ?_
                refine VO.mw ?_
                refine VO.mb ?_
                refine VO.mb ?_
                refine VO.nil ?_
                (refine VC.le _ (Le.rowI (t := 2) (i := 1) hB hnew rfl rfl (by simp)) ?_; refine VC.le _ (Le.rowI (t := 3) (i := 1) hB hnew rfl rfl (by simp)) ?_)
                refine VC.ret ?_
                exact Exists.intro _ (And.intro (RetV.two Tryz.results31 (ResV.tmp rfl) (ResV.tmp rfl)) (⟨_, _, _, ⟨by first | omega | (simp <;> omega), by first | omega | (simp <;> omega)⟩, rfl, rfl⟩))
      · have aH3 := aH3b
        try simp only [qq] at aH3
        refine VC.skip ?_
        refine VC.seq ?_
        refine VC.seq ?_
        skip
        refine VC.region ?_
        refine VO.mw ?_
        refine VO.op rfl (OpE.callHX (rest := _ :: _) txi_stab hGX rfl hB rfl Tryz.call76 rfl rfl (flip_X (by omega) (by omega) hp0) (List.Perm.refl _) (fun _ _ => trivial) ?_)
        rintro _ _ ⟨rfl, rfl⟩
        refine VO.nil ?_
        refine VC.cond rfl (fun aH11b => ?_) (fun aH11b => ?_)
        · have aH11 := aH11b
          try simp only [qq] at aH11
          refine VC.region ?_
          refine VO.mb ?_
          refine VO.mb ?_
          refine VO.nil ?_
          refine VC.sr ?_
          refine VO.mw ?_
          refine VO.mw ?_
          refine VO.mb ?_
          refine VO.mb ?_
          refine VO.nil ?_
          (refine VC.le _ (Le.recast (t := 2) (y := avInts []) rfl (fun w Z u h => by rw [h.eq_v]; exact .nil _ _)) ?_; refine VC.le _ (Le.recast (t := 3) (y := avInts []) rfl (fun w Z u h => by rw [h.eq_v]; exact .nil _ _)) ?_; refine VC.le _ (Le.pickH [0] rfl rfl) ?_)
          refine VC.ret ?_
          exact Exists.intro _ (And.intro (RetV.two Tryz.results31 (ResV.tmp rfl) (ResV.tmp rfl)) (⟨_, _, _, ⟨by first | omega | (simp <;> omega), by first | omega | (simp <;> omega)⟩, rfl, rfl⟩))
        · have aH11 := aH11b
          try simp only [qq] at aH11
          refine VC.skip ?_
          refine VC.sr ?_
          refine VO.mw ?_
          refine VO.mw ?_
          refine VO.mb ?_
          refine VO.mb ?_
          refine VO.nil ?_
          (refine VC.le _ (Le.rowI (t := 2) (i := 1) hB hnew rfl rfl (by simp)) ?_; refine VC.le _ (Le.rowI (t := 3) (i := 1) hB hnew rfl rfl (by simp)) ?_)
          refine VC.ret ?_
          exact Exists.intro _ (And.intro (RetV.two Tryz.results31 (ResV.tmp rfl) (ResV.tmp rfl)) (⟨_, _, _, ⟨by first | omega | (simp <;> omega), by first | omega | (simp <;> omega)⟩, rfl, rfl⟩))
end Go.Proofs.YtcploodfholkkaaGreatDoor
namespace Go.Proofs.YtcploodfholkkaaGreatDoor
open Go.RowKit
set_option maxRecDepth 100000
section
def ndiff (a b : Nat) : Nat := a ^^^ (a &&& b)
theorem ndiff_bit (a b i : Nat) : (ndiff a b).testBit i = (a.testBit i && !b.testBit i) := by
 unfold ndiff
 rw [Nat.testBit_xor, Nat.testBit_and]
 cases a.testBit i <;> cases b.testBit i <;> rfl
def SubN (a r : Nat) : Prop := a &&& r = a
instance (a r : Nat) : Decidable (SubN a r) := inferInstanceAs (Decidable (_ = _))
theorem SubN.iff {a r : Nat} : SubN a r ↔ ∀ i, a.testBit i = true → r.testBit i = true := by
 constructor
 ·intro h i hi
  have := congrArg (fun x => x.testBit i) h
  simp only [Nat.testBit_and, hi, Bool.true_and] at this
  exact this
 ·intro h
  refine Nat.eq_of_testBit_eq fun i => ?_
  rw [Nat.testBit_and]
  cases hi : a.testBit i with
  | false => rfl
  | true => rw [h i hi]; rfl
theorem SubN.refl (a : Nat) : SubN a a := Nat.and_self a
theorem SubN.zero (r : Nat) : SubN 0 r := Nat.zero_and r
theorem SubN.le {a r : Nat} (h : SubN a r) : a ≤ r := by rw [← h]; exact Nat.and_le_right
theorem SubN.trans {a b c : Nat} (h1 : SubN a b) (h2 : SubN b c) : SubN a c := SubN.iff.2 fun i hi => SubN.iff.1 h2 i (SubN.iff.1 h1 i hi)
theorem SubN.and_ (a r : Nat) : SubN (a &&& r) r := by
 unfold SubN; rw [Nat.and_assoc, Nat.and_self]
theorem SubN.diff (a b : Nat) : SubN (ndiff a b) a := SubN.iff.2 fun i hi => by
 rw [ndiff_bit, Bool.and_eq_true] at hi; exact hi.1
theorem and_half (a b : Nat) : (a &&& b) / 2 = a / 2 &&& b / 2 := by
 refine Nat.eq_of_testBit_eq fun i => ?_
 rw [Nat.testBit_div_two, Nat.testBit_and, Nat.testBit_and, Nat.testBit_div_two, Nat.testBit_div_two]
theorem and_low (a b : Nat) : (a &&& b) % 2 = if a % 2 = 1 ∧ b % 2 = 1 then 1 else 0 := by
 have h := Nat.testBit_and a b 0
 simp only [Nat.testBit_zero] at h
 by_cases ha : a % 2 = 1
 ·by_cases hb : b % 2 = 1
  ·rw [if_pos ⟨ha, hb⟩]
   rw [ha, hb] at h
   simpa using h
  ·rw [if_neg (fun h => hb h.2)]
   have hb0 : b % 2 = 0 := by omega
   have h' : ¬ ((a &&& b) % 2 = 1) := fun e => by rw [e, ha, hb0] at h; exact absurd h (by decide)
   have := Nat.mod_two_eq_zero_or_one (a &&& b)
   omega
 ·rw [if_neg (fun h => ha h.1)]
  have ha0 : a % 2 = 0 := by omega
  have h' : ¬ ((a &&& b) % 2 = 1) := fun e => by rw [e, ha0] at h; exact absurd h (by simp)
  have := Nat.mod_two_eq_zero_or_one (a &&& b)
  omega
theorem SubN.half {a r : Nat} (h : SubN a r) : SubN (a / 2) (r / 2) := by
 unfold SubN at h ⊢; rw [← and_half, h]
theorem SubN.low {a r : Nat} (h : SubN a r) : a % 2 ≤ r % 2 := by
 unfold SubN at h
 have h2 := and_low a r
 rw [h] at h2
 split at h2 <;> omega
theorem sub_next : ∀ (sub s r : Nat), SubN s r → SubN sub r → s < sub → s ≤ (sub - 1) &&& r
 | sub, s, r, h1, h2, h => by
  have e1 := and_half (sub - 1) r
  have e2 := and_low (sub - 1) r
  have hl := h1.low
  have hm := h2.low
  by_cases hb : sub % 2 = 1
  ·have hd : (sub - 1) / 2 = sub / 2 := by omega
   rw [hd, h2.half] at e1
   have h0 : (sub - 1) % 2 = 0 := by omega
   rw [if_neg (by omega)] at e2
   omega
  ·have hs : s / 2 < sub / 2 := by omega
   have hd : (sub - 1) / 2 = sub / 2 - 1 := by omega
   have ih := sub_next (sub / 2) (s / 2) (r / 2) h1.half h2.half hs
   rw [hd] at e1
   rw [← e1] at ih
   by_cases hr : r % 2 = 1
   ·rw [if_pos ⟨by omega, hr⟩] at e2; omega
   ·rw [if_neg (fun h => hr h.2)] at e2; omega
 termination_by sub => sub
 decreasing_by omega
theorem sub_dec {sub r : Nat} (h : sub ≠ 0) : (sub - 1) &&& r < sub := Nat.lt_of_le_of_lt Nat.and_le_left (by omega)
theorem full_bit (n i : Nat) : (2 ^ n - 1).testBit i = decide (i < n) := Nat.testBit_two_pow_sub_one ..
end
section
abbrev neverC : Int := 1152921504606846976
def numB (b : Nat → Bool) : Nat → Nat
 | 0 => 0
 | r + 1 => numB b r + if b r = true then 1 else 0
def timB (m : Mach) (ns : List NeedS) (b : Nat → Bool) : Nat → Int
 | 0 => m.fixed
 | r + 1 => if b r = true then timB m ns b r + m.each * (ns.getD r default).count else timB m ns b r
def okA (m : Mach) (ns : List NeedS) (b : Nat → Bool) (i : Nat) : Bool := !b i || (hasK m (ns.getD i default).key && decide ((numB b (i + 1) : Int) ≤ m.feeders))
def okB (m : Mach) (ns : List NeedS) (b : Nat → Bool) : Bool := (List.range ns.length).all (okA m ns b)
def cycB (m : Mach) (ns : List NeedS) (b : Nat → Bool) : Int := if okB m ns b = true then timB m ns b ns.length else neverC
theorem numB_congr {b b' : Nat → Bool} : ∀ {r : Nat}, (∀ i, i < r → b i = b' i) → numB b r = numB b' r
 | 0, _ => rfl
 | r + 1, h => by rw [numB, numB, numB_congr fun i hi => h i (by omega), h r (by omega)]
theorem timB_congr {m : Mach} {ns : List NeedS} {b b' : Nat → Bool} : ∀ {r : Nat}, (∀ i, i < r → b i = b' i) → timB m ns b r = timB m ns b' r
 | 0, _ => rfl
 | r + 1, h => by rw [timB, timB, timB_congr fun i hi => h i (by omega), h r (by omega)]
theorem okA_congr {m : Mach} {ns : List NeedS} {b b' : Nat → Bool} {i : Nat} (h : ∀ j, j ≤ i → b j = b' j) : okA m ns b i = okA m ns b' i := by
 unfold okA
 rw [h i (Nat.le_refl _), numB_congr fun j hj => h j (by omega)]
theorem okB_iff {m : Mach} {ns : List NeedS} {b : Nat → Bool} : okB m ns b = true ↔ ∀ i, i < ns.length → okA m ns b i = true := by
 unfold okB
 rw [List.all_eq_true]
 exact ⟨fun h i hi => h i (List.mem_range.2 hi), fun h i hi => h i (List.mem_range.1 hi)⟩
theorem cycB_congr {m : Mach} {ns : List NeedS} {b b' : Nat → Bool} (h : ∀ i, i < ns.length → b i = b' i) : cycB m ns b = cycB m ns b' := by
 have e : okB m ns b = okB m ns b' := by
  rw [Bool.eq_iff_iff, okB_iff, okB_iff]
  constructor
  ·intro h2 i hi; rw [← okA_congr fun j hj => h j (by omega)]; exact h2 i hi
  ·intro h2 i hi; rw [okA_congr fun j hj => h j (by omega)]; exact h2 i hi
 unfold cycB; rw [e, timB_congr h]
structure MnOk (ms : List Mach) (ns : List NeedS) : Prop where
 fix : ∀ k, 0 ≤ (ms.getD k default).fixed ∧ (ms.getD k default).fixed ≤ 10000000
 each : ∀ k, 0 ≤ (ms.getD k default).each ∧ (ms.getD k default).each ≤ 10000000
 cnt : ∀ i, 0 ≤ (ns.getD i default).count ∧ (ns.getD i default).count ≤ 1000
 len : ns.length ≤ 1000
theorem mul_in2 {a b : Int} (h1 : 0 ≤ a ∧ a ≤ 10000000) (h2 : 0 ≤ b ∧ b ≤ 1000) : 0 ≤ a * b ∧ a * b ≤ 10000000000 := by
 refine ⟨Int.mul_nonneg h1.1 h2.1, ?_⟩
 have h3 : a * b ≤ 10000000 * b := Int.mul_le_mul_of_nonneg_right h1.2 h2.1
 omega
section
variable {ms : List Mach} {ns : List NeedS}
theorem timB_in (h : MnOk ms ns) (k : Nat) (b : Nat → Bool) : ∀ r, 0 ≤ timB (ms.getD k default) ns b r ∧ timB (ms.getD k default) ns b r ≤ 10000000 + 10000000000 * r
 | 0 => by have := h.fix k; rw [timB]; omega
 | r + 1 => by
  have ih := timB_in h k b r
  have := mul_in2 (h.each k) (h.cnt r)
  rw [timB]; split <;> omega
theorem cycB_in (h : MnOk ms ns) (k : Nat) (b : Nat → Bool) : 0 ≤ cycB (ms.getD k default) ns b ∧ cycB (ms.getD k default) ns b ≤ neverC := by
 have h1 := timB_in h k b ns.length
 have := h.len
 unfold cycB; split <;> simp only [neverC] <;> omega
end
def mnK (F : Nat → Int) : Nat → Int
 | 0 => neverC
 | k + 1 => min (mnK F k) (F k)
theorem mnK_never (F : Nat → Int) : ∀ K, mnK F K ≤ neverC
 | 0 => Int.le_refl _
 | K + 1 => by have := mnK_never F K; rw [mnK]; omega
theorem mnK_le {F : Nat → Int} : ∀ {K k : Nat}, k < K → mnK F K ≤ F k
 | K + 1, k, h => by
  rw [mnK]
  by_cases e : k = K
  ·subst e; omega
  ·have := mnK_le (F := F) (show k < K by omega); omega
theorem mnK_at {F : Nat → Int} : ∀ {K : Nat}, mnK F K < neverC → ∃ k, k < K ∧ F k = mnK F K
 | 0, h => absurd h (Int.lt_irrefl _)
 | K + 1, h => by
  rw [mnK] at h ⊢
  by_cases e : F K ≤ mnK F K
  ·exact ⟨K, by omega, by omega⟩
  ·obtain ⟨k, h1, h2⟩ := mnK_at (F := F) (K := K) (by omega)
   exact ⟨k, by omega, by omega⟩
theorem mnK_iff {F : Nat → Int} {K : Nat} {v : Int} (hv : v < neverC) : mnK F K ≤ v ↔ ∃ k, k < K ∧ F k ≤ v := by
 constructor
 ·intro h
  obtain ⟨k, h1, h2⟩ := mnK_at (F := F) (K := K) (by omega)
  exact ⟨k, h1, by omega⟩
 ·rintro ⟨k, h1, h2⟩
  have := mnK_le (F := F) h1; omega
theorem mnK_nn {F : Nat → Int} (h : ∀ k, 0 ≤ F k) : ∀ K, 0 ≤ mnK F K
 | 0 => show (0 : Int) ≤ neverC by decide
 | K + 1 => by have := mnK_nn h K; have := h K; rw [mnK]; omega
def fsK (F : Nat → Int) (v : Int) : Nat → Nat
 | 0 => 0
 | K + 1 => if fsK F v K < K then fsK F v K else if F K = v then K else K + 1
theorem fsK_spec (F : Nat → Int) (v : Int) : ∀ K, fsK F v K ≤ K ∧ (∀ j, j < fsK F v K → F j ≠ v) ∧ (fsK F v K < K → F (fsK F v K) = v)
 | 0 => ⟨Nat.le_refl _, fun j hj => absurd hj (Nat.not_lt_zero j), fun h => absurd h (Nat.not_lt_zero _)⟩
 | K + 1 => by
  obtain ⟨h1, h2, h3⟩ := fsK_spec F v K
  rw [fsK]
  split
  ·rename_i h; exact ⟨by omega, h2, fun _ => h3 h⟩
  ·have e : fsK F v K = K := by omega
   rw [e] at h2
   split
   ·rename_i h4; exact ⟨by omega, h2, fun _ => h4⟩
   ·rename_i h4
    refine ⟨Nat.le_refl _, fun j hj => ?_, fun h => absurd h (Nat.lt_irrefl _)⟩
    by_cases e2 : j = K
    ·rw [e2]; exact h4
    ·exact h2 j (by omega)
theorem fsK_eq {F : Nat → Int} {v : Int} {K k : Nat} (hk : k < K) (h : F k = v) (hn : ∀ j, j < k → F j ≠ v) : fsK F v K = k := by
 obtain ⟨h1, h2, h3⟩ := fsK_spec F v K
 have a1 : ¬ k < fsK F v K := fun h' => h2 k h' h
 have a2 : ¬ fsK F v K < k := fun h' => hn _ h' (h3 (by omega))
 omega
def mnS (F : Nat → Int) (s : Nat) : Int := mnK (fun t => if SubN t s then F t else neverC) (s + 1)
theorem mnS_iff {F : Nat → Int} {s : Nat} {v : Int} (hv : v < neverC) : mnS F s ≤ v ↔ ∃ t, SubN t s ∧ F t ≤ v := by
 unfold mnS
 rw [mnK_iff hv]
 constructor
 ·rintro ⟨k, h1, h2⟩
  split at h2
  ·rename_i h3; exact ⟨k, h3, h2⟩
  ·omega
 ·rintro ⟨t, h1, h2⟩
  exact ⟨t, by have := h1.le; omega, by rw [if_pos h1]; exact h2⟩
theorem mnS_never (F : Nat → Int) (s : Nat) : mnS F s ≤ neverC := mnK_never _ _
theorem mnS_nn {F : Nat → Int} (h : ∀ t, 0 ≤ F t) (s : Nat) : 0 ≤ mnS F s := mnK_nn (fun t => by split; exact h t; decide) _
theorem eq_of_le {a b : Int} (ha : a ≤ neverC) (hb : b ≤ neverC) (ha0 : 0 ≤ a) (hb0 : 0 ≤ b) (h : ∀ v, 0 ≤ v → v < neverC → (a ≤ v ↔ b ≤ v)) : a = b := by
 by_cases h1 : a < b
 ·exact absurd ((h a ha0 (by omega)).1 (Int.le_refl _)) (by omega)
 ·by_cases h2 : b < a
  ·exact absurd ((h b hb0 (by omega)).2 (Int.le_refl _)) (by omega)
  ·omega
section
variable (ms : List Mach) (ns : List NeedS) (fx : Nat → Nat)
def alnS (k t : Nat) : Int := cycB (ms.getD k default) ns fun i => (fx k ||| t).testBit i
def belS : Nat → Nat → Int
 | 0, s => if s = 0 then 0 else neverC
 | k + 1, s => mnS (fun t => max (belS k (ndiff s t)) (alnS ms ns fx k t)) s
end
theorem ex_mask (p : Nat → Bool) (s : Nat) : ∃ t : Nat, ∀ i, t.testBit i = (s.testBit i && p i) := by
 induction s using Nat.strongRecOn generalizing p with
 | _ s ih =>
  by_cases h0 : s = 0
  ·subst h0; exact ⟨0, fun i => by simp⟩
  ·obtain ⟨t, ht⟩ := ih (s / 2) (by omega) fun i => p (i + 1)
   refine ⟨2 * t + if (s.testBit 0 && p 0) = true then 1 else 0, fun i => ?_⟩
   cases i with
   | zero =>
    cases h : (s.testBit 0 && p 0) with
    | true => simp only [if_true, Nat.testBit_zero]; simp
    | false => simp [Nat.testBit_zero]
   | succ i =>
    rw [Nat.testBit_succ, Nat.testBit_succ]
    have : (2 * t + if (s.testBit 0 && p 0) = true then 1 else 0) / 2 = t := by split <;> omega
    rw [this]; exact ht i
section
variable {ms : List Mach} {ns : List NeedS} {fx : Nat → Nat}
theorem belS_nn (h : MnOk ms ns) : ∀ k s, 0 ≤ belS ms ns fx k s
 | 0, s => by rw [belS]; split <;> decide
 | k + 1, s => mnS_nn (fun t => by have := belS_nn h k (ndiff s t); omega) s
theorem belS_never : ∀ k s, belS ms ns fx k s ≤ neverC
 | 0, s => by rw [belS]; split <;> decide
 | k + 1, s => mnS_never _ _
theorem belS_iff {v : Int} (h0 : 0 ≤ v) (hv : v < neverC) : ∀ (k s : Nat), belS ms ns fx k s ≤ v ↔ ∃ g : Nat → Nat, (∀ i, s.testBit i = true → g i < k) ∧ ∀ j, j < k → cycB (ms.getD j default) ns (fun i => (fx j).testBit i || (s.testBit i && decide (g i = j))) ≤ v
  | 0, s => by
    rw [belS]
    constructor
    · intro h
      split at h
      · rename_i e; subst e; exact ⟨fun _ => 0, fun i hi => by simp at hi, fun j hj => absurd hj (Nat.not_lt_zero j)⟩
      · omega
    · rintro ⟨g, h1, _⟩
      rw [if_pos]
      · exact h0
      · refine Nat.eq_of_testBit_eq fun i => ?_
        cases hi : s.testBit i with
        | false => simp
        | true => exact absurd (h1 i hi) (Nat.not_lt_zero _)
  | k + 1, s => by
    rw [belS, mnS_iff hv]
    constructor
    · rintro ⟨t, ht, hm⟩
      obtain ⟨g, g1, g2⟩ := (belS_iff h0 hv k (ndiff s t)).1 (by omega)
      refine ⟨fun i => if t.testBit i = true then k else g i, fun i hi => ?_, fun j hj => ?_⟩
      · show (if t.testBit i = true then k else g i) < k + 1
        split
        · omega
        · rename_i h2
          have := g1 i (by rw [ndiff_bit, hi]; simpa using h2)
          omega
      · by_cases e : j = k
        · subst e
          refine Int.le_trans (Int.le_of_eq (cycB_congr fun i hi => ?_)) (show alnS ms ns fx j t ≤ v by omega)
          rw [Nat.testBit_or]
          congr 1
          show (s.testBit i && decide ((if t.testBit i = true then j else g i) = j)) = t.testBit i
          cases h2 : t.testBit i with
          | true => rw [SubN.iff.1 ht i h2]; simp
          | false =>
            cases h3 : s.testBit i with
            | false => rfl
            | true =>
              have := g1 i (by rw [ndiff_bit, h3, h2]; rfl)
              simp; omega
        · refine Int.le_trans (Int.le_of_eq (cycB_congr fun i hi => ?_)) (g2 j (by omega))
          congr 1
          rw [ndiff_bit]
          show (s.testBit i && decide ((if t.testBit i = true then k else g i) = j)) = _
          cases h2 : t.testBit i with
          | true => simp; omega
          | false => simp
    · rintro ⟨g, g1, g2⟩
      obtain ⟨t, ht⟩ := ex_mask (fun i => decide (g i = k)) s
      have hts : SubN t s := SubN.iff.2 fun i hi => by rw [ht, Bool.and_eq_true] at hi; exact hi.1
      refine ⟨t, hts, ?_⟩
      have h1 : belS ms ns fx k (ndiff s t) ≤ v := (belS_iff h0 hv k (ndiff s t)).2 ⟨g, fun i hi => by
        rw [ndiff_bit, ht, Bool.and_eq_true] at hi
        have := g1 i hi.1
        have h3 := hi.2
        rw [hi.1] at h3
        simp at h3
        omega, fun j hj => by
        refine Int.le_trans (Int.le_of_eq (cycB_congr fun i hi => ?_)) (g2 j (by omega))
        congr 1
        rw [ndiff_bit, ht]
        cases s.testBit i with
        | false => rfl
        | true =>
          by_cases e : g i = j
          · simp [e]; omega
          · simp [e]⟩
      have h2 : alnS ms ns fx k t ≤ v := by
        refine Int.le_trans (Int.le_of_eq (cycB_congr fun i hi => ?_)) (g2 k (by omega))
        rw [Nat.testBit_or, ht]
      omega
end
def plB (pl : List Int) (k i : Nat) : Bool := decide (i < pl.length) && decide (pl.getD i 0 = (k : Int))
theorem plB_snoc (pl : List Int) (c k i : Nat) : plB (pl ++ [(c : Int)]) k i = (plB pl k i || (decide (i = pl.length) && decide (c = k))) := by
 unfold plB
 by_cases h : i < pl.length
 ·rw [List.getD_eq_getElem?_getD, List.getElem?_append_left h, ← List.getD_eq_getElem?_getD]
  simp [h, show i < pl.length + 1 by omega, show i ≠ pl.length by omega]
 ·by_cases h2 : i = pl.length
  ·subst h2; simp
   exact ⟨fun h => by omega, fun h => by omega⟩
  ·simp [h, h2, show ¬ i < pl.length + 1 by omega]
section
variable (ms : List Mach) (ns : List NeedS)
def ExtP (pl : List Int) (v : Int) : Prop := ∃ g : Nat → Nat, (∀ i, pl.length ≤ i → i < ns.length → g i < ms.length) ∧ ∀ j, j < ms.length → cycB (ms.getD j default) ns (fun i => plB pl j i || ((decide (pl.length ≤ i) && decide (i < ns.length)) && decide (g i = j))) ≤ v
def mxK (F : Nat → Int) : Nat → Int
 | 0 => 0
 | k + 1 => max (mxK F k) (F k)
def mxC (pl : List Int) : Int := mxK (fun k => cycB (ms.getD k default) ns (plB pl k)) ms.length
def bstV : Nat → List Int → Int
 | 0, pl => mxC ms ns pl
 | d + 1, pl => mnK (fun k => bstV d (pl ++ [(k : Int)])) ms.length
def grd : Nat → List Int → List Int
 | 0, pl => pl
 | d + 1, pl => grd d (pl ++ [((fsK (fun k => bstV ms ns d (pl ++ [(k : Int)])) (bstV ms ns (d + 1) pl) ms.length : Nat) : Int)])
end
theorem mxK_le {F : Nat → Int} {v : Int} (h0 : 0 ≤ v) : ∀ {K : Nat}, mxK F K ≤ v ↔ ∀ k, k < K → F k ≤ v
 | 0 => ⟨fun _ k hk => absurd hk (Nat.not_lt_zero k), fun _ => h0⟩
 | K + 1 => by
  have ih := mxK_le (F := F) h0 (K := K)
  rw [mxK]
  constructor
  ·intro h k hk
   by_cases e : k = K
   ·subst e; omega
   ·exact ih.1 (by omega) k (by omega)
  ·intro h
   have h1 := ih.2 fun k hk => h k (by omega)
   have h2 := h K (by omega)
   omega
theorem mxK_nn (F : Nat → Int) : ∀ K, 0 ≤ mxK F K
 | 0 => Int.le_refl _
 | K + 1 => by have := mxK_nn F K; rw [mxK]; omega
theorem mxK_up {F : Nat → Int} {v : Int} (h0 : 0 ≤ v) {K : Nat} (h : ∀ k, k < K → F k ≤ v) : mxK F K ≤ v := (mxK_le h0).2 h
section
variable {ms : List Mach} {ns : List NeedS}
theorem mxC_in (h : MnOk ms ns) (pl : List Int) : 0 ≤ mxC ms ns pl ∧ mxC ms ns pl ≤ neverC :=
 ⟨mxK_nn _ _, mxK_up (by decide) fun k _ => (cycB_in h k _).2⟩
theorem bstV_in (h : MnOk ms ns) : ∀ d pl, 0 ≤ bstV ms ns d pl ∧ bstV ms ns d pl ≤ neverC
 | 0, pl => mxC_in h pl
 | d + 1, pl => ⟨mnK_nn (fun k => (bstV_in h d _).1) _, mnK_never _ _⟩
theorem ext_snoc {pl : List Int} {v : Int} (hl : pl.length < ns.length) : ExtP ms ns pl v ↔ ∃ k, k < ms.length ∧ ExtP ms ns (pl ++ [(k : Int)]) v := by
 have key : ∀ (g g' : Nat → Nat) (c j : Nat), g pl.length = c → (∀ i, pl.length + 1 ≤ i → g' i = g i) → ∀ i, (plB (pl ++ [(c : Int)]) j i || ((decide (pl.length + 1 ≤ i) && decide (i < ns.length)) && decide (g' i = j))) = (plB pl j i || ((decide (pl.length ≤ i) && decide (i < ns.length)) && decide (g i = j))) := fun g g' c j hc hg i => by
  rw [plB_snoc]
  by_cases e : i = pl.length
  ·subst e
   rw [hc]
   simp [hl]
   intro h; omega
  ·by_cases e2 : pl.length + 1 ≤ i
   ·rw [hg i e2]
    simp [e, e2, show pl.length ≤ i by omega]
   ·simp [e, e2, show ¬ pl.length ≤ i by omega]
 constructor
 ·rintro ⟨g, h1, h2⟩
  refine ⟨g pl.length, h1 _ (Nat.le_refl _) hl, g, fun i hi hn => h1 i (by simp at hi; omega) hn, fun j hj => ?_⟩
  have := h2 j hj
  rw [cycB_congr fun i _ => (key g g (g pl.length) j rfl (fun _ _ => rfl) i).symm] at this
  rw [List.length_append]; exact this
 ·rintro ⟨k, hk, g, h1, h2⟩
  refine ⟨fun i => if i = pl.length then k else g i, fun i hi hn => ?_, fun j hj => ?_⟩
  ·show (if i = pl.length then k else g i) < _
   split
   ·exact hk
   ·exact h1 i (by simp; omega) hn
  ·have := h2 j hj
   rw [List.length_append] at this
   rw [← cycB_congr fun i _ => key (fun i => if i = pl.length then k else g i) g k j (if_pos rfl) (fun i hi => (if_neg (by omega)).symm) i]
   exact this
theorem bstV_iff {v : Int} (h0 : 0 ≤ v) (hv : v < neverC) : ∀ (d : Nat) (pl : List Int), pl.length + d = ns.length → (bstV ms ns d pl ≤ v ↔ ExtP ms ns pl v)
 | 0, pl, hl => by
  rw [bstV, mxC, mxK_le h0]
  have e : ∀ (g : Nat → Nat) (j i : Nat), i < ns.length → (plB pl j i || ((decide (pl.length ≤ i) && decide (i < ns.length)) && decide (g i = j))) = plB pl j i := fun g j i hi => by
   simp [show ¬ pl.length ≤ i by omega]
  constructor
  ·intro h
   exact ⟨fun _ => 0, fun i hi hn => by omega, fun j hj => by rw [cycB_congr (e _ j)]; exact h j hj⟩
  ·rintro ⟨g, _, h2⟩ j hj
   have := h2 j hj
   rwa [cycB_congr (e g j)] at this
 | d + 1, pl, hl => by
  rw [bstV, mnK_iff hv, ext_snoc (by omega)]
  exact exists_congr fun k => and_congr_right fun hk => bstV_iff h0 hv d _ (by simp; omega)
def mskB (b : Nat → Bool) : Nat → Nat
 | 0 => 0
 | r + 1 => mskB b r ||| (if b r = true then 2 ^ r else 0)
theorem mskB_bit (b : Nat → Bool) : ∀ r i, (mskB b r).testBit i = (decide (i < r) && b i)
 | 0, i => by simp [mskB]
 | r + 1, i => by
  rw [mskB, Nat.testBit_or, mskB_bit b r i]
  by_cases h : i = r
  ·subst h
   cases hb : b i <;> simp [Nat.testBit_two_pow]
  ·have h1 : (if b r = true then 2 ^ r else 0).testBit i = false := by
    split
    ·rw [Nat.testBit_two_pow]; simp; omega
    ·simp
   rw [h1, Bool.or_false]
   congr 1
   exact decide_eq_decide.2 (by omega)
def mskP (pl : List Int) (k : Nat) : Nat := mskB (plB pl k) pl.length
theorem mskP_bit (pl : List Int) (k i : Nat) : (mskP pl k).testBit i = plB pl k i := by
 unfold mskP
 rw [mskB_bit]
 unfold plB
 cases decide (i < pl.length) <;> rfl
theorem mskP_snoc (pl : List Int) (c k : Nat) : mskP (pl ++ [(c : Int)]) k = if k = c then mskP pl k ||| 2 ^ pl.length else mskP pl k := by
 refine Nat.eq_of_testBit_eq fun i => ?_
 rw [mskP_bit, plB_snoc]
 split
 ·rename_i e; subst e
  rw [Nat.testBit_or, mskP_bit, Nat.testBit_two_pow]
  simp [eq_comm]
 ·rename_i e
  rw [mskP_bit]
  simp [show ¬ c = k from fun h => e h.symm]
theorem mskP_lt (pl : List Int) (k : Nat) : mskP pl k < 2 ^ pl.length := Nat.lt_pow_two_of_testBit _ fun i hi => by
 rw [mskP_bit]; unfold plB; simp [show ¬ i < pl.length by omega]
theorem mskP_back (pl : List Int) (k : Nat) : ndiff (mskP pl k ||| 2 ^ pl.length) (2 ^ pl.length) = mskP pl k := by
 refine Nat.eq_of_testBit_eq fun i => ?_
 rw [ndiff_bit, Nat.testBit_or, mskP_bit, Nat.testBit_two_pow]
 unfold plB
 by_cases h : i < pl.length
 ·simp [show ¬ pl.length = i by omega]
 ·simp [h]
def rst (n i : Nat) : Nat := ndiff (2 ^ n - 1) (2 ^ i - 1)
theorem rst_bit (n i j : Nat) : (rst n i).testBit j = (decide (i ≤ j) && decide (j < n)) := by
 unfold rst
 rw [ndiff_bit, full_bit, full_bit]
 by_cases h1 : j < n <;> by_cases h2 : j < i <;> simp [h1, h2] <;> omega
theorem rst_zero (n : Nat) : rst n 0 = 2 ^ n - 1 := by unfold rst ndiff; simp
theorem rst_succ (n i : Nat) : ndiff (rst n i) (2 ^ i) = rst n (i + 1) := by
 refine Nat.eq_of_testBit_eq fun j => ?_
 rw [ndiff_bit, rst_bit, rst_bit, Nat.testBit_two_pow]
 by_cases h1 : i = j
 ·subst h1; simp; omega
 ·by_cases h2 : i ≤ j
  ·simp [h1, h2, show i + 1 ≤ j by omega]
  ·simp [h1, h2, show ¬ i + 1 ≤ j by omega]
theorem rst_lt (n i : Nat) : rst n i < 2 ^ n := Nat.lt_pow_two_of_testBit _ fun j hj => by
 rw [rst_bit]; simp; omega
theorem belS_bst (h : MnOk ms ns) {pl : List Int} {d : Nat} (hl : pl.length + d = ns.length) : belS ms ns (mskP pl) ms.length (rst ns.length pl.length) = bstV ms ns d pl := by
 refine eq_of_le (belS_never _ _) (bstV_in h _ _).2 (belS_nn h _ _) (bstV_in h _ _).1 fun v h0 hv => ?_
 rw [belS_iff h0 hv, bstV_iff h0 hv d pl hl]
 unfold ExtP
 refine exists_congr fun g => ?_
 refine and_congr ?_ ?_
 ·constructor
  ·intro h1 i hi hn; exact h1 i (by rw [rst_bit]; simp; omega)
  ·intro h1 i hi; rw [rst_bit] at hi; simp at hi; exact h1 i hi.1 hi.2
 ·refine forall_congr' fun j => forall_congr' fun hj => ?_
  rw [cycB_congr fun i _ => by rw [mskP_bit, rst_bit]]
end
end
section
structure Ord (n : Nat) (o : List Int) : Prop where
 nd : o.Nodup
 lt : ∀ x ∈ o, 0 ≤ x ∧ x < n
theorem Ord.nil (n : Nat) : Ord n [] := ⟨List.nodup_nil, fun x h => by simp at h⟩
theorem Ord.snoc {n : Nat} {o : List Int} (h : Ord n o) {q : Nat} (hq : q < n) (hn : (q : Int) ∉ o) : Ord n (o ++ [(q : Int)]) := by
 refine ⟨?_, fun x hx => ?_⟩
 ·rw [List.nodup_append]
  exact ⟨h.nd, by simp, fun a ha b hb => by simp at hb; subst hb; exact fun e => hn (e ▸ ha)⟩
 ·rcases List.mem_append.1 hx with hx | hx
  ·exact h.lt x hx
  ·simp at hx; subst hx; omega
section
variable {τ : Type} (n : Nat) (step : τ → List Int → τ)
def ext : Nat → List Int → τ → τ
 | 0, o, s => step s o
 | d + 1, o, s => (List.range n).foldl (fun (s : τ) (i : Nat) => if (i : Int) ∈ o then s else ext d (o ++ [(i : Int)]) s) s
variable {n step}
end
def usedL (n : Nat) (o : List Int) : List AV := (List.range n).map fun (i : Nat) => avB (decide ((i : Int) ∈ o))
theorem usedL_len (n : Nat) (o : List Int) : (usedL n o).length = n := by simp [usedL]
theorem usedL_get {n : Nat} {o : List Int} {q : Nat} (h : q < n) : (usedL n o)[q]? = some (avB (decide ((q : Int) ∈ o))) := by simp [usedL, h]
theorem usedL_nil (n : Nat) : usedL n [] = List.replicate n (avB false) := by
 apply List.ext_getElem (by simp [usedL])
 intro i h1 h2
 simp [usedL]
theorem usedL_set {n : Nat} {o : List Int} {q : Nat} (h : q < n) : (usedL n o).set q (avB true) = usedL n (o ++ [(q : Int)]) := by
 apply List.ext_getElem (by simp [usedL])
 intro i h1 h2
 rw [List.getElem_set]
 by_cases e : q = i
 ·subst e; simp [usedL]
 ·rw [if_neg e]
  have : ¬ ((i : Int) = (q : Int)) := by omega
  simp [usedL, this]
theorem usedL_make {n m : Nat} (hm : m = n) : (madeCells (Value.bool false).cells (m * 1)).toList.map AV.v = usedL n [] := by
 subst hm
 rw [usedL_nil, Nat.mul_one, show (Value.bool false).cells = #[.bool false] from rfl, toList_madeCells_one]
 simp
def idO (n : Nat) : List Int := (List.range n).map fun (i : Nat) => (i : Int)
theorem idO_len (n : Nat) : (idO n).length = n := by simp [idO]
theorem idO_ord (n : Nat) : Ord n (idO n) := ⟨by
 rw [idO, List.Nodup, List.pairwise_map]
 exact List.Pairwise.imp (fun h e => h (by omega)) List.nodup_range, fun x hx => by
 obtain ⟨i, hi, rfl⟩ := List.mem_map.1 hx
 have := List.mem_range.1 hi
 omega⟩
theorem idO_succ (n : Nat) : idO (n + 1) = idO n ++ [(n : Int)] := by simp [idO, List.range_succ]
theorem perm_of_sub : ∀ {l m : List Int}, l.Nodup → (∀ x ∈ l, x ∈ m) → m.length = l.length → l.Perm m
 | [], m, _, _, hl => by rw [List.eq_nil_of_length_eq_zero hl]
 | x :: r, m, h, hs, hl => by
  have hx := hs x (by simp)
  have hp := List.perm_cons_erase hx
  have := perm_of_sub (l := r) (m := m.erase x) (List.nodup_cons.1 h).2 (fun y hy => (List.mem_erase_of_ne (fun e => by subst e; exact (List.nodup_cons.1 h).1 hy)).2 (hs y (by simp [hy]))) (by rw [List.length_erase_of_mem hx, hl]; simp)
  exact (this.cons x).trans hp.symm
theorem Ord.perm {n : Nat} {l : List Int} (h : Ord n l) (hl : l.length = n) : l.Perm (idO n) := perm_of_sub h.nd (fun x hx => by
 have := h.lt x hx
 exact List.mem_map.2 ⟨x.toNat, List.mem_range.2 (by omega), by omega⟩) (by rw [idO_len, hl])
end
end Go.Proofs.YtcploodfholkkaaGreatDoor
namespace Go.Proofs.YtcploodfholkkaaGreatDoor
open Go.RowKit
set_option maxRecDepth 100000
section
section
variable {α : Type} (lt : α → α → Bool) (d : α)
def OrdL (l : List α) : Prop := l.Pairwise fun a b => lt b a = false
def InvO (l0 : List α) (i : Nat) (l : List α) : Prop := ∃ P R, l = P ++ R ∧ P.length = min i l.length ∧ l.Perm l0 ∧ OrdL lt P
def InvI (l0 : List α) (i j : Nat) (l : List α) : Prop := ∃ P x S R, l = P ++ x :: (S ++ R) ∧ P.length = j ∧ P.length + S.length = i ∧ l.Perm l0 ∧ OrdL lt (P ++ S) ∧ ∀ s ∈ S, lt x s = true
variable {lt d} {l0 l : List α} {i j : Nat}
theorem InvO.len (h : InvO lt l0 i l) : l.length = l0.length := h.choose_spec.choose_spec.2.2.1.length_eq
theorem InvI.len (h : InvI lt l0 i j l) : l.length = l0.length ∧ i < l.length ∧ j ≤ i := by
 obtain ⟨P, x, S, R, h1, h2, h3, h4, _⟩ := h
 refine ⟨h4.length_eq, ?_, by omega⟩
 rw [h1]; simp; omega
theorem InvO.one (l0 : List α) : InvO lt l0 1 l0 := by
 cases l0 with
 | nil => exact ⟨[], [], rfl, by simp, .refl _, .nil⟩
 | cons x r => exact ⟨[x], r, rfl, by simp, .refl _, List.pairwise_singleton _ _⟩
theorem InvO.start (h : InvO lt l0 i l) (hi : i < l.length) : InvI lt l0 i i l := by
 obtain ⟨P, R, h1, h2, h3, h4⟩ := h
 rw [Nat.min_eq_left (by omega)] at h2
 cases R with
 | nil => rw [h1] at hi; simp at hi; omega
 | cons x R => exact ⟨P, x, [], R, h1, h2, by simpa using h2, h3, by simpa using h4, by simp⟩
theorem snocOf {P : List α} (h : 0 < P.length) : ∃ Q y, P = Q ++ [y] := ⟨P.dropLast, P.getLast (by intro e; rw [e] at h; simp at h), (List.dropLast_concat_getLast _).symm⟩
theorem swap_eq {Q T : List α} {x y : α} : ((Q ++ y :: x :: T).set (Q.length + 1) y).set Q.length x = Q ++ x :: y :: T := by
 rw [List.set_append_right _ _ (by omega), show Q.length + 1 - Q.length = 1 by omega, List.set_append_right _ _ (by omega), Nat.sub_self]
 rfl
theorem at0 {Q T : List α} {y : α} : (Q ++ y :: T).getD Q.length d = y := by simp [List.getD_eq_getElem?_getD]
theorem at1 {Q T : List α} {x y : α} : (Q ++ y :: x :: T).getD (Q.length + 1) d = x := by
 simp [List.getD_eq_getElem?_getD, List.getElem?_append_right]
theorem InvI.next (ht : ∀ {a b c : α}, lt a b = true → lt b c = true → lt a c = true) (h : InvI lt l0 i j l) (hj : 0 < j) (hlt : lt (l.getD j d) (l.getD (j - 1) d) = true) :
  InvI lt l0 i (j - 1) ((l.set j (l.getD (j - 1) d)).set (j - 1) (l.getD j d)) := by
 obtain ⟨P, x, S, R, h1, h2, h3, h4, h5, h6⟩ := h
 obtain ⟨Q, y, rfl⟩ := snocOf (P := P) (by omega)
 have hl : l = Q ++ y :: x :: (S ++ R) := by rw [h1]; simp
 have hj' : j = Q.length + 1 := by rw [← h2]; simp
 subst hj'
 rw [hl] at hlt ⊢
 rw [at1, show Q.length + 1 - 1 = Q.length by omega, at0] at hlt
 rw [at1, show Q.length + 1 - 1 = Q.length by omega, at0, swap_eq]
 refine ⟨Q, x, y :: S, R, by simp, rfl, by simp at h3 ⊢; omega, ?_, by simpa using h5, ?_⟩
 ·rw [hl] at h4
  exact ((List.Perm.swap y x (S ++ R)).append_left Q).trans h4
 ·intro s hs
  rcases List.mem_cons.1 hs with rfl | hs
  ·exact hlt
  ·exact h6 s hs
theorem InvI.done (ha : ∀ {a b : α}, lt a b = true → lt b a = false) (hn : ∀ {a b c : α}, lt b a = false → lt c b = false → lt c a = false) (h : InvI lt l0 i j l) (hx : j = 0 ∨ lt (l.getD j d) (l.getD (j - 1) d) = false) : InvO lt l0 (i + 1) l := by
 obtain ⟨P, x, S, R, h1, h2, h3, h4, h5, h6⟩ := h
 refine ⟨P ++ x :: S, R, by rw [h1]; simp, by rw [h1]; simp; omega, h4, ?_⟩
 unfold OrdL at h5 ⊢
 obtain ⟨k1, k2, k3⟩ := List.pairwise_append.1 h5
 refine List.pairwise_append.2 ⟨k1, List.pairwise_cons.2 ⟨fun s hs => ha (h6 s hs), k2⟩, fun a hA b hb => ?_⟩
 rcases List.mem_cons.1 hb with rfl | hb
 ·rcases hx with hx | hx
  ·subst hx; rw [List.eq_nil_of_length_eq_zero h2] at hA; cases hA
  ·obtain ⟨Q, y, rfl⟩ := snocOf (P := P) (List.length_pos_of_mem hA)
   have hl : l = Q ++ y :: b :: (S ++ R) := by rw [h1]; simp
   have hj' : j = Q.length + 1 := by rw [← h2]; simp
   subst hj'
   rw [hl, at1, show Q.length + 1 - 1 = Q.length by omega, at0] at hx
   rcases List.mem_append.1 hA with hA | hA
   ·have := (List.pairwise_append.1 k1).2.2 a hA y (by simp)
    exact hn this hx
   ·simp at hA; subst hA; exact hx
 ·exact k3 a hA b hb
theorem InvO.all (h : InvO lt l0 i l) (hi : l.length ≤ i) : l.Perm l0 ∧ OrdL lt l := by
 obtain ⟨P, R, h1, h2, h3, h4⟩ := h
 rw [Nat.min_eq_right hi] at h2
 have : R = [] := by rw [h1] at h2; simpa using h2
 subst this
 rw [List.append_nil] at h1
 subst h1
 exact ⟨h3, h4⟩
end
end
section
def cmpB (a b : ByteArray) : Int := Lib.compareBytes a.data.toList b.data.toList
theorem strings_Compare_S {a b : ByteArray} : SpecN Tryz.prog 95 [avS a, avS b] (fun y => y = avI (cmpB a b)) := by
 intro w us ha
 rw [argsV2 ha]
 refine (Tryz.strings_Compare a b w).mono ?_
 rintro e w' ⟨rfl, rfl⟩
 exact ⟨_, _, rfl, rfl, .v _, Chg.refl _ _, trivial⟩
theorem bits_Len_S {x : Int} (h0 : 0 ≤ x) (h1 : x ≤ 18446744073709551615) : SpecN Tryz.prog 176 [.v (.int .u64 x)] (fun y => ∃ k : Int, y = avI k) := by
 intro w us ha
 rw [args1 ha]
 refine (Tryz.bits_Len x w h0 h1).mono ?_
 rintro e w' ⟨rfl, rfl⟩
 exact ⟨_, _, ⟨_, rfl⟩, rfl, .v _, Chg.refl _ _, trivial⟩
theorem cmp_lt : ∀ x y : List UInt8, decide (Lib.compareBytes x y < 0) = Op.bytesLess x y
 | [], [] => rfl
 | [], _ :: _ => rfl
 | _ :: _, [] => rfl
 | a :: x, b :: y => by
  unfold Lib.compareBytes Op.bytesLess
  have ih := cmp_lt x y
  by_cases h1 : a < b
  ·simp [h1]
  ·by_cases h2 : b < a
   ·simp [h1, h2]
    intro e; subst e; exact absurd h2 (UInt8.lt_irrefl _)
   ·have e : a = b := UInt8.le_antisymm (UInt8.not_lt.1 h2) (UInt8.not_lt.1 h1)
    subst e
    simp [UInt8.lt_irrefl]
    simpa using ih
theorem cmpB_lt (a b : ByteArray) : decide (cmpB a b < 0) = sLt a b := by
 unfold sLt
 rw [Lib.toList_data, Lib.toList_data]
 exact cmp_lt _ _
theorem cmp_eq : ∀ {x y : List UInt8}, Lib.compareBytes x y = 0 ↔ x = y
 | [], [] => by simp [Lib.compareBytes]
 | [], _ :: _ => by simp [Lib.compareBytes]
 | _ :: _, [] => by simp [Lib.compareBytes]
 | a :: x, b :: y => by
  unfold Lib.compareBytes
  by_cases h1 : a < b
  ·simp [h1]
   intro e; subst e; exact absurd h1 (UInt8.lt_irrefl _)
  ·by_cases h2 : b < a
   ·simp [h1, h2]
    intro e; subst e; exact absurd h2 (UInt8.lt_irrefl _)
   ·have e : a = b := UInt8.le_antisymm (UInt8.not_lt.1 h2) (UInt8.not_lt.1 h1)
    subst e
    simp [UInt8.lt_irrefl, cmp_eq]
theorem cmpB_eq {a b : ByteArray} : cmpB a b = 0 ↔ a = b := by
 unfold cmpB
 rw [cmp_eq]
 constructor
 ·intro h
  cases a; cases b
  simpa using h
 ·intro h; rw [h]
theorem sLt_asym {a b : ByteArray} (h : sLt a b = true) : sLt b a = false := by
 cases e : sLt b a with
 | false => rfl
 | true => have := sLt_trans h e; rw [sLt_irr] at this; cases this
theorem sLt_total {a b : ByteArray} (h : sLt a b = false) (hne : a ≠ b) : sLt b a = true := by
 unfold sLt at h ⊢
 rw [Lib.toList_data, Lib.toList_data] at h ⊢
 exact bl_total h fun e => hne (by cases a; cases b; simpa using e)
section
variable {α : Type} {k : α → ByteArray}
end
end
section
def mE {κ α : Type} (kv : κ → Value) (E : α → AV) : List (κ × α) → Nat → List (Value × AV × Nat)
 | [], _ => []
 | p :: r, j => (kv p.1, E p.2, j) :: mE kv E r (j + 1)
abbrev mapE {κ α : Type} (kv : κ → Value) (g : Nat) (E : α → AV) (l : List (κ × α)) : Ent := .mp g (mE kv E l 0) l.length
def mget {κ α : Type} [DecidableEq κ] : List (κ × α) → κ → Option α
 | [], _ => none
 | p :: r, k => if k = p.1 then some p.2 else mget r k
def mput {κ α : Type} [DecidableEq κ] : List (κ × α) → κ → α → List (κ × α)
 | [], k, x => [(k, x)]
 | p :: r, k, x => if k = p.1 then (k, x) :: r else p :: mput r k x
def mpos {κ α : Type} [DecidableEq κ] : List (κ × α) → κ → Nat
 | [], _ => 0
 | p :: r, k => if k = p.1 then 0 else mpos r k + 1
section
variable {κ α : Type} {kv : κ → Value} {E : α → AV}
theorem mE_len : ∀ (l : List (κ × α)) (i : Nat), (mE kv E l i).length = l.length
 | [], _ => rfl
 | _ :: r, i => by simp [mE, mE_len r]
theorem mE_get : ∀ (l : List (κ × α)) (i j : Nat) (h : j < l.length), (mE kv E l i)[j]? = some (kv (l[j]).1, E (l[j]).2, i + j)
 | [], _, _, h => by simp at h
 | p :: r, i, 0, _ => by simp [mE]
 | p :: r, i, j + 1, h => by
  simp only [mE, List.getElem?_cons_succ, List.getElem_cons_succ]
  rw [mE_get r (i + 1) j (by simpa using h)]
  congr 3; omega
theorem mE_born : ∀ (l : List (κ × α)) (i : Nat), (mE kv E l i).map (·.2.2) = List.range' i l.length
 | [], _ => rfl
 | p :: r, i => by simp [mE, mE_born r, List.range'_succ]
variable [DecidableEq κ]
theorem mpos_le : ∀ (l : List (κ × α)) (k : κ), mpos l k ≤ l.length
 | [], _ => Nat.le_refl _
 | p :: r, k => by
  have := mpos_le r k
  simp only [mpos, List.length_cons]; split <;> omega
theorem mget_pos : ∀ (l : List (κ × α)) (k : κ), mget l k = (l[mpos l k]?).map (·.2)
 | [], _ => rfl
 | p :: r, k => by
  simp only [mget, mpos]
  split
  ·rfl
  ·rw [mget_pos r k]; simp
theorem mpos_key : ∀ (l : List (κ × α)) (k : κ) (h : mpos l k < l.length), (l[mpos l k]).1 = k
 | [], _, h => by simp at h
 | p :: r, k, h => by
  by_cases e : k = p.1
  ·simp [mpos, e]
  ·simp only [mpos, if_neg e, List.getElem_cons_succ]
   exact mpos_key r k (by simp only [mpos, if_neg e, List.length_cons] at h; omega)
theorem mpos_ne : ∀ (l : List (κ × α)) (k : κ) (j : Nat) (h : j < mpos l k), ∃ h' : j < l.length, (l[j]).1 ≠ k
 | [], _, j, h => by simp [mpos] at h
 | p :: r, k, j, h => by
  by_cases e : k = p.1
  ·simp [mpos, e] at h
  ·simp only [mpos, if_neg e] at h
   cases j with
   | zero => exact ⟨by simp, fun h' => e h'.symm⟩
   | succ j => obtain ⟨h1, h2⟩ := mpos_ne r k j (by omega); exact ⟨by simpa using h1, by simpa using h2⟩
theorem mput_new : ∀ (l : List (κ × α)) (k : κ) (x : α), mpos l k = l.length → mput l k x = l ++ [(k, x)]
 | [], _, _, _ => rfl
 | p :: r, k, x, h => by
  by_cases e : k = p.1
  ·simp [mpos, e] at h
  ·simp only [mpos, if_neg e, List.length_cons] at h
   simp only [mput, if_neg e, List.cons_append]
   rw [mput_new r k x (by omega)]
theorem mput_old : ∀ (l : List (κ × α)) (k : κ) (x : α), mpos l k < l.length → mput l k x = l.set (mpos l k) (k, x)
 | [], _, _, h => by simp at h
 | p :: r, k, x, h => by
  by_cases e : k = p.1
  ·simp [mput, mpos, e]
  ·simp only [mpos, if_neg e, List.length_cons] at h
   simp only [mput, mpos, if_neg e, List.set_cons_succ]
   rw [mput_old r k x (by omega)]
theorem mput_len (l : List (κ × α)) (k : κ) (x : α) : (mput l k x).length = if mpos l k < l.length then l.length else l.length + 1 := by
 split
 ·rename_i h; rw [mput_old l k x h]; simp
 ·rename_i h; rw [mput_new l k x (by have := mpos_le l k; omega)]; simp
end
structure KeyOk (P : Program) (kt : TypeId) {κ : Type} [DecidableEq κ] (kv : κ → Value) : Prop where
 check : ∀ (e : Bool) (k : κ) (w : World), (Instr.checkKey e 10000 kt (kv k)).run P w = .ok () w
 find : ∀ {α : Type} (l : List (κ × α)) (c : List MapEntry) (k : κ) (w : World), c.length = l.length → (∀ j (h : j < l.length), ∃ e, c[j]? = some e ∧ e.key = kv (l[j]).1) →
  (Instr.findKey kt (kv k) c).run P w = .ok (if mpos l k < l.length then (c[mpos l k]?).map fun e => (mpos l k, e.val) else none) w
 stay : ∀ (k : κ) (w : World), (Instr.keyThatStays (kv k) (kv k)).run P w = .ok (kv k) w
theorem findNow_str {α : Type} : ∀ (l : List (ByteArray × α)) (c : List MapEntry) (k : ByteArray), c.length = l.length → (∀ j (h : j < l.length), ∃ e, c[j]? = some e ∧ e.key = .string (l[j]).1) →
  ∀ i, Instr.findNow .string (.string k) c i = some (if mpos l k < l.length then (c[mpos l k]?).map fun e => (i + mpos l k, e.val) else none)
 | [], c, k, hl, h, i => by
  have : c = [] := List.eq_nil_of_length_eq_zero (by simpa using hl)
  subst this; rfl
 | p :: r, [], k, hl, h, i => by simp at hl
 | p :: r, e :: c, k, hl, h, i => by
  obtain ⟨e0, h1, h2⟩ := h 0 (by simp)
  simp at h1 h2
  subst h1
  simp only [Instr.findNow, h2, Instr.sameNow]
  by_cases ek : k = p.1
  ·have : (k == p.1) = true := by rw [bA_beq]; exact decide_eq_true ek
   rw [this]
   simp [mpos, ek]
  ·have : (k == p.1) = false := by rw [bA_beq]; exact decide_eq_false ek
   rw [this]
   simp only
   rw [findNow_str r c k (by simpa using hl) (fun j hj => h (j + 1) (Nat.succ_lt_succ hj)) (i + 1)]
   simp only [mpos, if_neg ek, List.length_cons, Nat.add_lt_add_iff_right, List.getElem?_cons_succ]
   rw [show i + 1 + mpos r k = i + (mpos r k + 1) by omega]
theorem KeyOk.str {P : Program} {kt : TypeId} (hk : P.underlying kt = some .string) : KeyOk P kt (fun k : ByteArray => Value.string k) where
 check e k w := by
  rw [show (10000 : Nat) = 9999 + 1 from rfl, Instr.checkKey]
  simp only [Sem.run_bind, run_underlying hk, Result.andThen_ok, Sem.run_pure]
 find l c k w hl h := by
  have := findNow_str l c k hl h 0
  simp only [Nat.zero_add] at this
  simp only [Instr.findKey, Sem.run_bind, run_underlying hk, Result.andThen_ok, this, Sem.run_pure]
 stay k w := by
  have : Instr.sameBits 10000 (.string k) (.string k) = true := by
   simp only [Instr.sameBits, bA_beq, decide_true]
  simp [Instr.keyThatStays, this]
end
section
theorem getMap {P : Program} {w : World} {r : Nat} {es : Array MapEntry} {clock : Nat} (hb : w.heap[r]? = some (.map es clock)) : (getObj r).run P w = .ok (.map es clock) w := by
 simp [getObj, Sem.run, hb]
theorem putMap {P : Program} {w : World} {r : Nat} {es : Array MapEntry} {clock : Nat} (c : Array MapEntry) (clk : Nat) (hb : w.heap[r]? = some (.map es clock)) : (setObj r (.map c clk)).run P w = .ok () { w with heap := w.heap.setIfInBounds r (.map c clk) } := by
 simp [setObj, Sem.run, hb]
def _root_.Go.World.setMp (w : World) (g : Nat) (c : Array MapEntry) (clk : Nat) : World := { w with heap := w.heap.setIfInBounds g (.map c clk) }
theorem setMp_heap (w : World) (g : Nat) (c c' : Array MapEntry) (clk clk' : Nat) (h : w.heap[g]? = some (.map c clk)) : (w.setMp g c' clk').heap[g]? = some (.map c' clk') := by
 have := (Array.getElem?_eq_some_iff.1 h).1
 simp [World.setMp, this]
theorem setMp_other (w : World) (g b : Nat) (c' : Array MapEntry) (clk' : Nat) (h : b ≠ g) : (w.setMp g c' clk').heap[b]? = w.heap[b]? := by
 simp only [World.setMp]
 exact Array.getElem?_setIfInBounds_ne (fun e => h e.symm)
theorem chg_setMp (w : World) (g : Nat) (c : Array MapEntry) (clk : Nat) : Chg (fun b => some g = some b) w (w.setMp g c clk) :=
 ⟨rfl, rfl, rfl, by simp [World.setMp], fun k _ hk => setMp_other w g k c clk (fun e => hk (by rw [e]))⟩
section
variable {P : Program} {B : Bs} {W : Nat → Prop} {s s' : St'} {o : Oper} {K : St' → Prop} {a : Act} {w w' : World}
variable {κ α : Type} {kv : κ → Value} {E : α → AV}
def KeyE (B : Bs) (s : St') (x : Operand) (v : Value) : Prop := ∀ a w, R B s a w → a.eval x = v
theorem KeyE.v {x : Operand} {v : Value} (h : evO s x = some (.v v)) : KeyE B s x v := fun a w hr => hr.evv h
theorem KeyE.agg2 {x : Operand} {v1 v2 : Value} (h : evO s x = some (.agg [.v v1, .v v2])) : KeyE B s x (.agg #[v1, v2]) := fun a w hr => by
 have := hr.ev h
 generalize hv : a.eval x = u at this
 cases this with
 | agg cs us hl hr =>
  have h0 := (hr 0 (by simp)).eq_v
  have h1 := (hr 1 (by simp)).eq_v
  simp at hl
  congr 1
  apply Array.ext (by simp [hl])
  intro i hi1 hi2
  simp [hl] at hi1
  match i, hi1 with
  | 0, _ => simpa [hl] using h0
  | 1, _ => simpa [hl] using h1
theorem EntR.toMap {g : Nat} {l : List (κ × α)} {Z : Nat → Prop} (h : EntR w Z (mapE kv g E l)) : ∃ c : Array MapEntry, w.heap[g]? = some (.map c l.length) ∧ c.size = l.length ∧ ∀ j (hj : j < l.length), (c[j]!).key = kv (l[j]).1 ∧ (c[j]!).born = j ∧ Rep w Z (E (l[j]).2) (c[j]!).val := by
 obtain ⟨c, h1, h2, h3, h4⟩ := h
 rw [mE_len] at h2
 refine ⟨c, h1, h2, fun j hj => ?_⟩
 obtain ⟨k1, k2, k3, k4⟩ := h4 j (by rw [mE_len]; exact hj)
 have e := mE_get (kv := kv) (E := E) l 0 j hj
 rw [List.getElem?_eq_getElem (by rw [mE_len]; exact hj)] at e
 have e := Option.some.inj e
 rw [e] at k1 k2 k4
 exact ⟨k1, by simpa using k2, k4⟩
theorem EntR.ofMap {g : Nat} {l : List (κ × α)} {Z : Nat → Prop} {c : Array MapEntry} (h1 : w.heap[g]? = some (.map c l.length)) (h2 : c.size = l.length) (h3 : ∀ j (hj : j < l.length), (c[j]!).key = kv (l[j]).1 ∧ (c[j]!).born = j ∧ Rep w Z (E (l[j]).2) (c[j]!).val) : EntR w Z (mapE kv g E l) := by
 refine ⟨c, h1, by rw [mE_len]; exact h2, by rw [mE_born]; exact List.nodup_range', fun j hj => ?_⟩
 have hj' := hj
 rw [mE_len] at hj'
 have e := mE_get (kv := kv) (E := E) l 0 j hj'
 rw [List.getElem?_eq_getElem hj] at e
 have e := Option.some.inj e
 rw [e]
 obtain ⟨k1, k2, k3⟩ := h3 j hj'
 exact ⟨k1, by simp [k2], by simpa using hj', k3⟩
theorem map_find [DecidableEq κ] {kt : TypeId} (hk : KeyOk P kt kv) {l : List (κ × α)} {Z : Nat → Prop} {c : Array MapEntry} (h2 : c.size = l.length) (h3 : ∀ j (hj : j < l.length), (c[j]!).key = kv (l[j]).1 ∧ (c[j]!).born = j ∧ Rep w Z (E (l[j]).2) (c[j]!).val) (k : κ) (w0 : World) :
  (Instr.findKey kt (kv k) c.toList).run P w0 = .ok (if mpos l k < l.length then some (mpos l k, (c[mpos l k]!).val) else none) w0 := by
 have := hk.find l c.toList k w0 (by simpa using h2) (fun j hj => ⟨c[j]!, by rw [Array.getElem?_toList, getElem!_pos c j (by omega)]; exact Array.getElem?_eq_getElem _, (h3 j hj).1⟩)
 rw [this]
 split
 ·rename_i h
  rw [Array.getElem?_toList, getElem!_pos c _ (by omega), Array.getElem?_eq_getElem (by omega)]
  rfl
 ·rfl
theorem OpE.makeMap {t : TypeId} (kv : κ → Value) (E : α → AV) (ho : o.op = .makeMap t none) (hB : B.Ok) (hd : okd B.nt o.dst = true)
  (hK : ∀ g, K ((St'.mk s.sl (s.hp ++ [mapE kv g E []]) s.k).put o.dst (.v (.map (some g))))) : OpE P B W s o K := by
 intro a w hr next Qx hn
 have h1 := hr.new hB (.map #[] 0) (mapE kv w.heap.size E []) rfl (EntR.ofMap (l := ([] : List (κ × α))) (c := #[]) (heap_alloc_new w _) rfl fun j hj => by simp at hj)
 have hrun : (execOp a.eval o).run P w = .ok (.value (.map (some w.heap.size))) (w.alloc (.map #[] 0)) := by
  simp [execOp, ho, Instr.makeMap, run_newObj_alloc]
 unfold Oper.wp
 rw [hrun]
 exact hn _ _ _ (hK _) (h1.put _ hd _ _ (.v _)) (.ofN ((Chg.refl _ _).alloc _))
theorem OpV.lookup_own [DecidableEq κ] {x y : Operand} {T kt e g i : Nat} {k : κ} {l : List (κ × α)} {z : Value} (ho : o.op = .lookup T x y false) (hB : B.Ok) (hu : P.underlying T = some (.map kt e)) (hko : KeyOk P kt kv) (hz : ∀ w, (zeroValue e).run P w = .ok z w)
  (hx : evO s x = some (.v (.map (some g)))) (hk : KeyE B s y (kv k)) (hi : s.hp[i]? = some (mapE kv g E l)) (hW : ¬ W g) : OpV P B W s o (match mget l k with | some v => E v | none => .v z) := fun a w hr => by
 have hm := List.mem_of_getElem? hi
 obtain ⟨c, h1, h2, h3⟩ := EntR.toMap (hr.blocks _ hm)
 have hf := map_find hko h2 h3 k
 have hg := mget_pos l k
 have hle := mpos_le l k
 by_cases hp : mpos l k < l.length
 ·have e : mget l k = some (l[mpos l k]).2 := by rw [hg, List.getElem?_eq_getElem hp]; rfl
  rw [e]
  refine ⟨(c[mpos l k]!).val, fun w' hcw => ?_, (h3 _ hp).2.2⟩
  have h1' : w'.heap[g]? = some (.map c l.length) := (hcw.block g (hr.lt _ hm g rfl) fun h => h.elim (hr.notStr hB hm rfl) hW).trans h1
  simp [execOp, ho, Instr.lookup, run_underlying hu, hr.evv hx, hk a w hr, getMap h1', hko.check, hf, hp]
 ·have e : mget l k = none := by rw [hg, List.getElem?_eq_none (by omega)]; rfl
  rw [e]
  refine ⟨z, fun w' hcw => ?_, .v _⟩
  have h1' : w'.heap[g]? = some (.map c l.length) := (hcw.block g (hr.lt _ hm g rfl) fun h => h.elim (hr.notStr hB hm rfl) hW).trans h1
  simp [execOp, ho, Instr.lookup, run_underlying hu, hr.evv hx, hk a w hr, getMap h1', hko.check, hf, hp, hz]
theorem modify_at {c : Array MapEntry} {i j : Nat} {f : MapEntry → MapEntry} (h : j < c.size) : (c.modify i f)[j]! = if i = j then f (c[j]!) else c[j]! := by
 rw [getElem!_pos _ j (by simpa using h), getElem!_pos c j h, Array.getElem_modify]
theorem push_at {c : Array MapEntry} {j : Nat} {x : MapEntry} (h : j < c.size + 1) : (c.push x)[j]! = if j < c.size then c[j]! else x := by
 rw [getElem!_pos _ j (by simpa using h), Array.getElem_push]
 split
 ·rename_i h1; rw [getElem!_pos c j h1]
 ·rfl
theorem R.setMap (hB : B.Ok) (hr : R B s a w) {i g : Nat} {l l' : List (κ × α)} {c c' : Array MapEntry} (hi : s.hp[i]? = some (mapE kv g E l)) (h1 : w.heap[g]? = some (.map c l.length)) (h2' : c'.size = l'.length)
  (h3' : ∀ j (hj : j < l'.length), (c'[j]!).key = kv (l'[j]).1 ∧ (c'[j]!).born = j ∧ Rep w (Zn B s.hp w) (E (l'[j]).2) (c'[j]!).val) : R B ⟨s.sl, s.hp.set i (mapE kv g E l'), s.k⟩ a (w.setMp g c' l'.length) := by
 have hm := List.mem_of_getElem? hi
 refine hr.set hB hi (chg_setMp w g c' l'.length) (.inl rfl) (EntR.ofMap (setMp_heap w g c c' _ _ h1) h2' fun j hj => ?_)
 obtain ⟨k1, k2, k3⟩ := h3' j hj
 refine ⟨k1, k2, k3.keep fun b hb hbl => ⟨setMp_other w g b c' _ fun e => hb.2.1 _ hm (by rw [e]; rfl), by simp [World.setMp]; exact hbl, fun p hp => ?_, hb.2.2⟩⟩
 rcases List.mem_or_eq_of_mem_set hp with hp | hp
 ·exact hb.2.1 p hp
 ·subst hp; exact hb.2.1 (mapE kv g E l) hm
theorem OpE.mapUpdate [DecidableEq κ] {x y v : Operand} {T kt e g i : Nat} {k : κ} {xx : α} {l : List (κ × α)} (ho : o.op = .mapUpdate T x y v) (hB : B.Ok) (hd : okd B.nt o.dst = true) (hu : P.underlying T = some (.map kt e)) (hko : KeyOk P kt kv)
  (hx : evO s x = some (.v (.map (some g)))) (hk : KeyE B s y (kv k)) (hv : evO s v = some (E xx)) (hi : s.hp[i]? = some (mapE kv g E l)) (hW : W g)
  (hK : K ((St'.mk s.sl (s.hp.set i (mapE kv g E (mput l k xx))) s.k).put o.dst (.v undef))) : OpE P B W s o K := by
 intro a w hr next Qx hn
 have hm := List.mem_of_getElem? hi
 obtain ⟨c, h1, h2, h3⟩ := EntR.toMap (hr.blocks _ hm)
 have hf := map_find hko h2 h3 k w
 have hle := mpos_le l k
 have hvv := hr.ev hv
 generalize hu' : a.eval v = u at hvv
 by_cases hp : mpos l k < l.length
 ·have hput := mput_old l k xx hp
  have hkey : (((c[mpos l k]?).map (·.key)).getD (kv k)) = kv k := by
   rw [Array.getElem?_eq_getElem (by omega)]
   have := (h3 _ hp).1
   rw [getElem!_pos c _ (by omega)] at this
   simp only [Option.map_some, Option.getD_some, this, mpos_key l k hp]
  have hr' := hr.setMap hB (l' := mput l k xx) (c' := c.modify (mpos l k) fun e => { e with key := kv k, val := u }) hi h1 (by rw [hput]; simp [h2]) (fun j hj => by
   have hj' : j < l.length := by rw [hput] at hj; simpa using hj
   simp only [hput]
   rw [modify_at (by omega)]
   by_cases ej : mpos l k = j
   ·rw [if_pos ej]
    subst ej
    exact ⟨by simp, (h3 _ hp).2.1, by simpa using hvv⟩
   ·rw [if_neg ej, List.getElem_set_ne ej]
    exact h3 j hj')
  have hlen : (mput l k xx).length = l.length := by rw [hput]; simp
  have hrun : (execOp a.eval o).run P w = .ok .skip (w.setMp g (c.modify (mpos l k) fun e => { e with key := kv k, val := u }) (mput l k xx).length) := by
   simp [execOp, ho, Instr.mapUpdate, run_underlying hu, hr.evv hx, hk a w hr, getMap h1, hko.check, hf, hp, hkey, hko.stay, hu', putMap _ _ h1, hlen, World.setMp]
  unfold Oper.wp
  rw [hrun]
  exact hn _ _ _ hK (hr'.put _ hd _ _ (.v _)) ((chg_setMp w g _ _).mono fun b _ h => .inr (by cases h; exact hW))
 ·have hput := mput_new l k xx (by omega)
  have hr' := hr.setMap hB (l' := mput l k xx) (c' := c.push { key := kv k, val := u, born := l.length }) hi h1 (by rw [hput]; simp [h2]) (fun j hj => by
   have hj' : j < l.length + 1 := by rw [hput] at hj; simpa using hj
   simp only [hput]
   rw [push_at (by omega)]
   by_cases ej : j < l.length
   ·rw [if_pos (by omega), List.getElem_append_left ej]
    exact h3 j ej
   ·obtain rfl : j = l.length := by omega
    rw [if_neg (by omega)]
    simpa using hvv)
  have hlen : (mput l k xx).length = l.length + 1 := by rw [hput]; simp
  have hrun : (execOp a.eval o).run P w = .ok .skip (w.setMp g (c.push { key := kv k, val := u, born := l.length }) (mput l k xx).length) := by
   simp [execOp, ho, Instr.mapUpdate, run_underlying hu, hr.evv hx, hk a w hr, getMap h1, hko.check, hf, hp, hu', putMap _ _ h1, hlen, World.setMp]
  unfold Oper.wp
  rw [hrun]
  exact hn _ _ _ hK (hr'.put _ hd _ _ (.v _)) ((chg_setMp w g _ _).mono fun b _ h => .inr (by cases h; exact hW))
def mgetD [DecidableEq κ] (l : List (κ × α)) (k : κ) (z : α) : α := (mget l k).getD z
end
end
section
inductive EqFs (P : Program) : Nat → List Field → List AV → List AV → Bool → Prop where
 | nil (off : Nat) : EqFs P off [] [] [] true
 | int {off : Nat} {f : Field} {fs : List Field} {k k' : IntKind} {a b : Int} {xs ys : List AV} {r : Bool} (hu : P.underlying f.type = some (.int k')) (hag : ∀ w, (isAgg f.type).run P w = .ok false w) (ho : f.offset = off) (hn : f.name ≠ "_") (h : EqFs P (off + 1) fs xs ys r) :
   EqFs P off (f :: fs) (.v (.int k a) :: xs) (.v (.int k b) :: ys) (decide (a = b) && r)
 | str {off : Nat} {f : Field} {fs : List Field} {a b : ByteArray} {xs ys : List AV} {r : Bool} (hu : P.underlying f.type = some .string) (hag : ∀ w, (isAgg f.type).run P w = .ok false w) (ho : f.offset = off) (hn : f.name ≠ "_") (h : EqFs P (off + 1) fs xs ys r) :
   EqFs P off (f :: fs) (.v (.string a) :: xs) (.v (.string b) :: ys) (sEq a b && r)
 | bool {off : Nat} {f : Field} {fs : List Field} {a b : Bool} {xs ys : List AV} {r : Bool} (hu : P.underlying f.type = some .bool) (hag : ∀ w, (isAgg f.type).run P w = .ok false w) (ho : f.offset = off) (hn : f.name ≠ "_") (h : EqFs P (off + 1) fs xs ys r) :
   EqFs P off (f :: fs) (.v (.bool a) :: xs) (.v (.bool b) :: ys) ((a == b) && r)
theorem EqFs.run {P : Program} {w : World} {Z : Nat → Prop} {us vs : Array Value} {d : Nat} : ∀ {off : Nat} {fs : List Field} {xs ys : List AV} {r : Bool}, EqFs P off fs xs ys r →
  (∀ j, (h : j < xs.length) → off + j < us.size ∧ Rep w Z xs[j] (us.getD (off + j) undef)) → (∀ j, (h : j < ys.length) → off + j < vs.size ∧ Rep w Z ys[j] (vs.getD (off + j) undef)) → ∀ w', (Op.eqFields (d + 1) us vs fs).run P w' = .ok r w' := by
 intro off fs xs ys r h
 have cellP : ∀ (t : TypeId) (us : Array Value) (off : Nat) (v : Value) (w' : World), (∀ w, (isAgg t).run P w = .ok false w) → off < us.size → us.getD off undef = v → (part t us off).run P w' = .ok v w' := fun t us off v w' hag hl hv => by
  have : us[off]? = some v := by rw [← hv, Array.getD_eq_getD_getElem?, Array.getElem?_eq_getElem hl]; rfl
  simp [part, hag, this]
 have sh : ∀ n j : Nat, n + (j + 1) = n + 1 + j := fun n j => by omega
 induction h with
 | nil off => intro _ _ w'; rfl
 | int hu hag ho hn h ih =>
  intro h1 h2 w'
  obtain ⟨k1, k2⟩ := h1 0 (by simp)
  obtain ⟨k3, k4⟩ := h2 0 (by simp)
  subst ho
  have e1 := cellP _ us _ _ w' hag k1 k2.eq_v
  have e2 := cellP _ vs _ _ w' hag k3 k4.eq_v
  have ih' := ih (fun j hj => by have := h1 (j + 1) (by simpa using hj); rw [sh] at this; exact this) (fun j hj => by have := h2 (j + 1) (by simpa using hj); rw [sh] at this; exact this) w'
  simp only [Nat.add_zero] at e1 e2
  rename_i a b _ _ _
  have e3 := fun k => run_equalIn_int (P := P) w' d _ k _ a b hu
  simp only [Op.eqFields, hn, ne_eq, not_false_eq_true, if_true, Sem.run_bind, e1, e2, e3, Result.andThen_ok]
  by_cases hab : a = b
  ·subst hab; simpa using ih'
  ·simp [hab]
 | str hu hag ho hn h ih =>
  intro h1 h2 w'
  obtain ⟨k1, k2⟩ := h1 0 (by simp)
  obtain ⟨k3, k4⟩ := h2 0 (by simp)
  subst ho
  have e1 := cellP _ us _ _ w' hag k1 k2.eq_v
  have e2 := cellP _ vs _ _ w' hag k3 k4.eq_v
  have ih' := ih (fun j hj => by have := h1 (j + 1) (by simpa using hj); rw [sh] at this; exact this) (fun j hj => by have := h2 (j + 1) (by simpa using hj); rw [sh] at this; exact this) w'
  simp only [Nat.add_zero] at e1 e2
  rename_i a b _ _ _
  have e3 := run_equalIn_string (P := P) w' d _ a b hu
  simp only [Op.eqFields, hn, ne_eq, not_false_eq_true, if_true, Sem.run_bind, e1, e2, e3, Result.andThen_ok]
  cases hab : sEq a b with
  | true => unfold sEq at hab; rw [hab]; simpa using ih'
  | false => unfold sEq at hab; rw [hab]; simp
 | bool hu hag ho hn h ih =>
  intro h1 h2 w'
  obtain ⟨k1, k2⟩ := h1 0 (by simp)
  obtain ⟨k3, k4⟩ := h2 0 (by simp)
  subst ho
  have e1 := cellP _ us _ _ w' hag k1 k2.eq_v
  have e2 := cellP _ vs _ _ w' hag k3 k4.eq_v
  have ih' := ih (fun j hj => by have := h1 (j + 1) (by simpa using hj); rw [sh] at this; exact this) (fun j hj => by have := h2 (j + 1) (by simpa using hj); rw [sh] at this; exact this) w'
  simp only [Nat.add_zero] at e1 e2
  rename_i a b _ _ _
  have e3 := run_equalIn_bool' (P := P) w' d _ a b hu
  simp only [Op.eqFields, hn, ne_eq, not_false_eq_true, if_true, Sem.run_bind, e1, e2, e3, Result.andThen_ok]
  cases hab : (a == b) with
  | true => simpa using ih'
  | false => simp
section
variable {P : Program} {B : Bs} {W : Nat → Prop} {s : St'} {o : Oper}
theorem agg_eq {w : World} {Z : Nat → Prop} {t : TypeId} {xs ys : List AV} {u v : Value} {r : Bool} (hu : P.underlying t = some (.struct (P.fieldsOf t))) (hs : P.stoodInHeld t = false) (h : EqFs P 0 (P.fieldsOf t).toList xs ys r) (hx : Rep w Z (.agg xs) u) (hy : Rep w Z (.agg ys) v) :
  ∃ us vs, u = .agg us ∧ v = .agg vs ∧ ∀ w', (Op.equalIn 10000 t u v).run P w' = .ok r w' := by
 cases hx with
 | agg _ us l1 r1 =>
  cases hy with
  | agg _ vs l2 r2 =>
   refine ⟨us, vs, rfl, rfl, fun w' => ?_⟩
   rw [run_equalIn_struct w' 9999 t us vs hu hs]
   exact h.run (w := w) (Z := Z) (fun j hj => ⟨by omega, by rw [Nat.zero_add]; exact r1 j hj⟩) (fun j hj => ⟨by omega, by rw [Nat.zero_add]; exact r2 j hj⟩) w'
theorem OpV.aneq {x y : Operand} {t u : TypeId} {xs ys : List AV} {r : Bool} (ho : o.op = .binOp .neq t x y u) (hu : P.underlying t = some (.struct (P.fieldsOf t))) (hs : P.stoodInHeld t = false) (hg : P.eqGuardType P.depth t = false)
  (hx : evO s x = some (.agg xs)) (hy : evO s y = some (.agg ys)) (h : EqFs P 0 (P.fieldsOf t).toList xs ys r) : OpV P B W s o (avB (!r)) := fun a w hr => by
 obtain ⟨us, vs, e1, e2, e3⟩ := agg_eq hu hs h (hr.ev hx) (hr.ev hy)
 rw [e1, e2] at e3
 refine ⟨_, fun w' _ => ?_, .v _⟩
 simp only [execOp, ho, e1, e2, Sem.run_bind, run_eqGuard_agg w' _ t x y us vs hg, run_neq_struct, e3, Result.andThen_ok, Sem.run_pure]
end
end
section
abbrev kv2 : ByteArray × ByteArray → Value := fun k => .agg #[.string k.1, .string k.2]
theorem sEq_dec (a b : ByteArray) : sEq a b = decide (a = b) := by
 by_cases h : a = b
 ·rw [decide_eq_true h]; exact sEq_eq.2 h
 ·rw [decide_eq_false h]
  cases e : sEq a b with
  | false => rfl
  | true => exact absurd (sEq_eq.1 e) h
section
variable {P : Program} {kt : TypeId} {f1 f2 : Field} (hu : P.underlying kt = some (.struct (P.fieldsOf kt))) (hs : P.stoodInHeld kt = false) (hf : P.fieldsOf kt = #[f1, f2]) (h1 : P.underlying f1.type = some .string) (h2 : P.underlying f2.type = some .string)
 (a1 : ∀ w, (isAgg f1.type).run P w = .ok false w) (a2 : ∀ w, (isAgg f2.type).run P w = .ok false w) (o1 : f1.offset = 0) (o2 : f2.offset = 1) (n1 : f1.name ≠ "_") (n2 : f2.name ≠ "_")
include hu hs hf h1 h2 a1 a2 o1 o2 n1 n2
theorem key2_eq (k k' : ByteArray × ByteArray) (w : World) : (Op.equal kt (kv2 k) (kv2 k')).run P w = .ok (decide (k = k')) w := by
 have hE : EqFs P 0 (P.fieldsOf kt).toList [avS k.1, avS k.2] [avS k'.1, avS k'.2] (sEq k.1 k'.1 && (sEq k.2 k'.2 && true)) := by
  rw [hf]
  exact EqFs.str h1 a1 o1 n1 (EqFs.str h2 a2 o2 n2 (EqFs.nil _))
 have rep : ∀ q : ByteArray × ByteArray, Rep w (fun _ => True) (.agg [avS q.1, avS q.2]) (kv2 q) := fun q => .agg _ _ rfl fun j hj => by
  match j, hj with
  | 0, _ => exact .v _
  | 1, _ => exact .v _
 obtain ⟨us, vs, e1, e2, e3⟩ := agg_eq hu hs hE (rep k) (rep k')
 have := e3 w
 have e4 : (sEq k.1 k'.1 && (sEq k.2 k'.2 && true)) = decide (k = k') := by
  rw [sEq_dec, sEq_dec, Bool.and_true]
  obtain ⟨a, b⟩ := k
  obtain ⟨c, d⟩ := k'
  simp [Prod.mk.injEq]
 rw [e4] at this
 exact this
theorem asking2 {α : Type} : ∀ (l : List ((ByteArray × ByteArray) × α)) (c : List MapEntry) (k : ByteArray × ByteArray) (w : World) (i : Nat), c.length = l.length → (∀ j (h : j < l.length), ∃ e, c[j]? = some e ∧ e.key = kv2 (l[j]).1) →
  (Instr.findAsking kt (kv2 k) c i).run P w = .ok (if mpos l k < l.length then (c[mpos l k]?).map fun e => (i + mpos l k, e.val) else none) w
 | [], c, k, w, i, hl, h => by
  have : c = [] := List.eq_nil_of_length_eq_zero (by simpa using hl)
  subst this; rfl
 | p :: r, [], k, w, i, hl, h => by simp at hl
 | p :: r, e :: c, k, w, i, hl, h => by
  obtain ⟨e0, g1, g2⟩ := h 0 (by simp)
  simp at g1 g2
  subst g1
  have hq := key2_eq hu hs hf h1 h2 a1 a2 o1 o2 n1 n2 k p.1 w
  simp only [Instr.findAsking, Sem.run_bind, g2, hq, Result.andThen_ok]
  by_cases ek : k = p.1
  ·simp [mpos, ek]
  ·simp only [ek, decide_false, Bool.false_eq_true, if_false]
   rw [asking2 r c k w (i + 1) (by simpa using hl) (fun j hj => h (j + 1) (Nat.succ_lt_succ hj))]
   simp only [mpos, if_neg ek, List.length_cons, Nat.add_lt_add_iff_right, List.getElem?_cons_succ]
   rw [show i + 1 + mpos r k = i + (mpos r k + 1) by omega]
omit hs in
theorem check2 (e : Bool) (n : Nat) (k : ByteArray × ByteArray) (w : World) : (Instr.checkKey e (n + 1 + 1) kt (kv2 k)).run P w = .ok () w := by
 have q1 : ∀ s w, (Instr.checkKey e (n + 1) f1.type (.string s)).run P w = .ok () w := fun s w => by
  rw [Instr.checkKey]; simp only [Sem.run_bind, run_underlying h1, Result.andThen_ok, Sem.run_pure]
 have q2 : ∀ s w, (Instr.checkKey e (n + 1) f2.type (.string s)).run P w = .ok () w := fun s w => by
  rw [Instr.checkKey]; simp only [Sem.run_bind, run_underlying h2, Result.andThen_ok, Sem.run_pure]
 have hu' := hu
 rw [hf] at hu'
 rw [Instr.checkKey]
 simp only [kv2, Sem.run_bind, run_underlying hu', Result.andThen_ok]
 simp [n1, n2, o1, o2, part, a1, a2, q1, q2]
theorem KeyOk.str2 : KeyOk P kt kv2 where
 check e k w := by
  rw [show (10000 : Nat) = 9998 + 1 + 1 from rfl]
  exact check2 hu hf h1 h2 a1 a2 o1 o2 n1 n2 e 9998 k w
 find l c k w hl h := by
  have hu' := hu
  rw [hf] at hu'
  cases c with
  | nil =>
   have : l = [] := List.eq_nil_of_length_eq_zero (by simpa using hl.symm)
   subst this
   simp [Instr.findKey, run_underlying hu', Instr.findNow, mpos]
  | cons e c =>
   have := asking2 hu hs hf h1 h2 a1 a2 o1 o2 n1 n2 l (e :: c) k w 0 hl h
   simp only [Nat.zero_add] at this
   simp only [Instr.findKey, Sem.run_bind, run_underlying hu', Result.andThen_ok, Instr.findNow, Instr.sameNow]
   exact this
 stay k w := by
  have : Instr.sameBits 10000 (kv2 k) (kv2 k) = true := by
   rw [show (10000 : Nat) = 9999 + 1 from rfl]
   simp [kv2, Instr.sameBits]
  simp [Instr.keyThatStays, this]
end
end
section
structure LookS where
 board : ByteArray
 name : ByteArray
 at_ : Int
 verdict : Int
 bad : Bool
 machine : ByteArray
 nozzle : ByteArray
 reel : ByteArray
instance : Inhabited LookS := ⟨⟨ByteArray.empty, ByteArray.empty, 0, 0, false, ByteArray.empty, ByteArray.empty, ByteArray.empty⟩⟩
instance : Sxc LookS where
 k := 8
 pos := by decide
 cell m j := match j with
  | 0 => avS m.board
  | 1 => avS m.name
  | 2 => avI m.at_
  | 3 => avI m.verdict
  | 4 => avB m.bad
  | 5 => avS m.machine
  | 6 => avS m.nozzle
  | 7 => avS m.reel
  | _ => .any
abbrev avLk (x : LookS) : AV := .agg [avS x.board, avS x.name, avI x.at_, avI x.verdict, avB x.bad, avS x.machine, avS x.nozzle, avS x.reel]
structure SmLk (l : List LookS) : Prop where
 len : l.length ≤ 1000000
 board : ∀ i, (l.getD i default).board.size ≤ 1000000
 name : ∀ i, (l.getD i default).name.size ≤ 1000000
 machine : ∀ i, (l.getD i default).machine.size ≤ 1000000
 nozzle : ∀ i, (l.getD i default).nozzle.size ≤ 1000000
 reel : ∀ i, (l.getD i default).reel.size ≤ 1000000
def cmpI (a b : Int) : Int := if a < b then -1 else if b < a then 1 else 0
def cmpLk (a b : LookS) : Int := errsF [cmpI a.at_ b.at_, cmpB a.board b.board, cmpB a.name b.name]
def lkStrs (x : LookS) : List ByteArray := [x.board, x.name, x.machine, x.nozzle, x.reel]
def lookE (l : List LookS) (i : Nat) : Int :=
 if (lkStrs (l.getD i default)).all keyF = false then 5
 else if outR (l.getD i default).at_ 0 345686399999 = true then 1
 else if outR (l.getD i default).verdict 1 5 = true then 4
 else if (decide (0 < i) && decide (0 ≤ cmpLk (l.getD (i - 1) default) (l.getD i default))) = true then 7
 else 0
def sameT (o x : LookS) : Bool := sEq o.board x.board && sEq o.name x.name
def twE (l : List LookS) (i : Nat) : Int := if (l.take i).any (fun o => sameT o (l.getD i default)) = true then 6 else 0
def lookF (l : List LookS) : Int :=
 if 5000 < l.length then 2
 else if firstE (lookE l) l.length ≠ 0 then firstE (lookE l) l.length
 else firstE (twE l) l.length
section
variable {l : List LookS} {i : Nat}
theorem lookE_5 (h : (lkStrs (l.getD i default)).all keyF = false) : lookE l i = 5 := by rw [lookE, if_pos h]
theorem lookE_1 (h : (lkStrs (l.getD i default)).all keyF = true) (h1 : outR (l.getD i default).at_ 0 345686399999 = true) : lookE l i = 1 := by rw [lookE, if_neg (by rw [h]; simp), if_pos h1]
theorem lookE_4 (h : (lkStrs (l.getD i default)).all keyF = true) (h1 : outR (l.getD i default).at_ 0 345686399999 = false) (h2 : outR (l.getD i default).verdict 1 5 = true) : lookE l i = 4 := by rw [lookE, if_neg (by rw [h]; simp), if_neg (by rw [h1]; simp), if_pos h2]
theorem lookE_7 (h : (lkStrs (l.getD i default)).all keyF = true) (h1 : outR (l.getD i default).at_ 0 345686399999 = false) (h2 : outR (l.getD i default).verdict 1 5 = false) (hi : 0 < i) (h3 : 0 ≤ cmpLk (l.getD (i - 1) default) (l.getD i default)) : lookE l i = 7 := by
 rw [lookE, if_neg (by rw [h]; simp), if_neg (by rw [h1]; simp), if_neg (by rw [h2]; simp), if_pos (by rw [decide_eq_true hi, decide_eq_true h3]; rfl)]
theorem lookE_0 (h : (lkStrs (l.getD i default)).all keyF = true) (h1 : outR (l.getD i default).at_ 0 345686399999 = false) (h2 : outR (l.getD i default).verdict 1 5 = false) (h3 : i = 0 ∨ cmpLk (l.getD (i - 1) default) (l.getD i default) < 0) : lookE l i = 0 := by
 rw [lookE, if_neg (by rw [h]; simp), if_neg (by rw [h1]; simp), if_neg (by rw [h2]; simp), if_neg]
 rcases h3 with rfl | h3
 ·simp
 ·rw [decide_eq_false (show ¬ 0 ≤ cmpLk (l.getD (i - 1) default) (l.getD i default) by omega)]; simp
theorem lookF_2 (h : 5000 < l.length) : lookF l = 2 := by rw [lookF, if_pos h]
theorem lookF_at (h : l.length ≤ 5000) {q : Nat} (hq : q < l.length) (hn : ∀ j, j < q → lookE l j = 0) (he : lookE l q ≠ 0) : lookF l = lookE l q := by
 have := firstE_found hn he hq
 rw [lookF, if_neg (by omega), this, if_pos he]
theorem lookF_tw (h : l.length ≤ 5000) (h0 : ∀ j, j < l.length → lookE l j = 0) {q : Nat} (hq : q < l.length) (hn : ∀ j, j < q → twE l j = 0) (he : twE l q ≠ 0) : lookF l = twE l q := by
 have := firstE_found hn he hq
 rw [lookF, if_neg (by omega), firstE_none h0, if_neg (by simp), this]
theorem lookF_ok (h : l.length ≤ 5000) (h0 : ∀ j, j < l.length → lookE l j = 0) (hn : ∀ j, j < l.length → twE l j = 0) : lookF l = 0 := by
 rw [lookF, if_neg (by omega), firstE_none h0, if_neg (by simp), firstE_none hn]
end
def seenL (l : List LookS) : List ((ByteArray × ByteArray) × Bool) := l.map fun x => ((x.board, x.name), true)
theorem seenL_get (l : List LookS) (x : LookS) : mgetD (seenL l) (x.board, x.name) false = l.any fun o => sameT o x := by
 induction l with
 | nil => rfl
 | cons o l ih =>
  show mgetD (((o.board, o.name), true) :: seenL l) _ _ = _
  simp only [List.any_cons]
  rw [← ih]
  by_cases e : (x.board, x.name) = (o.board, o.name)
  ·have h1 : sameT o x = true := by
    have h2 := Prod.mk.inj e
    unfold sameT
    rw [h2.1, h2.2, sEq_eq.2 rfl, sEq_eq.2 rfl]; rfl
   rw [h1, mgetD, mget, if_pos e]; rfl
  ·have h1 : sameT o x = false := by
    cases hs : sameT o x with
    | false => rfl
    | true =>
     unfold sameT at hs
     rw [Bool.and_eq_true] at hs
     exact absurd (by rw [sEq_eq.1 hs.1, sEq_eq.1 hs.2]) e
   rw [h1, Bool.false_or, mgetD, mget, if_neg e]; rfl
theorem seenL_new {l : List LookS} {x : LookS} (h : l.any (fun o => sameT o x) = false) : mput (seenL l) (x.board, x.name) true = seenL (l ++ [x]) := by
 have hn : mpos (seenL l) (x.board, x.name) = (seenL l).length := by
  have hle := mpos_le (seenL l) (x.board, x.name)
  by_cases hlt : mpos (seenL l) (x.board, x.name) < (seenL l).length
  ·exfalso
   have hk := mpos_key (seenL l) (x.board, x.name) hlt
   have hl : mpos (seenL l) (x.board, x.name) < l.length := by simpa [seenL] using hlt
   rw [List.any_eq_false] at h
   have := h _ (List.getElem_mem hl)
   apply this
   simp only [seenL, List.getElem_map] at hk
   have h2 := Prod.mk.inj hk
   unfold sameT
   simp only [seenL] at h2 ⊢
   rw [h2.1, h2.2, sEq_eq.2 rfl, sEq_eq.2 rfl]; rfl
  ·omega
 rw [mput_new _ _ _ hn]
 simp [seenL]
def badN (l : List LookS) : Nat := (l.filter fun x => x.bad).length
theorem badN_le (l : List LookS) : badN l ≤ l.length := List.length_filter_le _ _
theorem badN_take {l : List LookS} {q : Nat} (h : q < l.length) : badN (l.take (q + 1)) = badN (l.take q) + if (l.getD q default).bad = true then 1 else 0 := by
 rw [List.take_add_one, List.getElem?_eq_getElem h]
 have : l.getD q default = l[q] := by rw [List.getD_eq_getElem?_getD, List.getElem?_eq_getElem h]; rfl
 rw [this]
 unfold badN
 rw [List.filter_append, List.length_append]
 cases hb : l[q].bad <;> simp [hb]
theorem twE_6 {l : List LookS} {i : Nat} (h : (l.take i).any (fun o => sameT o (l.getD i default)) = true) : twE l i = 6 := by rw [twE, if_pos h]
theorem twE_0 {l : List LookS} {i : Nat} (h : (l.take i).any (fun o => sameT o (l.getD i default)) = false) : twE l i = 0 := by rw [twE, if_neg (by rw [h]; simp)]
theorem lk_sz {l : List LookS} (h : SmLk l) (i q : Nat) : ((lkStrs (l.getD i default)).getD q ByteArray.empty).size ≤ 1000000 := by
 match q with
 | 0 => exact h.board i
 | 1 => exact h.name i
 | 2 => exact h.machine i
 | 3 => exact h.nozzle i
 | 4 => exact h.reel i
 | q + 5 => simp [lkStrs]
def millE (l : List LookS) : Int := if lookF l ≠ 0 then lookF l else if l.length = 0 then 8 else 0
def millN (l : List LookS) : Nat × Nat := if millE l = 0 then (badN l * 1000000 / Nat.gcd (badN l * 1000000) l.length, l.length / Nat.gcd (badN l * 1000000) l.length) else (0, 0)
theorem millE_1 {l : List LookS} (h : lookF l ≠ 0) : millE l = lookF l := by rw [millE, if_pos h]
theorem millE_8 {l : List LookS} (h : lookF l = 0) (h0 : l.length = 0) : millE l = 8 := by rw [millE, if_neg (by omega), if_pos h0]
theorem millE_0 {l : List LookS} (h : lookF l = 0) (h0 : l.length ≠ 0) : millE l = 0 := by rw [millE, if_neg (by omega), if_neg h0]
end
section
theorem tdiv_bd {a b M : Int} (ha : -M ≤ a ∧ a ≤ M) : -M ≤ a.tdiv b ∧ a.tdiv b ≤ M := by
 have h := Int.natAbs_tdiv_le_natAbs a b
 omega
theorem tmod_bd {a b M : Int} (ha : -M ≤ a ∧ a ≤ M) : -M ≤ a.tmod b ∧ a.tmod b ≤ M := by
 have h : (a.tmod b).natAbs ≤ a.natAbs := by rw [Int.natAbs_tmod]; exact Nat.mod_le _ _
 omega
theorem kit_Lowest {a b : Nat} (ha : a ≤ 4000000000000000000) (hb : b ≤ 4000000000000000000) (h0 : 0 < b) :
  SpecN Tryz.prog 169 [avI (a : Int), avI (b : Int)] (fun y => y = .agg [avI ((a / Nat.gcd a b : Nat) : Int), avI ((b / Nat.gcd a b : Nat) : Int)]) := by
 refine SpecN.of_VCN Tryz.func169 rfl Tryz.ntmps169 (Nle rfl) fun w A hB => ?_
 refine VC.sr ?_
 refine VO.op rfl (OpE.alloc rfl hB rfl Tryz.zeroValue171 rfl ?_)
 intro g4
 refine VO.nil ?_
 refine VC.sr ?_
 refine VO.mw ?_
 refine VO.mw ?_
 refine VO.mb ?_
 refine VO.mb ?_
 refine VO.nil ?_
 refine VC.seq ?_
 refine VC.block ?_
 refine VC.loopK [(0, _), (1, _), (4, _)] ⟨rfl, rfl, rfl, trivial⟩ ({z : Nat × Nat // Nat.gcd z.1 z.2 = Nat.gcd a b ∧ z.1 ≤ 4000000000000000000 ∧ z.2 ≤ 4000000000000000000}) (fun (iZ : {z : Nat × Nat // Nat.gcd z.1 z.2 = Nat.gcd a b ∧ z.1 ≤ 4000000000000000000 ∧ z.2 ≤ 4000000000000000000}) => match iZ with | ⟨⟨x, y⟩, hg, hx, hy⟩ => [(5, avI (x : Int)), (6, avI (y : Int))]) (fun (iZ : {z : Nat × Nat // Nat.gcd z.1 z.2 = Nat.gcd a b ∧ z.1 ≤ 4000000000000000000 ∧ z.2 ≤ 4000000000000000000}) => match iZ with | ⟨⟨x, y⟩, hg, hx, hy⟩ => [.box g4 ⟨[avI 0, avI 0], 171, 2⟩]) (fun (iZ : {z : Nat × Nat // Nat.gcd z.1 z.2 = Nat.gcd a b ∧ z.1 ≤ 4000000000000000000 ∧ z.2 ≤ 4000000000000000000}) => match iZ with | ⟨⟨x, y⟩, hg, hx, hy⟩ => 0) (fun (iZ : {z : Nat × Nat // Nat.gcd z.1 z.2 = Nat.gcd a b ∧ z.1 ≤ 4000000000000000000 ∧ z.2 ≤ 4000000000000000000}) => match iZ with | ⟨⟨x, y⟩, hg, hx, hy⟩ => y) ⟨(a, b), rfl, ha, hb⟩ (Le.mk hB [0] ⟨rfl, rfl, rfl, rfl, rfl, trivial⟩ rfl rfl (Nat.le_refl _)) ?_
 rintro ⟨⟨x, y⟩, hg, hx, hy⟩
 show VC _ _ _ _ ⟨[(5, avI (x : Int)), (6, avI (y : Int))] ++ [(0, _), (1, _), (4, _)], [.box g4 ⟨[avI 0, avI 0], 171, 2⟩], 0⟩
 simp only at hg hx hy
 refine VC.seq ?_
 refine VC.sr ?_
 refine VO.mw ?_
 refine VO.vv (OpV.neq rfl rfl rfl) ?_
 refine VO.nil ?_
 refine VC.cond rfl (fun h1b => ?_) (fun h1b => ?_)
 ·have h1 := h1b
  try simp only [qq] at h1
  refine VC.skip ?_
  refine VC.block ?_
  refine VC.draw (fun _ => NoB) hB (by kernel_rfl) ?_
  refine VA.tk (i := 0) rfl (OpV.move (.inl rfl) rfl) ?_
  refine VA.tk (i := 1) rfl (OpV.move (.inl rfl) rfl) ?_
  refine VA.tk (i := 2) rfl (OpV.move (.inl rfl) rfl) ?_
  refine VA.tk (i := 3) rfl (OpV.rem rfl rfl rfl (by omega) (by have h2 := tmod_bd (a := (x : Int)) (b := (y : Int)) (M := 4000000000000000000) (by omega); unfold fits; omega)) ?_
  refine VA.tk (i := 4) rfl (OpV.move (.inr rfl) rfl) ?_
  refine VA.tk (i := 5) rfl (OpV.move (.inr rfl) rfl) ?_
  refine VA.done (by kernel_rfl) ?_
  have hmd := Nat.mod_lt x (by omega : y > 0)
  exact Exists.intro (⟨(y, x % y), by show Nat.gcd y (x % y) = _; rw [← hg, Nat.gcd_comm y, ← Nat.gcd_rec, Nat.gcd_comm], hy, by have := Nat.mod_lt x (by omega : y > 0); show x % y ≤ _; omega⟩) (And.intro (Le.mk hB [0] ⟨rfl, rfl, rfl, rfl, rfl, trivial⟩ rfl rfl (Nat.le_refl _)) (by first | omega | (show _ < _; omega) | (simp only []; omega)))
 ·have h1 := h1b
  try simp only [qq] at h1
  obtain rfl : y = 0 := by omega
  rw [Nat.gcd_zero_right] at hg
  have hx0 := Nat.gcd_pos_of_pos_right a h0
  subst hg
  refine VC.exit ?_
  refine VC.seq ?_
  refine VC.draw (fun j b => j = 7 ∧ b = g4) hB (by kernel_rfl) ?_
  refine VA.tk (i := 0) rfl (OpV.move (.inl rfl) rfl) ?_
  refine VA.tk (i := 1) rfl (OpV.move (.inl rfl) rfl) ?_
  refine VA.tk (i := 2) rfl (OpV.quo rfl rfl rfl (by omega) (by have h1 := tdiv_bd (a := (a : Int)) (b := (Nat.gcd a b : Int)) (M := 4000000000000000000) (by omega); have h2 := tdiv_bd (a := (b : Int)) (b := (Nat.gcd a b : Int)) (M := 4000000000000000000) (by omega); unfold fits; omega)) ?_
  refine VA.tk (i := 3) rfl (OpV.move (.inl rfl) rfl) ?_
  refine VA.tk (i := 4) rfl (OpV.move (.inl rfl) rfl) ?_
  refine VA.tk (i := 5) rfl (OpV.quo rfl rfl rfl (by omega) (by have h1 := tdiv_bd (a := (a : Int)) (b := (Nat.gcd a b : Int)) (M := 4000000000000000000) (by omega); have h2 := tdiv_bd (a := (b : Int)) (b := (Nat.gcd a b : Int)) (M := 4000000000000000000) (by omega); unfold fits; omega)) ?_
  refine VA.tk (i := 6) rfl (OpV.build (pls := #[(0, 1), (1, 1)]) rfl Tryz.zeroValue171 Tryz.underlying171 (fun w => by kernel_rfl) rfl rfl) ?_
  refine VA.all (rs := [7]) (by kernel_rfl) (by decide) ?_
  refine ⟨⟨_, rfl, .inl rfl, ?_⟩, trivial⟩
  refine OpE.store (i := 0) rfl hB rfl Tryz.sizeOf171 rfl rfl rfl rfl rfl rfl (Nle rfl) (by first | exact ⟨rfl, rfl⟩ | exact .inl ⟨rfl, rfl⟩ | exact .inr ⟨rfl, rfl⟩ | exact ⟨rfl, trivial⟩ | exact .inl ⟨rfl, trivial⟩ | exact .inr ⟨rfl, trivial⟩ | exact ⟨by decide, rfl⟩) ?_
  refine VA.done (by kernel_rfl) ?_
  refine VC.ret ?_
  exact Exists.intro _ (And.intro (RetN.one Tryz.results169 ((by first | exact ResN.cellF (i := 0) Tryz.isAgg171 Tryz.sizeOf171 rfl rfl rfl (flat_ofB rfl)))) (rfl))
end
section
abbrev eBl : Bool → AV := fun b => avB b
abbrev boxLk (g : Nat) (x : LookS) (ty : TypeId) : Ent := .box g ⟨[avS x.board, avS x.name, avI x.at_, avI x.verdict, avB x.bad, avS x.machine, avS x.nozzle, avS x.reel], ty, 8⟩
theorem Le.litsS {B : Bs} {s : St'} {t n : Nat} {xs : List ByteArray} (hn : n = xs.length) (ht : look s.sl t = some (.im n 1 fun j => (strsL xs).getD j .any)) : Le B s ⟨(t, avStrs xs) :: s.sl, s.hp, s.k⟩ := Le.recast ht fun w Z u h => Rep.strs hn h
theorem cmp_isNaN_int {a : Int}  :
  SpecN Tryz.prog 177 [avI a] (fun y => y = avB false) := by
 refine SpecN.of_VCN Tryz.func177 rfl Tryz.ntmps177 (Nle rfl) fun w A hB => ?_
 refine VC.sr ?_
 refine VO.mb ?_
 refine VO.nil ?_
 refine VC.sr ?_
 refine VO.mw ?_
 refine VO.mw ?_
 refine VO.vv (OpV.neq rfl rfl rfl) ?_
 refine VO.mb ?_
 refine VO.nil ?_
 refine VC.ret ?_
 exact Exists.intro _ (And.intro (RetN.one Tryz.results177 (ResN.v rfl)) (by simp))
theorem cmp_Compare_int {a b : Int}  :
  SpecN Tryz.prog 94 [avI a, avI b] (fun y => y = avI (cmpI a b)) := by
 refine SpecN.of_VCN Tryz.func94 rfl Tryz.ntmps94 (Nle rfl) fun w A hB => ?_
 refine VC.sr ?_
 refine VO.mb ?_
 refine VO.nil ?_
 refine VC.sr ?_
 refine VO.mw ?_
 refine VO.op rfl (OpE.call rfl hB rfl Tryz.call177 rfl (SpecN.spec (cmp_isNaN_int)) ?_)
 rintro _ rfl
 refine VO.mb ?_
 refine VO.nil ?_
 refine VC.sr ?_
 refine VO.mw ?_
 refine VO.op rfl (OpE.call rfl hB rfl Tryz.call177 rfl (SpecN.spec (cmp_isNaN_int)) ?_)
 rintro _ rfl
 refine VO.mb ?_
 refine VO.nil ?_
 refine VC.seq ?_
 refine VC.sr ?_
 refine VO.mw ?_
 refine VO.nil ?_
 refine VC.condF rfl rfl ?_
 refine VC.skip ?_
 refine VC.seq ?_
 refine VC.sr ?_
 refine VO.mw ?_
 refine VO.nil ?_
 refine VC.condF rfl rfl ?_
 refine VC.skip ?_
 refine VC.seq ?_
 refine VC.sr ?_
 refine VO.mw ?_
 refine VO.mw ?_
 refine VO.vv (OpV.lss rfl rfl rfl) ?_
 refine VO.nil ?_
 refine VC.cond rfl (fun aH1b => ?_) (fun aH1b => ?_)
 ·have aH1 := aH1b
  try simp only [qq] at aH1
  refine VC.sr ?_
  refine VO.mb ?_
  refine VO.nil ?_
  refine VC.ret ?_
  exact Exists.intro _ (And.intro (RetN.one Tryz.results94 (ResN.v rfl)) (by rw [cmpI, if_pos (by assumption)]))
 ·have aH1 := aH1b
  try simp only [qq] at aH1
  refine VC.skip ?_
  refine VC.seq ?_
  refine VC.sr ?_
  refine VO.mw ?_
  refine VO.mw ?_
  refine VO.vv (OpV.gtr rfl rfl rfl) ?_
  refine VO.nil ?_
  refine VC.cond rfl (fun aH2b => ?_) (fun aH2b => ?_)
  ·have aH2 := aH2b
   try simp only [qq] at aH2
   refine VC.sr ?_
   refine VO.mb ?_
   refine VO.nil ?_
   refine VC.ret ?_
   exact Exists.intro _ (And.intro (RetN.one Tryz.results94 (ResN.v rfl)) (by rw [cmpI, if_neg (by omega), if_pos (by assumption)]))
  ·have aH2 := aH2b
   try simp only [qq] at aH2
   refine VC.skip ?_
   refine VC.sr ?_
   refine VO.mb ?_
   refine VO.nil ?_
   refine VC.ret ?_
   exact Exists.intro _ (And.intro (RetN.one Tryz.results94 (ResN.v rfl)) (by rw [cmpI, if_neg (by omega), if_neg (by omega)]))
theorem cmp_Or_int {xs : List Int} (hl : xs.length ≤ 1000000000) :
  SpecN Tryz.prog 93 [avInts xs] (fun y => y = avI (errsF xs)) := by
 refine SpecN.of_VCN Tryz.func93 rfl Tryz.ntmps93 (Nle rfl) fun w A hB => ?_
 refine VC.sr ?_
 refine VO.mb ?_
 refine VO.nil ?_
 refine VC.sr ?_
 refine VO.mb ?_
 refine VO.nil ?_
 refine VC.seq ?_
 refine VC.sr ?_
 refine VO.mw ?_
 refine VO.vv (OpV.len_im rfl Tryz.underlying22 rfl) ?_
 refine VO.mw ?_
 refine VO.nil ?_
 refine VC.block ?_
 refine VC.loopK [(3, _), (6, _), (7, _)] ⟨rfl, rfl, rfl, trivial⟩ ({q : Nat // q ≤ xs.length ∧ ∀ j, j < q → xs.getD j 0 = 0}) (fun (iZ : {q : Nat // q ≤ xs.length ∧ ∀ j, j < q → xs.getD j 0 = 0}) => match iZ with | ⟨q, hq, hn⟩ => [(8, avI (q : Int))]) (fun (iZ : {q : Nat // q ≤ xs.length ∧ ∀ j, j < q → xs.getD j 0 = 0}) => match iZ with | ⟨q, hq, hn⟩ => []) (fun (iZ : {q : Nat // q ≤ xs.length ∧ ∀ j, j < q → xs.getD j 0 = 0}) => match iZ with | ⟨q, hq, hn⟩ => 0) (fun (iZ : {q : Nat // q ≤ xs.length ∧ ∀ j, j < q → xs.getD j 0 = 0}) => match iZ with | ⟨q, hq, hn⟩ => xs.length - q) ⟨0, Nat.zero_le _, fun j hj => absurd hj (Nat.not_lt_zero j)⟩ (Le.mk hB [] ⟨rfl, rfl, rfl, rfl, trivial⟩ rfl rfl (Nat.le_refl _)) ?_
 rintro ⟨q, hq, hn⟩
 show VC _ _ _ _ ⟨[(8, avI (q : Int))] ++ [(3, _), (6, _), (7, _)], [], 0⟩
 refine VC.sr ?_
 refine VO.vv (OpV.lss rfl rfl rfl) ?_
 refine VO.nil ?_
 refine VC.seq ?_
 refine VC.cond rfl (fun aH1b => ?_) (fun aH1b => ?_)
 ·have aH1 := aH1b
  try simp only [qq] at aH1
  refine VC.skip ?_
  refine VC.seq ?_
  refine VC.block ?_
  refine VC.sr ?_
  refine VO.vv (OpV.indexAddr_1 rfl Tryz.underlying22 Tryz.sizeOf3 rfl rfl rfl (by omega)) ?_
  refine VO.vv (OpV.load_at rfl hB OutW.no Tryz.isAgg3 rfl rfl) ?_
  refine VO.mb ?_
  refine VO.nil ?_
  refine VC.sr ?_
  refine VO.mw ?_
  refine VO.mw ?_
  refine VO.vv (OpV.neq rfl rfl rfl) ?_
  refine VO.nil ?_
  refine VC.cond rfl (fun h1b => ?_) (fun h1b => ?_)
  ·have h1 := h1b
   try simp only [qq] at h1
   refine VC.sr ?_
   refine VO.mw ?_
   refine VO.mb ?_
   refine VO.nil ?_
   refine VC.ret ?_
   exact Exists.intro _ (And.intro (RetN.one Tryz.results93 (ResN.v rfl)) (by rw [errsF_at (q := q) (by omega) hn h1]))
  ·have h1 := h1b
   try simp only [qq] at h1
   refine VC.skip ?_
   refine VC.region ?_
   refine VO.vv (OpV.add rfl rfl rfl (by unfold fits; omega)) ?_
   refine VO.mw ?_
   refine VO.nil ?_
   exact Exists.intro (⟨q + 1, by omega, lt_succ_cases hn ((by omega))⟩) (And.intro (Le.mk hB [] ⟨rfl, rfl, rfl, rfl, trivial⟩ rfl rfl (Nat.le_refl _)) (by first | omega | (show _ < _; omega) | (simp only []; omega)))
 ·have aH1 := aH1b
  try simp only [qq] at aH1
  refine VC.exit ?_
  refine VC.sr ?_
  refine VO.mw ?_
  refine VO.mb ?_
  refine VO.nil ?_
  refine VC.ret ?_
  exact Exists.intro _ (And.intro (RetN.one Tryz.results93 (ResN.v rfl)) (by rw [errsF_none (fun j hj => hn j (by omega))]))
theorem inspect_compare {a b : LookS}  :
  SpecN Tryz.prog 131 [avLk a, avLk b] (fun y => y = avI (cmpLk a b)) := by
 refine SpecN.of_VCN Tryz.func131 rfl Tryz.ntmps131 (Nle rfl) fun w A hB => ?_
 refine VC.sr ?_
 refine VO.op rfl (OpE.box rfl hB rfl rfl rfl ?_)
 intro g2
 refine VO.op rfl (OpE.box rfl hB rfl rfl rfl ?_)
 intro g3
 refine VO.mb ?_
 refine VO.nil ?_
 refine VC.seq ?_
 refine VC.draw (fun _ => NoB) hB (by kernel_rfl) ?_
 refine VA.tk (i := 0) rfl (OpV.fieldAddrO 2 rfl Tryz.underlying124 rfl rfl Tryz.sizeOf3 rfl) ?_
 refine VA.tk (i := 1) rfl (OpV.load_own (i := 0) rfl hB Tryz.isAgg3 rfl rfl rfl Wi.not0) ?_
 refine VA.tk (i := 2) rfl (OpV.fieldAddrO 2 rfl Tryz.underlying124 rfl rfl Tryz.sizeOf3 rfl) ?_
 refine VA.tk (i := 3) rfl (OpV.load_own (i := 1) rfl hB Tryz.isAgg3 rfl rfl rfl Wi.not0) ?_
 refine VA.tk (i := 5) rfl (OpV.fieldAddrO 0 rfl Tryz.underlying124 rfl rfl Tryz.sizeOf9 rfl) ?_
 refine VA.tk (i := 6) rfl (OpV.load_own (i := 0) rfl hB Tryz.isAgg9 rfl rfl rfl Wi.not0) ?_
 refine VA.tk (i := 7) rfl (OpV.fieldAddrO 0 rfl Tryz.underlying124 rfl rfl Tryz.sizeOf9 rfl) ?_
 refine VA.tk (i := 8) rfl (OpV.load_own (i := 1) rfl hB Tryz.isAgg9 rfl rfl rfl Wi.not0) ?_
 refine VA.tk (i := 10) rfl (OpV.fieldAddrO 1 rfl Tryz.underlying124 rfl rfl Tryz.sizeOf9 rfl) ?_
 refine VA.tk (i := 11) rfl (OpV.load_own (i := 0) rfl hB Tryz.isAgg9 rfl rfl rfl Wi.not0) ?_
 refine VA.tk (i := 12) rfl (OpV.fieldAddrO 1 rfl Tryz.underlying124 rfl rfl Tryz.sizeOf9 rfl) ?_
 refine VA.tk (i := 13) rfl (OpV.load_own (i := 1) rfl hB Tryz.isAgg9 rfl rfl rfl Wi.not0) ?_
 refine VA.all (rs := [4]) (by kernel_rfl) (by decide) ?_
 refine ⟨⟨_, rfl, .inl rfl, ?_⟩, trivial⟩
 refine OpE.call rfl hB rfl Tryz.call94 rfl (SpecN.spec (cmp_Compare_int)) ?_
 rintro _ rfl
 refine VA.all (rs := [9]) (by kernel_rfl) (by decide) ?_
 refine ⟨⟨_, rfl, .inl rfl, ?_⟩, trivial⟩
 refine OpE.call rfl hB rfl Tryz.call95 rfl (SpecN.spec (strings_Compare_S)) ?_
 rintro _ rfl
 refine VA.all (rs := [14]) (by kernel_rfl) (by decide) ?_
 refine ⟨⟨_, rfl, .inl rfl, ?_⟩, trivial⟩
 refine OpE.call rfl hB rfl Tryz.call95 rfl (SpecN.spec (strings_Compare_S)) ?_
 rintro _ rfl
 refine VA.all (rs := [15]) (by kernel_rfl) (by decide) ?_
 refine ⟨⟨_, rfl, .inl rfl, ?_⟩, trivial⟩
 refine bI rfl hB rfl (by decide) rfl rfl ?_
 refine VA.le _ (Le.lits (t := 20) (xs := [cmpI a.at_ b.at_, cmpB a.board b.board, cmpB a.name b.name]) rfl rfl) ?_
 refine VA.all (rs := [16]) (by kernel_rfl) (by decide) ?_
 refine ⟨⟨_, rfl, .inl rfl, ?_⟩, trivial⟩
 refine OpE.call rfl hB rfl Tryz.call93 rfl (SpecN.spec (cmp_Or_int (by simp))) ?_
 rintro _ rfl
 refine VA.tk (i := 17) rfl (OpV.move (.inr rfl) rfl) ?_
 refine VA.done (by kernel_rfl) ?_
 refine VC.ret ?_
 exact Exists.intro _ (And.intro (RetN.one Tryz.results131 (ResN.v rfl)) (rfl))
theorem kit_IsMoment {n : Int}  :
  SpecN Tryz.prog 188 [avI n] (fun y => y = avB (!outR n 0 345686399999)) := by
 refine SpecN.of_VCN Tryz.func188 rfl Tryz.ntmps188 (Nle rfl) fun w A hB => ?_
 refine VC.sr ?_
 refine VO.mb ?_
 refine VO.nil ?_
 refine VC.sr ?_
 refine VO.mw ?_
 refine VO.op rfl (OpE.call rfl hB rfl Tryz.call161 rfl (SpecN.spec (kit_Outside)) ?_)
 rintro _ rfl
 refine VO.vv (OpV.not rfl rfl) ?_
 refine VO.mb ?_
 refine VO.nil ?_
 refine VC.ret ?_
 exact Exists.intro _ (And.intro (RetN.one Tryz.results188 (ResN.v rfl)) (rfl))
set_option maxHeartbeats 4000000 in
theorem inspect_lookFault {l : List LookS} {i : Nat} (hs : SmLk l) (hi : i < l.length) :
  SpecN Tryz.prog 207 [avL l, avI (i : Int)] (fun y => y = avI (lookE l i)) := by
 refine SpecN.of_VCN Tryz.func207 rfl Tryz.ntmps207 (Nle rfl) fun w A hB => ?_
 refine VC.seq ?_
 have hl := hs.len
 have h5 : (lkStrs (l.getD i default)).length = 5 := rfl
 refine VC.region ?_
 refine VO.mb ?_
 refine VO.nil ?_
 refine VC.sr ?_
 refine VO.mw ?_
 refine VO.mw ?_
 refine VO.vv (OpV.indexAddr_E rfl Tryz.underlying118 Tryz.sizeOf124 rfl rfl rfl (by omega)) ?_
 refine VO.vv (OpV.loadK_at rfl hB OutW.no Tryz.isAgg124 Tryz.sizeOf124 rfl rfl) ?_
 refine VO.op rfl (OpE.alloc rfl hB rfl Tryz.zeroValue124 rfl ?_)
 intro g5
 refine VO.op rfl (OpE.store (i := 0) rfl hB rfl Tryz.sizeOf124 rfl rfl rfl rfl rfl rfl (Nle rfl) trivial ?_)
 refine VO.nil ?_
 refine VC.seq ?_
 refine VC.sr ?_
 refine VO.vv (OpV.fieldAddrO 0 rfl Tryz.underlying124 rfl rfl Tryz.sizeOf9 rfl) ?_
 refine VO.vv (OpV.load_own (i := 0) rfl hB Tryz.isAgg9 rfl rfl rfl (fun h => h)) ?_
 refine VO.vv (OpV.fieldAddrO 1 rfl Tryz.underlying124 rfl rfl Tryz.sizeOf9 rfl) ?_
 refine VO.vv (OpV.load_own (i := 0) rfl hB Tryz.isAgg9 rfl rfl rfl (fun h => h)) ?_
 refine VO.vv (OpV.fieldAddrO 5 rfl Tryz.underlying124 rfl rfl Tryz.sizeOf9 rfl) ?_
 refine VO.vv (OpV.load_own (i := 0) rfl hB Tryz.isAgg9 rfl rfl rfl (fun h => h)) ?_
 refine VO.vv (OpV.fieldAddrO 6 rfl Tryz.underlying124 rfl rfl Tryz.sizeOf9 rfl) ?_
 refine VO.vv (OpV.load_own (i := 0) rfl hB Tryz.isAgg9 rfl rfl rfl (fun h => h)) ?_
 refine VO.vv (OpV.fieldAddrO 7 rfl Tryz.underlying124 rfl rfl Tryz.sizeOf9 rfl) ?_
 refine VO.vv (OpV.load_own (i := 0) rfl hB Tryz.isAgg9 rfl rfl rfl (fun h => h)) ?_
 refine VO.op rfl (bS rfl hB rfl (by decide) rfl rfl ?_)
 refine VO.le _ (Le.litsS (t := 22) (xs := lkStrs (l.getD i default)) rfl rfl) ?_
 refine VO.vv (OpV.len_im rfl Tryz.underlying82 rfl) ?_
 refine VO.mw ?_
 refine VO.nil ?_
 refine VC.block ?_
 refine VC.loopK [(0, _), (1, _), (5, _), (22, _), (23, _)] ⟨rfl, rfl, rfl, rfl, rfl, trivial⟩ ({q : Nat // q ≤ 5 ∧ ∀ j, j < q → keyF ((lkStrs (l.getD i default)).getD j ByteArray.empty) = true}) (fun (iZ : {q : Nat // q ≤ 5 ∧ ∀ j, j < q → keyF ((lkStrs (l.getD i default)).getD j ByteArray.empty) = true}) => match iZ with | ⟨q, hq, hn⟩ => [(24, avI (q : Int))]) (fun (iZ : {q : Nat // q ≤ 5 ∧ ∀ j, j < q → keyF ((lkStrs (l.getD i default)).getD j ByteArray.empty) = true}) => match iZ with | ⟨q, hq, hn⟩ => [boxLk g5 (l.getD i default) 124]) (fun (iZ : {q : Nat // q ≤ 5 ∧ ∀ j, j < q → keyF ((lkStrs (l.getD i default)).getD j ByteArray.empty) = true}) => match iZ with | ⟨q, hq, hn⟩ => 0) (fun (iZ : {q : Nat // q ≤ 5 ∧ ∀ j, j < q → keyF ((lkStrs (l.getD i default)).getD j ByteArray.empty) = true}) => match iZ with | ⟨q, hq, hn⟩ => 5 - q) ⟨0, Nat.zero_le _, fun j hj => absurd hj (Nat.not_lt_zero j)⟩ (Le.mk hB [0] ⟨rfl, rfl, rfl, rfl, rfl, rfl, trivial⟩ rfl rfl (Nat.le_refl _)) ?_
 rintro ⟨q, hq, hn⟩
 show VC _ _ _ _ ⟨[(24, avI (q : Int))] ++ [(0, _), (1, _), (5, _), (22, _), (23, _)], [boxLk g5 (l.getD i default) 124], 0⟩
 refine VC.sr ?_
 refine VO.vv (OpV.lss rfl rfl rfl) ?_
 refine VO.nil ?_
 refine VC.seq ?_
 refine VC.cond rfl (fun aH1b => ?_) (fun aH1b => ?_)
 ·have aH1 := aH1b
  try simp only [qq] at aH1
  refine VC.skip ?_
  refine VC.seq ?_
  refine VC.block ?_
  refine VC.sr ?_
  refine VO.vv (OpV.indexAddr_1 rfl Tryz.underlying82 Tryz.sizeOf9 rfl rfl rfl (by omega)) ?_
  refine VO.vv (OpV.load_at rfl hB OutW.no Tryz.isAgg9 rfl rfl) ?_
  refine VO.mb ?_
  refine VO.nil ?_
  refine VC.sr ?_
  refine VO.mw ?_
  refine VO.op rfl (OpE.call rfl hB rfl Tryz.call230 rfl (SpecN.spec (kit_IsKey (by have := lk_sz hs i q; omega))) ?_)
  rintro _ rfl
  refine VO.vv (OpV.not rfl rfl) ?_
  refine VO.nil ?_
  refine VC.cond rfl (fun h1b => ?_) (fun h1b => ?_)
  ·have h1 := h1b
   try simp only [qq] at h1
   refine VC.sr ?_
   refine VO.mb ?_
   refine VO.nil ?_
   refine VC.ret ?_
   exact Exists.intro _ (And.intro (RetN.one Tryz.results207 (ResN.v rfl)) (by rw [lookE_5 (all_no (d := ByteArray.empty) (q := q) (by show q < 5; omega) (by assumption))]))
  ·have h1 := h1b
   try simp only [qq] at h1
   refine VC.skip ?_
   refine VC.region ?_
   refine VO.vv (OpV.add rfl rfl rfl (by unfold fits; omega)) ?_
   refine VO.mw ?_
   refine VO.nil ?_
   exact Exists.intro (⟨q + 1, by omega, lt_succ_cases hn ((by assumption))⟩) (And.intro (Le.mk hB [0] ⟨rfl, rfl, rfl, rfl, rfl, rfl, trivial⟩ rfl rfl (Nat.le_refl _)) (by first | omega | (show _ < _; omega) | (simp only []; omega)))
 ·have aH1 := aH1b
  try simp only [qq] at aH1
  have hk : (lkStrs (l.getD i default)).all keyF = true := all_yes (d := ByteArray.empty) (fun j hj => hn j (by simp [lkStrs] at hj; omega))
  refine VC.exit ?_
  refine VC.seq ?_
  refine VC.block ?_
  refine VC.sr ?_
  refine VO.vv (OpV.fieldAddrO 2 rfl Tryz.underlying124 rfl rfl Tryz.sizeOf3 rfl) ?_
  refine VO.vv (OpV.load_own (i := 0) rfl hB Tryz.isAgg3 rfl rfl rfl (fun h => h)) ?_
  refine VO.op rfl (OpE.call rfl hB rfl Tryz.call188 rfl (SpecN.spec (kit_IsMoment)) ?_)
  rintro _ rfl
  refine VO.vv (OpV.not rfl rfl) ?_
  refine VO.mb ?_
  refine VO.nil ?_
  refine VC.cond rfl (fun h2b => ?_) (fun h2b => ?_)
  ·have h2 := h2b
   try simp only [qq] at h2
   refine VC.sr ?_
   refine VO.mb ?_
   refine VO.nil ?_
   refine VC.ret ?_
   exact Exists.intro _ (And.intro (RetN.one Tryz.results207 (ResN.v rfl)) (by rw [lookE_1 hk h2]))
  ·have h2 := h2b
   try simp only [qq] at h2
   refine VC.sr ?_
   refine VO.vv (OpV.fieldAddrO 3 rfl Tryz.underlying124 rfl rfl Tryz.sizeOf3 rfl) ?_
   refine VO.vv (OpV.load_own (i := 0) rfl hB Tryz.isAgg3 rfl rfl rfl (fun h => h)) ?_
   refine VO.op rfl (OpE.call rfl hB rfl Tryz.call161 rfl (SpecN.spec (kit_Outside)) ?_)
   rintro _ rfl
   refine VO.mb ?_
   refine VO.nil ?_
   refine VC.cond rfl (fun h3b => ?_) (fun h3b => ?_)
   ·have h3 := h3b
    try simp only [qq] at h3
    refine VC.sr ?_
    refine VO.mb ?_
    refine VO.nil ?_
    refine VC.ret ?_
    exact Exists.intro _ (And.intro (RetN.one Tryz.results207 (ResN.v rfl)) (by rw [lookE_4 hk h2 h3]))
   ·have h3 := h3b
    try simp only [qq] at h3
    refine VC.seq ?_
    refine VC.draw (fun _ => NoB) hB (by kernel_rfl) ?_
    refine VA.tk (i := 0) rfl (OpV.move (.inl rfl) rfl) ?_
    refine VA.tk (i := 1) rfl (OpV.gtr rfl rfl rfl) ?_
    refine VA.tk (i := 2) rfl (OpV.move (.inl rfl) rfl) ?_
    refine VA.split (t := 44) rfl (fun aK2b => ?_) (fun aK2b => ?_)
    ·have aK2 := aK2b
     try simp only [qq] at aK2
     refine VA.takeY (i := 3) rfl (by kernel_rfl) (by kernel_rfl) (by kernel_rfl) rfl rfl rfl rfl aK2b (OpV.move (.inl rfl) rfl) ?_
     refine VA.takeY (i := 4) rfl (by kernel_rfl) (by kernel_rfl) (by kernel_rfl) rfl rfl rfl rfl aK2b (OpV.move (.inl rfl) rfl) ?_
     refine VA.takeY (i := 5) rfl (by kernel_rfl) (by kernel_rfl) (by kernel_rfl) rfl rfl rfl rfl aK2b (OpV.sub rfl rfl rfl (by unfold fits; omega)) ?_
     refine VA.takeY (i := 6) rfl (by kernel_rfl) (by kernel_rfl) (by kernel_rfl) rfl rfl rfl rfl aK2b (OpV.indexAddr_E rfl Tryz.underlying118 Tryz.sizeOf124 rfl rfl (show ((i : Int) - 1) = ((i - 1 : Nat) : Int) by omega) (by omega)) ?_
     refine VA.takeY (i := 7) rfl (by kernel_rfl) (by kernel_rfl) (by kernel_rfl) rfl rfl rfl rfl aK2b (OpV.loadK_at rfl hB OutW.wi0 Tryz.isAgg124 Tryz.sizeOf124 rfl rfl) ?_
     refine VA.takeY (i := 8) rfl (by kernel_rfl) (by kernel_rfl) (by kernel_rfl) rfl rfl rfl rfl aK2b (OpV.loadK_own (i := 0) rfl hB Tryz.isAgg124 Tryz.sizeOf124 rfl rfl rfl Wi.not0) ?_
     refine VA.all (rs := [9]) (by kernel_rfl) (by decide) ?_
     refine ⟨⟨_, rfl, .inr ⟨_, _, _, rfl, rfl, (look_k rfl aK2b)⟩, ?_⟩, trivial⟩
     refine OpE.call rfl hB rfl Tryz.call131 rfl (SpecN.spec (inspect_compare (a := l.getD (i - 1) default) (b := l.getD i default))) ?_
     rintro _ rfl
     refine VA.takeY (i := 10) rfl (by kernel_rfl) (by kernel_rfl) (by kernel_rfl) rfl rfl rfl rfl aK2b (OpV.geq rfl rfl rfl) ?_
     refine VA.tk (i := 11) rfl (OpV.pickT rfl rfl rfl rfl aK2b) ?_
     refine VA.tk (i := 12) rfl (OpV.move (.inr rfl) rfl) ?_
     refine VA.done (by kernel_rfl) ?_
     refine VC.cond rfl (fun h4b => ?_) (fun h4b => ?_)
     ·have h4 := h4b
      try simp only [qq] at h4
      refine VC.sr ?_
      refine VO.mb ?_
      refine VO.nil ?_
      refine VC.ret ?_
      exact Exists.intro _ (And.intro (RetN.one Tryz.results207 (ResN.v rfl)) (by rw [lookE_7 hk h2 h3 (by omega) h4]))
     ·have h4 := h4b
      try simp only [qq] at h4
      refine VC.skip ?_
      refine VC.sr ?_
      refine VO.mb ?_
      refine VO.nil ?_
      refine VC.ret ?_
      exact Exists.intro _ (And.intro (RetN.one Tryz.results207 (ResN.v rfl)) (by first | rw [lookE_0 hk h2 h3 (.inr (by omega))] | rw [lookE_0 hk h2 h3 (.inl (by omega))]))
    ·have aK2 := aK2b
     try simp only [qq] at aK2
     refine VA.takeX (i := 3) rfl (by kernel_rfl) (by kernel_rfl) (by kernel_rfl) rfl rfl rfl rfl aK2b ?_
     refine VA.takeX (i := 4) rfl (by kernel_rfl) (by kernel_rfl) (by kernel_rfl) rfl rfl rfl rfl aK2b ?_
     refine VA.takeX (i := 5) rfl (by kernel_rfl) (by kernel_rfl) (by kernel_rfl) rfl rfl rfl rfl aK2b ?_
     refine VA.takeX (i := 6) rfl (by kernel_rfl) (by kernel_rfl) (by kernel_rfl) rfl rfl rfl rfl aK2b ?_
     refine VA.takeX (i := 7) rfl (by kernel_rfl) (by kernel_rfl) (by kernel_rfl) rfl rfl rfl rfl aK2b ?_
     refine VA.takeX (i := 8) rfl (by kernel_rfl) (by kernel_rfl) (by kernel_rfl) rfl rfl rfl rfl aK2b ?_
     refine VA.takeX (i := 9) rfl (by kernel_rfl) (by kernel_rfl) (by kernel_rfl) rfl rfl rfl rfl aK2b ?_
     refine VA.takeX (i := 10) rfl (by kernel_rfl) (by kernel_rfl) (by kernel_rfl) rfl rfl rfl rfl aK2b ?_
     refine VA.tk (i := 11) rfl (OpV.pickF rfl rfl rfl rfl aK2b) ?_
     refine VA.tk (i := 12) rfl (OpV.move (.inr rfl) rfl) ?_
     refine VA.done (by kernel_rfl) ?_
     refine VC.condF rfl rfl ?_
     refine VC.skip ?_
     refine VC.sr ?_
     refine VO.mb ?_
     refine VO.nil ?_
     refine VC.ret ?_
     exact Exists.intro _ (And.intro (RetN.one Tryz.results207 (ResN.v rfl)) (by first | rw [lookE_0 hk h2 h3 (.inr (by omega))] | rw [lookE_0 hk h2 h3 (.inl (by omega))]))
theorem seen_get (l : List LookS) (q : Nat) : mgetD (seenL (l.take q)) ((l.getD q default).board, (l.getD q default).name) false = (l.take q).any fun o => sameT o (l.getD q default) := seenL_get _ _
theorem seen_take {l : List LookS} {q : Nat} (h : q < l.length) (hx : (l.take q).any (fun o => sameT o (l.getD q default)) = false) : mput (seenL (l.take q)) ((l.getD q default).board, (l.getD q default).name) true = seenL (l.take (q + 1)) := by
 rw [seenL_new hx]
 rw [List.take_add_one, List.getD_eq_getElem?_getD, List.getElem?_eq_getElem h]; rfl
theorem plK : KeyOk Tryz.prog 227 kv2 := KeyOk.str2 Tryz.underlying227 (by kernel_rfl) (rfl : Tryz.prog.fieldsOf 227 = #[_, _]) Tryz.underlying9 Tryz.underlying9 Tryz.isAgg9 Tryz.isAgg9 rfl rfl (by decide) (by decide)
set_option maxHeartbeats 4000000 in
theorem inspect_CheckLooks {l : List LookS} (hs : SmLk l) :
  SpecN Tryz.prog 128 [avL l] (fun y => y = avI (lookF l)) := by
 refine SpecN.of_VCN Tryz.func128 rfl Tryz.ntmps128 (Nle rfl) fun w A hB => ?_
 refine VC.seq ?_
 have hl := hs.len
 refine VC.region ?_
 refine VO.mb ?_
 refine VO.nil ?_
 refine VC.seq ?_
 refine VC.sr ?_
 refine VO.mw ?_
 refine VO.vv (OpV.len_im rfl Tryz.underlying118 rfl) ?_
 refine VO.vv (OpV.gtr rfl rfl rfl) ?_
 refine VO.nil ?_
 refine VC.cond rfl (fun h0b => ?_) (fun h0b => ?_)
 ·have h0 := h0b
  try simp only [qq] at h0
  refine VC.sr ?_
  refine VO.mb ?_
  refine VO.nil ?_
  refine VC.ret ?_
  exact Exists.intro _ (And.intro (RetN.one Tryz.results128 (ResN.v rfl)) (by rw [lookF_2 (by omega)]))
 ·have h0 := h0b
  try simp only [qq] at h0
  refine VC.skip ?_
  refine VC.seq ?_
  refine VC.sr ?_
  refine VO.mw ?_
  refine VO.vv (OpV.len_im rfl Tryz.underlying118 rfl) ?_
  refine VO.mw ?_
  refine VO.nil ?_
  refine VC.block ?_
  refine VC.loopK [(0, _), (13, _)] ⟨rfl, rfl, trivial⟩ ({q : Nat // q ≤ l.length ∧ ∀ j, j < q → lookE l j = 0}) (fun (iZ : {q : Nat // q ≤ l.length ∧ ∀ j, j < q → lookE l j = 0}) => match iZ with | ⟨q, hq, hn⟩ => [(14, avI (q : Int))]) (fun (iZ : {q : Nat // q ≤ l.length ∧ ∀ j, j < q → lookE l j = 0}) => match iZ with | ⟨q, hq, hn⟩ => []) (fun (iZ : {q : Nat // q ≤ l.length ∧ ∀ j, j < q → lookE l j = 0}) => match iZ with | ⟨q, hq, hn⟩ => 0) (fun (iZ : {q : Nat // q ≤ l.length ∧ ∀ j, j < q → lookE l j = 0}) => match iZ with | ⟨q, hq, hn⟩ => l.length - q) ⟨0, Nat.zero_le _, fun j hj => absurd hj (Nat.not_lt_zero j)⟩ (Le.mk hB [] ⟨rfl, rfl, rfl, trivial⟩ rfl rfl (Nat.le_refl _)) ?_
  rintro ⟨q, hq, hn⟩
  show VC _ _ _ _ ⟨[(14, avI (q : Int))] ++ [(0, _), (13, _)], [], 0⟩
  refine VC.sr ?_
  refine VO.vv (OpV.lss rfl rfl rfl) ?_
  refine VO.nil ?_
  refine VC.seq ?_
  refine VC.cond rfl (fun aH1b => ?_) (fun aH1b => ?_)
  ·have aH1 := aH1b
   try simp only [qq] at aH1
   refine VC.skip ?_
   refine VC.seq ?_
   refine VC.block ?_
   refine VC.sr ?_
   refine VO.mw ?_
   refine VO.mb ?_
   refine VO.nil ?_
   refine VC.sr ?_
   refine VO.mw ?_
   refine VO.mw ?_
   refine VO.op rfl (OpE.call rfl hB rfl Tryz.call207 rfl (SpecN.spec (inspect_lookFault hs (by omega))) ?_)
   rintro _ rfl
   refine VO.mb ?_
   refine VO.nil ?_
   refine VC.sr ?_
   refine VO.mw ?_
   refine VO.vv (OpV.neq rfl rfl rfl) ?_
   refine VO.nil ?_
   refine VC.cond rfl (fun h2b => ?_) (fun h2b => ?_)
   ·have h2 := h2b
    try simp only [qq] at h2
    refine VC.sr ?_
    refine VO.mw ?_
    refine VO.mb ?_
    refine VO.nil ?_
    refine VC.ret ?_
    exact Exists.intro _ (And.intro (RetN.one Tryz.results128 (ResN.v rfl)) (by rw [lookF_at (by omega) (by omega) hn h2]))
   ·have h2 := h2b
    try simp only [qq] at h2
    refine VC.skip ?_
    refine VC.region ?_
    refine VO.vv (OpV.add rfl rfl rfl (by unfold fits; omega)) ?_
    refine VO.mw ?_
    refine VO.nil ?_
    exact Exists.intro (⟨q + 1, by omega, lt_succ_cases hn ((by omega))⟩) (And.intro (Le.mk hB [] ⟨rfl, rfl, rfl, trivial⟩ rfl rfl (Nat.le_refl _)) (by first | omega | (show _ < _; omega) | (simp only []; omega)))
  ·have aH1 := aH1b
   try simp only [qq] at aH1
   refine VC.exit ?_
   refine VC.seq ?_
   have hl0 : ∀ j, j < l.length → lookE l j = 0 := fun j hj => hn j (by omega)
   refine VC.region ?_
   refine VO.op rfl (OpE.makeMap (kv2) (eBl) rfl hB rfl ?_)
   intro g24
   refine VO.mb ?_
   refine VO.nil ?_
   refine VC.seq ?_
   refine VC.sr ?_
   refine VO.mw ?_
   refine VO.vv (OpV.len_im rfl Tryz.underlying118 rfl) ?_
   refine VO.mw ?_
   refine VO.nil ?_
   refine VC.block ?_
   refine VC.loopK [(5, _), (25, _), (26, _)] ⟨rfl, rfl, rfl, trivial⟩ ({r : Nat // r ≤ l.length ∧ ∀ j, j < r → twE l j = 0}) (fun (iZ : {r : Nat // r ≤ l.length ∧ ∀ j, j < r → twE l j = 0}) => match iZ with | ⟨r, hq1, hn1⟩ => [(27, avI (r : Int))]) (fun (iZ : {r : Nat // r ≤ l.length ∧ ∀ j, j < r → twE l j = 0}) => match iZ with | ⟨r, hq1, hn1⟩ => [mapE kv2 g24 eBl (seenL (l.take r))]) (fun (iZ : {r : Nat // r ≤ l.length ∧ ∀ j, j < r → twE l j = 0}) => match iZ with | ⟨r, hq1, hn1⟩ => 0) (fun (iZ : {r : Nat // r ≤ l.length ∧ ∀ j, j < r → twE l j = 0}) => match iZ with | ⟨r, hq1, hn1⟩ => l.length - r) ⟨0, Nat.zero_le _, fun j hj => absurd hj (Nat.not_lt_zero j)⟩ (Le.mk hB [0] ⟨rfl, rfl, rfl, rfl, trivial⟩ rfl rfl (Nat.le_refl _)) ?_
   rintro ⟨r, hq1, hn1⟩
   show VC _ _ _ _ ⟨[(27, avI (r : Int))] ++ [(5, _), (25, _), (26, _)], [mapE kv2 g24 eBl (seenL (l.take r))], 0⟩
   refine VC.sr ?_
   refine VO.vv (OpV.lss rfl rfl rfl) ?_
   refine VO.nil ?_
   refine VC.seq ?_
   refine VC.cond rfl (fun aH2b => ?_) (fun aH2b => ?_)
   ·have aH2 := aH2b
    try simp only [qq] at aH2
    refine VC.skip ?_
    refine VC.seq ?_
    refine VC.block ?_
    refine VC.sr ?_
    refine VO.vv (OpV.indexAddr_E rfl Tryz.underlying118 Tryz.sizeOf124 rfl rfl rfl (by omega)) ?_
    refine VO.vv (OpV.loadK_at rfl hB OutW.no Tryz.isAgg124 Tryz.sizeOf124 rfl rfl) ?_
    refine VO.op rfl (OpE.alloc rfl hB rfl Tryz.zeroValue124 rfl ?_)
    intro g7
    refine VO.op rfl (OpE.store (i := 1) rfl hB rfl Tryz.sizeOf124 rfl rfl rfl rfl rfl rfl (Nle rfl) trivial ?_)
    refine VO.nil ?_
    refine VC.sr ?_
    refine VO.vv (OpV.fieldAddrO 0 rfl Tryz.underlying124 rfl rfl Tryz.sizeOf9 rfl) ?_
    refine VO.vv (OpV.load_own (i := 1) rfl hB Tryz.isAgg9 rfl rfl rfl (fun h => h)) ?_
    refine VO.vv (OpV.fieldAddrO 1 rfl Tryz.underlying124 rfl rfl Tryz.sizeOf9 rfl) ?_
    refine VO.vv (OpV.load_own (i := 1) rfl hB Tryz.isAgg9 rfl rfl rfl (fun h => h)) ?_
    refine VO.vv (OpV.build (pls := #[(0, 1), (1, 1)]) rfl Tryz.zeroValue227 Tryz.underlying227 (fun w => by kernel_rfl) rfl rfl) ?_
    refine VO.op rfl (OpE.alloc rfl hB rfl Tryz.zeroValue227 rfl ?_)
    intro g8
    refine VO.op rfl (OpE.store (i := 2) rfl hB rfl Tryz.sizeOf227 rfl rfl rfl rfl rfl rfl (Nle rfl) trivial ?_)
    refine VO.nil ?_
    refine VC.seq ?_
    refine VC.sr ?_
    refine VO.mw ?_
    refine VO.vv (OpV.loadK_own (i := 2) rfl hB Tryz.isAgg227 Tryz.sizeOf227 rfl rfl rfl (fun h => h)) ?_
    refine VO.vv (OpV.lookup_own (i := 0) (k := ((l.getD r default).board, (l.getD r default).name)) rfl hB Tryz.underlying306 plK Tryz.zeroValue4 rfl (KeyE.agg2 rfl) rfl (fun h => h)) ?_
    refine VO.le _ (Le.recast (t := 38) (y := avB ((l.take r).any fun o => sameT o (l.getD r default))) rfl (fun w Z u h => by rw [← seen_get]; unfold mgetD; revert h; cases mget (seenL (l.take r)) ((l.getD r default).board, (l.getD r default).name) <;> exact id)) ?_
    refine VO.nil ?_
    refine VC.cond rfl (fun htb => ?_) (fun htb => ?_)
    ·have ht := htb
     try simp only [qq] at ht
     refine VC.sr ?_
     refine VO.mb ?_
     refine VO.nil ?_
     refine VC.ret ?_
     exact Exists.intro _ (And.intro (RetN.one Tryz.results128 (ResN.v rfl)) (by rw [lookF_tw (by omega) hl0 (by omega) hn1 (by rw [twE_6 ht]; decide), twE_6 ht]))
    ·have ht := htb
     try simp only [qq] at ht
     refine VC.skip ?_
     refine VC.region ?_
     refine VO.mw ?_
     refine VO.vv (OpV.loadK_own (i := 2) rfl hB Tryz.isAgg227 Tryz.sizeOf227 rfl rfl rfl (fun h => h)) ?_
     refine VO.op rfl (OpE.mapUpdate (i := 0) (k := ((l.getD r default).board, (l.getD r default).name)) (xx := true) rfl hB rfl Tryz.underlying306 plK rfl (KeyE.agg2 rfl) rfl rfl trivial ?_)
     refine VO.nil ?_
     refine VC.region ?_
     refine VO.vv (OpV.add rfl rfl rfl (by unfold fits; omega)) ?_
     refine VO.mw ?_
     refine VO.nil ?_
     exact Exists.intro (⟨r + 1, by omega, lt_succ_cases hn1 ((twE_0 ht))⟩) (And.intro (Le.mk hB [0] ⟨rfl, rfl, rfl, rfl, trivial⟩ rfl (by dsimp only; rw [seen_take (by omega) ht]; rfl) (Nat.le_refl _)) (by first | omega | (show _ < _; omega) | (simp only []; omega)))
   ·have aH2 := aH2b
    try simp only [qq] at aH2
    refine VC.exit ?_
    refine VC.sr ?_
    refine VO.mb ?_
    refine VO.nil ?_
    refine VC.ret ?_
    exact Exists.intro _ (And.intro (RetN.one Tryz.results128 (ResN.v rfl)) (by rw [lookF_ok (by omega) hl0 (fun j hj => hn1 j (by omega))]))
theorem share_add {g a b : Nat} {x : LookS} (ha : a ≤ 1000000000) (hb : b ≤ 1000000000) :
  SpecH Tryz.prog 212 [.v (.pointer (some ⟨g, 0, none⟩)), avLk x] [.box g ⟨[avI (b : Int), avI (a : Int)], 243, 2⟩] (fun y hp' => y = .tup [] ∧ hp' = [.box g ⟨[avI ((b + if x.bad = true then 1 else 0 : Nat) : Int), avI ((a + 1 : Nat) : Int)], 243, 2⟩]) := by
 refine SpecH.of_VC Tryz.func212 rfl Tryz.ntmps212 (Nle rfl) fun w A hB => ?_
 refine VC.sr ?_
 refine VO.op rfl (OpE.box rfl hB rfl rfl rfl ?_)
 intro g3
 refine VO.nil ?_
 refine VC.sr ?_
 refine VO.mw ?_
 refine VO.vv (OpV.nilCheck rfl rfl) ?_
 refine VO.vv (OpV.fieldAddrO 1 rfl Tryz.underlying243 rfl rfl Tryz.sizeOf3 rfl) ?_
 refine VO.vv (OpV.load_own (i := 0) rfl hB Tryz.isAgg3 rfl rfl rfl (fun h => h)) ?_
 refine VO.vv (OpV.add rfl rfl rfl (by unfold fits; omega)) ?_
 refine VO.vv (OpV.nilCheck rfl rfl) ?_
 refine VO.vv (OpV.fieldAddrO 1 rfl Tryz.underlying243 rfl rfl Tryz.sizeOf3 rfl) ?_
 refine VO.op rfl (OpE.store (i := 0) rfl hB rfl Tryz.sizeOf3 rfl rfl rfl rfl rfl rfl (Nle rfl) trivial ?_)
 refine VO.nil ?_
 refine VC.sr ?_
 refine VO.vv (OpV.fieldAddrO 4 rfl Tryz.underlying124 rfl rfl Tryz.sizeOf4 rfl) ?_
 refine VO.vv (OpV.load_own (i := 1) rfl hB Tryz.isAgg4 rfl rfl rfl (fun h => h)) ?_
 refine VO.nil ?_
 refine VC.cond rfl (fun h0b => ?_) (fun h0b => ?_)
 ·have h0 := h0b
  try simp only [qq] at h0
  refine VC.le _ (Le.pickH [0] rfl rfl) ?_
  refine VC.region ?_
  refine VO.mw ?_
  refine VO.vv (OpV.nilCheck rfl rfl) ?_
  refine VO.vv (OpV.fieldAddrO 0 rfl Tryz.underlying243 rfl rfl Tryz.sizeOf3 rfl) ?_
  refine VO.vv (OpV.load_own (i := 0) rfl hB Tryz.isAgg3 rfl rfl rfl (fun h => h)) ?_
  refine VO.vv (OpV.add rfl rfl rfl (by unfold fits; omega)) ?_
  refine VO.vv (OpV.nilCheck rfl rfl) ?_
  refine VO.vv (OpV.fieldAddrO 0 rfl Tryz.underlying243 rfl rfl Tryz.sizeOf3 rfl) ?_
  refine VO.op rfl (OpE.store (i := 0) rfl hB rfl Tryz.sizeOf3 rfl rfl rfl rfl rfl rfl (Nle rfl) trivial ?_)
  refine VO.nil ?_
  exact Exists.intro _ (And.intro (RetV.none Tryz.results212) (by first | exact ⟨rfl, by rw [if_pos h0]; rfl⟩ | exact ⟨rfl, by rw [if_neg (by rw [h0]; simp)]; rfl⟩))
 ·have h0 := h0b
  try simp only [qq] at h0
  refine VC.le _ (Le.pickH [0] rfl rfl) ?_
  refine VC.skip ?_
  exact Exists.intro _ (And.intro (RetV.none Tryz.results212) (by first | exact ⟨rfl, by rw [if_pos h0]; rfl⟩ | exact ⟨rfl, by rw [if_neg (by rw [h0]; simp)]; rfl⟩))
theorem inspect_shareOf {l : List LookS} (hl : l.length ≤ 1000000) :
  SpecN Tryz.prog 168 [avL l] (fun y => y = .agg [avI (badN l : Int), avI (l.length : Int)]) := by
 refine SpecN.of_VCN Tryz.func168 rfl Tryz.ntmps168 (Nle rfl) fun w A hB => ?_
 refine VC.sr ?_
 refine VO.op rfl (OpE.alloc rfl hB rfl Tryz.zeroValue243 rfl ?_)
 intro g2
 refine VO.nil ?_
 refine VC.sr ?_
 refine VO.op rfl (OpE.alloc rfl hB rfl Tryz.zeroValue243 rfl ?_)
 intro g3
 refine VO.nil ?_
 refine VC.seq ?_
 refine VC.sr ?_
 refine VO.mw ?_
 refine VO.vv (OpV.len_im rfl Tryz.underlying118 rfl) ?_
 refine VO.mw ?_
 refine VO.nil ?_
 refine VC.block ?_
 refine VC.loopK [(2, _), (3, _), (6, _), (7, _)] ⟨rfl, rfl, rfl, rfl, trivial⟩ ({q : Nat // q ≤ l.length}) (fun (iZ : {q : Nat // q ≤ l.length}) => match iZ with | ⟨q, hq⟩ => [(8, avI (q : Int))]) (fun (iZ : {q : Nat // q ≤ l.length}) => match iZ with | ⟨q, hq⟩ => [.box g2 ⟨[avI 0, avI 0], 243, 2⟩, .box g3 ⟨[avI (badN (l.take q) : Int), avI (q : Int)], 243, 2⟩]) (fun (iZ : {q : Nat // q ≤ l.length}) => match iZ with | ⟨q, hq⟩ => 0) (fun (iZ : {q : Nat // q ≤ l.length}) => match iZ with | ⟨q, hq⟩ => l.length - q) ⟨0, Nat.zero_le _⟩ (Le.mk hB [0, 1] ⟨rfl, rfl, rfl, rfl, rfl, trivial⟩ rfl rfl (Nat.le_refl _)) ?_
 rintro ⟨q, hq⟩
 show VC _ _ _ _ ⟨[(8, avI (q : Int))] ++ [(2, _), (3, _), (6, _), (7, _)], [.box g2 ⟨[avI 0, avI 0], 243, 2⟩, .box g3 ⟨[avI (badN (l.take q) : Int), avI (q : Int)], 243, 2⟩], 0⟩
 refine VC.sr ?_
 refine VO.vv (OpV.lss rfl rfl rfl) ?_
 refine VO.nil ?_
 refine VC.seq ?_
 refine VC.cond rfl (fun aH1b => ?_) (fun aH1b => ?_)
 ·have aH1 := aH1b
  try simp only [qq] at aH1
  refine VC.skip ?_
  refine VC.seq ?_
  refine VC.block ?_
  refine VC.sr ?_
  refine VO.vv (OpV.indexAddr_E rfl Tryz.underlying118 Tryz.sizeOf124 rfl rfl rfl (by omega)) ?_
  refine VO.vv (OpV.loadK_at rfl hB OutW.no Tryz.isAgg124 Tryz.sizeOf124 rfl rfl) ?_
  refine VO.op rfl (OpE.alloc rfl hB rfl Tryz.zeroValue124 rfl ?_)
  intro g5
  refine VO.op rfl (OpE.store (i := 2) rfl hB rfl Tryz.sizeOf124 rfl rfl rfl rfl rfl rfl (Nle rfl) trivial ?_)
  refine VO.nil ?_
  refine VC.region ?_
  refine VO.vv (OpV.loadK_own (i := 2) rfl hB Tryz.isAgg124 Tryz.sizeOf124 rfl rfl rfl (fun h => h)) ?_
  have hbn := badN_le (l.take q)
  have hbl := List.length_take_le q l
  refine VO.op rfl (OpE.callH (rest := [_, _]) rfl hB rfl Tryz.call212 rfl rfl (share_add (x := l.getD q default) (a := q) (b := badN (l.take q)) (by omega) (by omega)) (List.Perm.swap _ _ _) (fun _ _ => trivial) ?_)
  rintro _ _ ⟨rfl, rfl⟩
  refine VO.nil ?_
  refine VC.region ?_
  refine VO.vv (OpV.add rfl rfl rfl (by unfold fits; omega)) ?_
  refine VO.mw ?_
  refine VO.nil ?_
  exact Exists.intro (⟨q + 1, by omega⟩) (And.intro (Le.pick hB [1, 0] ⟨rfl, rfl, rfl, rfl, rfl, trivial⟩ rfl (by dsimp only; rw [badN_take (by omega)]; rfl) (Nat.le_refl _)) (by first | omega | (show _ < _; omega) | (simp only []; omega)))
 ·have aH1 := aH1b
  try simp only [qq] at aH1
  refine VC.exit ?_
  refine VC.seq ?_
  have hqe : l.take q = l := List.take_of_length_le (by omega)
  have hql : q = l.length := by omega
  rw [hqe, hql]
  refine VC.region ?_
  refine VO.vv (OpV.loadK_own (i := 1) rfl hB Tryz.isAgg243 Tryz.sizeOf243 rfl rfl rfl (fun h => h)) ?_
  refine VO.op rfl (OpE.store (i := 0) rfl hB rfl Tryz.sizeOf243 rfl rfl rfl rfl rfl rfl (Nle rfl) trivial ?_)
  refine VO.nil ?_
  refine VC.ret ?_
  exact Exists.intro _ (And.intro (RetN.one Tryz.results168 ((by first | exact ResN.cellF (i := 0) Tryz.isAgg243 Tryz.sizeOf243 rfl rfl rfl (flat_ofB rfl) | exact ResN.cellF (i := 1) Tryz.isAgg243 Tryz.sizeOf243 rfl rfl rfl (flat_ofB rfl)))) (rfl))
theorem inspect_Million {l : List LookS} (hs : SmLk l) :
  SpecN Tryz.prog 85 [avL l] (fun y => y = .tup [.agg [avI ((millN l).1 : Int), avI ((millN l).2 : Int)], avI (millE l)]) := by
 refine SpecN.of_VCN Tryz.func85 rfl Tryz.ntmps85 (Nle rfl) fun w A hB => ?_
 refine VC.sr ?_
 refine VO.op rfl (OpE.alloc rfl hB rfl Tryz.zeroValue171 rfl ?_)
 intro g2
 refine VO.mb ?_
 refine VO.nil ?_
 refine VC.seq ?_
 refine VC.sr ?_
 refine VO.mw ?_
 refine VO.op rfl (OpE.call rfl hB rfl Tryz.call128 rfl (SpecN.spec (inspect_CheckLooks hs)) ?_)
 rintro _ rfl
 refine VO.mb ?_
 refine VO.nil ?_
 refine VC.sr ?_
 refine VO.mw ?_
 refine VO.vv (OpV.neq rfl rfl rfl) ?_
 refine VO.nil ?_
 refine VC.cond rfl (fun h0b => ?_) (fun h0b => ?_)
 ·have h0 := h0b
  try simp only [qq] at h0
  refine VC.sr ?_
  refine VO.vv (OpV.build (pls := #[(0, 1), (1, 1)]) rfl Tryz.zeroValue171 Tryz.underlying171 (fun w => by kernel_rfl) rfl rfl) ?_
  refine VO.mw ?_
  refine VO.op rfl (OpE.store (i := 0) rfl hB rfl Tryz.sizeOf171 rfl rfl rfl rfl rfl rfl (Nle rfl) trivial ?_)
  refine VO.mb ?_
  refine VO.nil ?_
  refine VC.ret ?_
  exact Exists.intro _ (And.intro (RetN.two Tryz.results85 ((by first | exact ResN.cellF (i := 0) Tryz.isAgg171 Tryz.sizeOf171 rfl rfl rfl (flat_ofB rfl))) (ResN.v rfl)) (by rw [millN, if_neg (by rw [millE_1 h0]; exact h0), millE_1 h0]; rfl))
 ·have h0 := h0b
  try simp only [qq] at h0
  refine VC.skip ?_
  refine VC.seq ?_
  refine VC.sr ?_
  refine VO.mw ?_
  refine VO.vv (OpV.len_im rfl Tryz.underlying118 rfl) ?_
  refine VO.vv (OpV.eql rfl rfl rfl) ?_
  refine VO.nil ?_
  refine VC.cond rfl (fun h1b => ?_) (fun h1b => ?_)
  ·have h1 := h1b
   try simp only [qq] at h1
   refine VC.sr ?_
   refine VO.vv (OpV.build (pls := #[(0, 1), (1, 1)]) rfl Tryz.zeroValue171 Tryz.underlying171 (fun w => by kernel_rfl) rfl rfl) ?_
   refine VO.op rfl (OpE.store (i := 0) rfl hB rfl Tryz.sizeOf171 rfl rfl rfl rfl rfl rfl (Nle rfl) trivial ?_)
   refine VO.mb ?_
   refine VO.nil ?_
   refine VC.ret ?_
   exact Exists.intro _ (And.intro (RetN.two Tryz.results85 ((by first | exact ResN.cellF (i := 0) Tryz.isAgg171 Tryz.sizeOf171 rfl rfl rfl (flat_ofB rfl))) (ResN.v rfl)) (by rw [millN, if_neg (by rw [millE_8 (by omega) (by omega)]; decide), millE_8 (by omega) (by omega)]; rfl))
  ·have h1 := h1b
   try simp only [qq] at h1
   refine VC.skip ?_
   refine VC.sr ?_
   refine VO.mw ?_
   refine VO.op rfl (OpE.call rfl hB rfl Tryz.call168 rfl (SpecN.spec (inspect_shareOf hs.len)) ?_)
   rintro _ rfl
   refine VO.op rfl (OpE.alloc rfl hB rfl Tryz.zeroValue243 rfl ?_)
   intro g5
   refine VO.op rfl (OpE.store (i := 1) rfl hB rfl Tryz.sizeOf243 rfl rfl rfl rfl rfl rfl (Nle rfl) trivial ?_)
   refine VO.nil ?_
   refine VC.sr ?_
   refine VO.vv (OpV.fieldAddrO 0 rfl Tryz.underlying243 rfl rfl Tryz.sizeOf3 rfl) ?_
   refine VO.vv (OpV.load_own (i := 1) rfl hB Tryz.isAgg3 rfl rfl rfl (fun h => h)) ?_
   have hbn := badN_le l
   have hll := hs.len
   refine VO.vv (OpV.mul rfl rfl rfl (by unfold fits; omega)) ?_
   refine VO.le _ (Le.recast (t := 20) (y := avI ((badN l * 1000000 : Nat) : Int)) rfl (fun w Z u h => by rw [Int.natCast_mul]; exact h)) ?_
   refine VO.vv (OpV.fieldAddrO 1 rfl Tryz.underlying243 rfl rfl Tryz.sizeOf3 rfl) ?_
   refine VO.vv (OpV.load_own (i := 1) rfl hB Tryz.isAgg3 rfl rfl rfl (fun h => h)) ?_
   refine VO.op rfl (OpE.call rfl hB rfl Tryz.call169 rfl (SpecN.spec (kit_Lowest (a := badN l * 1000000) (b := l.length) (by omega) (by omega) (by omega))) ?_)
   rintro _ rfl
   refine VO.op rfl (OpE.store (i := 0) rfl hB rfl Tryz.sizeOf171 rfl rfl rfl rfl rfl rfl (Nle rfl) trivial ?_)
   refine VO.mb ?_
   refine VO.nil ?_
   refine VC.ret ?_
   exact Exists.intro _ (And.intro (RetN.two Tryz.results85 ((by first | exact ResN.cellF (i := 0) Tryz.isAgg171 Tryz.sizeOf171 rfl rfl rfl (flat_ofB rfl) | exact ResN.cellF (i := 1) Tryz.isAgg171 Tryz.sizeOf171 rfl rfl rfl (flat_ofB rfl))) (ResN.v rfl)) (by rw [millN, if_pos (millE_0 (by omega) (by omega)), millE_0 (by omega) (by omega)]; rfl))
end
section
section
variable {α : Type} [Inhabited α] [Sxc α]
theorem rowL_inE {xs : List α} {q k : Nat} (hk : k = Sxc.k α) (h : q < xs.length) : 0 + q * k + k ≤ (rowL xs).length := by
 subst hk
 rw [rowL_len, Nat.zero_add]
 have : (q + 1) * Sxc.k α ≤ xs.length * Sxc.k α := Nat.mul_le_mul_right _ h
 rw [Nat.add_mul] at this; omega
theorem setAll_gt : ∀ (r cs : List AV) (off i : Nat), off + r.length ≤ cs.length → (setAll cs off r)[i]? = if off ≤ i ∧ i < off + r.length then r[i - off]? else cs[i]?
 | [], cs, off, i, h => by simp [setAll]; intro h1 h2; omega
 | x :: r, cs, off, i, h => by
  simp only [List.length_cons] at h
  rw [setAll, setAll_gt r _ (off + 1) i (by simp; omega)]
  by_cases h1 : i = off
  ·subst h1
   rw [if_neg (by omega), if_pos (by simp only [List.length_cons]; omega), Nat.sub_self, List.getElem?_set_self (by omega)]
   rfl
  ·rw [List.getElem?_set_ne (by omega)]
   by_cases h2 : off ≤ i ∧ i < off + (r.length + 1)
   ·rw [if_pos (by omega), if_pos (by simpa using h2), show i - off = (i - (off + 1)) + 1 by omega, List.getElem?_cons_succ]
   ·rw [if_neg (by omega), if_neg (by simpa using h2)]
theorem rowL_get' (xs : List α) {i : Nat} (hi : i < xs.length * Sxc.k α) : (rowL xs)[i]? = some (Sxc.cell (xs.getD (i / Sxc.k α) default) (i % Sxc.k α)) := by
 have hp := Sxc.pos (α := α)
 have h1 : i / Sxc.k α < xs.length := Nat.div_lt_of_lt_mul (by rw [Nat.mul_comm]; exact hi)
 have h2 := rowL_get xs (i / Sxc.k α) (i % Sxc.k α) h1 (Nat.mod_lt _ hp)
 rw [Nat.mul_comm, Nat.div_add_mod] at h2
 exact h2
theorem rowL_setAll {xs : List α} {q k : Nat} {x : α} (hk : k = Sxc.k α) (h : q < xs.length) : setAll (rowL xs) (0 + q * k) (tab (Sxc.k α) (Sxc.cell x)) = rowL (xs.set q x) := by
 subst hk
 have hp := Sxc.pos (α := α)
 have hle : 0 + q * Sxc.k α + Sxc.k α ≤ xs.length * Sxc.k α := by
  have : (q + 1) * Sxc.k α ≤ xs.length * Sxc.k α := Nat.mul_le_mul_right _ h
  rw [Nat.add_mul] at this; omega
 apply List.ext_getElem?
 intro i
 rw [setAll_gt _ _ _ _ (by rw [tab_len, rowL_len]; exact hle), tab_len]
 by_cases hi : i < xs.length * Sxc.k α
 ·rw [rowL_get' (xs.set q x) (by rw [List.length_set]; exact hi)]
  by_cases hr : 0 + q * Sxc.k α ≤ i ∧ i < 0 + q * Sxc.k α + Sxc.k α
  ·rw [if_pos hr]
   have e1 : i / Sxc.k α = q := Nat.div_eq_of_lt_le (by omega) (by rw [Nat.add_mul]; omega)
   have e2 : i % Sxc.k α = i - (0 + q * Sxc.k α) := by
    have := Nat.div_add_mod i (Sxc.k α); rw [e1, Nat.mul_comm] at this; omega
   rw [e1, e2, List.getElem?_eq_getElem (by rw [tab_len]; omega), tab_get]
   simp [List.getD_eq_getElem?_getD, h]
  ·rw [if_neg hr, rowL_get' xs hi]
   have e1 : i / Sxc.k α ≠ q := fun e => by
    have h1 := Nat.div_add_mod i (Sxc.k α)
    have h2 := Nat.mod_lt i hp
    rw [e, Nat.mul_comm] at h1
    exact hr ⟨by omega, by omega⟩
   simp [List.getD_eq_getElem?_getD, List.getElem?_set_ne (Ne.symm e1)]
 ·rw [if_neg (by omega), List.getElem?_eq_none (by rw [rowL_len]; omega), List.getElem?_eq_none (by rw [rowL_len, List.length_set]; omega)]
end
section
variable {P : Program} {B : Bs} {W : Nat → Prop} {s : St'} {o : Oper} {K : St' → Prop}
theorem OpE.storeE {x y : Operand} {t g j i k : Nat} {o' : Own'} {v : AV} {cs' : List AV} (ho : o.op = .store t x y) (hB : B.Ok) (hd : okd B.nt o.dst = true) (hsz : ∀ w, (sizeOf t).run P w = .ok k w) (hx : evO s x = some (.v (.pointer (some ⟨g, j, none⟩)))) (hy : evO s y = some v)
  (hk : v.known = true) (hl : (cellsOf v).length = k) (hone : (cellsOf v).all AV.one = true) (hi : s.hp[i]? = some (.box g o')) (hj : j + k ≤ o'.cs.length) (hcs : setAll o'.cs j (cellsOf v) = cs') (hW : W g)
  (hK : K ((St'.mk s.sl (s.hp.set i (.box g ⟨cs', o'.ty, o'.tot⟩)) s.k).put o.dst (.v undef))) : OpE P B W s o K := by
 subst hcs
 exact OpE.store ho hB hd hsz hx hy hk hl hone hi hj hW hK
end
end
section
def swp (l : List Int) (j : Nat) : List Int := (l.set j (l.getD (j - 1) 0)).set (j - 1) (l.getD j 0)
theorem swp_perm {l : List Int} {j : Nat} (h0 : 0 < j) (h : j < l.length) : (swp l j).Perm l := by
 obtain ⟨q, rfl⟩ : ∃ q, j = q + 1 := ⟨j - 1, by omega⟩
 have e : l = l.take q ++ l[q] :: l[q + 1] :: l.drop (q + 2) := by
  conv => lhs; rw [← List.take_append_drop q l]
  rw [List.drop_eq_getElem_cons (by omega : q < l.length), List.drop_eq_getElem_cons (by omega : q + 1 < l.length)]
 have hq : (l.take q).length = q := by simp; omega
 have h1 : l.getD (q + 1 - 1) 0 = l[q] := by simp [show q < l.length by omega]
 have h2 : l.getD (q + 1) 0 = l[q + 1] := by simp [h]
 unfold swp
 rw [h1, h2, show q + 1 - 1 = q by omega]
 have hs := swap_eq (Q := l.take q) (T := l.drop (q + 2)) (x := l[q + 1]) (y := l[q])
 rw [← e, hq] at hs
 rw [hs]
 conv => rhs; rw [e]
 exact (List.Perm.swap _ _ _).append_left _
def downI (c : Int → Int → Int) : Nat → List Int → List Int
 | 0, l => l
 | j + 1, l => if c (l.getD (j + 1) 0) (l.getD j 0) < 0 then downI c j (swp l (j + 1)) else l
theorem downI_perm (c : Int → Int → Int) : ∀ (j : Nat) (l : List Int), j < l.length ∨ l.length = 0 ∨ j = 0 → (downI c j l).Perm l
 | 0, l, _ => .refl _
 | j + 1, l, h => by
  rw [downI]
  split
  ·by_cases hl : j + 1 < l.length
   ·have hp := swp_perm (l := l) (j := j + 1) (by omega) hl
    exact (downI_perm c j _ (.inl (by rw [hp.length_eq]; omega))).trans hp
   ·have h0 : l = [] := List.eq_nil_of_length_eq_zero (by omega)
    subst h0
    have : swp [] (j + 1) = [] := rfl
    rw [this]
    exact downI_perm c j [] (.inr (.inl rfl))
  ·exact .refl _
theorem downI_t {c : Int → Int → Int} {l : List Int} {j : Nat} (h0 : 0 < j) (h : c (l.getD j 0) (l.getD (j - 1) 0) < 0) : downI c j l = downI c (j - 1) (swp l j) := by
 obtain ⟨q, rfl⟩ : ∃ q, j = q + 1 := ⟨j - 1, by omega⟩
 rw [downI, if_pos (by simpa using h)]; rfl
theorem downI_f {c : Int → Int → Int} {l : List Int} {j : Nat} (h : j = 0 ∨ ¬ c (l.getD j 0) (l.getD (j - 1) 0) < 0) : downI c j l = l := by
 cases j with
 | zero => rfl
 | succ q =>
  rcases h with h | h
  ·omega
  ·rw [downI, if_neg (by simpa using h)]
def insT (c : Int → Int → Int) (l : List Int) : Nat → List Int
 | 0 => l
 | i + 1 => downI c (i + 1) (insT c l i)
theorem insT_perm (c : Int → Int → Int) (l : List Int) : ∀ i, i < l.length ∨ i = 0 → (insT c l i).Perm l
 | 0, _ => .refl _
 | i + 1, h => by
  have ih := insT_perm c l i (by omega)
  exact (downI_perm c (i + 1) _ (.inl (by rw [ih.length_eq]; omega))).trans ih
theorem insT_at {c : Int → Int → Int} {l : List Int} {i : Nat} (h : 0 < i) : insT c l i = downI c i (insT c l (i - 1)) := by
 obtain ⟨q, rfl⟩ : ∃ q, i = q + 1 := ⟨i - 1, by omega⟩
 rfl
theorem mem_of {l l0 : List Int} (h : l.Perm l0) {j : Nat} (hj : j < l.length) : l.getD j 0 ∈ l0 := h.subset (by rw [List.getD_eq_getElem?_getD, List.getElem?_eq_getElem hj]; exact List.getElem_mem hj)
set_option maxHeartbeats 4000000 in
theorem insSortC_int {l0 : List Int} {u : Value} {ty : TypeId} {F : FuncId} {cs : List AV} {c : Int → Int → Int} (hl : l0.length ≤ 1000000) (hcall : ∀ us w, (callFunc F us).run Tryz.prog w = .ok (.enter F us) w) (hF : ∀ x y, x ∈ l0 → y ∈ l0 → Spec Tryz.prog F ([avI x, avI y] ++ cs) (fun z => z = avI (c x y))) :
  SpecH Tryz.prog 240 [.v u, avI 0, avI l0.length, .fn F cs] [.row u l0.length 1 (intsL l0) ty] (fun y hp' => y = .tup [] ∧ hp' = [.row u l0.length 1 (intsL (insT c l0 (l0.length - 1))) ty]) := by
 refine SpecH.of_VC Tryz.func240 rfl Tryz.ntmps240 (Nle rfl) fun w A hB => ?_
 refine VC.sr ?_
 refine VO.mw ?_
 refine VO.vv (OpV.add rfl rfl rfl (by unfold fits; omega)) ?_
 refine VO.mb ?_
 refine VO.nil ?_
 refine VC.block ?_
 refine VC.loopK [(0, _), (1, _), (2, _), (3, _)] ⟨rfl, rfl, rfl, rfl, trivial⟩ ({i : Nat // 0 < i ∧ i ≤ max 1 l0.length}) (fun (iZ : {i : Nat // 0 < i ∧ i ≤ max 1 l0.length}) => match iZ with | ⟨i, hi0, hin⟩ => [(8, avI (i : Int))]) (fun (iZ : {i : Nat // 0 < i ∧ i ≤ max 1 l0.length}) => match iZ with | ⟨i, hi0, hin⟩ => [.row u l0.length 1 (intsL (insT c l0 (i - 1))) ty]) (fun (iZ : {i : Nat // 0 < i ∧ i ≤ max 1 l0.length}) => match iZ with | ⟨i, hi0, hin⟩ => 0) (fun (iZ : {i : Nat // 0 < i ∧ i ≤ max 1 l0.length}) => match iZ with | ⟨i, hi0, hin⟩ => l0.length - i) ⟨1, Nat.one_pos, by omega⟩ (Le.mk hB [0] ⟨rfl, rfl, rfl, rfl, rfl, trivial⟩ rfl rfl (Nat.le_refl _)) ?_
 rintro ⟨i, hi0, hin⟩
 show VC _ _ _ _ ⟨[(8, avI (i : Int))] ++ [(0, _), (1, _), (2, _), (3, _)], [.row u l0.length 1 (intsL (insT c l0 (i - 1))) ty], 0⟩
 refine VC.seq ?_
 refine VC.sr ?_
 refine VO.mw ?_
 refine VO.mw ?_
 refine VO.vv (OpV.lss rfl rfl rfl) ?_
 refine VO.nil ?_
 refine VC.cond rfl (fun aH1b => ?_) (fun aH1b => ?_)
 ·have aH1 := aH1b
  try simp only [qq] at aH1
  refine VC.skip ?_
  refine VC.seq ?_
  refine VC.block ?_
  refine VC.sr ?_
  refine VO.mw ?_
  refine VO.mb ?_
  refine VO.nil ?_
  refine VC.block ?_
  have hpi := insT_perm c l0 (i - 1) (by omega)
  refine VC.asBox (i := 0) rfl (by omega) (fun g cap hu hcap hmx => ?_)
  subst hu
  refine VC.loopK [(0, _), (1, _), (2, _), (3, _), (8, _)] ⟨rfl, rfl, rfl, rfl, rfl, trivial⟩ ({z : Nat × List Int // z.1 ≤ i ∧ downI c z.1 z.2 = insT c l0 i ∧ z.2.Perm l0}) (fun (iZ : {z : Nat × List Int // z.1 ≤ i ∧ downI c z.1 z.2 = insT c l0 i ∧ z.2.Perm l0}) => match iZ with | ⟨⟨j, l2⟩, hji, hd, hpl⟩ => [(9, avI (j : Int))]) (fun (iZ : {z : Nat × List Int // z.1 ≤ i ∧ downI c z.1 z.2 = insT c l0 i ∧ z.2.Perm l0}) => match iZ with | ⟨⟨j, l2⟩, hji, hd, hpl⟩ => [.box g ⟨intsL l2, ty, cap * 1⟩]) (fun (iZ : {z : Nat × List Int // z.1 ≤ i ∧ downI c z.1 z.2 = insT c l0 i ∧ z.2.Perm l0}) => match iZ with | ⟨⟨j, l2⟩, hji, hd, hpl⟩ => 0) (fun (iZ : {z : Nat × List Int // z.1 ≤ i ∧ downI c z.1 z.2 = insT c l0 i ∧ z.2.Perm l0}) => match iZ with | ⟨⟨j, l2⟩, hji, hd, hpl⟩ => j) ⟨(i, insT c l0 (i - 1)), Nat.le_refl _, (insT_at hi0).symm, hpi⟩ (Le.mk hB [0] ⟨rfl, rfl, rfl, rfl, rfl, rfl, trivial⟩ rfl rfl (Nat.le_refl _)) ?_
  rintro ⟨⟨j, l2⟩, hji, hd, hpl⟩
  show VC _ _ _ _ ⟨[(9, avI (j : Int))] ++ [(0, _), (1, _), (2, _), (3, _), (8, _)], [.box g ⟨intsL l2, ty, cap * 1⟩], 0⟩
  simp only at hji hd hpl
  have hlen2 := hpl.length_eq
  refine VC.seq ?_
  refine VC.seq ?_
  refine VC.draw (fun _ => NoB) hB (by kernel_rfl) ?_
  refine VA.tk (i := 0) rfl (OpV.move (.inl rfl) rfl) ?_
  refine VA.tk (i := 1) rfl (OpV.move (.inl rfl) rfl) ?_
  refine VA.tk (i := 2) rfl (OpV.gtr rfl rfl rfl) ?_
  refine VA.tk (i := 3) rfl (OpV.move (.inl rfl) rfl) ?_
  refine VA.split (t := 21) rfl (fun aK2b => ?_) (fun aK2b => ?_)
  ·have aK2 := aK2b
   try simp only [qq] at aK2
   refine VA.takeY (i := 4) rfl (by kernel_rfl) (by kernel_rfl) (by kernel_rfl) rfl rfl rfl rfl aK2b (OpV.move (.inl rfl) rfl) ?_
   refine VA.takeY (i := 5) rfl (by kernel_rfl) (by kernel_rfl) (by kernel_rfl) rfl rfl rfl rfl aK2b (OpV.move (.inl rfl) rfl) ?_
   refine VA.takeY (i := 6) rfl (by kernel_rfl) (by kernel_rfl) (by kernel_rfl) rfl rfl rfl rfl aK2b (OpV.move (.inl rfl) rfl) ?_
   refine VA.takeY (i := 7) rfl (by kernel_rfl) (by kernel_rfl) (by kernel_rfl) rfl rfl rfl rfl aK2b (OpV.indexAddr_o rfl Tryz.underlying22 Tryz.sizeOf3 rfl rfl rfl (by omega)) ?_
   refine VA.takeY (i := 8) rfl (by kernel_rfl) (by kernel_rfl) (by kernel_rfl) rfl rfl rfl rfl aK2b (OpV.load_own (i := 0) rfl hB Tryz.isAgg3 rfl rfl (intsL_get (j := j) (by omega)) Wi.not0) ?_
   refine VA.takeY (i := 9) rfl (by kernel_rfl) (by kernel_rfl) (by kernel_rfl) rfl rfl rfl rfl aK2b (OpV.move (.inl rfl) rfl) ?_
   refine VA.takeY (i := 10) rfl (by kernel_rfl) (by kernel_rfl) (by kernel_rfl) rfl rfl rfl rfl aK2b (OpV.move (.inl rfl) rfl) ?_
   refine VA.takeY (i := 11) rfl (by kernel_rfl) (by kernel_rfl) (by kernel_rfl) rfl rfl rfl rfl aK2b (OpV.sub rfl rfl rfl (by unfold fits; omega)) ?_
   refine VA.takeY (i := 12) rfl (by kernel_rfl) (by kernel_rfl) (by kernel_rfl) rfl rfl rfl rfl aK2b (OpV.indexAddr_o rfl Tryz.underlying22 Tryz.sizeOf3 rfl rfl (show (j : Int) - 1 = ((j - 1 : Nat) : Int) by omega) (by omega)) ?_
   refine VA.takeY (i := 13) rfl (by kernel_rfl) (by kernel_rfl) (by kernel_rfl) rfl rfl rfl rfl aK2b (OpV.load_own (i := 0) rfl hB Tryz.isAgg3 rfl rfl (intsL_get (j := j - 1) (by omega)) Wi.not0) ?_
   refine VA.all (rs := [14]) (by kernel_rfl) (by decide) ?_
   refine ⟨⟨_, rfl, .inr ⟨_, _, _, rfl, rfl, (look_k rfl aK2b)⟩, ?_⟩, trivial⟩
   refine OpE.callF rfl hB rfl hcall rfl rfl (hF _ _ (mem_of hpl (by omega)) (mem_of hpl (by omega))) ?_
   rintro _ rfl
   refine VA.takeY (i := 15) rfl (by kernel_rfl) (by kernel_rfl) (by kernel_rfl) rfl rfl rfl rfl aK2b (OpV.lss rfl rfl rfl) ?_
   refine VA.tk (i := 16) rfl (OpV.pickT rfl rfl rfl rfl aK2b) ?_
   refine VA.done (by kernel_rfl) ?_
   refine VC.cond rfl (fun hcb => ?_) (fun hcb => ?_)
   ·have hc := hcb
    try simp only [qq] at hc
    refine VC.skip ?_
    refine VC.seq ?_
    refine VC.block ?_
    refine VC.draw (fun j b => j ∈ [15, 17] ∧ b = g) hB (by kernel_rfl) ?_
    refine VA.tk (i := 0) rfl (OpV.move (.inl rfl) rfl) ?_
    refine VA.tk (i := 1) rfl (OpV.move (.inl rfl) rfl) ?_
    refine VA.tk (i := 2) rfl (OpV.move (.inl rfl) rfl) ?_
    refine VA.tk (i := 3) rfl (OpV.move (.inl rfl) rfl) ?_
    refine VA.tk (i := 4) rfl (OpV.sub rfl rfl rfl (by unfold fits; omega)) ?_
    refine VA.tk (i := 5) rfl (OpV.move (.inl rfl) rfl) ?_
    refine VA.tk (i := 6) rfl (OpV.move (.inl rfl) rfl) ?_
    refine VA.tk (i := 7) rfl (OpV.sub rfl rfl rfl (by unfold fits; omega)) ?_
    refine VA.tk (i := 8) rfl (OpV.indexAddr_o rfl Tryz.underlying22 Tryz.sizeOf3 rfl rfl (show (j : Int) - 1 = ((j - 1 : Nat) : Int) by omega) (by omega)) ?_
    refine VA.tk (i := 9) rfl (OpV.load_own (i := 0) rfl hB Tryz.isAgg3 rfl rfl (intsL_get (j := j - 1) (by omega)) (Wi.notD (by kernel_rfl))) ?_
    refine VA.tk (i := 10) rfl (OpV.move (.inl rfl) rfl) ?_
    refine VA.tk (i := 11) rfl (OpV.move (.inl rfl) rfl) ?_
    refine VA.tk (i := 12) rfl (OpV.indexAddr_o rfl Tryz.underlying22 Tryz.sizeOf3 rfl rfl rfl (by omega)) ?_
    refine VA.tk (i := 13) rfl (OpV.load_own (i := 0) rfl hB Tryz.isAgg3 rfl rfl (intsL_get (j := j) (by omega)) (Wi.notD (by kernel_rfl))) ?_
    refine VA.tk (i := 14) rfl (OpV.indexAddr_o rfl Tryz.underlying22 Tryz.sizeOf3 rfl rfl rfl (by omega)) ?_
    refine VA.all (rs := [15]) (by kernel_rfl) (by decide) ?_
    refine ⟨⟨_, rfl, .inl rfl, ?_⟩, trivial⟩
    refine OpE.store1 (i := 0) rfl hB rfl Tryz.sizeOf3 rfl rfl rfl rfl rfl rfl (by rw [intsL_len]; omega) (intsL_set _ _ _) (by first | exact ⟨rfl, rfl⟩ | exact .inl ⟨rfl, rfl⟩ | exact .inr ⟨rfl, rfl⟩ | exact ⟨rfl, trivial⟩ | exact .inl ⟨rfl, trivial⟩ | exact .inr ⟨rfl, trivial⟩ | exact ⟨by decide, rfl⟩) ?_
    refine VA.tk (i := 16) rfl (OpV.indexAddr_o rfl Tryz.underlying22 Tryz.sizeOf3 rfl rfl (show (j : Int) - 1 = ((j - 1 : Nat) : Int) by omega) (by omega)) ?_
    refine VA.all (rs := [17]) (by kernel_rfl) (by decide) ?_
    refine ⟨⟨_, rfl, .inl rfl, ?_⟩, trivial⟩
    refine OpE.store1 (i := 0) rfl hB rfl Tryz.sizeOf3 rfl rfl rfl rfl rfl rfl (by rw [intsL_len, List.length_set]; omega) (intsL_set _ _ _) (by first | exact ⟨rfl, rfl⟩ | exact .inl ⟨rfl, rfl⟩ | exact .inr ⟨rfl, rfl⟩ | exact ⟨rfl, trivial⟩ | exact .inl ⟨rfl, trivial⟩ | exact .inr ⟨rfl, trivial⟩ | exact ⟨by decide, rfl⟩) ?_
    refine VA.done (by kernel_rfl) ?_
    refine VC.region ?_
    refine VO.mw ?_
    refine VO.vv (OpV.sub rfl rfl rfl (by unfold fits; omega)) ?_
    refine VO.mb ?_
    refine VO.nil ?_
    exact Exists.intro (⟨(j - 1, swp l2 j), by show j - 1 ≤ i; omega, by rw [← hd]; exact (downI_t (by omega) hc).symm, (swp_perm (by omega) (by omega)).trans hpl⟩) (And.intro (Le.mk hB [0] ⟨(by rw [show ((j - 1 : Nat) : Int) = (j : Int) - 1 by omega]; rfl), rfl, rfl, rfl, rfl, rfl, trivial⟩ rfl rfl (Nat.le_refl _)) (by first | omega | (show _ < _; omega) | (simp only []; omega)))
   ·have hc := hcb
    try simp only [qq] at hc
    have hex : l2 = insT c l0 i := by first | exact (downI_f (.inl (by omega))).symm.trans hd | exact (downI_f (.inr (by omega))).symm.trans hd
    refine VC.le _ (Le.boxRow (i := 0) (n := l0.length) rfl (by rw [intsL_len, hlen2]; omega) hcap hmx) ?_
    refine VC.exit ?_
    refine VC.region ?_
    refine VO.mw ?_
    refine VO.vv (OpV.add rfl rfl rfl (by unfold fits; omega)) ?_
    refine VO.mb ?_
    refine VO.nil ?_
    exact Exists.intro (⟨i + 1, Nat.succ_pos _, by omega⟩) (And.intro (Le.mk hB [0] ⟨rfl, rfl, rfl, rfl, rfl, trivial⟩ rfl (by dsimp only; rw [show i + 1 - 1 = i by omega, ← hex]; rfl) (Nat.le_refl _)) (by first | omega | (show _ < _; omega) | (simp only []; omega)))
  ·have aK2 := aK2b
   try simp only [qq] at aK2
   refine VA.takeX (i := 4) rfl (by kernel_rfl) (by kernel_rfl) (by kernel_rfl) rfl rfl rfl rfl aK2b ?_
   refine VA.takeX (i := 5) rfl (by kernel_rfl) (by kernel_rfl) (by kernel_rfl) rfl rfl rfl rfl aK2b ?_
   refine VA.takeX (i := 6) rfl (by kernel_rfl) (by kernel_rfl) (by kernel_rfl) rfl rfl rfl rfl aK2b ?_
   refine VA.takeX (i := 7) rfl (by kernel_rfl) (by kernel_rfl) (by kernel_rfl) rfl rfl rfl rfl aK2b ?_
   refine VA.takeX (i := 8) rfl (by kernel_rfl) (by kernel_rfl) (by kernel_rfl) rfl rfl rfl rfl aK2b ?_
   refine VA.takeX (i := 9) rfl (by kernel_rfl) (by kernel_rfl) (by kernel_rfl) rfl rfl rfl rfl aK2b ?_
   refine VA.takeX (i := 10) rfl (by kernel_rfl) (by kernel_rfl) (by kernel_rfl) rfl rfl rfl rfl aK2b ?_
   refine VA.takeX (i := 11) rfl (by kernel_rfl) (by kernel_rfl) (by kernel_rfl) rfl rfl rfl rfl aK2b ?_
   refine VA.takeX (i := 12) rfl (by kernel_rfl) (by kernel_rfl) (by kernel_rfl) rfl rfl rfl rfl aK2b ?_
   refine VA.takeX (i := 13) rfl (by kernel_rfl) (by kernel_rfl) (by kernel_rfl) rfl rfl rfl rfl aK2b ?_
   refine VA.takeX (i := 14) rfl (by kernel_rfl) (by kernel_rfl) (by kernel_rfl) rfl rfl rfl rfl aK2b ?_
   refine VA.takeX (i := 15) rfl (by kernel_rfl) (by kernel_rfl) (by kernel_rfl) rfl rfl rfl rfl aK2b ?_
   refine VA.tk (i := 16) rfl (OpV.pickF rfl rfl rfl rfl aK2b) ?_
   refine VA.done (by kernel_rfl) ?_
   refine VC.condF rfl rfl ?_
   have hex : l2 = insT c l0 i := by first | exact (downI_f (.inl (by omega))).symm.trans hd | exact (downI_f (.inr (by omega))).symm.trans hd
   refine VC.le _ (Le.boxRow (i := 0) (n := l0.length) rfl (by rw [intsL_len, hlen2]; omega) hcap hmx) ?_
   refine VC.exit ?_
   refine VC.region ?_
   refine VO.mw ?_
   refine VO.vv (OpV.add rfl rfl rfl (by unfold fits; omega)) ?_
   refine VO.mb ?_
   refine VO.nil ?_
   exact Exists.intro (⟨i + 1, Nat.succ_pos _, by omega⟩) (And.intro (Le.mk hB [0] ⟨rfl, rfl, rfl, rfl, rfl, trivial⟩ rfl (by dsimp only; rw [show i + 1 - 1 = i by omega, ← hex]; rfl) (Nat.le_refl _)) (by first | omega | (show _ < _; omega) | (simp only []; omega)))
 ·have aH1 := aH1b
  try simp only [qq] at aH1
  have hie : i - 1 = l0.length - 1 := by omega
  rw [hie]
  refine VC.exit ?_
  exact Exists.intro _ (And.intro (RetV.none Tryz.results240) (⟨rfl, rfl⟩))
end
section
theorem getDs {l : List Int} {i j : Nat} {x : Int} (hi : i < l.length) : (l.set i x).getD j 0 = if j = i then x else l.getD j 0 := by
 by_cases e : j = i
 ·subst e; simp [hi]
 ·rw [if_neg e, List.getD_eq_getElem?_getD, List.getElem?_set_ne (Ne.symm e), ← List.getD_eq_getElem?_getD]
theorem swp_get {l : List Int} {j : Nat} (h0 : 0 < j) (h : j < l.length) (k : Nat) : (swp l j).getD k 0 = if k = j - 1 then l.getD j 0 else if k = j then l.getD (j - 1) 0 else l.getD k 0 := by
 unfold swp
 rw [getDs (by rw [List.length_set]; omega), getDs h]
theorem swp_len (l : List Int) (j : Nat) : (swp l j).length = l.length := by simp [swp]
theorem downI_congr {c1 c2 : Int → Int → Int} {x : Int} : ∀ (j : Nat) (l : List Int), j < l.length → l.getD j 0 = x → (∀ k, k < j → 0 ≤ l.getD k 0 ∧ l.getD k 0 < x) → (∀ y, 0 ≤ y → y < x → (c1 x y < 0 ↔ c2 x y < 0)) → downI c1 j l = downI c2 j l
 | 0, l, _, _, _, _ => rfl
 | j + 1, l, hl, hx, hp, hc => by
  have h1 := hc (l.getD j 0) (hp j (by omega)).1 (hp j (by omega)).2
  rw [downI, downI, hx]
  by_cases h : c1 x (l.getD j 0) < 0
  ·rw [if_pos h, if_pos (h1.1 h)]
   refine downI_congr j _ (by rw [swp_len]; omega) ?_ (fun k hk => ?_) hc
   ·rw [swp_get (by omega) hl, if_pos (by omega), hx]
   ·rw [swp_get (by omega) hl, if_neg (by omega), if_neg (by omega)]; exact hp k (by omega)
  ·rw [if_neg h, if_neg (fun h2 => h (h1.2 h2))]
theorem downI_keep {c : Int → Int → Int} {b : Int} : ∀ (j : Nat) (l : List Int), j < l.length → (∀ k, k ≤ j → l.getD k 0 ≤ b) → (∀ k, k ≤ j → (downI c j l).getD k 0 ≤ b) ∧ ∀ k, j < k → (downI c j l).getD k 0 = l.getD k 0
 | 0, l, _, h => ⟨h, fun _ _ => rfl⟩
 | j + 1, l, hl, h => by
  rw [downI]
  split
  ·have hs := swp_get (l := l) (j := j + 1) (by omega) hl
   obtain ⟨h1, h2⟩ := downI_keep (c := c) (b := b) j (swp l (j + 1)) (by rw [swp_len]; omega) (fun k hk => by
    rw [hs]; split
    ·exact h _ (Nat.le_refl _)
    ·split
     ·exact h _ (by omega)
     ·exact h k (by omega))
   refine ⟨fun k hk => ?_, fun k hk => ?_⟩
   ·by_cases e : k = j + 1
    ·rw [h2 k (by omega), hs, if_neg (by omega), if_pos e]; exact h _ (by omega)
    ·exact h1 k (by omega)
   ·rw [h2 k (by omega), hs, if_neg (by omega), if_neg (by omega)]
  ·exact ⟨h, fun _ _ => rfl⟩
theorem idO_getD {n k : Nat} (h : k < n) : (idO n).getD k 0 = (k : Int) := by
 unfold idO
 rw [List.getD_eq_getElem?_getD, List.getElem?_map, List.getElem?_range h]; rfl
theorem insT_idO {c1 c2 : Int → Int → Int} {n : Nat} (hc : ∀ x y : Int, 0 ≤ y → y < x → x < n → (c1 x y < 0 ↔ c2 x y < 0)) : ∀ i, i < n → insT c1 (idO n) i = insT c2 (idO n) i ∧ (insT c1 (idO n) i).length = n ∧ (∀ k, k ≤ i → 0 ≤ (insT c1 (idO n) i).getD k 0 ∧ (insT c1 (idO n) i).getD k 0 ≤ i) ∧ ∀ k, i < k → k < n → (insT c1 (idO n) i).getD k 0 = (k : Int)
 | 0, h => ⟨rfl, idO_len n, fun k hk => by rw [show k = 0 by omega]; show 0 ≤ (idO n).getD 0 0 ∧ (idO n).getD 0 0 ≤ _; rw [idO_getD h]; omega, fun k _ hk => idO_getD hk⟩
 | i + 1, h => by
  obtain ⟨h1, h2, h3, h4⟩ := insT_idO hc i (by omega)
  have hp := insT_perm c1 (idO n) (i + 1) (.inl (by rw [idO_len]; omega))
  rw [insT, insT, ← h1]
  have e1 := h4 (i + 1) (by omega) h
  have hk := downI_keep (c := c1) (b := ((i + 1 : Nat) : Int)) (i + 1) (insT c1 (idO n) i) (by omega) (fun k hk => by
   by_cases e : k = i + 1
   ·subst e; rw [e1]; exact Int.le_refl _
   ·have := (h3 k (by omega)).2; omega)
  have hmem : ∀ k, k < n → 0 ≤ (downI c1 (i + 1) (insT c1 (idO n) i)).getD k 0 := fun k hk' => by
   have hm : (downI c1 (i + 1) (insT c1 (idO n) i)).getD k 0 ∈ idO n := by
    refine hp.subset ?_
    show _ ∈ downI c1 (i + 1) (insT c1 (idO n) i)
    have hl : k < (downI c1 (i + 1) (insT c1 (idO n) i)).length := by rw [show (downI c1 (i + 1) (insT c1 (idO n) i)).length = n from (hp.length_eq.trans (idO_len n))]; exact hk'
    rw [List.getD_eq_getElem?_getD, List.getElem?_eq_getElem hl]; exact List.getElem_mem hl
   exact ((idO_ord n).lt _ hm).1
  refine ⟨?_, hp.length_eq.trans (idO_len n), fun k hk' => ⟨hmem k (by omega), hk.1 k hk'⟩, fun k hk' hn => by rw [hk.2 k hk']; exact h4 k (by omega) hn⟩
  refine downI_congr (x := ((i + 1 : Nat) : Int)) (i + 1) _ (by omega) e1 (fun k hk' => by have := h3 k (by omega); omega) (fun y hy0 hy => hc _ y hy0 hy (by omega))
end
end Go.Proofs.YtcploodfholkkaaGreatDoor
namespace Go.Proofs
open Go.Shelf
def Tryz.sorted140_ren : Go.Shelf.Ren := ⟨fun | 6 => 140 | 8 => 213 | 9 => 214 | 11 => 289 | 13 => 176 | 12 => 290 | 23 => 248 | 24 => 249 | 14 => 338 | 15 => 339 | 16 => 340 | 17 => 341 | 18 => 342 | 19 => 343 | 20 => 251 | 21 => 344 | 22 => 345 | 25 => 375 | 26 => 317 | 27 => 318 | 28 => 376 | 29 => 377 | 30 => 321 | 31 => 391 | n => n, fun | 26 => 9 | 28 => 247 | 24 => 82 | 0 => 0 | 3 => 3 | 37 => 282 | 48 => 340 | 50 => 342 | 4 => 4 | 40 => 334 | 39 => 333 | 45 => 212 | 5 => 5 | 9 => 9 | 51 => 388 | 55 => 392 | 57 => 427 | 58 => 148 | 33 => 265 | n => n, fun | n => n⟩
theorem Tryz.sorted140 : Go.Proofs.SlLaysZ.n6 Tryz.prog Tryz.sorted140_ren := {
 mixed := by kernel_rfl
 f6 := ⟨Tryz.f140.name, by decide, Tryz.func140.trans (congrArg some (by kernel_rfl))⟩
 f8 := ⟨Tryz.f213.name, by decide, Tryz.func213.trans (congrArg some (by kernel_rfl))⟩
 f11 := ⟨Tryz.f289.name, by decide, Tryz.func289.trans (congrArg some (by kernel_rfl))⟩
 t0 := Tryz.underlying0
 a0 := Tryz.isAgg0
 z0 := Tryz.sizeOf0
 v0 := Tryz.zeroValue0
 t24 := Tryz.underlying82
 a24 := Tryz.isAgg82
 z24 := Tryz.sizeOf82
 v24 := Tryz.zeroValue82
 t26 := Tryz.underlying9
 a26 := Tryz.isAgg9
 z26 := Tryz.sizeOf9
 v26 := Tryz.zeroValue9
 t28 := Tryz.underlying247
 a28 := Tryz.isAgg247
 z28 := Tryz.sizeOf247
 v28 := Tryz.zeroValue247
 i26 := by kernel_rfl }
def Tryz.sort214_ren : Go.Shelf.Ren := ⟨fun | 6 => 214 | 8 => 176 | 9 => 290 | 19 => 248 | 20 => 249 | 21 => 338 | 22 => 339 | 23 => 340 | 24 => 341 | 25 => 342 | 26 => 343 | 27 => 251 | 28 => 344 | 29 => 345 | 36 => 375 | 31 => 317 | 32 => 318 | 37 => 376 | 38 => 377 | 39 => 321 | 41 => 391 | n => n, fun | 27 => 82 | 29 => 9 | 3 => 3 | 32 => 282 | 26 => 82 | 0 => 0 | 44 => 340 | 46 => 342 | 4 => 4 | 36 => 334 | 35 => 333 | 41 => 212 | 5 => 5 | 9 => 9 | 53 => 388 | 57 => 392 | 63 => 427 | 64 => 148 | n => n, fun | n => n⟩
theorem Tryz.sort214 : Go.Proofs.SlLaysM.n6 Tryz.prog Tryz.sort214_ren := {
 mixed := by kernel_rfl
 f6 := ⟨Tryz.f214.name, by decide, Tryz.func214.trans (congrArg some (by kernel_rfl))⟩
 f8 := Tryz.func176.trans (congrArg some (by kernel_rfl))
 f9 := ⟨Tryz.f290.name, by decide, Tryz.func290.trans (congrArg some (by kernel_rfl))⟩
 f19 := Tryz.func248.trans (congrArg some (by kernel_rfl))
 f20 := Tryz.func249.trans (congrArg some (by kernel_rfl))
 f21 := ⟨Tryz.f338.name, by decide, Tryz.func338.trans (congrArg some (by kernel_rfl))⟩
 f22 := ⟨Tryz.f339.name, by decide, Tryz.func339.trans (congrArg some (by kernel_rfl))⟩
 f23 := ⟨Tryz.f340.name, by decide, Tryz.func340.trans (congrArg some (by kernel_rfl))⟩
 f24 := ⟨Tryz.f341.name, by decide, Tryz.func341.trans (congrArg some (by kernel_rfl))⟩
 f25 := ⟨Tryz.f342.name, by decide, Tryz.func342.trans (congrArg some (by kernel_rfl))⟩
 f26 := ⟨Tryz.f343.name, by decide, Tryz.func343.trans (congrArg some (by kernel_rfl))⟩
 f27 := ⟨Tryz.f251.name, by decide, Tryz.func251.trans (congrArg some (by kernel_rfl))⟩
 f28 := ⟨Tryz.f344.name, by decide, Tryz.func344.trans (congrArg some (by kernel_rfl))⟩
 f29 := ⟨Tryz.f345.name, by decide, Tryz.func345.trans (congrArg some (by kernel_rfl))⟩
 f31 := Tryz.func317.trans (congrArg some (by kernel_rfl))
 f32 := Tryz.func318.trans (congrArg some (by kernel_rfl))
 f36 := ⟨Tryz.f375.name, by decide, Tryz.func375.trans (congrArg some (by kernel_rfl))⟩
 f37 := ⟨Tryz.f376.name, by decide, Tryz.func376.trans (congrArg some (by kernel_rfl))⟩
 f38 := ⟨Tryz.f377.name, by decide, Tryz.func377.trans (congrArg some (by kernel_rfl))⟩
 f39 := ⟨Tryz.f321.name, by decide, Tryz.func321.trans (congrArg some (by kernel_rfl))⟩
 f41 := ⟨Tryz.f391.name, by decide, Tryz.func391.trans (congrArg some (by kernel_rfl))⟩
 t0 := Tryz.underlying0
 a0 := Tryz.isAgg0
 z0 := Tryz.sizeOf0
 v0 := Tryz.zeroValue0
 t3 := Tryz.underlying3
 a3 := Tryz.isAgg3
 z3 := Tryz.sizeOf3
 v3 := Tryz.zeroValue3
 t4 := Tryz.underlying4
 a4 := Tryz.isAgg4
 z4 := Tryz.sizeOf4
 v4 := Tryz.zeroValue4
 t5 := Tryz.underlying5
 a5 := Tryz.isAgg5
 z5 := Tryz.sizeOf5
 v5 := Tryz.zeroValue5
 t9 := Tryz.underlying9
 a9 := Tryz.isAgg9
 z9 := Tryz.sizeOf9
 v9 := Tryz.zeroValue9
 t26 := Tryz.underlying82
 a26 := Tryz.isAgg82
 z26 := Tryz.sizeOf82
 v26 := Tryz.zeroValue82
 t27 := Tryz.underlying82
 a27 := Tryz.isAgg82
 z27 := Tryz.sizeOf82
 v27 := Tryz.zeroValue82
 t29 := Tryz.underlying9
 a29 := Tryz.isAgg9
 z29 := Tryz.sizeOf9
 v29 := Tryz.zeroValue9
 t32 := Tryz.underlying282
 a32 := Tryz.isAgg282
 z32 := Tryz.sizeOf282
 v32 := Tryz.zeroValue282
 t35 := Tryz.underlying333
 a35 := Tryz.isAgg333
 z35 := Tryz.sizeOf333
 v35 := Tryz.zeroValue333
 t36 := Tryz.underlying334
 a36 := Tryz.isAgg334
 z36 := Tryz.sizeOf334
 v36 := Tryz.zeroValue334
 t41 := Tryz.underlying212
 a41 := Tryz.isAgg212
 z41 := Tryz.sizeOf212
 v41 := Tryz.zeroValue212
 t44 := Tryz.underlying340
 a44 := Tryz.isAgg340
 z44 := Tryz.sizeOf340
 v44 := Tryz.zeroValue340
 t46 := Tryz.underlying342
 a46 := Tryz.isAgg342
 z46 := Tryz.sizeOf342
 v46 := Tryz.zeroValue342
 t53 := Tryz.underlying388
 a53 := Tryz.isAgg388
 z53 := Tryz.sizeOf388
 v53 := Tryz.zeroValue388
 t57 := Tryz.underlying392
 a57 := Tryz.isAgg392
 z57 := Tryz.sizeOf392
 v57 := Tryz.zeroValue392
 t63 := Tryz.underlying427
 a63 := Tryz.isAgg427
 z63 := Tryz.sizeOf427
 v63 := Tryz.zeroValue427
 t64 := Tryz.underlying148
 a64 := Tryz.isAgg148
 z64 := Tryz.sizeOf148
 v64 := Tryz.zeroValue148 }
def Tryz.keys165_ren : Go.Shelf.Ren := ⟨fun | 7 => 165 | 10 => 232 | n => n, fun | 23 => 208 | 26 => 9 | 3 => 3 | 28 => 247 | 0 => 0 | 27 => 246 | 33 => 265 | 4 => 4 | n => n, fun | n => n⟩
theorem Tryz.keys165 : Go.Proofs.SlLaysZ.n7 Tryz.prog Tryz.keys165_ren := {
 mixed := by kernel_rfl
 f7 := ⟨Tryz.f165.name, by decide, Tryz.func165.trans (congrArg some (by kernel_rfl))⟩
 f10 := ⟨Tryz.f232.name, by decide, Tryz.func232.trans (congrArg some (by kernel_rfl))⟩
 t0 := Tryz.underlying0
 a0 := Tryz.isAgg0
 z0 := Tryz.sizeOf0
 v0 := Tryz.zeroValue0
 t4 := Tryz.underlying4
 a4 := Tryz.isAgg4
 z4 := Tryz.sizeOf4
 v4 := Tryz.zeroValue4
 t23 := Tryz.underlying208
 a23 := Tryz.isAgg208
 z23 := Tryz.sizeOf208
 v23 := Tryz.zeroValue208
 t26 := Tryz.underlying9
 a26 := Tryz.isAgg9
 z26 := Tryz.sizeOf9
 v26 := Tryz.zeroValue9
 t27 := Tryz.underlying246
 a27 := Tryz.isAgg246
 z27 := Tryz.sizeOf246
 v27 := Tryz.zeroValue246
 t28 := Tryz.underlying247
 a28 := Tryz.isAgg247
 z28 := Tryz.sizeOf247
 v28 := Tryz.zeroValue247
 t33 := Tryz.underlying265
 a33 := Tryz.isAgg265
 z33 := Tryz.sizeOf265
 v33 := Tryz.zeroValue265 }
end Go.Proofs
namespace Go.Proofs.YtcploodfholkkaaGreatDoor
open Go.RowKit
set_option maxRecDepth 100000
section
open Go.RowKit Go.Maps Go.Sort Go.Shelf
def bytesOf (l : List UInt8) : ByteArray := ⟨l.toArray⟩
def sKeys {α : Type} (l : List (ByteArray × α)) : List ByteArray := ((l.map fun p => p.1.data.toList).mergeSort (fun x y => decide (x ≤ y))).map bytesOf
theorem sKeys_len {α : Type} (l : List (ByteArray × α)) : (sKeys l).length = l.length := by simp [sKeys]
theorem mput_keys {α : Type} (l : List (ByteArray × α)) (k : ByteArray) (x : α) : (mput l k x).map (·.1) = if mpos l k < l.length then l.map (·.1) else l.map (·.1) ++ [k] := by
 split
 ·rename_i h
  rw [mput_old l k x h, List.map_set]
  have := mpos_key l k h
  refine List.ext_getElem (by simp) fun i h1 h2 => ?_
  simp only [List.length_set, List.length_map] at h1
  rw [List.getElem_set]
  split
  ·rename_i e; subst e; simp [this]
  ·simp
 ·rename_i h
  rw [mput_new l k x (by have := mpos_le l k; omega)]; simp
theorem mpos_mem {α : Type} {l : List (ByteArray × α)} {k : ByteArray} : mpos l k < l.length ↔ k ∈ l.map (·.1) := by
 constructor
 ·intro h; exact List.mem_map.2 ⟨_, List.getElem_mem h, mpos_key l k h⟩
 ·intro h
  obtain ⟨p, hp, e⟩ := List.mem_map.1 h
  obtain ⟨j, hj, ej⟩ := List.getElem_of_mem hp
  by_cases h1 : mpos l k < l.length
  ·exact h1
  ·have hle := mpos_le l k
   obtain ⟨_, h2⟩ := mpos_ne l k j (by omega)
   exact absurd (by rw [ej]; exact e) h2
theorem mput_nodup {α : Type} {l : List (ByteArray × α)} (h : (l.map (·.1)).Nodup) (k : ByteArray) (x : α) : ((mput l k x).map (·.1)).Nodup := by
 rw [mput_keys]
 split
 ·exact h
 ·rename_i h1
  rw [mpos_mem] at h1
  exact List.nodup_append.2 ⟨h, by simp, fun a ha b hb => by simp at hb; subst hb; exact fun e => h1 (e ▸ ha)⟩
theorem mput_mem {α : Type} {l : List (ByteArray × α)} {k : ByteArray} {x : α} {q : ByteArray} : q ∈ (mput l k x).map (·.1) ↔ q ∈ l.map (·.1) ∨ q = k := by
 rw [mput_keys]
 split
 ·rename_i h1
  rw [mpos_mem] at h1
  exact ⟨.inl, fun h => h.elim id fun e => e ▸ h1⟩
 ·simp
section
variable {P : Program} {w : World} {kt : TypeId}
theorem own_of_mapE {α : Type} {E : α → AV} {g : Nat} {l : List (ByteArray × α)} {Z : Nat → Prop} (hk : P.underlying kt = some .string) (h : EntR w Z (mapE (fun k : ByteArray => Value.string k) g E l)) (hnd : (l.map (·.1)).Nodup) (hs : ∀ p ∈ l, p.1.size ≤ maxLen) (hl : l.length ≤ maxLen) :
  ∃ D : DataW Unit, w.ownsMap P kt (fun _ => some (.nil, [])) g l.length D ∧ Maps.size D = l.length ∧ (strKeys D).Perm (l.map fun p => p.1.data.toList) := by
 obtain ⟨c, h1, h2, h3⟩ := h.toMap
 have hmem : ∀ x ∈ c.toList, ∃ j, ∃ hj : j < l.length, x = c[j]! := fun x hx => by
  obtain ⟨j, hj, rfl⟩ := List.getElem_of_mem hx
  simp at hj
  exact ⟨j, by omega, by rw [getElem!_pos c j hj]; simp⟩
 have hrd : ∀ x ∈ c.toList, ∀ j (hj : j < l.length), x = c[j]! → WideElems.rd (H := Unit) P kt (fun _ => some (.nil, [])) x = some (.string (l[j]).1.data.toList, .nil) := fun x hx j hj e => by
  have hk1 := (h3 j hj).1
  obtain ⟨key, val, born⟩ := x
  have : key = .string (l[j]).1 := by rw [← hk1, ← e]
  subst this
  exact WideElems.rd_mk (R := fun _ => some (.nil, [])) (yv := (.nil, [])) (Go.WideMaps.keyOf_string_mk hk (hs _ (List.getElem_mem hj))) rfl
 have hF : WideElems.Fit (H := Unit) P kt (fun _ => some (.nil, [])) c l.length := ⟨by omega, (MapKept.stamped_iff _ _).2 ⟨fun x hx => by
   obtain ⟨j, hj, rfl⟩ := hmem x hx
   rw [(h3 j hj).2.1]; exact hj, by
   have : c.toList.map (·.born) = List.range' 0 l.length := by
    refine List.ext_getElem (by simp [h2]) fun i k1 k2 => ?_
    simp at k1
    have := (h3 i (by omega)).2.1
    rw [getElem!_pos c i k1] at this
    simp [this]
   rw [this]; exact List.nodup_range', by
   rw [List.pairwise_iff_getElem]
   intro i j hi hj hij e
   simp at hi hj
   have k1 := (h3 i (by omega)).1
   have k2 := (h3 j (by omega)).1
   rw [getElem!_pos c i hi] at k1
   rw [getElem!_pos c j hj] at k2
   simp only [Array.getElem_toList] at e
   rw [k1, k2] at e
   have e' : (l[i]'(by omega)).1 = (l[j]'(by omega)).1 := by injection e
   have := (List.pairwise_iff_getElem.1 hnd) i j (by simp; omega) (by simp; omega) hij
   simp at this
   exact this e'⟩, fun x hx => by
   obtain ⟨j, hj, e⟩ := hmem x hx
   exact ⟨_, hrd x hx j hj e⟩⟩
 refine ⟨_, ⟨c, l.length, h1, hF, by omega, rfl⟩, ?_, ?_⟩
 ·simp [Maps.size, (WideShapes.sorted_perm _).length_eq, h2]
 ·have hp := (WideShapes.sorted_perm (c.toList.map (WideElems.rg (H := Unit) P kt fun _ => some (.nil, []))))
  refine (hp.map (fun p => Go.strOf p.1)).trans (.of_eq ?_)
  refine List.ext_getElem (by simp [h2]) fun i k1 k2 => ?_
  simp at k1 k2
  have := hrd (c[i]!) (by rw [getElem!_pos c i (by omega)]; simp) i (by omega) rfl
  rw [getElem!_pos c i (by omega)] at this
  simp [WideElems.rg_of this]
  rfl
end
section
theorem sortsK (m : Nat) : AnyZ.SortsIn Tryz.prog Tryz.sorted140_ren Fence.wide m :=
  ⟨fun blk off cap ss W hH hblk hsz => callsIn_wide.2 (AnyM.slices_Sort_string Tryz.sort214 blk off cap ss W hH hblk hsz),
   fun p cap W => callsIn_wide.2 (AnyM.slices_Sort_string_none Tryz.sort214 p cap W)⟩
theorem maps_Keys_int (mb : Option Nat) : SpecH Tryz.prog 165 [.v (.map mb)] [] (fun y hp' => ∃ g, y = .v (.func (.func 232) #[] #[.pointer (some ⟨g, 0, none⟩)]) ∧ hp' = [.box g ⟨[.v (.map mb)], 208, 1⟩]) := fun w A us ha _ _ _ => by
 have hu : us = #[.map mb] := by
  have h0 := ha.2 0 (by simp)
  have h1 : us.size = 1 := ha.1
  have h2 := h0.eq_v
  apply Array.ext (by simp [h1])
  intro i hi1 hi2
  obtain rfl : i = 0 := by omega
  rw [Array.getD_eq_getD_getElem?, Array.getElem?_eq_getElem (by omega)] at h2
  simpa using h2
 subst hu
 refine ((callsIn_wide (n := 5)).1 (AnyZ.keys_in Tryz.keys165 Fence.wide 5 trivial rfl mb w)).mono ?_
 rintro e w' ⟨rfl, rfl⟩
 refine ⟨_, _, _, ⟨w.heap.size, rfl, rfl⟩, rfl, List.pairwise_singleton _ _, .v _, fun e he => ?_, fun b ⟨e, he, hb⟩ hl => ?_, ((Chg.refl NoB w).alloc _).any⟩
 ·simp at he; subst he
  exact ⟨_, heap_alloc_new w _, rfl, Nat.le_refl _, fun j hj => by simp at hj; subst hj; exact ⟨_, rfl, .v _⟩⟩
 ·simp at he; subst he
  simp [Ent.blk] at hb; omega
set_option maxHeartbeats 1000000 in
theorem slices_Sorted_int {α : Type} {E : α → AV} {g mg : Nat} {l : List (ByteArray × α)} (hnd : (l.map (·.1)).Nodup) (hs : ∀ p ∈ l, p.1.size ≤ maxLen) (hl : l.length ≤ 1000000) :
    SpecH Tryz.prog 140 [.v (.func (.func 232) #[] #[.pointer (some ⟨g, 0, none⟩)])] [.box g ⟨[.v (.map (some mg))], 208, 1⟩, mapE (fun k : ByteArray => Value.string k) mg E l]
      (fun y hp' => ∃ u, y = .v u ∧ hp' = [.row u l.length 1 (strsL (sKeys l)) 9, .box g ⟨[.v (.map (some mg))], 208, 1⟩, mapE (fun k : ByteArray => Value.string k) mg E l]) := fun w A us ha hap hA hE => by
  have hu : us = #[.func (.func 232) #[] #[.pointer (some ⟨g, 0, none⟩)]] := by
    have h0 := ha.2 0 (by simp)
    have h1 : us.size = 1 := ha.1
    have h2 := h0.eq_v
    apply Array.ext (by simp [h1])
    intro i hi1 hi2
    obtain rfl : i = 0 := by omega
    rw [Array.getD_eq_getD_getElem?, Array.getElem?_eq_getElem (by omega)] at h2
    simpa using h2
  subst hu
  have hB := hE _ (List.mem_cons_self ..)
  have hM := hE _ (List.mem_cons_of_mem _ (List.mem_cons_self ..))
  obtain ⟨c, b1, b2, b3, b4⟩ := hB
  have hc : c = #[.map (some mg)] := by
    obtain ⟨u, q1, q2⟩ := b4 0 (by simp)
    have := q2.eq_v
    simp at b2 this
    apply Array.ext (by simp [b2])
    intro i hi1 hi2
    obtain rfl : i = 0 := by omega
    rw [Array.getElem?_eq_getElem (by omega)] at q1
    cases q1
    simpa using this
  subst hc
  have hlen : l.length ≤ maxLen := by simp only [maxLen]; omega
  obtain ⟨D, d1, d2, d3⟩ := own_of_mapE (kt := 9) Tryz.underlying9 hM hnd hs hlen
  have hgl : g < w.heap.size := (Array.getElem?_eq_some_iff.1 b1).1
  have hcell : w.cell? ⟨g, 0, none⟩ = some (.map (some mg)) := by simp [World.cell?, b1]
  have hseq : SeqGives Fence.wide 2 Tryz.prog 232 #[.pointer (some ⟨g, 0, none⟩)] encStr (fun ss => ss.Perm (strKeys D)) (Maps.size D) w :=
    AnyZ.keys_gives (ρ := Tryz.keys165_ren) { Tryz.keys165 with } Fence.wide _ trivial rfl (by omega) g mg l.length D _ hgl hcell d1
  have hsz : Maps.size D ≤ maxLen := by rw [d2]; exact hlen
  have hby : Maps.size D * 16 ≤ 140737488355328 := by rw [d2]; omega
  refine ((callsIn_wide (n := 5)).1 (AnyZ.sorted_in Tryz.sorted140 Fence.wide 5 trivial trivial trivial trivial rfl (by omega) (sortsK _) (enters_of Tryz.func214 (by kernel_rfl) rfl) 232 #[.pointer (some ⟨g, 0, none⟩)] trivial (enters_of Tryz.func232 (by kernel_rfl) rfl) _ _ hsz hby _ hseq)).mono ?_
  rintro e w' ⟨v, ss, rfl, hS, hrow, hnil, hb⟩
  have hS' : ss.Perm (l.map fun p => p.1.data.toList) := hS.trans d3
  have hssl : ss.length = l.length := by simpa using hS'.length_eq
  have hkeys : (ss.mergeSort (fun x y => decide (x ≤ y))).map encStr = (sKeys l).map fun k => Value.string k := by
    have := mergeSort_of_perm hS'
    unfold leB at this
    rw [this, sKeys, List.map_map]
    rfl
  rw [hkeys] at hrow
  have hchg : Chg NoB w w' := (Chg.ofBelow hb).mono fun k h1 h2 => absurd h1 (Nat.not_lt.2 h2)
  obtain ⟨r1, r2⟩ := hrow
  have hZ : ∀ b, b < w.heap.size ∧ A b → Zh w A [.box g ⟨[.v (.map (some mg))], 208, 1⟩, mapE (fun k : ByteArray => Value.string k) mg E l] [.row v l.length 1 (strsL (sKeys l)) 9, .box g ⟨[.v (.map (some mg))], 208, 1⟩, mapE (fun k : ByteArray => Value.string k) mg E l] w' b := fun b ⟨hb1, hb2⟩ => by
    refine ⟨Nat.lt_of_lt_of_le hb1 hchg.size, fun ⟨e, he, heb⟩ => ?_, fun _ => .inl hb2⟩
    rcases List.mem_cons.1 he with rfl | he
    · rcases r2 with ⟨rfl, _⟩ | ⟨g2, cap, cur, rfl, hge, _⟩
      · simp [Ent.blk, Value.ownBlock] at heb
      · simp [Ent.blk, Value.ownBlock] at heb; omega
    · exact hA b ⟨e, he, heb⟩ hb2
  have hold : ∀ e ∈ [Ent.box g ⟨[.v (.map (some mg))], 208, 1⟩, mapE (fun k : ByteArray => Value.string k) mg E l], ∀ b, e.blk = some b → b < w.heap.size := fun e he b heb => by
    rcases List.mem_cons.1 he with rfl | he
    · simp [Ent.blk] at heb; omega
    · simp at he; subst he
      simp [Ent.blk] at heb
      obtain ⟨c2, k1, _⟩ := hM
      have := (Array.getElem?_eq_some_iff.1 k1).1
      omega
  refine ⟨_, _, _, ⟨v, rfl, rfl⟩, rfl, ?_, .v _, fun e he => ?_, fun b ⟨e, he, heb⟩ hl => ?_, hchg.any⟩
  · refine List.pairwise_cons.2 ⟨fun q hq b h1 h2 => ?_, hap⟩
    rcases r2 with ⟨rfl, _⟩ | ⟨g2, cap, cur, rfl, hge, _⟩
    · simp [Ent.blk, Value.ownBlock] at h1
    · simp [Ent.blk, Value.ownBlock] at h1
      have := hold q hq b h2
      omega
  · rcases List.mem_cons.1 he with rfl | he
    · refine ⟨by simp [strsL, sKeys_len], ?_⟩
      rcases r2 with ⟨rfl, hz⟩ | ⟨g2, cap, cur, rfl, hge, k1, k2, k3, k4, k5⟩
      · exact .inl ⟨rfl, by omega⟩
      · refine .inr ⟨g2, cap, cur, by rw [hssl], by omega, k3, k1, k4, fun j hj => ?_⟩
        have hj' : j < (sKeys l).length := by simpa [strsL] using hj
        have hcur : cur[j]? = some (.string ((sKeys l)[j])) := by
          have := congrArg (fun z => z[j]?) k5
          simp only [List.getElem?_map, List.getElem?_eq_getElem hj', Option.map_some] at this
          rw [List.getElem?_take] at this
          split at this
          · simpa using this
          · cases this
        exact ⟨_, hcur, by simp only [strsL, List.getElem_map]; exact .v _⟩
    · exact (hE e he).keep (fun b hb _ => ⟨hchg.block b hb.1 (fun h => h), hZ b hb⟩) fun b hb => hchg.block b (hold e he b hb) (fun h => h)
  · rcases List.mem_cons.1 he with rfl | he
    · rcases r2 with ⟨rfl, _⟩ | ⟨g2, cap, cur, rfl, hge, _⟩
      · simp [Ent.blk, Value.ownBlock] at heb
      · simp [Ent.blk, Value.ownBlock] at heb; omega
    · exact ⟨e, he, heb⟩
end
end
section
structure PlaceS where
 name : ByteArray
 part : ByteArray
 x : Int
 y : Int
 quarter : Int
instance : Inhabited PlaceS := ⟨⟨ByteArray.empty, ByteArray.empty, 0, 0, 0⟩⟩
instance : Sxc PlaceS where
 k := 5
 pos := by decide
 cell m j := match j with
  | 0 => avS m.name
  | 1 => avS m.part
  | 2 => avI m.x
  | 3 => avI m.y
  | 4 => avI m.quarter
  | _ => .any
structure ProdS where
 key : ByteArray
 wide : Int
 high : Int
 places : List PlaceS
instance : Inhabited ProdS := ⟨⟨ByteArray.empty, 0, 0, []⟩⟩
abbrev avProd (p : ProdS) : AV := .agg [avS p.key, avI p.wide, avI p.high, avL p.places]
abbrev boxProd (g : Nat) (p : ProdS) (ty : TypeId) : Ent := .box g ⟨[avS p.key, avI p.wide, avI p.high, avL p.places], ty, 4⟩
structure SmP (p : ProdS) : Prop where
 key : p.key.size ≤ 1000000
 len : p.places.length ≤ 1000000
 name : ∀ i, (p.places.getD i default).name.size ≤ 1000000
 part : ∀ i, (p.places.getD i default).part.size ≤ 1000000
def placeE (p : ProdS) (i : Nat) : Int :=
 if (keyF (p.places.getD i default).name && keyF (p.places.getD i default).part) = false then 5
 else if (decide (0 < i) && sLe (p.places.getD i default).name (p.places.getD (i - 1) default).name) = true then 7
 else if (outR (p.places.getD i default).x 0 p.wide || (outR (p.places.getD i default).y 0 p.high || outR (p.places.getD i default).quarter 0 3)) = true then 1
 else 0
def prodF (p : ProdS) : Int :=
 if keyF p.key = false then 5
 else if (outR p.wide 1 500000 || outR p.high 1 500000) = true then 1
 else if 1000 < p.places.length then 2
 else firstE (placeE p) p.places.length
section
variable {p : ProdS} {i : Nat}
theorem placeE_5a (h : keyF (p.places.getD i default).name = false) : placeE p i = 5 := by rw [placeE, if_pos (by rw [h]; rfl)]
theorem placeE_5b (h : keyF (p.places.getD i default).part = false) : placeE p i = 5 := by rw [placeE, if_pos (by rw [h, Bool.and_false])]
theorem placeE_7 (h1 : keyF (p.places.getD i default).name = true) (h2 : keyF (p.places.getD i default).part = true) (hi : 0 < i) (hs : sLe (p.places.getD i default).name (p.places.getD (i - 1) default).name = true) : placeE p i = 7 := by
 rw [placeE, if_neg (by rw [h1, h2]; simp), if_pos (by rw [hs, decide_eq_true hi]; rfl)]
theorem placeE_x (h1 : keyF (p.places.getD i default).name = true) (h2 : keyF (p.places.getD i default).part = true) (hs : i = 0 ∨ sLe (p.places.getD i default).name (p.places.getD (i - 1) default).name = false) :
  placeE p i = if (outR (p.places.getD i default).x 0 p.wide || (outR (p.places.getD i default).y 0 p.high || outR (p.places.getD i default).quarter 0 3)) = true then 1 else 0 := by
 rw [placeE, if_neg (by rw [h1, h2]; simp), if_neg]
 rcases hs with rfl | hs
 ·simp
 ·rw [hs]; simp
theorem placeE_1 (h1 : keyF (p.places.getD i default).name = true) (h2 : keyF (p.places.getD i default).part = true) (hs : i = 0 ∨ sLe (p.places.getD i default).name (p.places.getD (i - 1) default).name = false)
  (ho : (outR (p.places.getD i default).x 0 p.wide || (outR (p.places.getD i default).y 0 p.high || outR (p.places.getD i default).quarter 0 3)) = true) : placeE p i = 1 := by rw [placeE_x h1 h2 hs, if_pos ho]
theorem placeE_0 (h1 : keyF (p.places.getD i default).name = true) (h2 : keyF (p.places.getD i default).part = true) (hs : i = 0 ∨ sLe (p.places.getD i default).name (p.places.getD (i - 1) default).name = false)
  (ho : (outR (p.places.getD i default).x 0 p.wide || (outR (p.places.getD i default).y 0 p.high || outR (p.places.getD i default).quarter 0 3)) = false) : placeE p i = 0 := by rw [placeE_x h1 h2 hs, if_neg (by rw [ho]; simp)]
theorem prodF_5 (h : keyF p.key = false) : prodF p = 5 := by rw [prodF, if_pos h]
theorem prodF_1 (h : keyF p.key = true) (h1 : (outR p.wide 1 500000 || outR p.high 1 500000) = true) : prodF p = 1 := by rw [prodF, if_neg (by rw [h]; simp), if_pos h1]
theorem prodF_2 (h : keyF p.key = true) (h1 : (outR p.wide 1 500000 || outR p.high 1 500000) = false) (h2 : 1000 < p.places.length) : prodF p = 2 := by rw [prodF, if_neg (by rw [h]; simp), if_neg (by rw [h1]; simp), if_pos h2]
theorem prodF_x (h : keyF p.key = true) (h1 : (outR p.wide 1 500000 || outR p.high 1 500000) = false) (h2 : p.places.length ≤ 1000) : prodF p = firstE (placeE p) p.places.length := by rw [prodF, if_neg (by rw [h]; simp), if_neg (by rw [h1]; simp), if_neg (by omega)]
theorem prodF_at (h : keyF p.key = true) (h1 : (outR p.wide 1 500000 || outR p.high 1 500000) = false) (h2 : p.places.length ≤ 1000) {q : Nat} (hq : q < p.places.length) (hn : ∀ j, j < q → placeE p j = 0) {e : Int} (he : placeE p q = e) (h0 : e ≠ 0) : prodF p = e := by
 rw [prodF_x h h1 h2, firstE_found hn (by rw [he]; exact h0) hq, he]
theorem prodF_ok (h : keyF p.key = true) (h1 : (outR p.wide 1 500000 || outR p.high 1 500000) = false) (h2 : p.places.length ≤ 1000) (hn : ∀ j, j < p.places.length → placeE p j = 0) : prodF p = 0 := by
 rw [prodF_x h h1 h2, firstE_none hn]
end
structure ProdOk (p : ProdS) : Prop where
 key : keyF p.key = true
 wide : 1 ≤ p.wide ∧ p.wide ≤ 500000
 high : 1 ≤ p.high ∧ p.high ≤ 500000
 len : p.places.length ≤ 1000
 all : ∀ j, j < p.places.length → placeE p j = 0
theorem prodOk {p : ProdS} (h : prodF p = 0) : ProdOk p := by
 unfold prodF at h
 split at h
 ·cases h
 ·rename_i h1
  split at h
  ·cases h
  ·rename_i h2
   split at h
   ·cases h
   ·rename_i h3
    have h2' : (outR p.wide 1 500000 || outR p.high 1 500000) = false := by simpa using h2
    simp only [outR, Bool.or_eq_false_iff, decide_eq_false_iff_not] at h2'
    exact ⟨by simpa using h1, by omega, by omega, by omega, firstE_zero h⟩
def cntP (l : List PlaceS) : List (ByteArray × Int) := l.foldl (fun m x => mput m x.part (mgetD m x.part 0 + 1)) []
theorem cntP_snoc (l : List PlaceS) (x : PlaceS) : cntP (l ++ [x]) = mput (cntP l) x.part (mgetD (cntP l) x.part 0 + 1) := by simp [cntP]
theorem take_snocD {α : Type} {l : List α} {q : Nat} (h : q < l.length) (d : α) : l.take (q + 1) = l.take q ++ [l.getD q d] := by
 rw [List.take_add_one, List.getD_eq_getElem?_getD, List.getElem?_eq_getElem h]; rfl
theorem cntP_take {l : List PlaceS} {q : Nat} (h : q < l.length) : cntP (l.take (q + 1)) = mput (cntP (l.take q)) (l.getD q default).part (mgetD (cntP (l.take q)) (l.getD q default).part 0 + 1) := by
 rw [take_snocD h default, cntP_snoc]
theorem mget_mput {α : Type} : ∀ (l : List (ByteArray × α)) (k k' : ByteArray) (x : α), mget (mput l k x) k' = if k' = k then some x else mget l k'
 | [], k, k', x => by simp [mput, mget]
 | p :: r, k, k', x => by
  by_cases e : k = p.1
  ·subst e
   simp only [mput, if_true, mget]
   by_cases e2 : k' = p.1
   ·simp [e2]
   ·simp [e2]
  ·simp only [mput, if_neg e, mget]
   by_cases e2 : k' = p.1
   ·rw [if_pos e2, if_neg (fun h => e (h.symm.trans e2))]; simp [e2]
   ·rw [if_neg e2, mget_mput r k k' x]; simp [e2]
theorem mgetD_mput {α : Type} (l : List (ByteArray × α)) (k k' : ByteArray) (x z : α) : mgetD (mput l k x) k' z = if k' = k then x else mgetD l k' z := by
 unfold mgetD; rw [mget_mput]; split <;> rfl
theorem cntP_count : ∀ (l : List PlaceS) (m : List (ByteArray × Int)) (k : ByteArray), mgetD (l.foldl (fun m x => mput m x.part (mgetD m x.part 0 + 1)) m) k 0 = mgetD m k 0 + (l.filter fun x => decide (x.part = k)).length
 | [], m, k => by simp
 | x :: l, m, k => by
  rw [List.foldl_cons, cntP_count l, mgetD_mput]
  by_cases e : k = x.part
  ·subst e; simp; omega
  ·rw [if_neg e, List.filter_cons_of_neg (by simp; exact fun h => e h.symm)]
theorem cntP_get (l : List PlaceS) (k : ByteArray) : mgetD (cntP l) k 0 = (l.filter fun x => decide (x.part = k)).length := by
 rw [cntP, cntP_count]; simp [mgetD, mget]
theorem cntP_bd (l : List PlaceS) (k : ByteArray) : 0 ≤ mgetD (cntP l) k 0 ∧ mgetD (cntP l) k 0 ≤ l.length := by
 rw [cntP_get]
 have := List.length_filter_le (fun x : PlaceS => decide (x.part = k)) l
 omega
theorem cntP_nodup' : ∀ (l : List PlaceS) (m : List (ByteArray × Int)), (m.map (·.1)).Nodup → ((l.foldl (fun m x => mput m x.part (mgetD m x.part 0 + 1)) m).map (·.1)).Nodup
 | [], m, h => h
 | x :: l, m, h => cntP_nodup' l _ (mput_nodup h _ _)
theorem cntP_nodup (l : List PlaceS) : ((cntP l).map (·.1)).Nodup := cntP_nodup' l [] List.nodup_nil
theorem cntP_mem' : ∀ (l : List PlaceS) (m : List (ByteArray × Int)) (k : ByteArray), k ∈ (l.foldl (fun m x => mput m x.part (mgetD m x.part 0 + 1)) m).map (·.1) ↔ k ∈ m.map (·.1) ∨ ∃ x ∈ l, x.part = k
 | [], m, k => by simp
 | x :: l, m, k => by
  rw [List.foldl_cons, cntP_mem' l, mput_mem, or_assoc]
  simp only [List.mem_cons, exists_eq_or_imp]
  exact ⟨fun h => h.elim .inl fun h => h.elim (fun h => .inr (.inl h.symm)) fun h => .inr (.inr h), fun h => h.elim .inl fun h => h.elim (fun h => .inr (.inl h.symm)) fun h => .inr (.inr h)⟩
theorem cntP_mem {l : List PlaceS} {k : ByteArray} : k ∈ (cntP l).map (·.1) ↔ ∃ x ∈ l, x.part = k := by rw [cntP, cntP_mem']; simp
theorem cntP_len (l : List PlaceS) : (cntP l).length ≤ l.length := by
 unfold cntP
 have : ∀ (l : List PlaceS) (m : List (ByteArray × Int)), (l.foldl (fun m x => mput m x.part (mgetD m x.part 0 + 1)) m).length ≤ m.length + l.length := by
  intro l
  induction l with
  | nil => intro m; simp
  | cons x l ih =>
   intro m
   have := ih (mput m x.part (mgetD m x.part 0 + 1))
   have h2 := mput_len m x.part (mgetD m x.part 0 + 1)
   simp only [List.foldl_cons, List.length_cons]
   split at h2 <;> omega
 simpa using this l []
def needsL (p : ProdS) : List NeedS := (sKeys (cntP p.places)).map fun k => ⟨k, mgetD (cntP p.places) k 0⟩
def needsR (p : ProdS) : List NeedS := if prodF p = 0 then needsL p else []
theorem needsL_len (p : ProdS) : (needsL p).length = (cntP p.places).length := by simp [needsL, sKeys_len]
end
section
section
variable {ms : List Mach} {ns : List NeedS}
theorem plB_in {pl : List Int} {k r : Nat} (h : r < pl.length) : plB pl k r = decide (pl.getD r 0 = (k : Int)) := by
 unfold plB; rw [decide_eq_true h, Bool.true_and]
theorem cyc_tim {pl : List Int} {k : Nat} : ∀ r, r ≤ pl.length → cyc ms ns pl k r = timB (ms.getD k default) ns (plB pl k) r
 | 0, _ => rfl
 | r + 1, h => by
  rw [cyc, timB, cyc_tim r (by omega), plB_in (by omega)]
  by_cases e : pl.getD r 0 = (k : Int)
  ·rw [if_pos e, if_pos (decide_eq_true e)]
  ·rw [if_neg e, if_neg (by rw [decide_eq_false e]; simp)]
theorem MnOk.mk' (hm : machF ms = 0) (hn : needsF ns 1 1000 = 0) : MnOk ms ns := by
 refine ⟨fun k => ?_, fun k => ?_, fun i => ?_, needsF_len hn⟩
 ·by_cases hk : k < ms.length
  ·exact (machF_each hm hk).1.2.1
  ·rw [List.getD_eq_getElem?_getD, List.getElem?_eq_none (by omega)]; exact ⟨Int.le_refl _, by decide⟩
 ·by_cases hk : k < ms.length
  ·exact (machF_each hm hk).1.1
  ·rw [List.getD_eq_getElem?_getD, List.getElem?_eq_none (by omega)]; exact ⟨Int.le_refl _, by decide⟩
 ·by_cases hi : i < ns.length
  ·have := needsF_count hn hi; omega
  ·rw [List.getD_eq_getElem?_getD, List.getElem?_eq_none (by omega)]; exact ⟨Int.le_refl _, by decide⟩
def pckF (f : Nat → Int) (ok : Nat → Bool) : Nat → Int
 | 0 => -1
 | k + 1 => if ok k = true ∧ (pckF f ok k < 0 ∨ f k < f (pckF f ok k).toNat) then (k : Int) else pckF f ok k
theorem pckF_in (f : Nat → Int) (ok : Nat → Bool) : ∀ K, pckF f ok K = -1 ∨ ∃ k : Nat, pckF f ok K = (k : Int) ∧ k < K ∧ ok k = true
 | 0 => .inl rfl
 | K + 1 => by
  rw [pckF]
  split
  ·rename_i h; exact .inr ⟨K, rfl, by omega, h.1⟩
  ·rcases pckF_in f ok K with h | ⟨k, h1, h2, h3⟩
   ·exact .inl h
   ·exact .inr ⟨k, h1, by omega, h3⟩
def fstC (ms : List Mach) (ns : List NeedS) (g : List Int) (i k : Nat) : Int := cyc ms ns g k g.length + (ms.getD k default).each * (ns.getD i default).count
def fstO (ms : List Mach) (ns : List NeedS) (g : List Int) (i k : Nat) : Bool := hasK (ms.getD k default) (ns.getD i default).key && decide (cnt g k g.length < (ms.getD k default).feeders)
def fstB (ms : List Mach) (ns : List NeedS) (g : List Int) (i : Nat) : Int := pckF (fstC ms ns g i) (fstO ms ns g i) ms.length
def fstG (ms : List Mach) (ns : List NeedS) : List Int → List Int → Option (List Int)
 | [], g => some g
 | i :: r, g => if fstB ms ns g i.toNat < 0 then none else fstG ms ns r (g.set i.toNat (fstB ms ns g i.toNat))
theorem fstG_step {l g : List Int} {q : Nat} (h : q < l.length) : fstG ms ns (l.drop q) g = if fstB ms ns g (l.getD q 0).toNat < 0 then none else fstG ms ns (l.drop (q + 1)) (g.set (l.getD q 0).toNat (fstB ms ns g (l.getD q 0).toNat)) := by
 rw [List.drop_eq_getElem_cons h, fstG, List.getD_eq_getElem?_getD, List.getElem?_eq_getElem h]; rfl
theorem cyc_set {g : List Int} {i k j : Nat} (hi : i < g.length) (h : g.getD i 0 = -1) : ∀ r, cyc ms ns (g.set i (k : Int)) j r = cyc ms ns g j r + if i < r ∧ k = j then (ms.getD j default).each * (ns.getD i default).count else 0
 | 0 => by simp [cyc]
 | r + 1 => by
  rw [cyc, cyc, cyc_set hi h r]
  by_cases e : r = i
  ·subst e
   have e1 : (g.set r (k : Int)).getD r 0 = (k : Int) := by simp [hi]
   rw [e1, h, if_neg (by omega : ¬ ((-1 : Int) = (j : Int))), if_neg (show ¬ (r < r ∧ k = j) by omega)]
   by_cases e2 : k = j
   ·subst e2; rw [if_pos rfl, if_pos ⟨by omega, rfl⟩]; omega
   ·rw [if_neg (by omega), if_neg (by omega)]
  ·have e1 : (g.set i (k : Int)).getD r 0 = g.getD r 0 := by
    rw [List.getD_eq_getElem?_getD, List.getElem?_set_ne (Ne.symm e), ← List.getD_eq_getElem?_getD]
   rw [e1]
   simp only [show (i < r + 1 ∧ k = j) ↔ (i < r ∧ k = j) by omega]
   generalize (if i < r ∧ k = j then (ms.getD j default).each * (ns.getD i default).count else 0) = X
   split <;> omega
theorem cnt_set {g : List Int} {i k j : Nat} (hi : i < g.length) (h : g.getD i 0 = -1) : ∀ r, cnt (g.set i (k : Int)) j r = cnt g j r + if i < r ∧ k = j then 1 else 0
 | 0 => by simp [cnt]
 | r + 1 => by
  rw [cnt, cnt, cnt_set hi h r]
  by_cases e : r = i
  ·subst e
   have e1 : (g.set r (k : Int)).getD r 0 = (k : Int) := by simp [hi]
   rw [e1, h, if_neg (by omega : ¬ ((-1 : Int) = (j : Int))), if_neg (show ¬ (r < r ∧ k = j) by omega)]
   by_cases e2 : k = j
   ·subst e2; rw [if_pos rfl, if_pos ⟨by omega, rfl⟩]
   ·rw [if_neg (by omega), if_neg (by omega)]
  ·have e1 : (g.set i (k : Int)).getD r 0 = g.getD r 0 := by
    rw [List.getD_eq_getElem?_getD, List.getElem?_set_ne (Ne.symm e), ← List.getD_eq_getElem?_getD]
   rw [e1]
   simp only [show (i < r + 1 ∧ k = j) ↔ (i < r ∧ k = j) by omega]
   generalize (if i < r ∧ k = j then (1 : Int) else 0) = X
   omega
structure FstI (ms : List Mach) (ns : List NeedS) (l : List Int) (q : Nat) (g : List Int) : Prop where
 len : g.length = ns.length
 el : ∀ i, i < ns.length → (g.getD i 0 = -1 ∧ (i : Int) ∉ l.take q) ∨ ((i : Int) ∈ l.take q ∧ ∃ k : Nat, g.getD i 0 = (k : Int) ∧ k < ms.length ∧ hasK (ms.getD k default) (ns.getD i default).key = true)
 feed : ∀ k, k < ms.length → cnt g k g.length ≤ (ms.getD k default).feeders
theorem cnt_none (n : Nat) (k : Nat) : ∀ r, r ≤ n → cnt (List.replicate n (-1)) k r = 0
 | 0, _ => rfl
 | r + 1, h => by
  rw [cnt, cnt_none n k r (by omega), show (List.replicate n (-1 : Int)).getD r 0 = -1 by simp [show r < n by omega], if_neg (by omega)]; rfl
theorem cyc_none (n : Nat) (k : Nat) : ∀ r, r ≤ n → cyc ms ns (List.replicate n (-1)) k r = (ms.getD k default).fixed
 | 0, _ => rfl
 | r + 1, h => by
  rw [cyc, cyc_none n k r (by omega), show (List.replicate n (-1 : Int)).getD r 0 = -1 by simp [show r < n by omega], if_neg (by omega)]
theorem FstI.zero (hm : machF ms = 0) (l : List Int) : FstI ms ns l 0 (List.replicate ns.length (-1)) :=
 ⟨by simp, fun i hi => .inl ⟨by simp [hi], by simp⟩, fun k hk => by rw [List.length_replicate, cnt_none _ _ _ (Nat.le_refl _)]; exact (machF_each hm hk).1.2.2.1⟩
theorem fstB_in {g : List Int} {i : Nat} (h : ¬ fstB ms ns g i < 0) : ∃ k : Nat, fstB ms ns g i = (k : Int) ∧ k < ms.length ∧ hasK (ms.getD k default) (ns.getD i default).key = true ∧ cnt g k g.length < (ms.getD k default).feeders := by
 rcases pckF_in (fstC ms ns g i) (fstO ms ns g i) ms.length with e | ⟨k, e, hk, ho⟩
 ·exact absurd (show fstB ms ns g i < 0 by unfold fstB; rw [e]; decide) h
 ·unfold fstO at ho
  rw [Bool.and_eq_true, decide_eq_true_eq] at ho
  exact ⟨k, e, hk, ho.1, ho.2⟩
theorem FstI.none {l g : List Int} {q i : Nat} (h : FstI ms ns l q g) (hd : l.Nodup) (hq : q < l.length) (hi : l.getD q 0 = (i : Int)) (hin : i < ns.length) : g.getD i 0 = -1 := by
 rcases h.el i hin with e | ⟨e, _⟩
 ·exact e.1
 ·exfalso
  obtain ⟨j, hj, e2⟩ := List.getElem_of_mem e
  rw [List.length_take] at hj
  rw [List.getElem_take] at e2
  rw [List.getD_eq_getElem?_getD, List.getElem?_eq_getElem hq] at hi
  have : j = q := (List.getElem_inj hd).1 (e2.trans (by simpa using hi.symm))
  omega
theorem FstI.step {l g : List Int} {q i k : Nat} (h : FstI ms ns l q g) (hd : l.Nodup) (hq : q < l.length) (hi : l.getD q 0 = (i : Int)) (hin : i < ns.length) (hk : k < ms.length) (h1 : hasK (ms.getD k default) (ns.getD i default).key = true) (h2 : cnt g k g.length < (ms.getD k default).feeders) : FstI ms ns l (q + 1) (g.set i (k : Int)) := by
 have hn := h.none hd hq hi hin
 have hil : i < g.length := by rw [h.len]; exact hin
 have htk : l.take (q + 1) = l.take q ++ [(i : Int)] := by rw [take_snocD hq 0, hi]
 refine ⟨by rw [List.length_set]; exact h.len, fun j hj => ?_, fun j hj => ?_⟩
 ·rw [htk]
  by_cases e : j = i
  ·subst e
   exact .inr ⟨by simp, k, by simp [hil], hk, h1⟩
  ·have e1 : (g.set i (k : Int)).getD j 0 = g.getD j 0 := by
    rw [List.getD_eq_getElem?_getD, List.getElem?_set_ne (Ne.symm e), ← List.getD_eq_getElem?_getD]
   rw [e1]
   rcases h.el j hj with h3 | ⟨h3, h4⟩
   ·exact .inl ⟨h3.1, fun hm => (List.mem_append.1 hm).elim h3.2 fun hm => by simp at hm; omega⟩
   ·exact .inr ⟨List.mem_append.2 (.inl h3), h4⟩
 ·rw [List.length_set, cnt_set hil hn]
  have := h.feed j hj
  by_cases e : k = j
  ·subst e; rw [if_pos ⟨hil, rfl⟩]; omega
  ·rw [if_neg (by omega)]; omega
def zerG (g : List Int) : List Int := g.map fun x => if x < 0 then 0 else x
theorem zerG_len (g : List Int) : (zerG g).length = g.length := by simp [zerG]
theorem zerG_set {g : List Int} {i k : Nat} : (zerG g).set i (k : Int) = zerG (g.set i (k : Int)) := by
 unfold zerG
 rw [List.map_set, if_neg (by omega)]
theorem zerG_rep (n : Nat) : zerG (List.replicate n (-1)) = List.replicate n 0 := by simp [zerG]
def fstO1 (ns : List NeedS) (x y : Int) : Int := cmpI (ns.getD y.toNat default).count (ns.getD x.toNat default).count
def fstL (ns : List NeedS) : List Int := insT (fstO1 ns) (idO ns.length) ((idO ns.length).length - 1)
def fstR (ms : List Mach) (ns : List NeedS) : Option (List Int) := fstG ms ns (fstL ns) (List.replicate ns.length (-1))
theorem fstL_perm (ns : List NeedS) : (fstL ns).Perm (idO ns.length) := insT_perm _ _ _ (by omega)
theorem fstL_ord (ns : List NeedS) : Ord ns.length (fstL ns) := ⟨(fstL_perm ns).nodup_iff.2 (idO_ord _).nd, fun x hx => (idO_ord _).lt x ((fstL_perm ns).subset hx)⟩
end
end
section
structure SetI (r : Nat) (F : Nat → Int) (l : List Int) : Prop where
 len : l.length = r + 1
 at_ : ∀ s, SubN s r → l.getD s 0 = F s
structure SetG (r cur : Nat) (F : Nat → Int) (l : List Int) : Prop where
 len : l.length = r + 1
 sub : SubN cur r
 at_ : ∀ s, SubN s r → cur < s → l.getD s 0 = F s
section
variable {r cur : Nat} {F : Nat → Int} {l : List Int}
theorem SetG.lt (h : SetG r cur F l) : cur < l.length := by have := h.sub.le; have := h.len; omega
theorem SetG.start (h : l.length = r + 1) : SetG r r F l := ⟨h, SubN.refl r, fun s hs hlt => by have := hs.le; omega⟩
theorem SetG.next {x : Int} (h : SetG r cur F l) (h0 : cur ≠ 0) (hx : x = F cur) : SetG r ((cur - 1) &&& r) F (l.set cur x) :=
  ⟨by rw [List.length_set]; exact h.len, SubN.and_ _ _, fun s hs hlt => by
    rw [getDs h.lt]
    by_cases e : s = cur
    · rw [if_pos e, e, hx]
    · rw [if_neg e]
      refine h.at_ s hs (Classical.byContradiction fun hn => ?_)
      have := sub_next cur s r hs h.sub (by omega)
      omega⟩
theorem SetG.last {x : Int} (h : SetG r cur F l) (h0 : cur = 0) (hx : x = F cur) : SetI r F (l.set cur x) :=
 ⟨by rw [List.length_set]; exact h.len, fun s hs => by
  rw [getDs h.lt]
  by_cases e : s = cur
  ·rw [if_pos e, e, hx]
  ·rw [if_neg e]; exact h.at_ s hs (by omega)⟩
end
structure MinI (F : Nat → Int) (set cur : Nat) (v : Int) : Prop where
 sub : SubN cur set
 lo : 0 ≤ v
 hi : v ≤ neverC
 iff : ∀ x, 0 ≤ x → x < neverC → (v ≤ x ↔ ∃ t, SubN t set ∧ cur < t ∧ F t ≤ x)
section
variable {F : Nat → Int} {set cur : Nat} {v : Int}
theorem MinI.start (F : Nat → Int) (set : Nat) : MinI F set set neverC := ⟨SubN.refl _, by decide, Int.le_refl _, fun x h0 hx => ⟨fun h => by omega, fun ⟨t, h1, h2, _⟩ => by have := h1.le; omega⟩⟩
theorem MinI.next (h : MinI F set cur v) (hF : 0 ≤ F cur) (h0 : cur ≠ 0) : MinI F set ((cur - 1) &&& set) (min v (F cur)) :=
 ⟨SubN.and_ _ _, by have := h.lo; omega, by have := h.hi; omega, fun x hx0 hx => by
  have h1 := h.iff x hx0 hx
  constructor
  ·intro hm
   by_cases e : F cur ≤ x
   ·exact ⟨cur, h.sub, sub_dec h0, e⟩
   ·obtain ⟨t, t1, t2, t3⟩ := h1.1 (by omega)
    exact ⟨t, t1, by have := sub_dec (r := set) h0; omega, t3⟩
  ·rintro ⟨t, t1, t2, t3⟩
   by_cases e : t = cur
   ·subst e; omega
   ·by_cases e2 : cur < t
    ·have := h1.2 ⟨t, t1, e2, t3⟩; omega
    ·have := sub_next cur t set t1 h.sub (by omega); omega⟩
theorem MinI.last (h : MinI F set cur v) (hF : ∀ t, 0 ≤ F t) (h0 : cur = 0) : min v (F cur) = mnS F set := by
 have hl := h.lo
 have hh := h.hi
 have hc := hF cur
 refine eq_of_le (by omega) (mnS_never _ _) (by omega) (mnS_nn hF _) fun x hx0 hx => ?_
 rw [mnS_iff hx]
 have h1 := h.iff x hx0 hx
 constructor
 ·intro hm
  by_cases e : F cur ≤ x
  ·exact ⟨cur, h.sub, e⟩
  ·obtain ⟨t, t1, t2, t3⟩ := h1.1 (by omega)
   exact ⟨t, t1, t3⟩
 ·rintro ⟨t, t1, t3⟩
  by_cases e : t = cur
  ·subst e; omega
  ·have := h1.2 ⟨t, t1, by omega, t3⟩; omega
end
section
variable {ms : List Mach} {ns : List NeedS} {fx : Nat → Nat}
def mxBA (ms : List Mach) (ns : List NeedS) (fx : Nat → Nat) (k set t : Nat) : Int := max (belS ms ns fx k (ndiff set t)) (alnS ms ns fx k t)
theorem alnS_in (h : MnOk ms ns) (k t : Nat) : 0 ≤ alnS ms ns fx k t ∧ alnS ms ns fx k t ≤ neverC := cycB_in h k _
theorem mxBA_nn (h : MnOk ms ns) (k set t : Nat) : 0 ≤ mxBA ms ns fx k set t := by have := (alnS_in (fx := fx) h k t).1; unfold mxBA; omega
theorem SubN.of_sub {t set r : Nat} (h : SubN set r) : SubN (ndiff set t) r := (SubN.diff set t).trans h
theorem okB_no {m : Mach} {b : Nat → Bool} {i : Nat} (hi : i < ns.length) (h : okA m ns b i = false) : cycB m ns b = neverC := by
 unfold cycB
 rw [if_neg]
 intro h2
 rw [okB_iff.1 h2 i hi] at h; cases h
theorem okB_all {m : Mach} {b : Nat → Bool} (h : ∀ i, i < ns.length → okA m ns b i = true) : cycB m ns b = timB m ns b ns.length := by
 unfold cycB; rw [if_pos (okB_iff.2 h)]
end
end
section
section
variable {ms : List Mach} {ns : List NeedS}
theorem grd_next {pl : List Int} {d k : Nat} (hk : k < ms.length) (h : bstV ms ns d (pl ++ [(k : Int)]) = bstV ms ns (d + 1) pl) (hn : ∀ j, j < k → bstV ms ns d (pl ++ [(j : Int)]) ≠ bstV ms ns (d + 1) pl) : grd ms ns (d + 1) pl = grd ms ns d (pl ++ [(k : Int)]) := by
 rw [grd, fsK_eq hk h hn]
theorem grd_some {pl : List Int} {d : Nat} (h : bstV ms ns (d + 1) pl < neverC) (hn : ∀ j, j < ms.length → bstV ms ns d (pl ++ [(j : Int)]) ≠ bstV ms ns (d + 1) pl) : False := by
 obtain ⟨k, hk, e⟩ := mnK_at (F := fun k => bstV ms ns d (pl ++ [(k : Int)])) (K := ms.length) h
 exact hn k hk e
end
end
section
theorem ofInt64 (a : Nat) (ha : a < 9223372036854775808) : (BitVec.ofInt 64 (a : Int)).toNat = a := by
 rw [BitVec.ofInt_natCast, BitVec.toNat_ofNat]; exact Nat.mod_eq_of_lt (by omega)
theorem wrap64 (a : Nat) (ha : a < 9223372036854775808) : IntKind.i64.wrap (a : Int) = (a : Int) := IntWalk.i64_in _ (by omega)
theorem i64_and (a b : Nat) (ha : a < 9223372036854775808) (hb : b < 9223372036854775808) : Op.intBits .and .i64 (a : Int) (b : Int) = pure (.int .i64 ((a &&& b : Nat) : Int)) := by
 have hx : a &&& b < 2 ^ 63 := Nat.and_lt_two_pow _ (by omega)
 show pure (Value.int .i64 (IntKind.i64.wrap ((BitVec.ofInt 64 (a : Int) &&& BitVec.ofInt 64 (b : Int)).toNat : Int))) = _
 rw [BitVec.toNat_and, ofInt64 a ha, ofInt64 b hb, wrap64 _ (by omega)]
theorem i64_or (a b : Nat) (ha : a < 9223372036854775808) (hb : b < 9223372036854775808) : Op.intBits .or .i64 (a : Int) (b : Int) = pure (.int .i64 ((a ||| b : Nat) : Int)) := by
 have hx : a ||| b < 2 ^ 63 := Nat.or_lt_two_pow (by omega) (by omega)
 show pure (Value.int .i64 (IntKind.i64.wrap ((BitVec.ofInt 64 (a : Int) ||| BitVec.ofInt 64 (b : Int)).toNat : Int))) = _
 rw [BitVec.toNat_or, ofInt64 a ha, ofInt64 b hb, wrap64 _ (by omega)]
theorem i64_andNot (a b : Nat) (ha : a < 9223372036854775808) (hb : b < 9223372036854775808) : Op.intBits .andNot .i64 (a : Int) (b : Int) = pure (.int .i64 ((ndiff a b : Nat) : Int)) := by
 have hx : ndiff a b < 2 ^ 63 := Nat.xor_lt_two_pow (by omega) (Nat.lt_of_le_of_lt Nat.and_le_left (by omega))
 have e : (BitVec.ofInt 64 (a : Int) &&& ~~~BitVec.ofInt 64 (b : Int)).toNat = ndiff a b := by
  refine Nat.eq_of_testBit_eq fun i => ?_
  rw [ndiff_bit, BitVec.toNat_and, Nat.testBit_and, ofInt64 a ha, BitVec.testBit_toNat, BitVec.getLsbD_not, ← BitVec.testBit_toNat, ofInt64 b hb]
  cases h : a.testBit i with
  | false => rfl
  | true =>
   have hi : i < 64 := by
    refine Classical.byContradiction fun hn => ?_
    have := Nat.testBit_lt_two_pow (x := a) (i := i) (Nat.lt_of_lt_of_le (show a < 2 ^ 63 by omega) (Nat.pow_le_pow_right (by decide) (by omega)))
    rw [this] at h; cases h
   simp [hi]
 show pure (Value.int .i64 (IntKind.i64.wrap ((BitVec.ofInt 64 (a : Int) &&& ~~~BitVec.ofInt 64 (b : Int)).toNat : Int))) = _
 rw [e, wrap64 _ (by omega)]
section
variable {P : Program} {B : Bs} {W : Nat → Prop} {s : St'} {o : Oper} {t u : TypeId} {x y : Operand} {a b : Nat}
theorem OpV.band (ho : o.op = .binOp .and t x y u) (hx : evO s x = some (.v (.int .i64 (a : Int)))) (hy : evO s y = some (.v (.int .i64 (b : Int)))) (ha : a < 9223372036854775808) (hb : b < 9223372036854775808) : OpV P B W s o (avI ((a &&& b : Nat) : Int)) :=
 OpV.conc (fun a' w hr w' hcw => by simp [execOp, ho, hr.evv hx, hr.evv hy, eqGuard, binOp, i64_and a b ha hb])
theorem OpV.bor (ho : o.op = .binOp .or t x y u) (hx : evO s x = some (.v (.int .i64 (a : Int)))) (hy : evO s y = some (.v (.int .i64 (b : Int)))) (ha : a < 9223372036854775808) (hb : b < 9223372036854775808) : OpV P B W s o (avI ((a ||| b : Nat) : Int)) :=
 OpV.conc (fun a' w hr w' hcw => by simp [execOp, ho, hr.evv hx, hr.evv hy, eqGuard, binOp, i64_or a b ha hb])
theorem OpV.bdiff (ho : o.op = .binOp .andNot t x y u) (hx : evO s x = some (.v (.int .i64 (a : Int)))) (hy : evO s y = some (.v (.int .i64 (b : Int)))) (ha : a < 9223372036854775808) (hb : b < 9223372036854775808) : OpV P B W s o (avI ((ndiff a b : Nat) : Int)) :=
 OpV.conc (fun a' w hr w' hcw => by simp [execOp, ho, hr.evv hx, hr.evv hy, eqGuard, binOp, i64_andNot a b ha hb])
theorem OpV.bshl1 {k : IntKind} (ho : o.op = .binOp .shl t x y u) (hx : evO s x = some (.v (.int .i64 1))) (hy : evO s y = some (.v (.int k (b : Int)))) (hb : b ≤ 62) : OpV P B W s o (avI ((2 ^ b : Nat) : Int)) :=
 OpV.conc (fun a' w hr w' hcw => by
  have h1 : (2 : Nat) ^ b ≤ 2 ^ 62 := Nat.pow_le_pow_right (by decide) hb
  have e : IntKind.i64.wrap (1 * 2 ^ (min ((b : Int).toNat) IntKind.i64.bits)) = ((2 ^ b : Nat) : Int) := by
   rw [show min ((b : Int).toNat) IntKind.i64.bits = b from Nat.min_eq_left (by show b ≤ 64; omega), Int.one_mul, show ((2 : Int) ^ b) = ((2 ^ b : Nat) : Int) by simp]
   exact wrap64 _ (by omega)
  have h0 : ¬ ((b : Int) < 0) := by omega
  simp only [execOp, ho, hr.evv hx, hr.evv hy, eqGuard, binOp, Op.shift, if_neg h0, e]
  simp)
theorem OpV.bshr {k : IntKind} (ho : o.op = .binOp .shr t x y u) (hx : evO s x = some (.v (.int .i64 (a : Int)))) (hy : evO s y = some (.v (.int k (b : Int)))) (hb : b ≤ 62) : OpV P B W s o (avI ((a / 2 ^ b : Nat) : Int)) :=
 OpV.conc (fun a' w hr w' hcw => by
  have e : (a : Int).fdiv (2 ^ (min ((b : Int).toNat) IntKind.i64.bits)) = ((a / 2 ^ b : Nat) : Int) := by
   rw [show min ((b : Int).toNat) IntKind.i64.bits = b from Nat.min_eq_left (by show b ≤ 64; omega), Int.fdiv_eq_ediv_of_nonneg _ (Int.pow_nonneg (by decide)), show ((2 : Int) ^ b) = ((2 ^ b : Nat) : Int) by simp, Int.natCast_ediv]
  have h0 : ¬ ((b : Int) < 0) := by omega
  simp only [execOp, ho, hr.evv hx, hr.evv hy, eqGuard, binOp, Op.shift, if_neg h0, e]
  simp)
end
end
section
section
variable {P : Program} {ops : Array Oper} {Q : Act → World → Prop} {md : Region.Mode} {E : Nat → World → World → Prop}
theorem wpAnyE_firstT {S : Nat → Bool} {F : World → World → Prop} (htr : ∀ x y z, F x y → F y z → F x z) (hrf : ∀ x, F x x) {i : Nat} (hEr : ∀ x, E i x x)
  (hEF : ∀ j oj, ops[j]? = some oj → S j = false → ∀ w w', E j w w' → F w w') (hcl : ∀ k, S k = true → k ≠ i → ∃ ok, ops[k]? = some ok ∧ ∃ e ∈ ok.after, Region.binds md e = true ∧ S e.on = true)
  {oi : Oper} {v : Value} (hi : ops[i]? = some oi) (hsel : ∀ (j : Nat) (o : Oper) cs b, ops[j]? = some o → o.op ≠ .select cs b) :
  ∀ (fuel : Nat) (listed : Array Bool) (a : Act) (w : World), (∀ k, S k = true → listed.getD k true = false) →
   (∀ j oj, ops[j]? = some oj → j ≠ i → listed.getD j true = false → (∀ e ∈ oj.after, Region.binds md e = true → e.on ≠ i) → oi.apart ops oj = true) →
   i ∈ Region.ready md ops listed → YieldsE P ops F oi v a w →
   wpAnyE P md ops Q E fuel (listed.setIfInBounds i true) (a.put oi.dst v) w → wpAnyE P md ops Q E (fuel + 1) listed a w := by
 intro fuel
 induction fuel with
 | zero =>
  intro listed a w _ _ hr hy H
  refine ⟨fun h => (by rw [h] at hr; cases hr), fun j hj => ?_⟩
  by_cases hji : j = i
  ·subst hji; exact YieldsIf.wpOp hi hy.iff (hrf w) ⟨hEr w, H⟩
  ·have := ready_mono hj hji
   rw [H.1] at this
   cases this
 | succ fuel ih =>
  intro listed a w hS hfree hr hy H
  refine ⟨fun h => (by rw [h] at hr; cases hr), fun j hj => ?_⟩
  by_cases hji : j = i
  ·subst hji; exact YieldsIf.wpOp hi hy.iff (hrf w) ⟨hEr w, H⟩
  ·have h1 := H.2 j (ready_mono hj hji)
   obtain ⟨hjun, oj, hoj, hall⟩ := mem_ready.1 hj
   have hnot : ∀ e ∈ oj.after, Region.binds md e = true → e.on ≠ i := fun e he hb heq => by
    have h1 := hall e he hb
    have h0 := (mem_ready.1 hr).1
    rw [heq] at h1
    rcases Nat.lt_or_ge i listed.size with h' | h'
    ·simp [h'] at h0 h1; rw [h0] at h1; cases h1
    ·simp [Array.getElem?_eq_none h'] at h1
   have hjS : S j = false := by
    cases hc : S j with
    | false => rfl
    | true =>
     obtain ⟨ok, k1, e, he, hb, k2⟩ := hcl j hc hji
     obtain rfl : oj = ok := Option.some.inj (hoj.symm.trans k1)
     have h1 := hall e he hb
     have h0 := hS e.on k2
     rcases Nat.lt_or_ge e.on listed.size with h' | h'
     ·simp [h'] at h0 h1; rw [h0] at h1; cases h1
     ·simp [Array.getElem?_eq_none h'] at h1
   have h2 := wpOp_putIf (S := F w) hoj (hfree j oj hoj hji hjun hnot) (fun cs b => hsel i oi cs b hi) (fun cs b => hsel j oj cs b hoj) (fun c a w h => h.elim) hy.iff h1
   have hfree' : ∀ k ok, ops[k]? = some ok → k ≠ i → (listed.setIfInBounds j true).getD k true = false →
     (∀ e ∈ ok.after, Region.binds md e = true → e.on ≠ i) → oi.apart ops ok = true := fun k ok hk hki hun hno => by
    refine hfree k ok hk hki ?_ hno
    by_cases hjk : j = k
    ·subst hjk; exact hjun
    ·rw [Go.getD_set_ne true hjk] at hun; exact hun
   have hS' : ∀ k, S k = true → (listed.setIfInBounds j true).getD k true = false := fun k hk => by
    have hjk : j ≠ k := fun e => by rw [e, hk] at hjS; cases hjS
    rw [Go.getD_set_ne true hjk]; exact hS k hk
   refine wpOp_mono (fun a' w' h3 => ⟨h3.2.1, ih (listed.setIfInBounds j true) a' w' hS' hfree' (ready_mono hr (Ne.symm hji)) ?_ ?_⟩) h2
   ·rcases h3.1 with ⟨k1, k2⟩ | k
    ·exact .inl ⟨k1, fun w'' hw'' => k2 w'' (htr _ _ _ (hEF j oj hoj hjS _ _ h3.2.1) hw'')⟩
    ·exact .inr k
   rw [Array.setIfInBounds_comm _ _ hji]
   exact h3.2.2
end
section
variable {P : Program} {B : Bs} {V : Nat → Nat → Prop} {ops : Array Oper} {s : St'} {Q : Exit → St' → Prop} {n : Nat} {L : Array Bool}
def WS (V : Nat → Nat → Prop) (S : List Nat) : Nat → Prop := fun b => ∃ j, S.contains j = false ∧ V j b
def hangB (ops : Array Oper) (S : List Nat) (i : Nat) : Bool := S.all fun k => k == i || match ops[k]? with
 | some o => o.after.any fun e => Region.binds .any e && S.contains e.on
 | none => false
theorem VA.takeT (S : List Nat) {i : Nat} {o : Oper} {x : AV} (hS : hangB ops S i = true) (hL : (S.all fun k => !(L.getD k true)) = true) (hi : ops[i]? = some o) (hs : Region.noSelect ops = true) (hf : Region.free .any ops L i = true) (hr : (Region.ready .any ops L).contains i = true) (hg : o.guard = none) (hd : okd B.nt o.dst = true)
  (hv : OpV P B (WS V S) s o x) (h : VA P B V ops Q n (L.setIfInBounds i true) (s.put o.dst x)) : VA P B V ops Q (n + 1) L s := fun a w hR => by
 obtain ⟨v, h1, h2⟩ := hv a w hR
 refine wpAnyE_firstT (S := fun k => S.contains k) (F := Ew B (WS V S)) Ew.tr Ew.rf (fun x => Ew.rf x) (fun j oj hj hjS w w' h => h.mono fun b _ hb => hb.imp id fun hv => ⟨j, hjS, hv⟩) (fun k hk hki => ?_) hi (Region.noSelect_spec hs) n L a w (fun k hk => ?_) (Region.free_spec hi hf) (by simpa using hr) (.inl ⟨by simp [Region.wanted, hg], h1⟩) (h _ _ (hR.put _ hd _ _ h2))
 ·have hk' : k ∈ S := by simpa using hk
  have := List.all_eq_true.1 hS k hk'
  simp only [Bool.or_eq_true, beq_iff_eq] at this
  have := this.resolve_left hki
  cases ho : ops[k]? with
  | none => rw [ho] at this; cases this
  | some ok =>
   rw [ho] at this
   obtain ⟨e, he, h3⟩ := Array.any_eq_true'.1 this
   simp only [Bool.and_eq_true] at h3
   exact ⟨ok, rfl, e, he, h3.1, h3.2⟩
 ·have hk' : k ∈ S := by simpa using hk
  have := List.all_eq_true.1 hL k hk'
  simpa using this
end
end
section
def balC (ms : List Mach) (ns : List NeedS) (u : Value) : Nat → AV := fun j => match j with
 | 0 => avL ms
 | 1 => avL ns
 | 2 => .v u
 | _ => .any
theorem bit_no (set q : Nat) : decide (((set / 2 ^ q &&& 1 : Nat) : Int) = 0) = !set.testBit q := by
 rw [Nat.testBit_eq_decide_div_mod_eq, Nat.and_one_is_mod]
 have h := Nat.mod_two_eq_zero_or_one (set / 2 ^ q)
 rcases h with h | h
 ·rw [h]; rfl
 ·rw [h]; rfl
section
variable {m : Mach} {ns : List NeedS} {b : Nat → Bool} {q : Nat}
theorem timB_no (h : b q = false) : timB m ns b (q + 1) = timB m ns b q := by rw [timB, if_neg (by rw [h]; simp)]
theorem timB_yes (h : b q = true) : timB m ns b (q + 1) = timB m ns b q + m.each * (ns.getD q default).count := by rw [timB, if_pos h]
theorem numB_no (h : b q = false) : numB b (q + 1) = numB b q := by rw [numB, if_neg (by rw [h]; simp)]; rfl
theorem numB_yes (h : b q = true) : numB b (q + 1) = numB b q + 1 := by rw [numB, if_pos h]
theorem okA_skip (h : b q = false) : okA m ns b q = true := by unfold okA; rw [h]; rfl
theorem okA_f1 (h : b q = true) (h2 : m.feeders < (numB b q : Int) + 1) : okA m ns b q = false := by
 unfold okA
 rw [h, numB_yes h, decide_eq_false (by omega)]; simp
theorem okA_f2 (h : b q = true) (h2 : hasK m (ns.getD q default).key = false) : okA m ns b q = false := by
 unfold okA
 rw [h, h2]; simp
theorem okA_yes (h : b q = true) (h2 : ¬ m.feeders < (numB b q : Int) + 1) (h3 : hasK m (ns.getD q default).key = true) : okA m ns b q = true := by
 unfold okA
 rw [h, h3, numB_yes h, decide_eq_true (by omega)]; rfl
theorem numB_le (b : Nat → Bool) : ∀ q, numB b q ≤ q
 | 0 => Nat.le_refl _
 | q + 1 => by have := numB_le b q; rw [numB]; split <;> omega
end
set_option maxHeartbeats 4000000 in
theorem bal_cycle {ms : List Mach} {ns : List NeedS} {u : Value} {k set : Nat} (hm : machF ms = 0) (hns : needsF ns 1 1000 = 0) (h12 : ns.length ≤ 12) (hk : k < ms.length) (hset : set < 9223372036854775808) :
  SpecN Tryz.prog 174 [.at_ 3 (balC ms ns u), avI (k : Int), avI (set : Int)] (fun y => y = avI (cycB (ms.getD k default) ns set.testBit)) := by
 have hM := MnOk.mk' hm hns
 have hlen := machF_len hm
 have hfe := (machF_each hm hk).1.2.2
 refine SpecN.of_VCN Tryz.func174 rfl Tryz.ntmps174 (Nle rfl) fun w A hB => ?_
 refine VC.sr ?_
 refine VO.mb ?_
 refine VO.nil ?_
 refine VC.sr ?_
 refine VO.mw ?_
 refine VO.vv (OpV.nilCheck_at rfl rfl) ?_
 refine VO.vv (OpV.fieldAddr_atO 0 rfl Tryz.underlying182 rfl rfl Tryz.sizeOf66 rfl rfl) ?_
 refine VO.vv (OpV.load_at rfl hB OutW.no Tryz.isAgg66 rfl rfl) ?_
 refine VO.le _ (Le.recast (t := 15) (y := avL ms) rfl (fun w Z u h => h)) ?_
 refine VO.mw ?_
 refine VO.vv (OpV.indexAddr_E rfl Tryz.underlying66 Tryz.sizeOf84 rfl rfl rfl (by omega)) ?_
 refine VO.vv (OpV.loadK_at rfl hB OutW.no Tryz.isAgg84 Tryz.sizeOf84 rfl rfl) ?_
 refine VO.op rfl (OpE.alloc rfl hB rfl Tryz.zeroValue84 rfl ?_)
 intro g7
 refine VO.op rfl (OpE.store (i := 0) rfl hB rfl Tryz.sizeOf84 rfl rfl rfl rfl rfl rfl (Nle rfl) trivial ?_)
 refine VO.nil ?_
 refine VC.sr ?_
 refine VO.vv (OpV.fieldAddrO 2 rfl Tryz.underlying84 rfl rfl Tryz.sizeOf3 rfl) ?_
 refine VO.vv (OpV.load_own (i := 0) rfl hB Tryz.isAgg3 rfl rfl rfl (fun h => h)) ?_
 refine VO.mb ?_
 refine VO.mb ?_
 refine VO.nil ?_
 refine VC.seq ?_
 refine VC.sr ?_
 refine VO.mw ?_
 refine VO.vv (OpV.nilCheck_at rfl rfl) ?_
 refine VO.vv (OpV.fieldAddr_atO 1 rfl Tryz.underlying182 rfl rfl Tryz.sizeOf68 rfl rfl) ?_
 refine VO.vv (OpV.load_at rfl hB OutW.no Tryz.isAgg68 rfl rfl) ?_
 refine VO.le _ (Le.recast (t := 24) (y := avL ns) rfl (fun w Z u h => h)) ?_
 refine VO.vv (OpV.len_im rfl Tryz.underlying68 rfl) ?_
 refine VO.mw ?_
 refine VO.nil ?_
 refine VC.block ?_
 refine VC.loopK [(2, _), (7, _), (24, _), (25, _)] ⟨rfl, rfl, rfl, rfl, trivial⟩ ({q : Nat // q ≤ ns.length ∧ ∀ j, j < q → okA (ms.getD k default) ns set.testBit j = true}) (fun (iZ : {q : Nat // q ≤ ns.length ∧ ∀ j, j < q → okA (ms.getD k default) ns set.testBit j = true}) => match iZ with | ⟨q, hq, hn⟩ => [(8, avI (timB (ms.getD k default) ns set.testBit q)), (9, avI (numB set.testBit q : Int)), (26, avI (q : Int))]) (fun (iZ : {q : Nat // q ≤ ns.length ∧ ∀ j, j < q → okA (ms.getD k default) ns set.testBit j = true}) => match iZ with | ⟨q, hq, hn⟩ => [.box g7 ⟨tab 5 (Sxc.cell (ms.getD k default)), 84, 5⟩]) (fun (iZ : {q : Nat // q ≤ ns.length ∧ ∀ j, j < q → okA (ms.getD k default) ns set.testBit j = true}) => match iZ with | ⟨q, hq, hn⟩ => 0) (fun (iZ : {q : Nat // q ≤ ns.length ∧ ∀ j, j < q → okA (ms.getD k default) ns set.testBit j = true}) => match iZ with | ⟨q, hq, hn⟩ => ns.length - q) ⟨0, Nat.zero_le _, fun j hj => absurd hj (Nat.not_lt_zero j)⟩ (Le.mk hB [0] ⟨rfl, rfl, rfl, rfl, rfl, rfl, rfl, trivial⟩ rfl rfl (Nat.le_refl _)) ?_
 rintro ⟨q, hq, hn⟩
 show VC _ _ _ _ ⟨[(8, avI (timB (ms.getD k default) ns set.testBit q)), (9, avI (numB set.testBit q : Int)), (26, avI (q : Int))] ++ [(2, _), (7, _), (24, _), (25, _)], [.box g7 ⟨tab 5 (Sxc.cell (ms.getD k default)), 84, 5⟩], 0⟩
 have hti := timB_in hM k set.testBit q
 have hmu := mul_in2 (hM.each k) (hM.cnt q)
 have hnb := numB_le set.testBit q
 refine VC.sr ?_
 refine VO.vv (OpV.lss rfl rfl rfl) ?_
 refine VO.nil ?_
 refine VC.seq ?_
 refine VC.cond rfl (fun aH1b => ?_) (fun aH1b => ?_)
 ·have aH1 := aH1b
  try simp only [qq] at aH1
  refine VC.skip ?_
  refine VC.seq ?_
  refine VC.block ?_
  refine VC.sr ?_
  refine VO.mw ?_
  refine VO.vv (OpV.indexAddr_E rfl Tryz.underlying68 Tryz.sizeOf90 rfl rfl rfl (by omega)) ?_
  refine VO.vv (OpV.loadK_at rfl hB OutW.no Tryz.isAgg90 Tryz.sizeOf90 rfl rfl) ?_
  refine VO.op rfl (OpE.alloc rfl hB rfl Tryz.zeroValue90 rfl ?_)
  intro g11
  refine VO.mb ?_
  refine VO.op rfl (OpE.store (i := 1) rfl hB rfl Tryz.sizeOf90 rfl rfl rfl rfl rfl rfl (Nle rfl) trivial ?_)
  refine VO.nil ?_
  refine VC.seq ?_
  refine VC.sr ?_
  refine VO.mw ?_
  refine VO.mw ?_
  refine VO.vv (OpV.bshr rfl rfl rfl (by omega)) ?_
  refine VO.vv (OpV.band (b := 1) rfl rfl rfl (Nat.lt_of_le_of_lt (Nat.div_le_self _ _) hset) (by decide)) ?_
  refine VO.vv (OpV.eql rfl rfl rfl) ?_
  refine VO.le _ (Le.recast (t := 35) (y := avB (!(set.testBit q))) rfl (fun w Z u h => by rw [← bit_no]; exact h)) ?_
  refine VO.nil ?_
  refine VC.cond rfl (fun h1b => ?_) (fun h1b => ?_)
  ·have h1 := h1b
   try simp only [qq] at h1
   refine VC.exit ?_
   refine VC.region ?_
   refine VO.vv (OpV.add rfl rfl rfl (by unfold fits; omega)) ?_
   refine VO.mw ?_
   refine VO.nil ?_
   exact Exists.intro (⟨q + 1, by omega, lt_succ_cases hn ((okA_skip h1))⟩) (And.intro (Le.mk hB [0] ⟨(by dsimp only; first | (rw [timB_no h1]; rfl) | (rw [timB_yes h1]; rfl)), (by dsimp only; first | (rw [numB_no h1]; rfl) | (rw [numB_yes h1]; rfl)), rfl, rfl, rfl, rfl, rfl, trivial⟩ rfl rfl (Nat.le_refl _)) (by first | omega | (show _ < _; omega) | (simp only []; omega)))
  ·have h1 := h1b
   try simp only [qq] at h1
   refine VC.skip ?_
   refine VC.seq ?_
   refine VC.sr ?_
   refine VO.mw ?_
   refine VO.vv (OpV.add rfl rfl rfl (by unfold fits; omega)) ?_
   refine VO.mb ?_
   refine VO.nil ?_
   refine VC.sr ?_
   refine VO.mw ?_
   refine VO.vv (OpV.fieldAddrO 3 rfl Tryz.underlying84 rfl rfl Tryz.sizeOf3 rfl) ?_
   refine VO.vv (OpV.load_own (i := 0) rfl hB Tryz.isAgg3 rfl rfl rfl (fun h => h)) ?_
   refine VO.vv (OpV.gtr rfl rfl rfl) ?_
   refine VO.mw ?_
   refine VO.opG rfl rfl rfl rfl (fun aK2b => ?_) (fun aK2b => ?_)
   ·replace aK2b : _ = false := aK2b
    have aK2 := aK2b
    try simp only [qq] at aK2
    refine OpE.val (W := NoB) (OpV.loadK_own (i := 0) rfl hB Tryz.isAgg84 Tryz.sizeOf84 rfl rfl rfl (fun h => h)) rfl ?_
    refine VO.opY rfl rfl rfl rfl aK2b ?_
    refine OpE.val (W := NoB) (OpV.fieldAddrO 0 rfl Tryz.underlying90 rfl rfl Tryz.sizeOf9 rfl) rfl ?_
    refine VO.opY rfl rfl rfl rfl aK2b ?_
    refine OpE.val (W := NoB) (OpV.load_own (i := 1) rfl hB Tryz.isAgg9 rfl rfl rfl (fun h => h)) rfl ?_
    refine VO.opY rfl rfl rfl rfl aK2b ?_
    refine OpE.call rfl hB rfl Tryz.call96 rfl (SpecN.spec (line_can (by have := canF_keys (machF_each hm hk).2; omega) (canF_sort (machF_each hm hk).2))) ?_
    rintro _ rfl
    refine VO.opY rfl rfl rfl rfl aK2b ?_
    refine OpE.val (W := NoB) (OpV.not rfl rfl) rfl ?_
    refine VO.vv (OpV.pickF rfl rfl rfl rfl aK2b) ?_
    refine VO.nil ?_
    refine VC.cond rfl (fun h2b => ?_) (fun h2b => ?_)
    ·have h2 := h2b
     try simp only [qq] at h2
     refine VC.sr ?_
     refine VO.mb ?_
     refine VO.nil ?_
     refine VC.ret ?_
     exact Exists.intro _ (And.intro (RetN.one Tryz.results174 (ResN.v rfl)) (by first | rw [okB_no (i := q) (by omega) (okA_f1 h1 (by omega))] | rw [okB_no (i := q) (by omega) (okA_f2 h1 (by simpa using h2))]))
    ·have h2 := h2b
     try simp only [qq] at h2
     refine VC.skip ?_
     refine VC.region ?_
     refine VO.mw ?_
     refine VO.vv (OpV.fieldAddrO 1 rfl Tryz.underlying84 rfl rfl Tryz.sizeOf3 rfl) ?_
     refine VO.vv (OpV.load_own (i := 0) rfl hB Tryz.isAgg3 rfl rfl rfl (fun h => h)) ?_
     refine VO.vv (OpV.fieldAddrO 1 rfl Tryz.underlying90 rfl rfl Tryz.sizeOf3 rfl) ?_
     refine VO.vv (OpV.load_own (i := 1) rfl hB Tryz.isAgg3 rfl rfl rfl (fun h => h)) ?_
     refine VO.vv (OpV.mul rfl rfl rfl (by unfold fits; omega)) ?_
     refine VO.vv (OpV.add rfl rfl rfl (by unfold fits; omega)) ?_
     refine VO.mb ?_
     refine VO.nil ?_
     refine VC.region ?_
     refine VO.vv (OpV.add rfl rfl rfl (by unfold fits; omega)) ?_
     refine VO.mw ?_
     refine VO.nil ?_
     exact Exists.intro (⟨q + 1, by omega, lt_succ_cases hn ((okA_yes h1 (by omega) (by simpa using h2)))⟩) (And.intro (Le.mk hB [0] ⟨(by dsimp only; first | (rw [timB_no h1]; rfl) | (rw [timB_yes h1]; rfl)), (by dsimp only; first | (rw [numB_no h1]; rfl) | (rw [numB_yes h1]; rfl)), rfl, rfl, rfl, rfl, rfl, trivial⟩ rfl rfl (Nat.le_refl _)) (by first | omega | (show _ < _; omega) | (simp only []; omega)))
   ·replace aK2b : _ = true := aK2b
    have aK2 := aK2b
    try simp only [qq] at aK2
    refine VO.opX rfl rfl rfl rfl aK2b ?_
    refine VO.opX rfl rfl rfl rfl aK2b ?_
    refine VO.opX rfl rfl rfl rfl aK2b ?_
    refine VO.opX rfl rfl rfl rfl aK2b ?_
    refine VO.vv (OpV.pickT rfl rfl rfl rfl aK2b) ?_
    refine VO.nil ?_
    refine VC.condT rfl rfl ?_
    refine VC.sr ?_
    refine VO.mb ?_
    refine VO.nil ?_
    refine VC.ret ?_
    exact Exists.intro _ (And.intro (RetN.one Tryz.results174 (ResN.v rfl)) (by first | rw [okB_no (i := q) (by omega) (okA_f1 h1 (by omega))] | rw [okB_no (i := q) (by omega) (okA_f2 h1 (by simpa using h2))]))
 ·have aH1 := aH1b
  try simp only [qq] at aH1
  refine VC.exit ?_
  refine VC.sr ?_
  refine VO.mw ?_
  refine VO.mb ?_
  refine VO.nil ?_
  refine VC.ret ?_
  exact Exists.intro _ (And.intro (RetN.one Tryz.results174 (ResN.v rfl)) (by rw [okB_all (fun i hi => hn i (by omega)), show q = ns.length by omega]))
theorem or_lt12 {a b : Nat} (ha : a < 4096) (hb : b < 4096) : a ||| b < 4096 := Nat.or_lt_two_pow (n := 12) ha hb
abbrev fixB (gf n : Nat) (fx : Nat → Nat) : Ent := .box gf ⟨intsL (tabI n fun k => (fx k : Int)), 3, n⟩
theorem belS_zero' {ms : List Mach} {ns : List NeedS} {fx : Nat → Nat} {r : Nat} {bl : List Int} (h : bl.length = r + 1) (hn : ∀ j, j < r + 1 → bl.getD j 0 = neverC) : SetI r (belS ms ns fx 0) (bl.set 0 0) := ⟨by rw [List.length_set]; exact h, fun s hs => by
 have := hs.le
 rw [getDs (by omega), belS]
 by_cases e : s = 0
 ·rw [if_pos e, if_pos e]
 ·rw [if_neg e, if_neg e]; exact hn s (by omega)⟩
theorem intsL_getV {xs : List Int} {j : Nat} {v : Int} (h : j < xs.length) (hv : xs.getD j 0 = v) : (intsL xs)[j]? = some (avI v) := by rw [intsL_get h, hv]
theorem setInt_get {l : List Int} {j : Nat} {v : Int} (h : j < l.length) : (intsL (l.set j v))[j]? = some (avI v) := by rw [intsL_get (by rw [List.length_set]; exact h), getDs h, if_pos rfl]
theorem setInt_set (l : List Int) (j : Nat) (v x : Int) : (intsL (l.set j v)).set j (avI x) = intsL (l.set j x) := by rw [intsL_set, List.set_set]
theorem rep_len (n : Nat) (x : Int) : (List.replicate n x).length = n := by simp
set_option maxHeartbeats 16000000 in
theorem bal_longest {ms : List Mach} {ns : List NeedS} {gf : Nat} {fx : Nat → Nat} {rest : Nat} (hm : machF ms = 0) (hn : needsF ns 1 1000 = 0) (h12 : ns.length ≤ 12) (hr : rest < 4096) (hfx : ∀ k, fx k < 4096) :
  SpecH Tryz.prog 90 [.at_ 3 (balC ms ns (.slice (some ⟨gf, 0, none⟩) ms.length ms.length)), avI (rest : Int)] [fixB gf ms.length fx] (fun y hp' => y = avI (belS ms ns fx ms.length rest) ∧ hp' = [fixB gf ms.length fx]) := by
 have hMn := MnOk.mk' hm hn
 have hlen := machF_len hm
 refine SpecH.of_VC Tryz.func90 rfl Tryz.ntmps90 (Nle rfl) fun w A hB => ?_
 refine VC.sr ?_
 refine VO.mb ?_
 refine VO.nil ?_
 refine VC.sr ?_
 refine VO.mw ?_
 refine VO.vv (OpV.add rfl rfl rfl (by unfold fits; omega)) ?_
 refine VO.op rfl (OpE.make rfl hB rfl Tryz.underlying22 (infoOf Tryz.t3 1 (by kernel_rfl) rfl rfl) (by decide) rfl rfl (n := rest + 1) (by omega) (by omega) (by omega) (made_ints _) ?_)
 intro g15
 rw [intsL_len, List.length_replicate]
 refine VO.mb ?_
 refine VO.nil ?_
 refine VC.seq ?_
 refine VC.sr ?_
 refine VO.mw ?_
 refine VO.vv (OpV.len_v rfl Tryz.underlying22 rfl) ?_
 refine VO.mw ?_
 refine VO.nil ?_
 refine VC.block ?_
 refine VC.loopK [(0, _), (1, _), (5, _), (17, _)] ⟨rfl, rfl, rfl, rfl, trivial⟩ ({z : List Int × Nat // z.2 ≤ rest + 1 ∧ z.1.length = rest + 1 ∧ ∀ j, j < z.2 → z.1.getD j 0 = neverC}) (fun (iZ : {z : List Int × Nat // z.2 ≤ rest + 1 ∧ z.1.length = rest + 1 ∧ ∀ j, j < z.2 → z.1.getD j 0 = neverC}) => match iZ with | ⟨⟨bl, q⟩, hq, hbl, hbn⟩ => [(18, avI (q : Int))]) (fun (iZ : {z : List Int × Nat // z.2 ≤ rest + 1 ∧ z.1.length = rest + 1 ∧ ∀ j, j < z.2 → z.1.getD j 0 = neverC}) => match iZ with | ⟨⟨bl, q⟩, hq, hbl, hbn⟩ => [fixB gf ms.length fx, .box g15 ⟨intsL bl, 3, rest + 1⟩]) (fun (iZ : {z : List Int × Nat // z.2 ≤ rest + 1 ∧ z.1.length = rest + 1 ∧ ∀ j, j < z.2 → z.1.getD j 0 = neverC}) => match iZ with | ⟨⟨bl, q⟩, hq, hbl, hbn⟩ => 0) (fun (iZ : {z : List Int × Nat // z.2 ≤ rest + 1 ∧ z.1.length = rest + 1 ∧ ∀ j, j < z.2 → z.1.getD j 0 = neverC}) => match iZ with | ⟨⟨bl, q⟩, hq, hbl, hbn⟩ => rest + 1 - q) ⟨(List.replicate (rest + 1) 0, 0), Nat.zero_le _, rep_len _ _, fun j hj => absurd hj (Nat.not_lt_zero j)⟩ (Le.mk hB [0, 1] ⟨rfl, rfl, rfl, rfl, rfl, trivial⟩ rfl rfl (Nat.le_refl _)) ?_
 rintro ⟨⟨bl, q⟩, hq, hbl, hbn⟩
 show VC _ _ _ _ ⟨[(18, avI (q : Int))] ++ [(0, _), (1, _), (5, _), (17, _)], [fixB gf ms.length fx, .box g15 ⟨intsL bl, 3, rest + 1⟩], 0⟩
 simp only at hq hbl hbn
 refine VC.sr ?_
 refine VO.vv (OpV.lss rfl rfl rfl) ?_
 refine VO.nil ?_
 refine VC.seq ?_
 refine VC.cond rfl (fun aH1b => ?_) (fun aH1b => ?_)
 ·have aH1 := aH1b
  try simp only [qq] at aH1
  refine VC.skip ?_
  refine VC.seq ?_
  refine VC.block ?_
  refine VC.sr ?_
  refine VO.mw ?_
  refine VO.mb ?_
  refine VO.nil ?_
  refine VC.region ?_
  refine VO.mw ?_
  refine VO.mw ?_
  refine VO.vv (OpV.indexAddr_o rfl Tryz.underlying22 Tryz.sizeOf3 rfl rfl rfl (by omega)) ?_
  refine VO.op rfl (OpE.store1 (i := 1) rfl hB rfl Tryz.sizeOf3 rfl rfl rfl rfl rfl rfl (by rw [intsL_len]; omega) (intsL_set _ _ _) trivial ?_)
  refine VO.nil ?_
  refine VC.region ?_
  refine VO.vv (OpV.add rfl rfl rfl (by unfold fits; omega)) ?_
  refine VO.mw ?_
  refine VO.nil ?_
  exact Exists.intro (⟨(bl.set q neverC, q + 1), by show q + 1 ≤ _; omega, by show (bl.set q neverC).length = _; rw [List.length_set]; exact hbl, fun j hj => by show (bl.set q neverC).getD j 0 = _; rw [getDs (by omega)]; by_cases e : j = q; (rw [if_pos e]); (rw [if_neg e]; exact hbn j (by have : j < q + 1 := hj; omega))⟩) (And.intro (Le.mk hB [0, 1] ⟨rfl, rfl, rfl, rfl, rfl, trivial⟩ rfl rfl (Nat.le_refl _)) (by first | omega | (show _ < _; omega) | (simp only []; omega)))
 ·have aH1 := aH1b
  try simp only [qq] at aH1
  refine VC.exit ?_
  refine VC.sr ?_
  refine VO.mw ?_
  refine VO.vv (OpV.indexAddr_o rfl Tryz.underlying22 Tryz.sizeOf3 rfl rfl (Int.toNat_of_nonneg (by omega)).symm (by omega)) ?_
  refine VO.op rfl (OpE.store1 (i := 1) rfl hB rfl Tryz.sizeOf3 rfl rfl rfl rfl rfl rfl (by rw [intsL_len]; omega) (intsL_set _ _ _) trivial ?_)
  refine VO.nil ?_
  refine VC.seq ?_
  refine VC.sr ?_
  refine VO.mw ?_
  refine VO.vv (OpV.nilCheck_at rfl rfl) ?_
  refine VO.vv (OpV.fieldAddr_atO 0 rfl Tryz.underlying182 rfl rfl Tryz.sizeOf66 rfl rfl) ?_
  refine VO.vv (OpV.load_at rfl hB OutW.no Tryz.isAgg66 rfl rfl) ?_
  refine VO.vv (OpV.len_im rfl Tryz.underlying66 rfl) ?_
  refine VO.mw ?_
  refine VO.nil ?_
  refine VC.block ?_
  refine VC.loopK [(0, _), (1, _), (31, _)] ⟨rfl, rfl, rfl, trivial⟩ ({z : Nat × List Int × Nat // z.2.2 ≤ ms.length ∧ SetI rest (belS ms ns fx z.2.2) z.2.1}) (fun (iZ : {z : Nat × List Int × Nat // z.2.2 ≤ ms.length ∧ SetI rest (belS ms ns fx z.2.2) z.2.1}) => match iZ with | ⟨⟨gb, bl, k⟩, hk, hS⟩ => [(5, .v (.slice (some ⟨gb, 0, none⟩) (rest + 1) (rest + 1))), (32, avI (k : Int))]) (fun (iZ : {z : Nat × List Int × Nat // z.2.2 ≤ ms.length ∧ SetI rest (belS ms ns fx z.2.2) z.2.1}) => match iZ with | ⟨⟨gb, bl, k⟩, hk, hS⟩ => [fixB gf ms.length fx, .box gb ⟨intsL bl, 3, rest + 1⟩]) (fun (iZ : {z : Nat × List Int × Nat // z.2.2 ≤ ms.length ∧ SetI rest (belS ms ns fx z.2.2) z.2.1}) => match iZ with | ⟨⟨gb, bl, k⟩, hk, hS⟩ => 0) (fun (iZ : {z : Nat × List Int × Nat // z.2.2 ≤ ms.length ∧ SetI rest (belS ms ns fx z.2.2) z.2.1}) => match iZ with | ⟨⟨gb, bl, k⟩, hk, hS⟩ => ms.length - k) ⟨(g15, bl.set 0 0, 0), Nat.zero_le _, belS_zero' hbl (fun j hj => hbn j (by omega))⟩ (Le.mk hB [0, 1] ⟨rfl, rfl, rfl, rfl, rfl, trivial⟩ rfl rfl (Nat.le_refl _)) ?_
  rintro ⟨⟨gb, bl, k⟩, hk, hS⟩
  show VC _ _ _ _ ⟨[(5, .v (.slice (some ⟨gb, 0, none⟩) (rest + 1) (rest + 1))), (32, avI (k : Int))] ++ [(0, _), (1, _), (31, _)], [fixB gf ms.length fx, .box gb ⟨intsL bl, 3, rest + 1⟩], 0⟩
  simp only at hk hS
  have hbl := hS.len
  refine VC.sr ?_
  refine VO.vv (OpV.lss rfl rfl rfl) ?_
  refine VO.nil ?_
  refine VC.seq ?_
  refine VC.cond rfl (fun aH2b => ?_) (fun aH2b => ?_)
  ·have aH2 := aH2b
   try simp only [qq] at aH2
   refine VC.skip ?_
   refine VC.seq ?_
   refine VC.block ?_
   refine VC.sr ?_
   refine VO.mw ?_
   refine VO.mb ?_
   refine VO.nil ?_
   refine VC.sr ?_
   refine VO.mw ?_
   refine VO.vv (OpV.add rfl rfl rfl (by unfold fits; omega)) ?_
   refine VO.op rfl (OpE.make rfl hB rfl Tryz.underlying22 (infoOf Tryz.t3 1 (by kernel_rfl) rfl rfl) (by decide) rfl rfl (n := rest + 1) (by omega) (by omega) (by omega) (made_ints _) ?_)
   intro g37
   rw [intsL_len, List.length_replicate]
   refine VO.mb ?_
   refine VO.nil ?_
   refine VC.seq ?_
   refine VC.sr ?_
   refine VO.mw ?_
   refine VO.mb ?_
   refine VO.nil ?_
   refine VC.block ?_
   refine VC.loopK [(0, _), (1, _), (5, _), (7, _), (8, _), (31, _), (32, _)] ⟨rfl, rfl, rfl, rfl, rfl, rfl, rfl, trivial⟩ ({z : List Int × Nat // SetG rest z.2 (alnS ms ns fx k) z.1}) (fun (iZ : {z : List Int × Nat // SetG rest z.2 (alnS ms ns fx k) z.1}) => match iZ with | ⟨⟨al, cur⟩, hG⟩ => [(9, avI (cur : Int))]) (fun (iZ : {z : List Int × Nat // SetG rest z.2 (alnS ms ns fx k) z.1}) => match iZ with | ⟨⟨al, cur⟩, hG⟩ => [fixB gf ms.length fx, .box gb ⟨intsL bl, 3, rest + 1⟩, .box g37 ⟨intsL al, 3, rest + 1⟩]) (fun (iZ : {z : List Int × Nat // SetG rest z.2 (alnS ms ns fx k) z.1}) => match iZ with | ⟨⟨al, cur⟩, hG⟩ => 0) (fun (iZ : {z : List Int × Nat // SetG rest z.2 (alnS ms ns fx k) z.1}) => match iZ with | ⟨⟨al, cur⟩, hG⟩ => cur) ⟨(List.replicate (rest + 1) 0, rest), SetG.start (rep_len _ _)⟩ (Le.mk hB [0, 1, 2] ⟨rfl, rfl, rfl, rfl, rfl, rfl, rfl, rfl, trivial⟩ rfl rfl (Nat.le_refl _)) ?_
   rintro ⟨⟨al, cur⟩, hG⟩
   show VC _ _ _ _ ⟨[(9, avI (cur : Int))] ++ [(0, _), (1, _), (5, _), (7, _), (8, _), (31, _), (32, _)], [fixB gf ms.length fx, .box gb ⟨intsL bl, 3, rest + 1⟩, .box g37 ⟨intsL al, 3, rest + 1⟩], 0⟩
   simp only at hG
   have hcl := hG.lt
   have hcl2 := hG.len
   refine VC.seq ?_
   refine VC.block ?_
   refine VC.sr ?_
   refine VO.mw ?_
   refine VO.mw ?_
   refine VO.mw ?_
   refine VO.mw ?_
   refine VO.mw ?_
   refine VO.vv (OpV.nilCheck_at rfl rfl) ?_
   refine VO.vv (OpV.fieldAddr_atO 2 rfl Tryz.underlying182 rfl rfl Tryz.sizeOf22 rfl rfl) ?_
   refine VO.vv (OpV.load_at rfl hB OutW.no Tryz.isAgg22 rfl rfl) ?_
   refine VO.mw ?_
   refine VO.vv (OpV.indexAddr_o rfl Tryz.underlying22 Tryz.sizeOf3 rfl rfl rfl (by omega)) ?_
   refine VO.vv (OpV.load_own (i := 0) rfl hB Tryz.isAgg3 rfl rfl (intsT_get (by omega)) (fun h => h)) ?_
   refine VO.mw ?_
   refine VO.vv (OpV.bor rfl rfl rfl (Nat.lt_trans (hfx k) (by decide)) (by omega)) ?_
   refine VO.op rfl (OpE.call rfl hB rfl Tryz.call174 rfl (SpecN.spec (bal_cycle hm hn h12 (by omega) (by have := or_lt12 (hfx k) (show cur < 4096 by omega); omega))) ?_)
   rintro _ rfl
   refine VO.vv (OpV.indexAddr_o rfl Tryz.underlying22 Tryz.sizeOf3 rfl rfl rfl (by omega)) ?_
   refine VO.op rfl (OpE.store1 (i := 2) rfl hB rfl Tryz.sizeOf3 rfl rfl rfl rfl rfl rfl (by rw [intsL_len]; omega) (intsL_set _ _ _) trivial ?_)
   refine VO.nil ?_
   refine VC.sr ?_
   refine VO.mw ?_
   refine VO.vv (OpV.eql rfl rfl rfl) ?_
   refine VO.nil ?_
   refine VC.cond rfl (fun h2b => ?_) (fun h2b => ?_)
   ·have h2 := h2b
    try simp only [qq] at h2
    obtain ⟨al2, hA2, hA⟩ : ∃ al2, al.set cur (alnS ms ns fx k cur) = al2 ∧ SetI rest (alnS ms ns fx k) al2 := ⟨_, rfl, hG.last (by omega) rfl⟩
    refine VC.le _ (Le.pickH (hp := [fixB gf ms.length fx, .box gb ⟨intsL bl, 3, rest + 1⟩, .box g37 ⟨intsL al2, 3, rest + 1⟩]) [0, 1, 2] rfl (by rw [← hA2]; rfl)) ?_
    have hal := hA.len
    refine VC.exit ?_
    refine VC.sr ?_
    refine VO.mw ?_
    refine VO.vv (OpV.add rfl rfl rfl (by unfold fits; omega)) ?_
    refine VO.op rfl (OpE.make rfl hB rfl Tryz.underlying22 (infoOf Tryz.t3 1 (by kernel_rfl) rfl rfl) (by decide) rfl rfl (n := rest + 1) (by omega) (by omega) (by omega) (made_ints _) ?_)
    intro g62
    rw [intsL_len, List.length_replicate]
    refine VO.mb ?_
    refine VO.nil ?_
    refine VC.seq ?_
    refine VC.sr ?_
    refine VO.mw ?_
    refine VO.mb ?_
    refine VO.nil ?_
    refine VC.block ?_
    refine VC.loopK [(0, _), (1, _), (5, _), (8, _), (10, _), (31, _), (32, _)] ⟨rfl, rfl, rfl, rfl, rfl, rfl, rfl, trivial⟩ ({z : List Int × Nat // SetG rest z.2 (belS ms ns fx (k + 1)) z.1}) (fun (iZ : {z : List Int × Nat // SetG rest z.2 (belS ms ns fx (k + 1)) z.1}) => match iZ with | ⟨⟨af, s⟩, hF⟩ => [(11, avI (s : Int))]) (fun (iZ : {z : List Int × Nat // SetG rest z.2 (belS ms ns fx (k + 1)) z.1}) => match iZ with | ⟨⟨af, s⟩, hF⟩ => [fixB gf ms.length fx, .box gb ⟨intsL bl, 3, rest + 1⟩, .box g37 ⟨intsL al2, 3, rest + 1⟩, .box g62 ⟨intsL af, 3, rest + 1⟩]) (fun (iZ : {z : List Int × Nat // SetG rest z.2 (belS ms ns fx (k + 1)) z.1}) => match iZ with | ⟨⟨af, s⟩, hF⟩ => 0) (fun (iZ : {z : List Int × Nat // SetG rest z.2 (belS ms ns fx (k + 1)) z.1}) => match iZ with | ⟨⟨af, s⟩, hF⟩ => s) ⟨(List.replicate (rest + 1) 0, rest), SetG.start (rep_len _ _)⟩ (Le.mk hB [0, 1, 2, 3] ⟨rfl, rfl, rfl, rfl, rfl, rfl, rfl, rfl, trivial⟩ rfl rfl (Nat.le_refl _)) ?_
    rintro ⟨⟨af, s⟩, hF⟩
    show VC _ _ _ _ ⟨[(11, avI (s : Int))] ++ [(0, _), (1, _), (5, _), (8, _), (10, _), (31, _), (32, _)], [fixB gf ms.length fx, .box gb ⟨intsL bl, 3, rest + 1⟩, .box g37 ⟨intsL al2, 3, rest + 1⟩, .box g62 ⟨intsL af, 3, rest + 1⟩], 0⟩
    simp only at hF
    have hsl := hF.lt
    have hsl2 := hF.len
    refine VC.seq ?_
    refine VC.block ?_
    refine VC.sr ?_
    refine VO.mw ?_
    refine VO.mw ?_
    refine VO.vv (OpV.indexAddr_o rfl Tryz.underlying22 Tryz.sizeOf3 rfl rfl rfl (by omega)) ?_
    refine VO.op rfl (OpE.store1 (i := 3) rfl hB rfl Tryz.sizeOf3 rfl rfl rfl rfl rfl rfl (by rw [intsL_len]; omega) (intsL_set _ _ _) trivial ?_)
    refine VO.nil ?_
    refine VC.seq ?_
    refine VC.sr ?_
    refine VO.mw ?_
    refine VO.mb ?_
    refine VO.nil ?_
    refine VC.block ?_
    refine VC.loopK [(0, _), (1, _), (5, _), (8, _), (10, _), (11, _), (31, _), (32, _)] ⟨rfl, rfl, rfl, rfl, rfl, rfl, rfl, rfl, trivial⟩ ({z : Int × Nat // MinI (mxBA ms ns fx k s) s z.2 z.1}) (fun (iZ : {z : Int × Nat // MinI (mxBA ms ns fx k s) s z.2 z.1}) => match iZ with | ⟨⟨v, c⟩, hV⟩ => [(12, avI (c : Int))]) (fun (iZ : {z : Int × Nat // MinI (mxBA ms ns fx k s) s z.2 z.1}) => match iZ with | ⟨⟨v, c⟩, hV⟩ => [fixB gf ms.length fx, .box gb ⟨intsL bl, 3, rest + 1⟩, .box g37 ⟨intsL al2, 3, rest + 1⟩, .box g62 ⟨intsL (af.set s v), 3, rest + 1⟩]) (fun (iZ : {z : Int × Nat // MinI (mxBA ms ns fx k s) s z.2 z.1}) => match iZ with | ⟨⟨v, c⟩, hV⟩ => 0) (fun (iZ : {z : Int × Nat // MinI (mxBA ms ns fx k s) s z.2 z.1}) => match iZ with | ⟨⟨v, c⟩, hV⟩ => c) ⟨(neverC, s), MinI.start _ _⟩ (Le.mk hB [0, 1, 2, 3] (by repeat first | refine ⟨rfl, ?_⟩ | trivial) rfl rfl (Nat.le_refl _)) ?_
    rintro ⟨⟨v, c⟩, hV⟩
    show VC _ _ _ _ ⟨[(12, avI (c : Int))] ++ [(0, _), (1, _), (5, _), (8, _), (10, _), (11, _), (31, _), (32, _)], [fixB gf ms.length fx, .box gb ⟨intsL bl, 3, rest + 1⟩, .box g37 ⟨intsL al2, 3, rest + 1⟩, .box g62 ⟨intsL (af.set s v), 3, rest + 1⟩], 0⟩
    simp only at hV
    have hvs := hV.sub.le
    have hds : ndiff s c ≤ s := (SubN.diff s c).le
    have hb1 := hS.at_ (ndiff s c) (SubN.of_sub hF.sub)
    have hb2 := hA.at_ c (hV.sub.trans hF.sub)
    refine VC.seq ?_
    refine VC.block ?_
    refine VC.seq ?_
    refine VC.draw (fun j b => j = 19 ∧ b = g62) hB (by kernel_rfl) ?_
    refine VA.tk (i := 0) rfl (OpV.move (.inl rfl) rfl) ?_
    refine VA.tk (i := 1) rfl (OpV.move (.inl rfl) rfl) ?_
    refine VA.tk (i := 2) rfl (OpV.move (.inl rfl) rfl) ?_
    refine VA.tk (i := 3) rfl (OpV.move (.inl rfl) rfl) ?_
    refine VA.tk (i := 4) rfl (OpV.indexAddr_o rfl Tryz.underlying22 Tryz.sizeOf3 rfl rfl rfl (by omega)) ?_
    refine VA.takeT [5, 17, 19] (i := 5) (by kernel_rfl) (by kernel_rfl) rfl (by kernel_rfl) (by kernel_rfl) (by kernel_rfl) rfl rfl (OpV.load_own (i := 3) rfl hB Tryz.isAgg3 rfl rfl (setInt_get (by omega)) (fun ⟨j, h1, h2, _⟩ => by subst h2; cases h1)) ?_
    refine VA.tk (i := 6) rfl (OpV.move (.inl rfl) rfl) ?_
    refine VA.tk (i := 7) rfl (OpV.move (.inl rfl) rfl) ?_
    refine VA.tk (i := 8) rfl (OpV.move (.inl rfl) rfl) ?_
    refine VA.tk (i := 9) rfl (OpV.bdiff (a := s) (b := c) rfl rfl rfl (by omega) (by omega)) ?_
    refine VA.tk (i := 10) rfl (OpV.indexAddr_o rfl Tryz.underlying22 Tryz.sizeOf3 rfl rfl rfl (by omega)) ?_
    refine VA.takeT [11, 16, 17, 19] (i := 11) (by kernel_rfl) (by kernel_rfl) rfl (by kernel_rfl) (by kernel_rfl) (by kernel_rfl) rfl rfl (OpV.load_own (i := 1) rfl hB Tryz.isAgg3 rfl rfl (intsL_getV (by omega) hb1) (fun ⟨j, h1, h2, _⟩ => by subst h2; cases h1)) ?_
    refine VA.tk (i := 12) rfl (OpV.move (.inl rfl) rfl) ?_
    refine VA.tk (i := 13) rfl (OpV.move (.inl rfl) rfl) ?_
    refine VA.tk (i := 14) rfl (OpV.indexAddr_o rfl Tryz.underlying22 Tryz.sizeOf3 rfl rfl rfl (by omega)) ?_
    refine VA.takeT [15, 16, 17, 19] (i := 15) (by kernel_rfl) (by kernel_rfl) rfl (by kernel_rfl) (by kernel_rfl) (by kernel_rfl) rfl rfl (OpV.load_own (i := 2) rfl hB Tryz.isAgg3 rfl rfl (intsL_getV (by omega) hb2) (fun ⟨j, h1, h2, _⟩ => by subst h2; cases h1)) ?_
    refine VA.tk (i := 16) rfl (OpV.max2 rfl rfl rfl) ?_
    refine VA.tk (i := 17) rfl (OpV.min2 rfl rfl rfl) ?_
    refine VA.tk (i := 18) rfl (OpV.indexAddr_o rfl Tryz.underlying22 Tryz.sizeOf3 rfl rfl rfl (by omega)) ?_
    refine VA.all (rs := [19]) (by kernel_rfl) (by decide) ?_
    refine ⟨⟨_, rfl, .inl rfl, ?_⟩, trivial⟩
    refine OpE.store1 (i := 3) rfl hB rfl Tryz.sizeOf3 rfl rfl rfl rfl rfl rfl (by rw [intsL_len, List.length_set]; omega) (setInt_set _ _ _ _) (by first | exact ⟨rfl, rfl⟩ | exact .inl ⟨rfl, rfl⟩ | exact .inr ⟨rfl, rfl⟩ | exact ⟨rfl, trivial⟩ | exact .inl ⟨rfl, trivial⟩ | exact .inr ⟨rfl, trivial⟩ | exact ⟨by decide, rfl⟩) ?_
    refine VA.done (by kernel_rfl) ?_
    refine VC.sr ?_
    refine VO.mw ?_
    refine VO.vv (OpV.eql rfl rfl rfl) ?_
    refine VO.nil ?_
    refine VC.cond rfl (fun h3b => ?_) (fun h3b => ?_)
    ·have h3 := h3b
     try simp only [qq] at h3
     have hfin : min v (mxBA ms ns fx k s c) = belS ms ns fx (k + 1) s := hV.last (mxBA_nn hMn k s) (by omega)
     refine VC.le _ (Le.pickH (hp := [fixB gf ms.length fx, .box gb ⟨intsL bl, 3, rest + 1⟩, .box g37 ⟨intsL al2, 3, rest + 1⟩, .box g62 ⟨intsL (af.set s (belS ms ns fx (k + 1) s)), 3, rest + 1⟩]) [0, 1, 2, 3] rfl (by rw [← hfin]; rfl)) ?_
     refine VC.exit ?_
     refine VC.sr ?_
     refine VO.mw ?_
     refine VO.vv (OpV.eql rfl rfl rfl) ?_
     refine VO.nil ?_
     refine VC.cond rfl (fun h4b => ?_) (fun h4b => ?_)
     ·have h4 := h4b
      try simp only [qq] at h4
      obtain ⟨af2, hF1, hF2⟩ : ∃ af2, af.set s (belS ms ns fx (k + 1) s) = af2 ∧ SetI rest (belS ms ns fx (k + 1)) af2 := ⟨_, rfl, hF.last (by omega) rfl⟩
      refine VC.le _ (Le.pickH (hp := [fixB gf ms.length fx, .box gb ⟨intsL bl, 3, rest + 1⟩, .box g37 ⟨intsL al2, 3, rest + 1⟩, .box g62 ⟨intsL af2, 3, rest + 1⟩]) [0, 1, 2, 3] rfl (by rw [← hF1]; rfl)) ?_
      refine VC.exit ?_
      refine VC.region ?_
      refine VO.mw ?_
      refine VO.mb ?_
      refine VO.nil ?_
      refine VC.region ?_
      refine VO.vv (OpV.add rfl rfl rfl (by unfold fits; omega)) ?_
      refine VO.mw ?_
      refine VO.nil ?_
      exact Exists.intro (⟨(g62, af2, k + 1), by show k + 1 ≤ _; omega, hF2⟩) (And.intro (Le.mk hB [0, 3] ⟨rfl, rfl, rfl, rfl, rfl, trivial⟩ rfl rfl (Nat.le_refl _)) (by first | omega | (show _ < _; omega) | (simp only []; omega)))
     ·have h4 := h4b
      try simp only [qq] at h4
      refine VC.skip ?_
      refine VC.region ?_
      refine VO.mw ?_
      refine VO.vv (OpV.sub rfl rfl rfl (by unfold fits; omega)) ?_
      refine VO.le _ (Le.recast (t := 65) (y := avI ((s - 1 : Nat) : Int)) rfl (fun w Z u h => by rw [show ((s - 1 : Nat) : Int) = (s : Int) - 1 by omega]; exact h)) ?_
      refine VO.mw ?_
      refine VO.vv (OpV.band (a := s - 1) (b := rest) rfl rfl rfl (by omega) (by omega)) ?_
      refine VO.mb ?_
      refine VO.nil ?_
      have hdec : (s - 1) &&& rest < s := sub_dec (by omega)
      exact Exists.intro (⟨(af.set s (belS ms ns fx (k + 1) s), (s - 1) &&& rest), hF.next (by omega) rfl⟩) (And.intro (Le.mk hB [0, 1, 2, 3] ⟨rfl, rfl, rfl, rfl, rfl, rfl, rfl, rfl, trivial⟩ rfl rfl (Nat.le_refl _)) (by first | omega | (show _ < _; omega) | (simp only []; omega)))
    ·have h3 := h3b
     try simp only [qq] at h3
     refine VC.skip ?_
     refine VC.region ?_
     refine VO.mw ?_
     refine VO.vv (OpV.sub rfl rfl rfl (by unfold fits; omega)) ?_
     refine VO.le _ (Le.recast (t := 73) (y := avI ((c - 1 : Nat) : Int)) rfl (fun w Z u h => by rw [show ((c - 1 : Nat) : Int) = (c : Int) - 1 by omega]; exact h)) ?_
     refine VO.mw ?_
     refine VO.vv (OpV.band (a := c - 1) (b := s) rfl rfl rfl (by omega) (by omega)) ?_
     refine VO.mb ?_
     refine VO.nil ?_
     have hdec : (c - 1) &&& s < c := sub_dec (by omega)
     exact Exists.intro (⟨(min v (mxBA ms ns fx k s c), (c - 1) &&& s), hV.next (mxBA_nn hMn k s c) (by omega)⟩) (And.intro (Le.mk hB [0, 1, 2, 3] (by repeat first | refine ⟨rfl, ?_⟩ | trivial) rfl rfl (Nat.le_refl _)) (by first | omega | (show _ < _; omega) | (simp only []; omega)))
   ·have h2 := h2b
    try simp only [qq] at h2
    refine VC.skip ?_
    refine VC.region ?_
    refine VO.mw ?_
    refine VO.vv (OpV.sub rfl rfl rfl (by unfold fits; omega)) ?_
    refine VO.le _ (Le.recast (t := 40) (y := avI ((cur - 1 : Nat) : Int)) rfl (fun w Z u h => by rw [show ((cur - 1 : Nat) : Int) = (cur : Int) - 1 by omega]; exact h)) ?_
    refine VO.mw ?_
    refine VO.vv (OpV.band (a := cur - 1) (b := rest) rfl rfl rfl (by omega) (by omega)) ?_
    refine VO.mb ?_
    refine VO.nil ?_
    have hdec : (cur - 1) &&& rest < cur := sub_dec (by omega)
    exact Exists.intro (⟨(al.set cur (alnS ms ns fx k cur), (cur - 1) &&& rest), hG.next (by omega) rfl⟩) (And.intro (Le.mk hB [0, 1, 2] ⟨rfl, rfl, rfl, rfl, rfl, rfl, rfl, rfl, trivial⟩ rfl rfl (Nat.le_refl _)) (by first | omega | (show _ < _; omega) | (simp only []; omega)))
  ·have aH2 := aH2b
   try simp only [qq] at aH2
   obtain rfl : k = ms.length := by omega
   have hlast := hS.at_ rest (SubN.refl rest)
   refine VC.exit ?_
   refine VC.sr ?_
   refine VO.mw ?_
   refine VO.mw ?_
   refine VO.vv (OpV.indexAddr_o rfl Tryz.underlying22 Tryz.sizeOf3 rfl rfl rfl (by omega)) ?_
   refine VO.vv (OpV.load_own (i := 1) rfl hB Tryz.isAgg3 rfl rfl (intsL_getV (by omega) hlast) (fun h => h)) ?_
   refine VO.mb ?_
   refine VO.nil ?_
   refine VC.le _ (Le.pickH [0] rfl rfl) ?_
   refine VC.ret ?_
   exact Exists.intro _ (And.intro (RetV.one Tryz.results90 (ResV.tmp rfl)) (⟨rfl, rfl⟩))
end
section
section
variable {ms : List Mach} {ns : List NeedS} {pl G : List Int} {B : Int} {q k : Nat}
theorem bal_no (hq : q < ns.length) (hB : bstV ms ns (ns.length - q) pl = B) (hlt : B < neverC) (hn : ∀ j, j < ms.length → bstV ms ns (ns.length - q - 1) (pl ++ [(j : Int)]) ≠ B) : False := by
 obtain ⟨d, hd⟩ : ∃ d, ns.length - q = d + 1 := ⟨ns.length - q - 1, by omega⟩
 rw [hd] at hB hn
 exact grd_some (by rw [hB]; exact hlt) fun j hj => by rw [hB]; exact hn j hj
theorem bal_step (hq : q < ns.length) (hk : k < ms.length) (hB : bstV ms ns (ns.length - q) pl = B) (hG : grd ms ns (ns.length - q) pl = G) (h5 : bstV ms ns (ns.length - q - 1) (pl ++ [(k : Int)]) = B) (hn : ∀ j, j < k → bstV ms ns (ns.length - q - 1) (pl ++ [(j : Int)]) ≠ B) : bstV ms ns (ns.length - (q + 1)) (pl ++ [(k : Int)]) = B ∧ grd ms ns (ns.length - (q + 1)) (pl ++ [(k : Int)]) = G := by
 obtain ⟨d, hd⟩ : ∃ d, ns.length - q = d + 1 := ⟨ns.length - q - 1, by omega⟩
 have e : ns.length - (q + 1) = d := by omega
 rw [hd] at hB hG h5 hn
 rw [e]
 refine ⟨h5, ?_⟩
 rw [← hG, grd_next hk (by rw [hB]; exact h5) fun j hj => by rw [hB]; exact hn j hj]
theorem bel_next (hM : MnOk ms ns) (hl : pl.length = q) (hq : q < ns.length) : belS ms ns (mskP (pl ++ [(k : Int)])) ms.length (rst ns.length (q + 1)) = bstV ms ns (ns.length - q - 1) (pl ++ [(k : Int)]) := by
 have := belS_bst hM (pl := pl ++ [(k : Int)]) (d := ns.length - q - 1) (by simp; omega)
 rw [List.length_append, hl] at this
 exact this
theorem bel_first (hM : MnOk ms ns) : belS ms ns (mskP []) ms.length (rst ns.length 0) = bstV ms ns ns.length [] := belS_bst hM (pl := []) (d := ns.length) (by simp)
theorem pow12 {n : Nat} (h : n ≤ 12) : 1 ≤ 2 ^ n ∧ 2 ^ n ≤ 4096 := ⟨Nat.one_le_two_pow, show 2 ^ n ≤ 2 ^ 12 from Nat.pow_le_pow_right (by decide) h⟩
theorem msk12 (h : pl.length ≤ 12) (k : Nat) : mskP pl k < 4096 := Nat.lt_of_lt_of_le (mskP_lt pl k) (pow12 h).2
theorem rst12 {n : Nat} (h : n ≤ 12) (i : Nat) : rst n i < 4096 := Nat.lt_of_lt_of_le (rst_lt n i) (pow12 h).2
end
theorem mskT_yes {pl : List Int} {k q n : Nat} (hl : pl.length = q) : (tabI n fun j => ((mskP pl j : Nat) : Int)).set k ((mskP pl k ||| 2 ^ q : Nat) : Int) = tabI n fun j => ((mskP (pl ++ [(k : Int)]) j : Nat) : Int) :=
 tabI_set' (by rw [mskP_snoc, if_pos rfl, hl]) fun j _ hne => by rw [mskP_snoc, if_neg hne]
theorem mskT_no {pl : List Int} {k q n : Nat} (hl : pl.length = q) : (tabI n fun j => ((mskP (pl ++ [(k : Int)]) j : Nat) : Int)).set k ((ndiff (mskP (pl ++ [(k : Int)]) k) (2 ^ q) : Nat) : Int) = tabI n fun j => ((mskP pl j : Nat) : Int) :=
 tabI_set' (by rw [mskP_snoc, if_pos rfl, ← hl, mskP_back]) fun j _ hne => by rw [mskP_snoc, if_neg hne]
end
end Go.Proofs.YtcploodfholkkaaGreatDoor
