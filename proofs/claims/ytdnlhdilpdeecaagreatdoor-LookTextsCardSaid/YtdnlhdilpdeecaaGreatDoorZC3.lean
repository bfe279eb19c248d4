/- Part 3 of a proof: the walks and laws that it needs. -/
import Derived.Test.YtdnlhdilpdeecaaGreatDoorProg
import Derived.Shelf.Abstract
import Derived.Deep.QuietTactic
import Derived.BigQuiet
import Derived.BigRegion
import Derived.Deep.RegionLaw
import Derived.Deep.LoopGhost
import Derived.Deep.DeepCutAuto
import Derived.Lib.Bytealg
import Derived.Lib.AtoiErrMem
import Derived.WideLaws
import Derived.Lib.LaidTab
import Derived.Lib.ItoaNum
import Derived.Sort.Grow
import Derived.Lib.ItoaMem
import Derived.Lib.AppendStr
import Derived.Lib.Builder
import Derived.WalkKit
import Derived.Laws.Externs
import Derived.Test.YtdnlhdilpdeecaaGreatDoorZC2
namespace Go.Proofs.YtdnlhdilpdeecaaGreatDoor
open Go.RowKit
set_option linter.unusedVariables false
set_option linter.unusedSimpArgs false
section
variable {m : Nat} {l : List LookS} (hok : ∀ x ∈ l, LkG m x) (i : Nat)
include hok
theorem lk_s1 {r r' : ByteArray} (h1 : BdG m r) (h2 : NmG r') : ∀ x ∈ (l.set i ({l.getD i default with board := r} : LookS)).set i ({l.getD i default with board := r, name := r'} : LookS), LkG m x :=
 have hx := LkG.getD hok i
 LkG.setD (LkG.setD hok i (y := {l.getD i default with board := r}) ⟨h1, hx.name, hx.at_, hx.machine, hx.nozzle, hx.reel⟩) i (y := {l.getD i default with board := r, name := r'}) ⟨h1, h2, hx.at_, hx.machine, hx.nozzle, hx.reel⟩
theorem lk_s2 {r r' : Int} (h1 : AtG m r) : ∀ x ∈ (l.set i ({l.getD i default with at_ := r} : LookS)).set i ({l.getD i default with at_ := r, verdict := r'} : LookS), LkG m x :=
 have hx := LkG.getD hok i
 LkG.setD (LkG.setD hok i (y := {l.getD i default with at_ := r}) ⟨hx.board, hx.name, h1, hx.machine, hx.nozzle, hx.reel⟩) i (y := {l.getD i default with at_ := r, verdict := r'}) ⟨hx.board, hx.name, h1, hx.machine, hx.nozzle, hx.reel⟩
theorem lk_s3 {r r' r2 : ByteArray} (h1 : r.size ≤ 1000) (h2 : r'.size ≤ 1000) (h3 : r2.size ≤ 1000) : ∀ x ∈ ((l.set i ({l.getD i default with machine := r} : LookS)).set i ({l.getD i default with machine := r, nozzle := r'} : LookS)).set i ({l.getD i default with machine := r, nozzle := r', reel := r2} : LookS), LkG m x :=
 have hx := LkG.getD hok i
 LkG.setD (LkG.setD (LkG.setD hok i (y := {l.getD i default with machine := r}) ⟨hx.board, hx.name, hx.at_, h1, hx.nozzle, hx.reel⟩) i (y := {l.getD i default with machine := r, nozzle := r'}) ⟨hx.board, hx.name, hx.at_, h1, h2, hx.reel⟩) i (y := {l.getD i default with machine := r, nozzle := r', reel := r2}) ⟨hx.board, hx.name, hx.at_, h1, h2, h3⟩
end
set_option maxRecDepth 100000 in
set_option maxHeartbeats 40000000 in
theorem looks_O {p : Nat} {L : List Int} {m : Nat} (hm : m ≤ 6) :
    SpecTO Tryz.prog (TT p L) (fun b => b = p) 31 [sp p, avI (m : Int)] 200 (fun y hp' => ∃ (l : List LookS) (u : Value), (l.length ≤ 3 * m ∧ ∀ x ∈ l, LkG m x) ∧ y = .v u ∧ hp' = [.row u l.length 8 (rowL l) 80]) := by
  refine SpecTO.of_VC Tryz.func31 rfl Tryz.ntmps31 (Nle rfl) (low := (fun b => b ≤ p)) (fun w A k h => h.ok) fun w A k hk hB => ?_
  have hnew : True := trivial
  refine VC.sr ?_
  refine VO.ma rfl rfl rfl rfl ?_
  refine VO.nil ?_
  refine VC.sr ?_
  refine VO.ma rfl rfl rfl rfl ?_
  refine VO.nil ?_
  refine VC.sr ?_
  refine VO.ma rfl rfl rfl rfl ?_
  refine VO.nil ?_
  refine VC.seq ?_
  refine VC.sr ?_
  refine VO.mv rfl rfl rfl rfl ?_
  refine VO.mv rfl rfl rfl rfl ?_
  refine VO.nil ?_
  refine VC.block ?_
  refine VC.le _ (Le.nilRow 8 80) ?_
  refine VC.loopK [(0, _), (11, _)] ⟨rfl, rfl, trivial⟩ ({t : (Value × Int) × List LookS × Nat // t.2.2 ≤ m ∧ t.2.1.length ≤ 3 * t.2.2 ∧ (0 ≤ t.1.2 ∧ t.1.2 ≤ 10 * t.2.2) ∧ ∀ x ∈ t.2.1, LkG m x}) (fun (iZ : {t : (Value × Int) × List LookS × Nat // t.2.2 ≤ m ∧ t.2.1.length ≤ 3 * t.2.2 ∧ (0 ≤ t.1.2 ∧ t.1.2 ≤ 10 * t.2.2) ∧ ∀ x ∈ t.2.1, LkG m x}) => match iZ with | ⟨⟨⟨u, atv⟩, l, q⟩, hq, hl, hat, hok⟩ => [(5, .v u), (6, avI atv), (12, avI (q : Int))]) (fun (iZ : {t : (Value × Int) × List LookS × Nat // t.2.2 ≤ m ∧ t.2.1.length ≤ 3 * t.2.2 ∧ (0 ≤ t.1.2 ∧ t.1.2 ≤ 10 * t.2.2) ∧ ∀ x ∈ t.2.1, LkG m x}) => match iZ with | ⟨⟨⟨u, atv⟩, l, q⟩, hq, hl, hat, hok⟩ => [.row u l.length 8 (rowL l) 80]) (fun (iZ : {t : (Value × Int) × List LookS × Nat // t.2.2 ≤ m ∧ t.2.1.length ≤ 3 * t.2.2 ∧ (0 ≤ t.1.2 ∧ t.1.2 ≤ 10 * t.2.2) ∧ ∀ x ∈ t.2.1, LkG m x}) => match iZ with | ⟨⟨⟨u, atv⟩, l, q⟩, hq, hl, hat, hok⟩ => k + 20 * q) (fun (iZ : {t : (Value × Int) × List LookS × Nat // t.2.2 ≤ m ∧ t.2.1.length ≤ 3 * t.2.2 ∧ (0 ≤ t.1.2 ∧ t.1.2 ≤ 10 * t.2.2) ∧ ∀ x ∈ t.2.1, LkG m x}) => match iZ with | ⟨⟨⟨u, atv⟩, l, q⟩, hq, hl, hat, hok⟩ => m - q) ⟨((.slice none 0 0, 0), [], 0), Nat.zero_le _, Nat.zero_le _, ⟨Int.le_refl _, Int.le_refl _⟩, fun x h => by simp at h⟩ (Le.mk hB [0] ⟨rfl, rfl, rfl, rfl, rfl, trivial⟩ rfl rfl (show k ≤ k + 20 * 0 by omega)) ?_
  rintro ⟨⟨⟨u, atv⟩, l, q⟩, hq, hl, hat, hok⟩
  show VC _ _ _ _ ⟨[(5, .v u), (6, avI atv), (12, avI (q : Int))] ++ [(0, _), (11, _)], [.row u l.length 8 (rowL l) 80], k + 20 * q⟩
  simp only at hq hl hat hok
  refine VC.sr ?_
  refine VO.val rfl rfl (OpV.lss rfl rfl rfl) ?_
  refine VO.nil ?_
  refine VC.seq ?_
  refine VC.cond rfl (fun aH1b => ?_) (fun aH1b => ?_)
  · have aH1 := aH1b
    try simp only [qqT, qqF, qqN, qqM, qqL, qqE] at aH1
    refine VC.skip ?_
    refine VC.seq ?_
    refine VC.block ?_
    refine VC.sr ?_
    refine VO.mv rfl rfl rfl rfl ?_
    refine VO.ma rfl rfl rfl rfl ?_
    refine VO.nil ?_
    refine VC.sr ?_
    refine VO.mv rfl rfl rfl rfl ?_
    refine VO.mv rfl rfl rfl rfl ?_
    refine VO.op rfl (OpE.buildSlice (zc := #[.int .i64 0, .int .i64 0, .int .i64 0, .int .i64 0]) rfl hB rfl Tryz.underlying22 Tryz.sizeOf3 Tryz.zeroValue3 (by decide) (by decide) (by kernel_rfl) rfl rfl ?_)
    refine VO.op rfl (OpE.callT' (k + 20 * q) rfl rfl hB rfl Tryz.call14 rfl ((pick_T 0 10 (by rfl) (by decide) (by decide) (by repeat (first | exact AllI.nil | refine AllI.cons (by omega) ?_)))) (by omega) ?_)
    rintro _ ⟨r18, hr18, rfl⟩
    refine VO.val rfl rfl (OpV.add rfl rfl rfl (by unfold fits; omega)) ?_
    refine VO.ma rfl rfl rfl rfl ?_
    refine VO.nil ?_
    refine VC.sr ?_
    refine VO.op rfl (OpE.buildSlice (zc := #[.string ⟨#[]⟩, .string ⟨#[]⟩, .string ⟨#[]⟩]) rfl hB rfl Tryz.underlying29 Tryz.sizeOf9 Tryz.zeroValue9 (by decide) (by decide) (by kernel_rfl) rfl rfl ?_)
    refine VO.le _ (Le.recast (t := 20) (y := avStrs nm3) rfl (fun w Z u h => Rep.strs (xs := nm3) rfl h)) ?_
    refine VO.val rfl rfl (OpV.len_im rfl Tryz.underlying29 rfl) ?_
    refine VO.mv rfl rfl rfl rfl ?_
    refine VO.nil ?_
    refine VC.block ?_
    refine VC.loopK [(0, _), (6, _), (7, _), (11, _), (12, _), (20, _), (21, _)] ⟨rfl, rfl, rfl, rfl, rfl, rfl, rfl, trivial⟩ ({t : Value × List LookS × Nat // t.2.2 ≤ 3 ∧ t.2.1.length ≤ 3 * q + t.2.2 ∧ ∀ x ∈ t.2.1, LkG m x}) (fun (iZ : {t : Value × List LookS × Nat // t.2.2 ≤ 3 ∧ t.2.1.length ≤ 3 * q + t.2.2 ∧ ∀ x ∈ t.2.1, LkG m x}) => match iZ with | ⟨⟨u, l, r⟩, hr, hl, hok⟩ => [(5, .v u), (22, avI (r : Int))]) (fun (iZ : {t : Value × List LookS × Nat // t.2.2 ≤ 3 ∧ t.2.1.length ≤ 3 * q + t.2.2 ∧ ∀ x ∈ t.2.1, LkG m x}) => match iZ with | ⟨⟨u, l, r⟩, hr, hl, hok⟩ => [.row u l.length 8 (rowL l) 80]) (fun (iZ : {t : Value × List LookS × Nat // t.2.2 ≤ 3 ∧ t.2.1.length ≤ 3 * q + t.2.2 ∧ ∀ x ∈ t.2.1, LkG m x}) => match iZ with | ⟨⟨u, l, r⟩, hr, hl, hok⟩ => k + 20 * q + 1 + 6 * r) (fun (iZ : {t : Value × List LookS × Nat // t.2.2 ≤ 3 ∧ t.2.1.length ≤ 3 * q + t.2.2 ∧ ∀ x ∈ t.2.1, LkG m x}) => match iZ with | ⟨⟨u, l, r⟩, hr, hl, hok⟩ => 3 - r) ⟨(u, l, 0), Nat.zero_le _, by show l.length ≤ 3 * q + 0; omega, hok⟩ (Le.mk hB [0] ⟨rfl, rfl, rfl, rfl, rfl, rfl, rfl, rfl, rfl, trivial⟩ rfl rfl (show k + 20 * q + 1 ≤ k + 20 * q + 1 + 6 * 0 by omega)) ?_
    rintro ⟨⟨u, l, r⟩, hr, hl, hok⟩
    show VC _ _ _ _ ⟨[(5, .v u), (22, avI (r : Int))] ++ [(0, _), (6, _), (7, _), (11, _), (12, _), (20, _), (21, _)], [.row u l.length 8 (rowL l) 80], k + 20 * q + 1 + 6 * r⟩
    simp only at hr hl hok
    have hn3 : nm3.length = 3 := rfl
    refine VC.sr ?_
    refine VO.val rfl rfl (OpV.lss rfl rfl rfl) ?_
    refine VO.nil ?_
    refine VC.seq ?_
    refine VC.cond rfl (fun aH2b => ?_) (fun aH2b => ?_)
    · have aH2 := aH2b
      try simp only [qqT, qqF, qqN, qqM, qqL, qqE] at aH2
      refine VC.skip ?_
      refine VC.seq ?_
      refine VC.block ?_
      refine VC.sr ?_
      refine VO.val rfl rfl (OpV.indexAddr_1 rfl Tryz.underlying29 Tryz.sizeOf9 rfl rfl rfl (by show r < 3; omega)) ?_
      refine VO.val rfl rfl (OpV.load_at rfl hB OutW.no Tryz.isAgg9 rfl rfl) ?_
      refine VO.ma rfl rfl rfl rfl ?_
      refine VO.nil ?_
      refine VC.seq ?_
      refine VC.sr ?_
      refine VO.mv rfl rfl rfl rfl ?_
      refine VO.op rfl (OpE.callT' (k + 20 * q + 1 + 6 * r) rfl rfl hB rfl Tryz.call15 rfl ((flip_T (by omega))) (by omega) ?_)
      rintro _ ⟨r27, rfl⟩
      refine VO.nil ?_
      refine VC.cond rfl (fun aH3b => ?_) (fun aH3b => ?_)
      · have aH3 := aH3b
        try simp only [qqT, qqF, qqN, qqM, qqL, qqE] at aH3
        refine VC.exit ?_
        refine VC.region ?_
        refine VO.val rfl rfl (OpV.add rfl rfl rfl (by unfold fits; omega)) ?_
        refine VO.mv rfl rfl rfl rfl ?_
        refine VO.nil ?_
        exact Exists.intro (⟨(u, l, r + 1), by show r + 1 ≤ 3; omega, by show l.length ≤ 3 * q + (r + 1); omega, hok⟩) (And.intro (Le.mk hB [0] ⟨rfl, rfl, rfl, rfl, rfl, rfl, rfl, rfl, rfl, trivial⟩ rfl (by dsimp only; first | rfl | (rw [List.length_append]; rfl)) (show k + 20 * q + 1 + 6 * r + 1 ≤ k + 20 * q + 1 + 6 * (r + 1) by omega)) (by first | omega | (show _ < _; omega) | (simp only []; omega)))
      · have aH3 := aH3b
        try simp only [qqT, qqF, qqN, qqM, qqL, qqE] at aH3
        refine VC.skip ?_
        refine VC.region ?_
        refine VO.mv rfl rfl rfl rfl ?_
        refine VO.mv rfl rfl rfl rfl ?_
        refine VO.val rfl rfl (OpV.add rfl rfl rfl (by unfold fits; omega)) ?_
        refine VO.val rfl rfl (OpV.conv rfl Tryz.underlying3 Tryz.underlying21 rfl (IntWalk.i32_in _ (by omega))) ?_
        refine VO.val rfl rfl (OpV.convStr rfl Tryz.underlying21 Tryz.underlying9 rfl) ?_
        refine VO.val rfl rfl (OpV.sadd rfl rfl rfl (by have := encL_small (49 + (q : Int)); have h1 : (⟨#[98]⟩ : ByteArray).size = 1 := rfl; omega)) ?_
        refine VO.mv rfl rfl rfl rfl ?_
        refine VO.mv rfl rfl rfl rfl ?_
        refine VO.mv rfl rfl rfl rfl ?_
        refine VO.op rfl (OpE.buildSlice (zc := #[.int .i64 0, .int .i64 0, .int .i64 0, .int .i64 0, .int .i64 0, .int .i64 0, .int .i64 0]) rfl hB rfl Tryz.underlying22 Tryz.sizeOf3 Tryz.zeroValue3 (by decide) (by decide) (by kernel_rfl) rfl rfl ?_)
        refine VO.op rfl (OpE.callT' (k + 20 * q + 1 + 6 * r + 1) rfl rfl hB rfl Tryz.call14 rfl (pick_X (by rfl) (by decide) (by decide) (by repeat (first | exact AllX.nil | refine AllX.cons ?_))) (by omega) ?_)
        rintro _ ⟨r38, rfl⟩
        refine VO.mv rfl rfl rfl rfl ?_
        refine VO.op rfl (OpE.callT' (k + 20 * q + 1 + 6 * r + 1 + 1) rfl rfl hB rfl Tryz.call15 rfl ((flip_T (by omega))) (by omega) ?_)
        rintro _ ⟨r40, rfl⟩
        refine VO.mv rfl rfl rfl rfl ?_
        refine VO.op rfl (OpE.buildSlice (zc := #[.string ⟨#[]⟩, .string ⟨#[]⟩]) rfl hB rfl Tryz.underlying29 Tryz.sizeOf9 Tryz.zeroValue9 (by decide) (by decide) (by kernel_rfl) rfl rfl ?_)
        refine VO.op rfl (OpE.callT' (k + 20 * q + 1 + 6 * r + 1 + 1 + 1) rfl rfl hB rfl Tryz.call82 rfl ((some_T 1000 (by rfl) (by decide) (by decide) (by repeat (first | exact AllS.nil | refine AllS.cons (by first | decide | omega) ?_)))) (by omega) ?_)
        rintro _ ⟨r43, hr43, rfl⟩
        refine VO.mv rfl rfl rfl rfl ?_
        refine VO.op rfl (OpE.buildSlice (zc := #[.string ⟨#[]⟩, .string ⟨#[]⟩, .string ⟨#[]⟩]) rfl hB rfl Tryz.underlying29 Tryz.sizeOf9 Tryz.zeroValue9 (by decide) (by decide) (by kernel_rfl) rfl rfl ?_)
        refine VO.op rfl (OpE.callT' (k + 20 * q + 1 + 6 * r + 1 + 1 + 1 + 1) rfl rfl hB rfl Tryz.call82 rfl ((some_T 1000 (by rfl) (by decide) (by decide) (by repeat (first | exact AllS.nil | refine AllS.cons (by first | decide | omega) ?_)))) (by omega) ?_)
        rintro _ ⟨r46, hr46, rfl⟩
        refine VO.mv rfl rfl rfl rfl ?_
        refine VO.op rfl (OpE.buildSlice (zc := #[.string ⟨#[]⟩, .string ⟨#[]⟩, .string ⟨#[]⟩]) rfl hB rfl Tryz.underlying29 Tryz.sizeOf9 Tryz.zeroValue9 (by decide) (by decide) (by kernel_rfl) rfl rfl ?_)
        refine VO.op rfl (OpE.callT' (k + 20 * q + 1 + 6 * r + 1 + 1 + 1 + 1 + 1) rfl rfl hB rfl Tryz.call82 rfl ((some_T 1000 (by rfl) (by decide) (by decide) (by repeat (first | exact AllS.nil | refine AllS.cons (by first | decide | omega) ?_)))) (by omega) ?_)
        rintro _ ⟨r49, hr49, rfl⟩
        refine VO.val rfl rfl (OpV.build (pls := #[(0, 1), (1, 1), (2, 1), (3, 1), (4, 1), (5, 1), (6, 1), (7, 1)]) rfl Tryz.zeroValue80 Tryz.underlying80 (fun w => by kernel_rfl) rfl rfl) ?_
        refine VO.op rfl (OpE.buildSlice (zc := #[.string ⟨#[]⟩, .string ⟨#[]⟩, .int .i64 0, .int .i64 0, .bool false, .string ⟨#[]⟩, .string ⟨#[]⟩, .string ⟨#[]⟩]) rfl hB rfl Tryz.underlying54 Tryz.sizeOf80 Tryz.zeroValue80 (by decide) (by decide) (by kernel_rfl) rfl rfl ?_)
        refine VO.op rfl (OpE.append1 (i := 0) rfl hB rfl Tryz.underlying54 (infoOf Tryz.t80 8 (by kernel_rfl) rfl rfl) rfl (by decide) (by decide) rfl rfl rfl rfl (rowL_snoc l (⟨bdK q, nm3.getD r ByteArray.empty, atv + r18, r38, r40, r43, r46, r49⟩ : LookS)) (by omega) (fun _ _ => trivial) ?_)
        intro u52
        refine VO.ma rfl rfl rfl rfl ?_
        refine VO.nil ?_
        refine VC.region ?_
        refine VO.val rfl rfl (OpV.add rfl rfl rfl (by unfold fits; omega)) ?_
        refine VO.mv rfl rfl rfl rfl ?_
        refine VO.nil ?_
        exact Exists.intro (⟨(u52, l ++ [⟨bdK q, nm3.getD r ByteArray.empty, atv + r18, r38, r40, r43, r46, r49⟩], r + 1), by show r + 1 ≤ 3; omega, by show (l ++ [_]).length ≤ 3 * q + (r + 1); simp; omega, LkG.snoc hok ⟨BdG.k (by omega), NmG.k r, ⟨⟨by show -1 ≤ atv + r18; omega, by show atv + r18 ≤ 345686400000; omega⟩, fun _ _ => by show atv + r18 ≤ 10 * (m : Int); omega⟩, by unfold SmG; exact hr43, by unfold SmG; exact hr46, by unfold SmG; exact hr49⟩⟩) (And.intro (Le.mk hB [0] ⟨rfl, rfl, rfl, rfl, rfl, rfl, rfl, rfl, rfl, trivial⟩ rfl (by dsimp only; first | rfl | (rw [List.length_append]; rfl)) (show k + 20 * q + 1 + 6 * r + 1 + 1 + 1 + 1 + 1 + 1 ≤ k + 20 * q + 1 + 6 * (r + 1) by omega)) (by first | omega | (show _ < _; omega) | (simp only []; omega)))
    · have aH2 := aH2b
      try simp only [qqT, qqF, qqN, qqM, qqL, qqE] at aH2
      refine VC.exit ?_
      refine VC.region ?_
      refine VO.val rfl rfl (OpV.add rfl rfl rfl (by unfold fits; omega)) ?_
      refine VO.mv rfl rfl rfl rfl ?_
      refine VO.nil ?_
      exact Exists.intro (⟨((u, atv + r18), l, q + 1), by show q + 1 ≤ m; omega, by show l.length ≤ 3 * (q + 1); omega, ⟨by show 0 ≤ atv + r18; omega, by show atv + r18 ≤ 10 * ((q + 1 : Nat) : Int); omega⟩, hok⟩) (And.intro (Le.mk hB [0] ⟨rfl, rfl, rfl, rfl, rfl, trivial⟩ rfl rfl (show k + 20 * q + 1 + 6 * r ≤ k + 20 * (q + 1) by omega)) (by first | omega | (show _ < _; omega) | (simp only []; omega)))
  · have aH1 := aH1b
    try simp only [qqT, qqF, qqN, qqM, qqL, qqE] at aH1
    refine VC.exit ?_
    refine VC.seq ?_
    refine VC.sr ?_
    refine VO.mv rfl rfl rfl rfl ?_
    refine VO.val rfl rfl (OpV.len_row (i := 0) rfl Tryz.underlying54 rfl rfl) ?_
    refine VO.val rfl rfl (OpV.gtr rfl rfl rfl) ?_
    refine VO.mv rfl rfl rfl rfl ?_
    refine VO.opG rfl rfl rfl rfl (fun aK4b => ?_) (fun aK4b => ?_)
    · replace aK4b : _ = true := aK4b
      have aK4 := aK4b
      try simp only [qqT, qqF, qqN, qqM, qqL, qqE] at aK4
      refine OpE.val (W := NoB) (OpV.move (.inl rfl) rfl) rfl ?_
      refine VO.opY rfl rfl rfl rfl aK4b ?_
      refine OpE.callT' (k + 20 * q) rfl rfl hB rfl Tryz.call15 rfl ((flip_T (by omega))) (by omega) ?_
      rintro _ ⟨r60, rfl⟩
      refine VO.val rfl rfl (OpV.pickT rfl rfl rfl rfl aK4b) ?_
      refine VO.nil ?_
      refine VC.cond rfl (fun aH5b => ?_) (fun aH5b => ?_)
      · have aH5 := aH5b
        try simp only [qqT, qqF, qqN, qqM, qqL, qqE] at aH5
        refine VC.seq ?_
        refine VC.asBox (i := 0) rfl (by omega) (fun gr cap hu hcap hmx => ?_)
        subst hu
        refine VC.region ?_
        refine VO.mv rfl rfl rfl rfl ?_
        refine VO.mv rfl rfl rfl rfl ?_
        refine VO.mv rfl rfl rfl rfl ?_
        refine VO.val rfl rfl (OpV.len_v rfl Tryz.underlying54 rfl) ?_
        refine VO.op rfl (OpE.callT' (k + 20 * q + 1) rfl rfl hB rfl Tryz.call80 rfl ((next_T (by omega))) (by omega) ?_)
        rintro _ ⟨r66, hr66, rfl⟩
        obtain ⟨i, rfl⟩ : ∃ i : Nat, r66 = i := ⟨r66.toNat, by omega⟩
        refine VO.val rfl rfl (OpV.indexAddr_q rfl Tryz.underlying54 Tryz.sizeOf80 rfl rfl rfl (by omega)) ?_
        refine VO.ma rfl rfl rfl rfl ?_
        refine VO.nil ?_
        refine VC.seq ?_
        have hm0 : 0 < m := by omega
        refine VC.region ?_
        refine VO.mv rfl rfl rfl rfl ?_
        refine VO.op rfl (OpE.callT' (k + 20 * q + 1 + 1) rfl rfl hB rfl Tryz.call80 rfl ((next_T (by omega))) (by omega) ?_)
        rintro _ ⟨r69, hr69, rfl⟩
        refine VO.nil ?_
        refine VC.block ?_
        refine VC.sr ?_
        refine VO.val rfl rfl (OpV.eql rfl rfl rfl) ?_
        refine VO.ma rfl rfl rfl rfl ?_
        refine VO.nil ?_
        refine VC.cond rfl (fun aH6b => ?_) (fun aH6b => ?_)
        · have aH6 := aH6b
          try simp only [qqT, qqF, qqN, qqM, qqL, qqE] at aH6
          refine VC.draw (fun j b => j ∈ [18, 21] ∧ b = gr) hB (by kernel_rfl) ?_
          refine VA.take (i := 0) rfl (by decide +kernel) (by decide +kernel) (by decide +kernel) rfl rfl (OpV.move (.inl rfl) rfl) ?_
          refine VA.take (i := 1) rfl (by decide +kernel) (by decide +kernel) (by decide +kernel) rfl rfl (OpV.move (.inl rfl) rfl) ?_
          refine VA.take (i := 2) rfl (by decide +kernel) (by decide +kernel) (by decide +kernel) rfl rfl (OpV.move (.inl rfl) rfl) ?_
          refine VA.take (i := 3) rfl (by decide +kernel) (by decide +kernel) (by decide +kernel) rfl rfl (OpV.move (.inl rfl) rfl) ?_
          refine VA.take (i := 4) rfl (by decide +kernel) (by decide +kernel) (by decide +kernel) rfl rfl (OpV.nilCheck rfl rfl) ?_
          refine VA.take (i := 5) rfl (by decide +kernel) (by decide +kernel) (by decide +kernel) rfl rfl (OpV.fieldAddrO 0 rfl Tryz.underlying80 rfl rfl Tryz.sizeOf9 rfl) ?_
          refine VA.take (i := 6) rfl (by decide +kernel) (by decide +kernel) (by decide +kernel) rfl rfl (OpV.load_own (i := 0) rfl hB Tryz.isAgg9 rfl rfl (rowL_at rfl (by omega) (by decide)) (Wi.notD (by decide +kernel))) ?_
          refine VA.take (i := 9) rfl (by decide +kernel) (by decide +kernel) (by decide +kernel) rfl rfl (OpV.move (.inl rfl) rfl) ?_
          refine VA.take (i := 10) rfl (by decide +kernel) (by decide +kernel) (by decide +kernel) rfl rfl (OpV.move (.inl rfl) rfl) ?_
          refine VA.take (i := 11) rfl (by decide +kernel) (by decide +kernel) (by decide +kernel) rfl rfl (OpV.nilCheck rfl rfl) ?_
          refine VA.take (i := 12) rfl (by decide +kernel) (by decide +kernel) (by decide +kernel) rfl rfl (OpV.fieldAddrO 1 rfl Tryz.underlying80 rfl rfl Tryz.sizeOf9 rfl) ?_
          refine VA.take (i := 13) rfl (by decide +kernel) (by decide +kernel) (by decide +kernel) rfl rfl (OpV.load_own (i := 0) rfl hB Tryz.isAgg9 rfl rfl (rowL_at rfl (by omega) (by decide)) (Wi.notD (by decide +kernel))) ?_
          refine VA.bind (fun F hF => ?_)
          have hS0 : ∀ (r110 : ByteArray) (hr110 : BdG m r110) (r117 : ByteArray) (hr117 : NmG r117), F 4 (lstB 22 [0, 1, 2, 3, 4, 5, 6, 7, 8, 9, 10, 11, 12, 13, 14, 15, 16, 17]) ⟨[(0, sp p), (104, sp p), (111, sp p), (102, (pL gr (0 + i * 8))), (103, (pL gr (0 + i * 8))), (108, avS (xL l i).board), (115, avS (xL l i).name), (5, .v (.slice (some ⟨gr, 0, none⟩) l.length cap)), (109, (iL 3 [avS (xL l i).board, avS ⟨#[]⟩, avS ⟨#[98, 49]⟩])), (110, avS r110), (116, (iL 3 [avS (xL l i).name, avS ⟨#[99, 49]⟩, avS ⟨#[65]⟩])), (117, avS r117), (119, (pL gr (0 + i * 8 + 0)))], [.box gr ⟨rowL l, 80, cap * 8⟩], k + 20 * q + 1 + 1 + 1 + 1 + 1⟩ := by
            intro r110 hr110 r117 hr117
            rw [hF]
            refine VA.all (rs := [18]) (by decide +kernel) (by decide) ?_
            refine ⟨⟨_, rfl, .inl rfl, ?_⟩, trivial⟩
            refine OpE.store1 (i := 0) rfl hB rfl Tryz.sizeOf9 rfl rfl rfl rfl rfl rfl (rowL_in rfl (by omega) (by decide)) (rowL_set (x := ({l.getD i default with board := r110} : LookS)) rfl (by omega) (by decide) rfl (fun i hi hn => lk_upd (by simp) (by simp) (by simp) (by simp) (by simp) (by simp) (by simp) (by simp) i hi hn)) (by first | exact ⟨rfl, rfl⟩ | exact .inl ⟨rfl, rfl⟩ | exact .inr ⟨rfl, rfl⟩ | exact ⟨rfl, trivial⟩ | exact .inl ⟨rfl, trivial⟩ | exact .inr ⟨rfl, trivial⟩ | exact ⟨by decide, rfl⟩) ?_
            refine VA.take (i := 19) rfl (by decide +kernel) (by decide +kernel) (by decide +kernel) rfl rfl (OpV.nilCheck rfl rfl) ?_
            refine VA.take (i := 20) rfl (by decide +kernel) (by decide +kernel) (by decide +kernel) rfl rfl (OpV.fieldAddrO 1 rfl Tryz.underlying80 rfl rfl Tryz.sizeOf9 rfl) ?_
            refine VA.all (rs := [21]) (by decide +kernel) (by decide) ?_
            refine ⟨⟨_, rfl, .inl rfl, ?_⟩, trivial⟩
            refine OpE.store1 (i := 0) rfl hB rfl Tryz.sizeOf9 rfl rfl rfl rfl rfl rfl (rowL_in rfl (by rw [List.length_set]; omega) (by decide)) (rowL_set (x := ({l.getD i default with board := r110, name := r117} : LookS)) rfl (by rw [List.length_set]; omega) (by decide) rfl (fun i hi hn => by rw [getSet_lk (by omega)]; exact lk_upd (by simp) (by simp) (by simp) (by simp) (by simp) (by simp) (by simp) (by simp) i hi hn)) (by first | exact ⟨rfl, rfl⟩ | exact .inl ⟨rfl, rfl⟩ | exact .inr ⟨rfl, rfl⟩ | exact ⟨rfl, trivial⟩ | exact .inl ⟨rfl, trivial⟩ | exact .inr ⟨rfl, trivial⟩ | exact ⟨by decide, rfl⟩) ?_
            refine VA.done (by decide +kernel) ?_
            refine VC.sr ?_
            refine VO.mv rfl rfl rfl rfl ?_
            refine VO.ma rfl rfl rfl rfl ?_
            refine VO.nil ?_
            refine VC.le _ (Le.boxRow (i := 0) (n := l.length) (sz := 8) rfl (by simp only [rowL_len, List.length_set]; rfl) hcap hmx) ?_
            refine VC.ret ?_
            exact Exists.intro _ (And.intro (RetV.one Tryz.results31 (ResV.tmp rfl)) (And.intro (by first | exact ⟨l, _, ⟨by omega, hok⟩, rfl, rfl⟩ | exact ⟨_, _, ⟨by simp only [List.length_set]; omega, lk_s1 hok i hr110 hr117⟩, rfl, by simp only [List.length_set]; rfl⟩ | exact ⟨_, _, ⟨by simp only [List.length_set]; omega, lk_s2 hok i hr132⟩, rfl, by simp only [List.length_set]; rfl⟩ | exact ⟨_, _, ⟨by simp only [List.length_set]; omega, lk_s3 hok i hr79 hr86 hr93⟩, rfl, by simp only [List.length_set]; rfl⟩) ((show k + 20 * q + 1 + 1 + 1 + 1 + 1 ≤ k + 200 by omega))))
          have hS1 : ∀ (r110 : ByteArray) (hr110 : BdG m r110), F 7 (lstB 22 [0, 1, 2, 3, 4, 5, 6, 7, 8, 9, 10, 11, 12, 13, 14]) ⟨[(0, sp p), (104, sp p), (111, sp p), (102, (pL gr (0 + i * 8))), (103, (pL gr (0 + i * 8))), (108, avS (xL l i).board), (115, avS (xL l i).name), (5, .v (.slice (some ⟨gr, 0, none⟩) l.length cap)), (109, (iL 3 [avS (xL l i).board, avS ⟨#[]⟩, avS ⟨#[98, 49]⟩])), (110, avS r110), (116, (iL 3 [avS (xL l i).name, avS ⟨#[99, 49]⟩, avS ⟨#[65]⟩]))], [.box gr ⟨rowL l, 80, cap * 8⟩], k + 20 * q + 1 + 1 + 1 + 1⟩ := by
            intro r110 hr110
            rw [hF]
            refine VA.all (rs := [15]) (by decide +kernel) (by decide) ?_
            refine ⟨⟨_, rfl, .inl rfl, ?_⟩, trivial⟩
            refine OpE.callT' (k + 20 * q + 1 + 1 + 1 + 1) rfl rfl hB rfl Tryz.call82 rfl (some_G NmG (by rfl) (by decide) (by decide) (AllG.cons (LkG.getD hok i).name (AllG.cons NmG.c1 (AllG.cons NmG.none AllG.nil)))) (by omega) ?_
            rintro _ ⟨r117, hr117, rfl⟩
            refine VA.take (i := 16) rfl (by decide +kernel) (by decide +kernel) (by decide +kernel) rfl rfl (OpV.nilCheck rfl rfl) ?_
            refine VA.take (i := 17) rfl (by decide +kernel) (by decide +kernel) (by decide +kernel) rfl rfl (OpV.fieldAddrO 0 rfl Tryz.underlying80 rfl rfl Tryz.sizeOf9 rfl) ?_
            have hh := hS0 r110 hr110 r117 hr117
            rw [hF] at hh
            exact VA.to hh (by decide +kernel) (Le.mk hB [0] ⟨rfl, rfl, rfl, rfl, rfl, rfl, rfl, rfl, rfl, rfl, rfl, rfl, rfl, trivial⟩ rfl rfl (Nat.le_refl _))
          have hS2 : ∀ (r110 : ByteArray) (hr110 : BdG m r110), F 8 (lstB 22 [0, 1, 2, 3, 4, 5, 6, 7, 8, 9, 10, 11, 12, 13]) ⟨[(0, sp p), (104, sp p), (111, sp p), (102, (pL gr (0 + i * 8))), (103, (pL gr (0 + i * 8))), (108, avS (xL l i).board), (115, avS (xL l i).name), (5, .v (.slice (some ⟨gr, 0, none⟩) l.length cap)), (109, (iL 3 [avS (xL l i).board, avS ⟨#[]⟩, avS ⟨#[98, 49]⟩])), (110, avS r110)], [.box gr ⟨rowL l, 80, cap * 8⟩], k + 20 * q + 1 + 1 + 1 + 1⟩ := by
            intro r110 hr110
            rw [hF]
            refine VA.all (rs := [14]) (by decide +kernel) (by decide) ?_
            refine ⟨⟨_, rfl, .inl rfl, ?_⟩, trivial⟩
            refine OpE.buildSlice (zc := #[.string ⟨#[]⟩, .string ⟨#[]⟩, .string ⟨#[]⟩]) rfl hB rfl Tryz.underlying29 Tryz.sizeOf9 Tryz.zeroValue9 (by decide) (by decide) (by kernel_rfl) rfl rfl ?_
            have hh := hS1 r110 hr110
            rw [hF] at hh
            exact VA.to hh (by decide +kernel) (Le.mk hB [0] ⟨rfl, rfl, rfl, rfl, rfl, rfl, rfl, rfl, rfl, rfl, rfl, trivial⟩ rfl rfl (Nat.le_refl _))
          have hS3 : F 8 (lstB 22 [0, 1, 2, 3, 4, 5, 6, 7, 9, 10, 11, 12, 13, 14]) ⟨[(0, sp p), (104, sp p), (111, sp p), (102, (pL gr (0 + i * 8))), (103, (pL gr (0 + i * 8))), (108, avS (xL l i).board), (115, avS (xL l i).name), (5, .v (.slice (some ⟨gr, 0, none⟩) l.length cap)), (109, (iL 3 [avS (xL l i).board, avS ⟨#[]⟩, avS ⟨#[98, 49]⟩])), (116, (iL 3 [avS (xL l i).name, avS ⟨#[99, 49]⟩, avS ⟨#[65]⟩]))], [.box gr ⟨rowL l, 80, cap * 8⟩], k + 20 * q + 1 + 1 + 1⟩ := by
            rw [hF]
            refine VA.all (rs := [8]) (by decide +kernel) (by decide) ?_
            refine ⟨⟨_, rfl, .inl rfl, ?_⟩, trivial⟩
            refine OpE.callT' (k + 20 * q + 1 + 1 + 1) rfl rfl hB rfl Tryz.call82 rfl (some_G (BdG m) (by rfl) (by decide) (by decide) (AllG.cons (LkG.getD hok i).board (AllG.cons (BdG.none m) (AllG.cons (BdG.b1 hm0) AllG.nil)))) (by omega) ?_
            rintro _ ⟨r110, hr110, rfl⟩
            have hh := hS1 r110 hr110
            rw [hF] at hh
            exact VA.to hh (by decide +kernel) (Le.mk hB [0] ⟨rfl, rfl, rfl, rfl, rfl, rfl, rfl, rfl, rfl, rfl, rfl, trivial⟩ rfl rfl (Nat.le_refl _))
          have hS4 : F 9 (lstB 22 [0, 1, 2, 3, 4, 5, 6, 7, 9, 10, 11, 12, 13]) ⟨[(0, sp p), (104, sp p), (111, sp p), (102, (pL gr (0 + i * 8))), (103, (pL gr (0 + i * 8))), (108, avS (xL l i).board), (115, avS (xL l i).name), (5, .v (.slice (some ⟨gr, 0, none⟩) l.length cap)), (109, (iL 3 [avS (xL l i).board, avS ⟨#[]⟩, avS ⟨#[98, 49]⟩]))], [.box gr ⟨rowL l, 80, cap * 8⟩], k + 20 * q + 1 + 1 + 1⟩ := by
            rw [hF]
            refine VA.all (rs := [8, 14]) (by decide +kernel) (by decide) ?_
            refine ⟨⟨_, rfl, .inl rfl, ?_⟩, ⟨_, rfl, .inl rfl, ?_⟩, trivial⟩
            ·
              refine OpE.callT' (k + 20 * q + 1 + 1 + 1) rfl rfl hB rfl Tryz.call82 rfl (some_G (BdG m) (by rfl) (by decide) (by decide) (AllG.cons (LkG.getD hok i).board (AllG.cons (BdG.none m) (AllG.cons (BdG.b1 hm0) AllG.nil)))) (by omega) ?_
              rintro _ ⟨r110, hr110, rfl⟩
              have hh := hS2 r110 hr110
              rw [hF] at hh
              exact VA.to hh (by decide +kernel) (Le.mk hB [0] ⟨rfl, rfl, rfl, rfl, rfl, rfl, rfl, rfl, rfl, rfl, trivial⟩ rfl rfl (Nat.le_refl _))
            ·
              refine OpE.buildSlice (zc := #[.string ⟨#[]⟩, .string ⟨#[]⟩, .string ⟨#[]⟩]) rfl hB rfl Tryz.underlying29 Tryz.sizeOf9 Tryz.zeroValue9 (by decide) (by decide) (by kernel_rfl) rfl rfl ?_
              have hh := hS3 
              rw [hF] at hh
              exact VA.to hh (by decide +kernel) (Le.mk hB [0] ⟨rfl, rfl, rfl, rfl, rfl, rfl, rfl, rfl, rfl, rfl, trivial⟩ rfl rfl (Nat.le_refl _))
          have hS5 : F 9 (lstB 22 [0, 1, 2, 3, 4, 5, 6, 9, 10, 11, 12, 13, 14]) ⟨[(0, sp p), (104, sp p), (111, sp p), (102, (pL gr (0 + i * 8))), (103, (pL gr (0 + i * 8))), (108, avS (xL l i).board), (115, avS (xL l i).name), (5, .v (.slice (some ⟨gr, 0, none⟩) l.length cap)), (116, (iL 3 [avS (xL l i).name, avS ⟨#[99, 49]⟩, avS ⟨#[65]⟩]))], [.box gr ⟨rowL l, 80, cap * 8⟩], k + 20 * q + 1 + 1 + 1⟩ := by
            rw [hF]
            refine VA.all (rs := [7]) (by decide +kernel) (by decide) ?_
            refine ⟨⟨_, rfl, .inl rfl, ?_⟩, trivial⟩
            refine OpE.buildSlice (zc := #[.string ⟨#[]⟩, .string ⟨#[]⟩, .string ⟨#[]⟩]) rfl hB rfl Tryz.underlying29 Tryz.sizeOf9 Tryz.zeroValue9 (by decide) (by decide) (by kernel_rfl) rfl rfl ?_
            have hh := hS3 
            rw [hF] at hh
            exact VA.to hh (by decide +kernel) (Le.mk hB [0] ⟨rfl, rfl, rfl, rfl, rfl, rfl, rfl, rfl, rfl, rfl, trivial⟩ rfl rfl (Nat.le_refl _))
          have hS6 : F 10 (lstB 22 [0, 1, 2, 3, 4, 5, 6, 9, 10, 11, 12, 13]) ⟨[(0, sp p), (104, sp p), (111, sp p), (102, (pL gr (0 + i * 8))), (103, (pL gr (0 + i * 8))), (108, avS (xL l i).board), (115, avS (xL l i).name), (5, .v (.slice (some ⟨gr, 0, none⟩) l.length cap))], [.box gr ⟨rowL l, 80, cap * 8⟩], k + 20 * q + 1 + 1 + 1⟩ := by
            rw [hF]
            refine VA.all (rs := [7, 14]) (by decide +kernel) (by decide) ?_
            refine ⟨⟨_, rfl, .inl rfl, ?_⟩, ⟨_, rfl, .inl rfl, ?_⟩, trivial⟩
            ·
              refine OpE.buildSlice (zc := #[.string ⟨#[]⟩, .string ⟨#[]⟩, .string ⟨#[]⟩]) rfl hB rfl Tryz.underlying29 Tryz.sizeOf9 Tryz.zeroValue9 (by decide) (by decide) (by kernel_rfl) rfl rfl ?_
              have hh := hS4 
              rw [hF] at hh
              exact VA.to hh (by decide +kernel) (Le.mk hB [0] ⟨rfl, rfl, rfl, rfl, rfl, rfl, rfl, rfl, rfl, trivial⟩ rfl rfl (Nat.le_refl _))
            ·
              refine OpE.buildSlice (zc := #[.string ⟨#[]⟩, .string ⟨#[]⟩, .string ⟨#[]⟩]) rfl hB rfl Tryz.underlying29 Tryz.sizeOf9 Tryz.zeroValue9 (by decide) (by decide) (by kernel_rfl) rfl rfl ?_
              have hh := hS5 
              rw [hF] at hh
              exact VA.to hh (by decide +kernel) (Le.mk hB [0] ⟨rfl, rfl, rfl, rfl, rfl, rfl, rfl, rfl, rfl, trivial⟩ rfl rfl (Nat.le_refl _))
          rw [hF]
          have hh := hS6 
          rw [hF] at hh
          exact VA.to hh (by decide +kernel) (Le.mk hB [0] ⟨rfl, rfl, rfl, rfl, rfl, rfl, rfl, rfl, trivial⟩ rfl rfl (Nat.le_refl _))
        · have aH6 := aH6b
          try simp only [qqT, qqF, qqN, qqM, qqL, qqE] at aH6
          refine VC.sr ?_
          refine VO.val rfl rfl (OpV.eql rfl rfl rfl) ?_
          refine VO.ma rfl rfl rfl rfl ?_
          refine VO.nil ?_
          refine VC.cond rfl (fun aH7b => ?_) (fun aH7b => ?_)
          · have aH7 := aH7b
            try simp only [qqT, qqF, qqN, qqM, qqL, qqE] at aH7
            refine VC.region ?_
            refine VO.mv rfl rfl rfl rfl ?_
            refine VO.mv rfl rfl rfl rfl ?_
            refine VO.mv rfl rfl rfl rfl ?_
            refine VO.mv rfl rfl rfl rfl ?_
            refine VO.val rfl rfl (OpV.nilCheck rfl rfl) ?_
            refine VO.val rfl rfl (OpV.fieldAddrO 2 rfl Tryz.underlying80 rfl rfl Tryz.sizeOf3 rfl) ?_
            refine VO.val rfl rfl (OpV.load_own (i := 0) rfl hB Tryz.isAgg3 rfl rfl (rowL_at rfl (by omega) (by decide)) (fun h => h)) ?_
            refine VO.op rfl (OpE.buildSlice (zc := #[.int .i64 0, .int .i64 0, .int .i64 0]) rfl hB rfl Tryz.underlying22 Tryz.sizeOf3 Tryz.zeroValue3 (by decide) (by decide) (by kernel_rfl) rfl rfl ?_)
            refine VO.op rfl (OpE.callT' (k + 20 * q + 1 + 1 + 1) rfl rfl hB rfl Tryz.call14 rfl (pick_J (AtG m) (by rfl) (by decide) (by decide) (AllJ.cons (LkG.getD hok i).at_ (AllJ.cons AtG.neg (AllJ.cons AtG.end_ AllJ.nil)))) (by omega) ?_)
            rintro _ ⟨r132, hr132, rfl⟩
            refine VO.mv rfl rfl rfl rfl ?_
            refine VO.op rfl (OpE.callT' (k + 20 * q + 1 + 1 + 1 + 1) rfl rfl hB rfl Tryz.call111 rfl (odd_L) (by omega) ?_)
            rintro _ ⟨r134, rfl⟩
            refine VO.val rfl rfl (OpV.nilCheck rfl rfl) ?_
            refine VO.val rfl rfl (OpV.fieldAddrO 2 rfl Tryz.underlying80 rfl rfl Tryz.sizeOf3 rfl) ?_
            refine VO.op rfl (OpE.store1 (i := 0) rfl hB rfl Tryz.sizeOf3 rfl rfl rfl rfl rfl rfl (rowL_in rfl (by omega) (by decide)) (rowL_set (x := ({l.getD i default with at_ := r132} : LookS)) rfl (by omega) (by decide) rfl (fun i hi hn => lk_upd (by simp) (by simp) (by simp) (by simp) (by simp) (by simp) (by simp) (by simp) i hi hn)) trivial ?_)
            refine VO.val rfl rfl (OpV.nilCheck rfl rfl) ?_
            refine VO.val rfl rfl (OpV.fieldAddrO 3 rfl Tryz.underlying80 rfl rfl Tryz.sizeOf3 rfl) ?_
            refine VO.op rfl (OpE.store1 (i := 0) rfl hB rfl Tryz.sizeOf3 rfl rfl rfl rfl rfl rfl (rowL_in rfl (by rw [List.length_set]; omega) (by decide)) (rowL_set (x := ({l.getD i default with at_ := r132, verdict := r134} : LookS)) rfl (by rw [List.length_set]; omega) (by decide) rfl (fun i hi hn => by rw [getSet_lk (by omega)]; exact lk_upd (by simp) (by simp) (by simp) (by simp) (by simp) (by simp) (by simp) (by simp) i hi hn)) trivial ?_)
            refine VO.nil ?_
            refine VC.sr ?_
            refine VO.mv rfl rfl rfl rfl ?_
            refine VO.ma rfl rfl rfl rfl ?_
            refine VO.nil ?_
            refine VC.le _ (Le.boxRow (i := 0) (n := l.length) (sz := 8) rfl (by simp only [rowL_len, List.length_set]; rfl) hcap hmx) ?_
            refine VC.ret ?_
            exact Exists.intro _ (And.intro (RetV.one Tryz.results31 (ResV.tmp rfl)) (And.intro (by first | exact ⟨l, _, ⟨by omega, hok⟩, rfl, rfl⟩ | exact ⟨_, _, ⟨by simp only [List.length_set]; omega, lk_s1 hok i hr110 hr117⟩, rfl, by simp only [List.length_set]; rfl⟩ | exact ⟨_, _, ⟨by simp only [List.length_set]; omega, lk_s2 hok i hr132⟩, rfl, by simp only [List.length_set]; rfl⟩ | exact ⟨_, _, ⟨by simp only [List.length_set]; omega, lk_s3 hok i hr79 hr86 hr93⟩, rfl, by simp only [List.length_set]; rfl⟩) ((show k + 20 * q + 1 + 1 + 1 + 1 + 2 ≤ k + 200 by omega))))
          · have aH7 := aH7b
            try simp only [qqT, qqF, qqN, qqM, qqL, qqE] at aH7
            refine VC.draw (fun j b => j ∈ [26, 29, 32] ∧ b = gr) hB (by kernel_rfl) ?_
            refine VA.take (i := 0) rfl (by decide +kernel) (by decide +kernel) (by decide +kernel) rfl rfl (OpV.move (.inl rfl) rfl) ?_
            refine VA.take (i := 1) rfl (by decide +kernel) (by decide +kernel) (by decide +kernel) rfl rfl (OpV.move (.inl rfl) rfl) ?_
            refine VA.take (i := 2) rfl (by decide +kernel) (by decide +kernel) (by decide +kernel) rfl rfl (OpV.move (.inl rfl) rfl) ?_
            refine VA.take (i := 3) rfl (by decide +kernel) (by decide +kernel) (by decide +kernel) rfl rfl (OpV.move (.inl rfl) rfl) ?_
            refine VA.take (i := 4) rfl (by decide +kernel) (by decide +kernel) (by decide +kernel) rfl rfl (OpV.move (.inl rfl) rfl) ?_
            refine VA.take (i := 5) rfl (by decide +kernel) (by decide +kernel) (by decide +kernel) rfl rfl (OpV.nilCheck rfl rfl) ?_
            refine VA.take (i := 6) rfl (by decide +kernel) (by decide +kernel) (by decide +kernel) rfl rfl (OpV.fieldAddrO 5 rfl Tryz.underlying80 rfl rfl Tryz.sizeOf9 rfl) ?_
            refine VA.take (i := 7) rfl (by decide +kernel) (by decide +kernel) (by decide +kernel) rfl rfl (OpV.load_own (i := 0) rfl hB Tryz.isAgg9 rfl rfl (rowL_at rfl (by omega) (by decide)) (Wi.notD (by decide +kernel))) ?_
            refine VA.take (i := 10) rfl (by decide +kernel) (by decide +kernel) (by decide +kernel) rfl rfl (OpV.move (.inl rfl) rfl) ?_
            refine VA.take (i := 11) rfl (by decide +kernel) (by decide +kernel) (by decide +kernel) rfl rfl (OpV.move (.inl rfl) rfl) ?_
            refine VA.take (i := 12) rfl (by decide +kernel) (by decide +kernel) (by decide +kernel) rfl rfl (OpV.nilCheck rfl rfl) ?_
            refine VA.take (i := 13) rfl (by decide +kernel) (by decide +kernel) (by decide +kernel) rfl rfl (OpV.fieldAddrO 6 rfl Tryz.underlying80 rfl rfl Tryz.sizeOf9 rfl) ?_
            refine VA.take (i := 14) rfl (by decide +kernel) (by decide +kernel) (by decide +kernel) rfl rfl (OpV.load_own (i := 0) rfl hB Tryz.isAgg9 rfl rfl (rowL_at rfl (by omega) (by decide)) (Wi.notD (by decide +kernel))) ?_
            refine VA.take (i := 17) rfl (by decide +kernel) (by decide +kernel) (by decide +kernel) rfl rfl (OpV.move (.inl rfl) rfl) ?_
            refine VA.take (i := 18) rfl (by decide +kernel) (by decide +kernel) (by decide +kernel) rfl rfl (OpV.move (.inl rfl) rfl) ?_
            refine VA.take (i := 19) rfl (by decide +kernel) (by decide +kernel) (by decide +kernel) rfl rfl (OpV.nilCheck rfl rfl) ?_
            refine VA.take (i := 20) rfl (by decide +kernel) (by decide +kernel) (by decide +kernel) rfl rfl (OpV.fieldAddrO 7 rfl Tryz.underlying80 rfl rfl Tryz.sizeOf9 rfl) ?_
            refine VA.take (i := 21) rfl (by decide +kernel) (by decide +kernel) (by decide +kernel) rfl rfl (OpV.load_own (i := 0) rfl hB Tryz.isAgg9 rfl rfl (rowL_at rfl (by omega) (by decide)) (Wi.notD (by decide +kernel))) ?_
            refine VA.bind (fun F hF => ?_)
            have hS0 : ∀ (r79 : ByteArray) (hr79 : r79.size ≤ 1000) (r86 : ByteArray) (hr86 : r86.size ≤ 1000) (r93 : ByteArray) (hr93 : r93.size ≤ 1000), F 7 (lstB 33 [0, 1, 2, 3, 4, 5, 6, 7, 8, 9, 10, 11, 12, 13, 14, 15, 16, 17, 18, 19, 20, 21, 22, 23, 24, 25]) ⟨[(0, sp p), (73, sp p), (80, sp p), (87, sp p), (70, (pL gr (0 + i * 8))), (71, (pL gr (0 + i * 8))), (72, (pL gr (0 + i * 8))), (77, avS (xL l i).machine), (84, avS (xL l i).nozzle), (91, avS (xL l i).reel), (5, .v (.slice (some ⟨gr, 0, none⟩) l.length cap)), (78, (iL 2 [avS (xL l i).machine, avS ⟨#[]⟩])), (79, avS r79), (85, (iL 2 [avS (xL l i).nozzle, avS ⟨#[65]⟩])), (86, avS r86), (92, (iL 2 [avS (xL l i).reel, avS ⟨#[]⟩])), (93, avS r93), (95, (pL gr (0 + i * 8 + 5)))], [.box gr ⟨rowL l, 80, cap * 8⟩], k + 20 * q + 1 + 1 + 1 + 1 + 1 + 1⟩ := by
              intro r79 hr79 r86 hr86 r93 hr93
              rw [hF]
              refine VA.all (rs := [26]) (by decide +kernel) (by decide) ?_
              refine ⟨⟨_, rfl, .inl rfl, ?_⟩, trivial⟩
              refine OpE.store1 (i := 0) rfl hB rfl Tryz.sizeOf9 rfl rfl rfl rfl rfl rfl (rowL_in rfl (by omega) (by decide)) (rowL_set (x := ({l.getD i default with machine := r79} : LookS)) rfl (by omega) (by decide) rfl (fun i hi hn => lk_upd (by simp) (by simp) (by simp) (by simp) (by simp) (by simp) (by simp) (by simp) i hi hn)) (by first | exact ⟨rfl, rfl⟩ | exact .inl ⟨rfl, rfl⟩ | exact .inr ⟨rfl, rfl⟩ | exact ⟨rfl, trivial⟩ | exact .inl ⟨rfl, trivial⟩ | exact .inr ⟨rfl, trivial⟩ | exact ⟨by decide, rfl⟩) ?_
              refine VA.take (i := 27) rfl (by decide +kernel) (by decide +kernel) (by decide +kernel) rfl rfl (OpV.nilCheck rfl rfl) ?_
              refine VA.take (i := 28) rfl (by decide +kernel) (by decide +kernel) (by decide +kernel) rfl rfl (OpV.fieldAddrO 6 rfl Tryz.underlying80 rfl rfl Tryz.sizeOf9 rfl) ?_
              refine VA.all (rs := [29]) (by decide +kernel) (by decide) ?_
              refine ⟨⟨_, rfl, .inl rfl, ?_⟩, trivial⟩
              refine OpE.store1 (i := 0) rfl hB rfl Tryz.sizeOf9 rfl rfl rfl rfl rfl rfl (rowL_in rfl (by rw [List.length_set]; omega) (by decide)) (rowL_set (x := ({l.getD i default with machine := r79, nozzle := r86} : LookS)) rfl (by rw [List.length_set]; omega) (by decide) rfl (fun i hi hn => by rw [getSet_lk (by omega)]; exact lk_upd (by simp) (by simp) (by simp) (by simp) (by simp) (by simp) (by simp) (by simp) i hi hn)) (by first | exact ⟨rfl, rfl⟩ | exact .inl ⟨rfl, rfl⟩ | exact .inr ⟨rfl, rfl⟩ | exact ⟨rfl, trivial⟩ | exact .inl ⟨rfl, trivial⟩ | exact .inr ⟨rfl, trivial⟩ | exact ⟨by decide, rfl⟩) ?_
              refine VA.take (i := 30) rfl (by decide +kernel) (by decide +kernel) (by decide +kernel) rfl rfl (OpV.nilCheck rfl rfl) ?_
              refine VA.take (i := 31) rfl (by decide +kernel) (by decide +kernel) (by decide +kernel) rfl rfl (OpV.fieldAddrO 7 rfl Tryz.underlying80 rfl rfl Tryz.sizeOf9 rfl) ?_
              refine VA.all (rs := [32]) (by decide +kernel) (by decide) ?_
              refine ⟨⟨_, rfl, .inl rfl, ?_⟩, trivial⟩
              refine OpE.store1 (i := 0) rfl hB rfl Tryz.sizeOf9 rfl rfl rfl rfl rfl rfl (rowL_in rfl (by simp only [List.length_set]; omega) (by decide)) (rowL_set (x := ({l.getD i default with machine := r79, nozzle := r86, reel := r93} : LookS)) rfl (by simp only [List.length_set]; omega) (by decide) rfl (fun i hi hn => by rw [getSet_lk (by simp only [List.length_set]; omega)]; exact lk_upd (by simp) (by simp) (by simp) (by simp) (by simp) (by simp) (by simp) (by simp) i hi hn)) (by first | exact ⟨rfl, rfl⟩ | exact .inl ⟨rfl, rfl⟩ | exact .inr ⟨rfl, rfl⟩ | exact ⟨rfl, trivial⟩ | exact .inl ⟨rfl, trivial⟩ | exact .inr ⟨rfl, trivial⟩ | exact ⟨by decide, rfl⟩) ?_
              refine VA.done (by decide +kernel) ?_
              refine VC.sr ?_
              refine VO.mv rfl rfl rfl rfl ?_
              refine VO.ma rfl rfl rfl rfl ?_
              refine VO.nil ?_
              refine VC.le _ (Le.boxRow (i := 0) (n := l.length) (sz := 8) rfl (by simp only [rowL_len, List.length_set]; rfl) hcap hmx) ?_
              refine VC.ret ?_
              exact Exists.intro _ (And.intro (RetV.one Tryz.results31 (ResV.tmp rfl)) (And.intro (by first | exact ⟨l, _, ⟨by omega, hok⟩, rfl, rfl⟩ | exact ⟨_, _, ⟨by simp only [List.length_set]; omega, lk_s1 hok i hr110 hr117⟩, rfl, by simp only [List.length_set]; rfl⟩ | exact ⟨_, _, ⟨by simp only [List.length_set]; omega, lk_s2 hok i hr132⟩, rfl, by simp only [List.length_set]; rfl⟩ | exact ⟨_, _, ⟨by simp only [List.length_set]; omega, lk_s3 hok i hr79 hr86 hr93⟩, rfl, by simp only [List.length_set]; rfl⟩) ((show k + 20 * q + 1 + 1 + 1 + 1 + 1 + 1 ≤ k + 200 by omega))))
            have hS1 : ∀ (r79 : ByteArray) (hr79 : r79.size ≤ 1000) (r86 : ByteArray) (hr86 : r86.size ≤ 1000), F 10 (lstB 33 [0, 1, 2, 3, 4, 5, 6, 7, 8, 9, 10, 11, 12, 13, 14, 15, 16, 17, 18, 19, 20, 21, 22]) ⟨[(0, sp p), (73, sp p), (80, sp p), (87, sp p), (70, (pL gr (0 + i * 8))), (71, (pL gr (0 + i * 8))), (72, (pL gr (0 + i * 8))), (77, avS (xL l i).machine), (84, avS (xL l i).nozzle), (91, avS (xL l i).reel), (5, .v (.slice (some ⟨gr, 0, none⟩) l.length cap)), (78, (iL 2 [avS (xL l i).machine, avS ⟨#[]⟩])), (79, avS r79), (85, (iL 2 [avS (xL l i).nozzle, avS ⟨#[65]⟩])), (86, avS r86), (92, (iL 2 [avS (xL l i).reel, avS ⟨#[]⟩]))], [.box gr ⟨rowL l, 80, cap * 8⟩], k + 20 * q + 1 + 1 + 1 + 1 + 1⟩ := by
              intro r79 hr79 r86 hr86
              rw [hF]
              refine VA.all (rs := [23]) (by decide +kernel) (by decide) ?_
              refine ⟨⟨_, rfl, .inl rfl, ?_⟩, trivial⟩
              refine OpE.callT' (k + 20 * q + 1 + 1 + 1 + 1 + 1) rfl rfl hB rfl Tryz.call82 rfl (some_T 1000 (by rfl) (by decide) (by decide) (AllS.cons (LkG.getD hok i).reel (AllS.cons (by decide) AllS.nil))) (by omega) ?_
              rintro _ ⟨r93, hr93, rfl⟩
              refine VA.take (i := 24) rfl (by decide +kernel) (by decide +kernel) (by decide +kernel) rfl rfl (OpV.nilCheck rfl rfl) ?_
              refine VA.take (i := 25) rfl (by decide +kernel) (by decide +kernel) (by decide +kernel) rfl rfl (OpV.fieldAddrO 5 rfl Tryz.underlying80 rfl rfl Tryz.sizeOf9 rfl) ?_
              have hh := hS0 r79 hr79 r86 hr86 r93 hr93
              rw [hF] at hh
              exact VA.to hh (by decide +kernel) (Le.mk hB [0] ⟨rfl, rfl, rfl, rfl, rfl, rfl, rfl, rfl, rfl, rfl, rfl, rfl, rfl, rfl, rfl, rfl, rfl, rfl, trivial⟩ rfl rfl (Nat.le_refl _))
            have hS2 : ∀ (r79 : ByteArray) (hr79 : r79.size ≤ 1000) (r86 : ByteArray) (hr86 : r86.size ≤ 1000), F 11 (lstB 33 [0, 1, 2, 3, 4, 5, 6, 7, 8, 9, 10, 11, 12, 13, 14, 15, 16, 17, 18, 19, 20, 21]) ⟨[(0, sp p), (73, sp p), (80, sp p), (87, sp p), (70, (pL gr (0 + i * 8))), (71, (pL gr (0 + i * 8))), (72, (pL gr (0 + i * 8))), (77, avS (xL l i).machine), (84, avS (xL l i).nozzle), (91, avS (xL l i).reel), (5, .v (.slice (some ⟨gr, 0, none⟩) l.length cap)), (78, (iL 2 [avS (xL l i).machine, avS ⟨#[]⟩])), (79, avS r79), (85, (iL 2 [avS (xL l i).nozzle, avS ⟨#[65]⟩])), (86, avS r86)], [.box gr ⟨rowL l, 80, cap * 8⟩], k + 20 * q + 1 + 1 + 1 + 1 + 1⟩ := by
              intro r79 hr79 r86 hr86
              rw [hF]
              refine VA.all (rs := [22]) (by decide +kernel) (by decide) ?_
              refine ⟨⟨_, rfl, .inl rfl, ?_⟩, trivial⟩
              refine OpE.buildSlice (zc := #[.string ⟨#[]⟩, .string ⟨#[]⟩]) rfl hB rfl Tryz.underlying29 Tryz.sizeOf9 Tryz.zeroValue9 (by decide) (by decide) (by kernel_rfl) rfl rfl ?_
              have hh := hS1 r79 hr79 r86 hr86
              rw [hF] at hh
              exact VA.to hh (by decide +kernel) (Le.mk hB [0] ⟨rfl, rfl, rfl, rfl, rfl, rfl, rfl, rfl, rfl, rfl, rfl, rfl, rfl, rfl, rfl, rfl, trivial⟩ rfl rfl (Nat.le_refl _))
            have hS3 : ∀ (r79 : ByteArray) (hr79 : r79.size ≤ 1000), F 11 (lstB 33 [0, 1, 2, 3, 4, 5, 6, 7, 8, 9, 10, 11, 12, 13, 14, 15, 17, 18, 19, 20, 21, 22]) ⟨[(0, sp p), (73, sp p), (80, sp p), (87, sp p), (70, (pL gr (0 + i * 8))), (71, (pL gr (0 + i * 8))), (72, (pL gr (0 + i * 8))), (77, avS (xL l i).machine), (84, avS (xL l i).nozzle), (91, avS (xL l i).reel), (5, .v (.slice (some ⟨gr, 0, none⟩) l.length cap)), (78, (iL 2 [avS (xL l i).machine, avS ⟨#[]⟩])), (79, avS r79), (85, (iL 2 [avS (xL l i).nozzle, avS ⟨#[65]⟩])), (92, (iL 2 [avS (xL l i).reel, avS ⟨#[]⟩]))], [.box gr ⟨rowL l, 80, cap * 8⟩], k + 20 * q + 1 + 1 + 1 + 1⟩ := by
              intro r79 hr79
              rw [hF]
              refine VA.all (rs := [16]) (by decide +kernel) (by decide) ?_
              refine ⟨⟨_, rfl, .inl rfl, ?_⟩, trivial⟩
              refine OpE.callT' (k + 20 * q + 1 + 1 + 1 + 1) rfl rfl hB rfl Tryz.call82 rfl (some_T 1000 (by rfl) (by decide) (by decide) (AllS.cons (LkG.getD hok i).nozzle (AllS.cons (by decide) AllS.nil))) (by omega) ?_
              rintro _ ⟨r86, hr86, rfl⟩
              have hh := hS1 r79 hr79 r86 hr86
              rw [hF] at hh
              exact VA.to hh (by decide +kernel) (Le.mk hB [0] ⟨rfl, rfl, rfl, rfl, rfl, rfl, rfl, rfl, rfl, rfl, rfl, rfl, rfl, rfl, rfl, rfl, trivial⟩ rfl rfl (Nat.le_refl _))
            have hS4 : ∀ (r79 : ByteArray) (hr79 : r79.size ≤ 1000), F 12 (lstB 33 [0, 1, 2, 3, 4, 5, 6, 7, 8, 9, 10, 11, 12, 13, 14, 15, 17, 18, 19, 20, 21]) ⟨[(0, sp p), (73, sp p), (80, sp p), (87, sp p), (70, (pL gr (0 + i * 8))), (71, (pL gr (0 + i * 8))), (72, (pL gr (0 + i * 8))), (77, avS (xL l i).machine), (84, avS (xL l i).nozzle), (91, avS (xL l i).reel), (5, .v (.slice (some ⟨gr, 0, none⟩) l.length cap)), (78, (iL 2 [avS (xL l i).machine, avS ⟨#[]⟩])), (79, avS r79), (85, (iL 2 [avS (xL l i).nozzle, avS ⟨#[65]⟩]))], [.box gr ⟨rowL l, 80, cap * 8⟩], k + 20 * q + 1 + 1 + 1 + 1⟩ := by
              intro r79 hr79
              rw [hF]
              refine VA.all (rs := [16, 22]) (by decide +kernel) (by decide) ?_
              refine ⟨⟨_, rfl, .inl rfl, ?_⟩, ⟨_, rfl, .inl rfl, ?_⟩, trivial⟩
              ·
                refine OpE.callT' (k + 20 * q + 1 + 1 + 1 + 1) rfl rfl hB rfl Tryz.call82 rfl (some_T 1000 (by rfl) (by decide) (by decide) (AllS.cons (LkG.getD hok i).nozzle (AllS.cons (by decide) AllS.nil))) (by omega) ?_
                rintro _ ⟨r86, hr86, rfl⟩
                have hh := hS2 r79 hr79 r86 hr86
                rw [hF] at hh
                exact VA.to hh (by decide +kernel) (Le.mk hB [0] ⟨rfl, rfl, rfl, rfl, rfl, rfl, rfl, rfl, rfl, rfl, rfl, rfl, rfl, rfl, rfl, trivial⟩ rfl rfl (Nat.le_refl _))
              ·
                refine OpE.buildSlice (zc := #[.string ⟨#[]⟩, .string ⟨#[]⟩]) rfl hB rfl Tryz.underlying29 Tryz.sizeOf9 Tryz.zeroValue9 (by decide) (by decide) (by kernel_rfl) rfl rfl ?_
                have hh := hS3 r79 hr79
                rw [hF] at hh
                exact VA.to hh (by decide +kernel) (Le.mk hB [0] ⟨rfl, rfl, rfl, rfl, rfl, rfl, rfl, rfl, rfl, rfl, rfl, rfl, rfl, rfl, rfl, trivial⟩ rfl rfl (Nat.le_refl _))
            have hS5 : ∀ (r79 : ByteArray) (hr79 : r79.size ≤ 1000), F 12 (lstB 33 [0, 1, 2, 3, 4, 5, 6, 7, 8, 9, 10, 11, 12, 13, 14, 17, 18, 19, 20, 21, 22]) ⟨[(0, sp p), (73, sp p), (80, sp p), (87, sp p), (70, (pL gr (0 + i * 8))), (71, (pL gr (0 + i * 8))), (72, (pL gr (0 + i * 8))), (77, avS (xL l i).machine), (84, avS (xL l i).nozzle), (91, avS (xL l i).reel), (5, .v (.slice (some ⟨gr, 0, none⟩) l.length cap)), (78, (iL 2 [avS (xL l i).machine, avS ⟨#[]⟩])), (79, avS r79), (92, (iL 2 [avS (xL l i).reel, avS ⟨#[]⟩]))], [.box gr ⟨rowL l, 80, cap * 8⟩], k + 20 * q + 1 + 1 + 1 + 1⟩ := by
              intro r79 hr79
              rw [hF]
              refine VA.all (rs := [15]) (by decide +kernel) (by decide) ?_
              refine ⟨⟨_, rfl, .inl rfl, ?_⟩, trivial⟩
              refine OpE.buildSlice (zc := #[.string ⟨#[]⟩, .string ⟨#[]⟩]) rfl hB rfl Tryz.underlying29 Tryz.sizeOf9 Tryz.zeroValue9 (by decide) (by decide) (by kernel_rfl) rfl rfl ?_
              have hh := hS3 r79 hr79
              rw [hF] at hh
              exact VA.to hh (by decide +kernel) (Le.mk hB [0] ⟨rfl, rfl, rfl, rfl, rfl, rfl, rfl, rfl, rfl, rfl, rfl, rfl, rfl, rfl, rfl, trivial⟩ rfl rfl (Nat.le_refl _))
            have hS6 : F 12 (lstB 33 [0, 1, 2, 3, 4, 5, 6, 7, 8, 10, 11, 12, 13, 14, 15, 17, 18, 19, 20, 21, 22]) ⟨[(0, sp p), (73, sp p), (80, sp p), (87, sp p), (70, (pL gr (0 + i * 8))), (71, (pL gr (0 + i * 8))), (72, (pL gr (0 + i * 8))), (77, avS (xL l i).machine), (84, avS (xL l i).nozzle), (91, avS (xL l i).reel), (5, .v (.slice (some ⟨gr, 0, none⟩) l.length cap)), (78, (iL 2 [avS (xL l i).machine, avS ⟨#[]⟩])), (85, (iL 2 [avS (xL l i).nozzle, avS ⟨#[65]⟩])), (92, (iL 2 [avS (xL l i).reel, avS ⟨#[]⟩]))], [.box gr ⟨rowL l, 80, cap * 8⟩], k + 20 * q + 1 + 1 + 1⟩ := by
              rw [hF]
              refine VA.all (rs := [9]) (by decide +kernel) (by decide) ?_
              refine ⟨⟨_, rfl, .inl rfl, ?_⟩, trivial⟩
              refine OpE.callT' (k + 20 * q + 1 + 1 + 1) rfl rfl hB rfl Tryz.call82 rfl (some_T 1000 (by rfl) (by decide) (by decide) (AllS.cons (LkG.getD hok i).machine (AllS.cons (by decide) AllS.nil))) (by omega) ?_
              rintro _ ⟨r79, hr79, rfl⟩
              have hh := hS3 r79 hr79
              rw [hF] at hh
              exact VA.to hh (by decide +kernel) (Le.mk hB [0] ⟨rfl, rfl, rfl, rfl, rfl, rfl, rfl, rfl, rfl, rfl, rfl, rfl, rfl, rfl, rfl, trivial⟩ rfl rfl (Nat.le_refl _))
            have hS7 : ∀ (r79 : ByteArray) (hr79 : r79.size ≤ 1000), F 13 (lstB 33 [0, 1, 2, 3, 4, 5, 6, 7, 8, 9, 10, 11, 12, 13, 14, 17, 18, 19, 20, 21]) ⟨[(0, sp p), (73, sp p), (80, sp p), (87, sp p), (70, (pL gr (0 + i * 8))), (71, (pL gr (0 + i * 8))), (72, (pL gr (0 + i * 8))), (77, avS (xL l i).machine), (84, avS (xL l i).nozzle), (91, avS (xL l i).reel), (5, .v (.slice (some ⟨gr, 0, none⟩) l.length cap)), (78, (iL 2 [avS (xL l i).machine, avS ⟨#[]⟩])), (79, avS r79)], [.box gr ⟨rowL l, 80, cap * 8⟩], k + 20 * q + 1 + 1 + 1 + 1⟩ := by
              intro r79 hr79
              rw [hF]
              refine VA.all (rs := [15, 22]) (by decide +kernel) (by decide) ?_
              refine ⟨⟨_, rfl, .inl rfl, ?_⟩, ⟨_, rfl, .inl rfl, ?_⟩, trivial⟩
              ·
                refine OpE.buildSlice (zc := #[.string ⟨#[]⟩, .string ⟨#[]⟩]) rfl hB rfl Tryz.underlying29 Tryz.sizeOf9 Tryz.zeroValue9 (by decide) (by decide) (by kernel_rfl) rfl rfl ?_
                have hh := hS4 r79 hr79
                rw [hF] at hh
                exact VA.to hh (by decide +kernel) (Le.mk hB [0] ⟨rfl, rfl, rfl, rfl, rfl, rfl, rfl, rfl, rfl, rfl, rfl, rfl, rfl, rfl, trivial⟩ rfl rfl (Nat.le_refl _))
              ·
                refine OpE.buildSlice (zc := #[.string ⟨#[]⟩, .string ⟨#[]⟩]) rfl hB rfl Tryz.underlying29 Tryz.sizeOf9 Tryz.zeroValue9 (by decide) (by decide) (by kernel_rfl) rfl rfl ?_
                have hh := hS5 r79 hr79
                rw [hF] at hh
                exact VA.to hh (by decide +kernel) (Le.mk hB [0] ⟨rfl, rfl, rfl, rfl, rfl, rfl, rfl, rfl, rfl, rfl, rfl, rfl, rfl, rfl, trivial⟩ rfl rfl (Nat.le_refl _))
            have hS8 : F 13 (lstB 33 [0, 1, 2, 3, 4, 5, 6, 7, 8, 10, 11, 12, 13, 14, 15, 17, 18, 19, 20, 21]) ⟨[(0, sp p), (73, sp p), (80, sp p), (87, sp p), (70, (pL gr (0 + i * 8))), (71, (pL gr (0 + i * 8))), (72, (pL gr (0 + i * 8))), (77, avS (xL l i).machine), (84, avS (xL l i).nozzle), (91, avS (xL l i).reel), (5, .v (.slice (some ⟨gr, 0, none⟩) l.length cap)), (78, (iL 2 [avS (xL l i).machine, avS ⟨#[]⟩])), (85, (iL 2 [avS (xL l i).nozzle, avS ⟨#[65]⟩]))], [.box gr ⟨rowL l, 80, cap * 8⟩], k + 20 * q + 1 + 1 + 1⟩ := by
              rw [hF]
              refine VA.all (rs := [9, 22]) (by decide +kernel) (by decide) ?_
              refine ⟨⟨_, rfl, .inl rfl, ?_⟩, ⟨_, rfl, .inl rfl, ?_⟩, trivial⟩
              ·
                refine OpE.callT' (k + 20 * q + 1 + 1 + 1) rfl rfl hB rfl Tryz.call82 rfl (some_T 1000 (by rfl) (by decide) (by decide) (AllS.cons (LkG.getD hok i).machine (AllS.cons (by decide) AllS.nil))) (by omega) ?_
                rintro _ ⟨r79, hr79, rfl⟩
                have hh := hS4 r79 hr79
                rw [hF] at hh
                exact VA.to hh (by decide +kernel) (Le.mk hB [0] ⟨rfl, rfl, rfl, rfl, rfl, rfl, rfl, rfl, rfl, rfl, rfl, rfl, rfl, rfl, trivial⟩ rfl rfl (Nat.le_refl _))
              ·
                refine OpE.buildSlice (zc := #[.string ⟨#[]⟩, .string ⟨#[]⟩]) rfl hB rfl Tryz.underlying29 Tryz.sizeOf9 Tryz.zeroValue9 (by decide) (by decide) (by kernel_rfl) rfl rfl ?_
                have hh := hS6 
                rw [hF] at hh
                exact VA.to hh (by decide +kernel) (Le.mk hB [0] ⟨rfl, rfl, rfl, rfl, rfl, rfl, rfl, rfl, rfl, rfl, rfl, rfl, rfl, rfl, trivial⟩ rfl rfl (Nat.le_refl _))
            have hS9 : F 13 (lstB 33 [0, 1, 2, 3, 4, 5, 6, 7, 8, 10, 11, 12, 13, 14, 17, 18, 19, 20, 21, 22]) ⟨[(0, sp p), (73, sp p), (80, sp p), (87, sp p), (70, (pL gr (0 + i * 8))), (71, (pL gr (0 + i * 8))), (72, (pL gr (0 + i * 8))), (77, avS (xL l i).machine), (84, avS (xL l i).nozzle), (91, avS (xL l i).reel), (5, .v (.slice (some ⟨gr, 0, none⟩) l.length cap)), (78, (iL 2 [avS (xL l i).machine, avS ⟨#[]⟩])), (92, (iL 2 [avS (xL l i).reel, avS ⟨#[]⟩]))], [.box gr ⟨rowL l, 80, cap * 8⟩], k + 20 * q + 1 + 1 + 1⟩ := by
              rw [hF]
              refine VA.all (rs := [9, 15]) (by decide +kernel) (by decide) ?_
              refine ⟨⟨_, rfl, .inl rfl, ?_⟩, ⟨_, rfl, .inl rfl, ?_⟩, trivial⟩
              ·
                refine OpE.callT' (k + 20 * q + 1 + 1 + 1) rfl rfl hB rfl Tryz.call82 rfl (some_T 1000 (by rfl) (by decide) (by decide) (AllS.cons (LkG.getD hok i).machine (AllS.cons (by decide) AllS.nil))) (by omega) ?_
                rintro _ ⟨r79, hr79, rfl⟩
                have hh := hS5 r79 hr79
                rw [hF] at hh
                exact VA.to hh (by decide +kernel) (Le.mk hB [0] ⟨rfl, rfl, rfl, rfl, rfl, rfl, rfl, rfl, rfl, rfl, rfl, rfl, rfl, rfl, trivial⟩ rfl rfl (Nat.le_refl _))
              ·
                refine OpE.buildSlice (zc := #[.string ⟨#[]⟩, .string ⟨#[]⟩]) rfl hB rfl Tryz.underlying29 Tryz.sizeOf9 Tryz.zeroValue9 (by decide) (by decide) (by kernel_rfl) rfl rfl ?_
                have hh := hS6 
                rw [hF] at hh
                exact VA.to hh (by decide +kernel) (Le.mk hB [0] ⟨rfl, rfl, rfl, rfl, rfl, rfl, rfl, rfl, rfl, rfl, rfl, rfl, rfl, rfl, trivial⟩ rfl rfl (Nat.le_refl _))
            have hS10 : F 13 (lstB 33 [0, 1, 2, 3, 4, 5, 6, 7, 10, 11, 12, 13, 14, 15, 17, 18, 19, 20, 21, 22]) ⟨[(0, sp p), (73, sp p), (80, sp p), (87, sp p), (70, (pL gr (0 + i * 8))), (71, (pL gr (0 + i * 8))), (72, (pL gr (0 + i * 8))), (77, avS (xL l i).machine), (84, avS (xL l i).nozzle), (91, avS (xL l i).reel), (5, .v (.slice (some ⟨gr, 0, none⟩) l.length cap)), (85, (iL 2 [avS (xL l i).nozzle, avS ⟨#[65]⟩])), (92, (iL 2 [avS (xL l i).reel, avS ⟨#[]⟩]))], [.box gr ⟨rowL l, 80, cap * 8⟩], k + 20 * q + 1 + 1 + 1⟩ := by
              rw [hF]
              refine VA.all (rs := [8]) (by decide +kernel) (by decide) ?_
              refine ⟨⟨_, rfl, .inl rfl, ?_⟩, trivial⟩
              refine OpE.buildSlice (zc := #[.string ⟨#[]⟩, .string ⟨#[]⟩]) rfl hB rfl Tryz.underlying29 Tryz.sizeOf9 Tryz.zeroValue9 (by decide) (by decide) (by kernel_rfl) rfl rfl ?_
              have hh := hS6 
              rw [hF] at hh
              exact VA.to hh (by decide +kernel) (Le.mk hB [0] ⟨rfl, rfl, rfl, rfl, rfl, rfl, rfl, rfl, rfl, rfl, rfl, rfl, rfl, rfl, trivial⟩ rfl rfl (Nat.le_refl _))
            have hS11 : F 14 (lstB 33 [0, 1, 2, 3, 4, 5, 6, 7, 8, 10, 11, 12, 13, 14, 17, 18, 19, 20, 21]) ⟨[(0, sp p), (73, sp p), (80, sp p), (87, sp p), (70, (pL gr (0 + i * 8))), (71, (pL gr (0 + i * 8))), (72, (pL gr (0 + i * 8))), (77, avS (xL l i).machine), (84, avS (xL l i).nozzle), (91, avS (xL l i).reel), (5, .v (.slice (some ⟨gr, 0, none⟩) l.length cap)), (78, (iL 2 [avS (xL l i).machine, avS ⟨#[]⟩]))], [.box gr ⟨rowL l, 80, cap * 8⟩], k + 20 * q + 1 + 1 + 1⟩ := by
              rw [hF]
              refine VA.all (rs := [9, 15, 22]) (by decide +kernel) (by decide) ?_
              refine ⟨⟨_, rfl, .inl rfl, ?_⟩, ⟨_, rfl, .inl rfl, ?_⟩, ⟨_, rfl, .inl rfl, ?_⟩, trivial⟩
              ·
                refine OpE.callT' (k + 20 * q + 1 + 1 + 1) rfl rfl hB rfl Tryz.call82 rfl (some_T 1000 (by rfl) (by decide) (by decide) (AllS.cons (LkG.getD hok i).machine (AllS.cons (by decide) AllS.nil))) (by omega) ?_
                rintro _ ⟨r79, hr79, rfl⟩
                have hh := hS7 r79 hr79
                rw [hF] at hh
                exact VA.to hh (by decide +kernel) (Le.mk hB [0] ⟨rfl, rfl, rfl, rfl, rfl, rfl, rfl, rfl, rfl, rfl, rfl, rfl, rfl, trivial⟩ rfl rfl (Nat.le_refl _))
              ·
                refine OpE.buildSlice (zc := #[.string ⟨#[]⟩, .string ⟨#[]⟩]) rfl hB rfl Tryz.underlying29 Tryz.sizeOf9 Tryz.zeroValue9 (by decide) (by decide) (by kernel_rfl) rfl rfl ?_
                have hh := hS8 
                rw [hF] at hh
                exact VA.to hh (by decide +kernel) (Le.mk hB [0] ⟨rfl, rfl, rfl, rfl, rfl, rfl, rfl, rfl, rfl, rfl, rfl, rfl, rfl, trivial⟩ rfl rfl (Nat.le_refl _))
              ·
                refine OpE.buildSlice (zc := #[.string ⟨#[]⟩, .string ⟨#[]⟩]) rfl hB rfl Tryz.underlying29 Tryz.sizeOf9 Tryz.zeroValue9 (by decide) (by decide) (by kernel_rfl) rfl rfl ?_
                have hh := hS9 
                rw [hF] at hh
                exact VA.to hh (by decide +kernel) (Le.mk hB [0] ⟨rfl, rfl, rfl, rfl, rfl, rfl, rfl, rfl, rfl, rfl, rfl, rfl, rfl, trivial⟩ rfl rfl (Nat.le_refl _))
            have hS12 : F 14 (lstB 33 [0, 1, 2, 3, 4, 5, 6, 7, 10, 11, 12, 13, 14, 15, 17, 18, 19, 20, 21]) ⟨[(0, sp p), (73, sp p), (80, sp p), (87, sp p), (70, (pL gr (0 + i * 8))), (71, (pL gr (0 + i * 8))), (72, (pL gr (0 + i * 8))), (77, avS (xL l i).machine), (84, avS (xL l i).nozzle), (91, avS (xL l i).reel), (5, .v (.slice (some ⟨gr, 0, none⟩) l.length cap)), (85, (iL 2 [avS (xL l i).nozzle, avS ⟨#[65]⟩]))], [.box gr ⟨rowL l, 80, cap * 8⟩], k + 20 * q + 1 + 1 + 1⟩ := by
              rw [hF]
              refine VA.all (rs := [8, 22]) (by decide +kernel) (by decide) ?_
              refine ⟨⟨_, rfl, .inl rfl, ?_⟩, ⟨_, rfl, .inl rfl, ?_⟩, trivial⟩
              ·
                refine OpE.buildSlice (zc := #[.string ⟨#[]⟩, .string ⟨#[]⟩]) rfl hB rfl Tryz.underlying29 Tryz.sizeOf9 Tryz.zeroValue9 (by decide) (by decide) (by kernel_rfl) rfl rfl ?_
                have hh := hS8 
                rw [hF] at hh
                exact VA.to hh (by decide +kernel) (Le.mk hB [0] ⟨rfl, rfl, rfl, rfl, rfl, rfl, rfl, rfl, rfl, rfl, rfl, rfl, rfl, trivial⟩ rfl rfl (Nat.le_refl _))
              ·
                refine OpE.buildSlice (zc := #[.string ⟨#[]⟩, .string ⟨#[]⟩]) rfl hB rfl Tryz.underlying29 Tryz.sizeOf9 Tryz.zeroValue9 (by decide) (by decide) (by kernel_rfl) rfl rfl ?_
                have hh := hS10 
                rw [hF] at hh
                exact VA.to hh (by decide +kernel) (Le.mk hB [0] ⟨rfl, rfl, rfl, rfl, rfl, rfl, rfl, rfl, rfl, rfl, rfl, rfl, rfl, trivial⟩ rfl rfl (Nat.le_refl _))
            have hS13 : F 14 (lstB 33 [0, 1, 2, 3, 4, 5, 6, 7, 10, 11, 12, 13, 14, 17, 18, 19, 20, 21, 22]) ⟨[(0, sp p), (73, sp p), (80, sp p), (87, sp p), (70, (pL gr (0 + i * 8))), (71, (pL gr (0 + i * 8))), (72, (pL gr (0 + i * 8))), (77, avS (xL l i).machine), (84, avS (xL l i).nozzle), (91, avS (xL l i).reel), (5, .v (.slice (some ⟨gr, 0, none⟩) l.length cap)), (92, (iL 2 [avS (xL l i).reel, avS ⟨#[]⟩]))], [.box gr ⟨rowL l, 80, cap * 8⟩], k + 20 * q + 1 + 1 + 1⟩ := by
              rw [hF]
              refine VA.all (rs := [8, 15]) (by decide +kernel) (by decide) ?_
              refine ⟨⟨_, rfl, .inl rfl, ?_⟩, ⟨_, rfl, .inl rfl, ?_⟩, trivial⟩
              ·
                refine OpE.buildSlice (zc := #[.string ⟨#[]⟩, .string ⟨#[]⟩]) rfl hB rfl Tryz.underlying29 Tryz.sizeOf9 Tryz.zeroValue9 (by decide) (by decide) (by kernel_rfl) rfl rfl ?_
                have hh := hS9 
                rw [hF] at hh
                exact VA.to hh (by decide +kernel) (Le.mk hB [0] ⟨rfl, rfl, rfl, rfl, rfl, rfl, rfl, rfl, rfl, rfl, rfl, rfl, rfl, trivial⟩ rfl rfl (Nat.le_refl _))
              ·
                refine OpE.buildSlice (zc := #[.string ⟨#[]⟩, .string ⟨#[]⟩]) rfl hB rfl Tryz.underlying29 Tryz.sizeOf9 Tryz.zeroValue9 (by decide) (by decide) (by kernel_rfl) rfl rfl ?_
                have hh := hS10 
                rw [hF] at hh
                exact VA.to hh (by decide +kernel) (Le.mk hB [0] ⟨rfl, rfl, rfl, rfl, rfl, rfl, rfl, rfl, rfl, rfl, rfl, rfl, rfl, trivial⟩ rfl rfl (Nat.le_refl _))
            have hS14 : F 15 (lstB 33 [0, 1, 2, 3, 4, 5, 6, 7, 10, 11, 12, 13, 14, 17, 18, 19, 20, 21]) ⟨[(0, sp p), (73, sp p), (80, sp p), (87, sp p), (70, (pL gr (0 + i * 8))), (71, (pL gr (0 + i * 8))), (72, (pL gr (0 + i * 8))), (77, avS (xL l i).machine), (84, avS (xL l i).nozzle), (91, avS (xL l i).reel), (5, .v (.slice (some ⟨gr, 0, none⟩) l.length cap))], [.box gr ⟨rowL l, 80, cap * 8⟩], k + 20 * q + 1 + 1 + 1⟩ := by
              rw [hF]
              refine VA.all (rs := [8, 15, 22]) (by decide +kernel) (by decide) ?_
              refine ⟨⟨_, rfl, .inl rfl, ?_⟩, ⟨_, rfl, .inl rfl, ?_⟩, ⟨_, rfl, .inl rfl, ?_⟩, trivial⟩
              ·
                refine OpE.buildSlice (zc := #[.string ⟨#[]⟩, .string ⟨#[]⟩]) rfl hB rfl Tryz.underlying29 Tryz.sizeOf9 Tryz.zeroValue9 (by decide) (by decide) (by kernel_rfl) rfl rfl ?_
                have hh := hS11 
                rw [hF] at hh
                exact VA.to hh (by decide +kernel) (Le.mk hB [0] ⟨rfl, rfl, rfl, rfl, rfl, rfl, rfl, rfl, rfl, rfl, rfl, rfl, trivial⟩ rfl rfl (Nat.le_refl _))
              ·
                refine OpE.buildSlice (zc := #[.string ⟨#[]⟩, .string ⟨#[]⟩]) rfl hB rfl Tryz.underlying29 Tryz.sizeOf9 Tryz.zeroValue9 (by decide) (by decide) (by kernel_rfl) rfl rfl ?_
                have hh := hS12 
                rw [hF] at hh
                exact VA.to hh (by decide +kernel) (Le.mk hB [0] ⟨rfl, rfl, rfl, rfl, rfl, rfl, rfl, rfl, rfl, rfl, rfl, rfl, trivial⟩ rfl rfl (Nat.le_refl _))
              ·
                refine OpE.buildSlice (zc := #[.string ⟨#[]⟩, .string ⟨#[]⟩]) rfl hB rfl Tryz.underlying29 Tryz.sizeOf9 Tryz.zeroValue9 (by decide) (by decide) (by kernel_rfl) rfl rfl ?_
                have hh := hS13 
                rw [hF] at hh
                exact VA.to hh (by decide +kernel) (Le.mk hB [0] ⟨rfl, rfl, rfl, rfl, rfl, rfl, rfl, rfl, rfl, rfl, rfl, rfl, trivial⟩ rfl rfl (Nat.le_refl _))
            rw [hF]
            have hh := hS14 
            rw [hF] at hh
            exact VA.to hh (by decide +kernel) (Le.mk hB [0] ⟨rfl, rfl, rfl, rfl, rfl, rfl, rfl, rfl, rfl, rfl, rfl, trivial⟩ rfl rfl (Nat.le_refl _))
      · have aH5 := aH5b
        try simp only [qqT, qqF, qqN, qqM, qqL, qqE] at aH5
        refine VC.skip ?_
        refine VC.sr ?_
        refine VO.mv rfl rfl rfl rfl ?_
        refine VO.ma rfl rfl rfl rfl ?_
        refine VO.nil ?_
        skip
        refine VC.ret ?_
        exact Exists.intro _ (And.intro (RetV.one Tryz.results31 (ResV.tmp rfl)) (And.intro (by first | exact ⟨l, _, ⟨by omega, hok⟩, rfl, rfl⟩ | exact ⟨_, _, ⟨by simp only [List.length_set]; omega, lk_s1 hok i hr110 hr117⟩, rfl, by simp only [List.length_set]; rfl⟩ | exact ⟨_, _, ⟨by simp only [List.length_set]; omega, lk_s2 hok i hr132⟩, rfl, by simp only [List.length_set]; rfl⟩ | exact ⟨_, _, ⟨by simp only [List.length_set]; omega, lk_s3 hok i hr79 hr86 hr93⟩, rfl, by simp only [List.length_set]; rfl⟩) ((show k + 20 * q + 1 ≤ k + 200 by omega))))
    · replace aK4b : _ = false := aK4b
      have aK4 := aK4b
      try simp only [qqT, qqF, qqN, qqM, qqL, qqE] at aK4
      refine VO.opX rfl rfl rfl rfl aK4b ?_
      refine VO.val rfl rfl (OpV.pickF rfl rfl rfl rfl aK4b) ?_
      refine VO.nil ?_
      refine VC.condF rfl rfl ?_
      refine VC.skip ?_
      refine VC.sr ?_
      refine VO.mv rfl rfl rfl rfl ?_
      refine VO.ma rfl rfl rfl rfl ?_
      refine VO.nil ?_
      skip
      refine VC.ret ?_
      exact Exists.intro _ (And.intro (RetV.one Tryz.results31 (ResV.tmp rfl)) (And.intro (by first | exact ⟨l, _, ⟨by omega, hok⟩, rfl, rfl⟩ | exact ⟨_, _, ⟨by simp only [List.length_set]; omega, lk_s1 hok i hr110 hr117⟩, rfl, by simp only [List.length_set]; rfl⟩ | exact ⟨_, _, ⟨by simp only [List.length_set]; omega, lk_s2 hok i hr132⟩, rfl, by simp only [List.length_set]; rfl⟩ | exact ⟨_, _, ⟨by simp only [List.length_set]; omega, lk_s3 hok i hr79 hr86 hr93⟩, rfl, by simp only [List.length_set]; rfl⟩) ((show k + 20 * q ≤ k + 200 by omega))))
set_option maxRecDepth 100000 in
set_option maxHeartbeats 4000000 in
theorem rightLooks_O {p : Nat} {L : List Int} {m : Nat} (hm : m ≤ 6) :
  SpecTO Tryz.prog (TT p L) (fun b => b = p) 45 [sp p, avI (m : Int)] 1300 (fun y hp' => ∃ (l : List LookS) (u : Value), (l.length ≤ 3 * m ∧ (∀ x ∈ l, LkG m x) ∧ lookF l = 0) ∧ y = .v u ∧ hp' = [.row u l.length 8 (rowL l) 80]) := by
 refine SpecTO.of_VC Tryz.func45 rfl Tryz.ntmps45 (Nle rfl) (low := (fun b => b ≤ p)) (fun w A k h => h.ok) fun w A k hk hB => ?_
 have hnew : True := trivial
 refine VC.sr ?_
 refine VO.ma rfl rfl rfl rfl ?_
 refine VO.nil ?_
 refine VC.seq ?_
 refine VC.sr ?_
 refine VO.mv rfl rfl rfl rfl ?_
 refine VO.nil ?_
 refine VC.block ?_
 refine VC.loopK [(0, _), (1, _)] ⟨rfl, rfl, trivial⟩ ({q : Nat // q ≤ 6}) (fun (iZ : {q : Nat // q ≤ 6}) => match iZ with | ⟨q, hq⟩ => [(6, avI (q : Int))]) (fun (iZ : {q : Nat // q ≤ 6}) => match iZ with | ⟨q, hq⟩ => []) (fun (iZ : {q : Nat // q ≤ 6}) => match iZ with | ⟨q, hq⟩ => k + 200 * q) (fun (iZ : {q : Nat // q ≤ 6}) => match iZ with | ⟨q, hq⟩ => 6 - q) ⟨0, by decide⟩ (Le.mk hB [] ⟨rfl, rfl, rfl, trivial⟩ rfl rfl (show k ≤ k + 200 * 0 by omega)) ?_
 rintro ⟨q, hq⟩
 show VC _ _ _ _ ⟨[(6, avI (q : Int))] ++ [(0, _), (1, _)], [], k + 200 * q⟩
 refine VC.sr ?_
 refine VO.val rfl rfl (OpV.lss rfl rfl rfl) ?_
 refine VO.nil ?_
 refine VC.seq ?_
 refine VC.cond rfl (fun aH1b => ?_) (fun aH1b => ?_)
 ·have aH1 := aH1b
  try simp only [qqT, qqF, qqN, qqM, qqL, qqE] at aH1
  refine VC.skip ?_
  refine VC.seq ?_
  refine VC.block ?_
  refine VC.sr ?_
  refine VO.mv rfl rfl rfl rfl ?_
  refine VO.mv rfl rfl rfl rfl ?_
  refine VO.op rfl (OpE.callTO (k + 200 * q) rfl rfl hB rfl Tryz.call31 rfl (looks_O hm) (by omega) ?_)
  rintro _ _ ⟨l, u, hl, rfl, rfl⟩
  refine VO.ma rfl rfl rfl rfl ?_
  refine VO.nil ?_
  refine VC.sr ?_
  refine VO.mv rfl rfl rfl rfl ?_
  refine VO.op rfl (OpE.callL rfl hB rfl Tryz.call36 (rf_LooksFault (LkG.sm hl.2 (by omega))) (ArgsP.cons (ArgP.rowT (i := 0) rfl rfl rfl) (ArgsP.nil)) ?_)
  rintro _ rfl
  refine VO.val rfl rfl (OpV.eql rfl rfl rfl) ?_
  refine VO.nil ?_
  refine VC.cond rfl (fun h1b => ?_) (fun h1b => ?_)
  ·have h1 := h1b
   try simp only [qqT, qqF, qqN, qqM, qqL, qqE] at h1
   refine VC.sr ?_
   refine VO.mv rfl rfl rfl rfl ?_
   refine VO.ma rfl rfl rfl rfl ?_
   refine VO.nil ?_
   refine VC.ret ?_
   exact Exists.intro _ (And.intro (RetV.one Tryz.results45 (ResV.tmp rfl)) (And.intro (⟨l, u, ⟨hl.1, hl.2, by omega⟩, rfl, rfl⟩) ((show k + 200 * q + 200 ≤ k + 1300 by omega))))
  ·have h1 := h1b
   try simp only [qqT, qqF, qqN, qqM, qqL, qqE] at h1
   refine VC.skip ?_
   refine VC.region ?_
   refine VO.val rfl rfl (OpV.add rfl rfl rfl (by unfold fits; omega)) ?_
   refine VO.mv rfl rfl rfl rfl ?_
   refine VO.nil ?_
   exact Exists.intro (⟨q + 1, by omega⟩) (And.intro (Le.mk hB [] ⟨rfl, rfl, rfl, trivial⟩ rfl rfl (show k + 200 * q + 200 ≤ k + 200 * (q + 1) by omega)) (by first | omega | (show _ < _; omega) | (simp only []; omega)))
 ·have aH1 := aH1b
  try simp only [qqT, qqF, qqN, qqM, qqL, qqE] at aH1
  refine VC.exit ?_
  refine VC.sr ?_
  refine VO.ma rfl rfl rfl rfl ?_
  refine VO.nil ?_
  refine VC.le _ (Le.nilRow 8 80) ?_
  refine VC.ret ?_
  exact Exists.intro _ (And.intro (RetV.one Tryz.results45 (ResV.tmp rfl)) (And.intro (⟨[], _, ⟨Nat.zero_le _, (fun x h => absurd h (by simp)), by decide⟩, rfl, rfl⟩) ((show k + 200 * q ≤ k + 1300 by omega))))
end Go.Proofs.YtdnlhdilpdeecaaGreatDoor
namespace Go.Proofs.YtdnlhdilpdeecaaGreatDoor
open Go.RowKit
set_option linter.unusedVariables false
set_option linter.unusedSimpArgs false

structure PaceS where
 product : ByteArray
 cycle : Int
 needs : List NeedS
instance : Inhabited PaceS := ⟨⟨ByteArray.empty, 0, []⟩⟩
instance : Sxc PaceS where
 k := 3
 pos := by decide
 cell m j := match j with
  | 0 => avS m.product
  | 1 => avI m.cycle
  | 2 => avL m.needs
  | _ => .any
structure OrdrS where
 key : ByteArray
 product : ByteArray
 count : Int
 ready : Int
 due : Int
instance : Inhabited OrdrS := ⟨⟨ByteArray.empty, ByteArray.empty, 0, 0, 0⟩⟩
instance : Sxc OrdrS where
 k := 5
 pos := by decide
 cell m j := match j with
  | 0 => avS m.key
  | 1 => avS m.product
  | 2 => avI m.count
  | 3 => avI m.ready
  | 4 => avI m.due
  | _ => .any
def paceE (p : List PaceS) (i : Nat) : Int :=
 if keyF (p.getD i default).product = false then 5
 else if (decide (0 < i) && sLe (p.getD i default).product (p.getD (i - 1) default).product) = true then 7
 else if outR (p.getD i default).cycle 1 10000000 = true then 1
 else needsF (p.getD i default).needs 1 1000
def ordrE (o : List OrdrS) (i : Nat) : Int :=
 if (keyF (o.getD i default).key && keyF (o.getD i default).product) = false then 5
 else if (outR (o.getD i default).count 1 100000 || (outR (o.getD i default).ready 0 345686399999 || outR (o.getD i default).due 0 345686399999)) = true then 1
 else if (decide (0 < i) && sLe (o.getD i default).key (o.getD (i - 1) default).key) = true then 7
 else 0
section
variable {p : List PaceS} {i : Nat}
end
section
variable {o : List OrdrS} {i : Nat}
end
def hasP (p : List PaceS) (k : ByteArray) : Bool := p.any fun x => sEq x.product k
def paceO (p : List PaceS) (k : ByteArray) : PaceS := (p.find? fun x => sEq x.product k).getD default
structure PacesOk (p : List PaceS) : Prop where
 len : p.length ≤ 200
 all : ∀ j, j < p.length → paceE p j = 0
structure OrdrsOk (o : List OrdrS) : Prop where
 len : o.length ≤ 200
 all : ∀ j, j < o.length → ordrE o j = 0
theorem paceE_zero {p : List PaceS} {i : Nat} (h : paceE p i = 0) : keyF (p.getD i default).product = true ∧ (0 < i → sLe (p.getD i default).product (p.getD (i - 1) default).product = false) ∧ (1 ≤ (p.getD i default).cycle ∧ (p.getD i default).cycle ≤ 10000000) ∧ needsF (p.getD i default).needs 1 1000 = 0 := by
 unfold paceE at h
 split at h
 ·cases h
 ·rename_i h1
  split at h
  ·cases h
  ·rename_i h2
   split at h
   ·cases h
   ·rename_i h3
    refine ⟨by simpa using h1, fun hi => ?_, ?_, h⟩
    ·rw [decide_eq_true hi, Bool.true_and] at h2
     simpa using h2
    ·simp only [outR, Bool.or_eq_true, decide_eq_true_eq, not_or] at h3
     omega
theorem ordrE_zero {o : List OrdrS} {i : Nat} (h : ordrE o i = 0) : (keyF (o.getD i default).key = true ∧ keyF (o.getD i default).product = true) ∧ (0 < i → sLe (o.getD i default).key (o.getD (i - 1) default).key = false) ∧ (1 ≤ (o.getD i default).count ∧ (o.getD i default).count ≤ 100000) ∧ (0 ≤ (o.getD i default).ready ∧ (o.getD i default).ready ≤ 345686399999) ∧ (0 ≤ (o.getD i default).due ∧ (o.getD i default).due ≤ 345686399999) := by
 unfold ordrE at h
 split at h
 ·cases h
 ·rename_i h1
  split at h
  ·cases h
  ·rename_i h2
   split at h
   ·cases h
   ·rename_i h3
    have h1' : (keyF (o.getD i default).key && keyF (o.getD i default).product) = true := by simpa using h1
    rw [Bool.and_eq_true] at h1'
    simp only [outR, Bool.or_eq_true, decide_eq_true_eq, not_or] at h2
    refine ⟨h1', fun hi => ?_, by omega, by omega, by omega⟩
    rw [decide_eq_true hi, Bool.true_and] at h3
    simpa using h3
def chgN (a b : List NeedS) (q : Nat) : Nat := ((b.take q).filter fun x => !(a.any fun y => sEq y.key x.key)).length
theorem chgN_le (a b : List NeedS) (q : Nat) : chgN a b q ≤ b.length := by
 unfold chgN
 have := List.length_filter_le (fun x => !(a.any fun y => sEq y.key x.key)) (b.take q)
 rw [List.length_take] at this
 omega
def chgI (a b : PaceS) (each : Int) : Int := each * (chgN a.needs b.needs b.needs.length : Int)
def longO (p : List PaceS) (x : OrdrS) : Int := (paceO p x.product).cycle * x.count
def turnO (p : List PaceS) (each : Int) (x y : OrdrS) : Int := chgI (paceO p x.product) (paceO p y.product) each
structure ResS where
 late : Int
 many : Int
 en : Int
section
variable (p : List PaceS) (o : List OrdrS) (l : List Int) (start each : Int)
abbrev orA (i : Int) : OrdrS := o.getD i.toNat default
def endP : Nat → Int
 | 0 => max start (orA o (l.getD 0 0)).ready + longO p (orA o (l.getD 0 0))
 | q + 1 => max (endP q + turnO p each (orA o (l.getD q 0)) (orA o (l.getD (q + 1) 0))) (orA o (l.getD (q + 1) 0)).ready + longO p (orA o (l.getD (q + 1) 0))
def fromP : Nat → Int
 | 0 => max start (orA o (l.getD 0 0)).ready
 | q + 1 => max (endP p o l start each q + turnO p each (orA o (l.getD q 0)) (orA o (l.getD (q + 1) 0))) (orA o (l.getD (q + 1) 0)).ready
def resP : Nat → ResS
 | 0 => ⟨0, 0, start⟩
 | q + 1 => if (orA o (l.getD q 0)).due < endP p o l start each q
   then ⟨(resP q).late + (endP p o l start each q - (orA o (l.getD q 0)).due), (resP q).many + 1, endP p o l start each q⟩
   else ⟨(resP q).late, (resP q).many, endP p o l start each q⟩
end
end Go.Proofs.YtdnlhdilpdeecaaGreatDoor
namespace Go.Proofs.YtdnlhdilpdeecaaGreatDoor
open Go.RowKit
set_option linter.unusedVariables false
set_option linter.unusedSimpArgs false
theorem needsF_lenP {l : List NeedS} {lo hi : Int} (h : needsF l lo hi = 0) : l.length ≤ 1000 := by
 unfold needsF at h
 split at h
 ·cases h
 ·omega
theorem paceO_in {p : List PaceS} {k : ByteArray} (h : hasP p k = true) : ∃ j, j < p.length ∧ paceO p k = p.getD j default := by
 unfold hasP at h
 cases hf : p.find? (fun x => sEq x.product k) with
 | none => rw [List.find?_eq_none] at hf; obtain ⟨x, hx, he⟩ := List.any_eq_true.1 h; exact absurd he (hf x hx)
 | some x =>
  obtain ⟨j, hj, e⟩ := List.getElem_of_mem (List.mem_of_find?_eq_some hf)
  refine ⟨j, hj, ?_⟩
  rw [paceO, hf, List.getD_eq_getElem?_getD, List.getElem?_eq_getElem hj, e]
theorem paceO_ok {p : List PaceS} (hp : PacesOk p) {k : ByteArray} (h : hasP p k = true) : (1 ≤ (paceO p k).cycle ∧ (paceO p k).cycle ≤ 10000000) ∧ (paceO p k).needs.length ≤ 1000 := by
 obtain ⟨j, hj, e⟩ := paceO_in h
 rw [e]
 have := paceE_zero (hp.all j hj)
 exact ⟨this.2.2.1, needsF_lenP this.2.2.2⟩
theorem mul_bd {a b A B : Int} (h0 : 0 ≤ a) (h1 : a ≤ A) (h2 : 0 ≤ b) (h3 : b ≤ B) : 0 ≤ a * b ∧ a * b ≤ A * B :=
 ⟨Int.mul_nonneg h0 h2, Int.le_trans (Int.mul_le_mul_of_nonneg_right h1 h2) (Int.mul_le_mul_of_nonneg_left h3 (Int.le_trans h0 h1))⟩
structure OrdrsB (o : List OrdrS) : Prop where
 len : o.length ≤ 201
 all : ∀ j, j < o.length → (1 ≤ (o.getD j default).count ∧ (o.getD j default).count ≤ 100000) ∧ (0 ≤ (o.getD j default).ready ∧ (o.getD j default).ready ≤ 345686399999) ∧ (0 ≤ (o.getD j default).due ∧ (o.getD j default).due ≤ 345686399999)
theorem OrdrsOk.bd {o : List OrdrS} (h : OrdrsOk o) : OrdrsB o := ⟨by have := h.len; omega, fun j hj => (ordrE_zero (h.all j hj)).2.2⟩
structure SchOk (p : List PaceS) (o : List OrdrS) (l : List Int) (start each : Int) : Prop where
 pok : PacesOk p
 ook : OrdrsB o
 has : ∀ j, j < o.length → hasP p (o.getD j default).product = true
 len : l.length = o.length
 ord : Ord o.length l
 st : 0 ≤ start ∧ start ≤ 345686399999
 ea : 0 ≤ each ∧ each ≤ 10000000
section
variable {p : List PaceS} {o : List OrdrS} {l : List Int} {start each : Int} (h : SchOk p o l start each)
include h
theorem SchOk.at_ {q : Nat} (hq : q < l.length) : 0 ≤ l.getD q 0 ∧ (l.getD q 0).toNat < o.length := by
 have := h.ord.lt (l[q]) (List.getElem_mem hq)
 rw [List.getD_eq_getElem?_getD, List.getElem?_eq_getElem hq]
 simp only [Option.getD_some]
 omega
theorem SchOk.long {i : Nat} (hi : i < o.length) : 0 ≤ longO p (o.getD i default) ∧ longO p (o.getD i default) ≤ 1000000000000 := by
 have h1 := (paceO_ok h.pok (h.has i hi)).1
 have h2 := (h.ook.all i hi).1
 have := mul_bd (by omega : 0 ≤ (paceO p (o.getD i default).product).cycle) h1.2 (by omega : 0 ≤ (o.getD i default).count) h2.2
 unfold longO
 omega
theorem SchOk.turn {i j : Nat} (hj : j < o.length) : 0 ≤ turnO p each (o.getD i default) (o.getD j default) ∧ turnO p each (o.getD i default) (o.getD j default) ≤ 10000000000 := by
 have h1 := (paceO_ok h.pok (h.has j hj)).2
 have h2 := chgN_le (paceO p (o.getD i default).product).needs (paceO p (o.getD j default).product).needs (paceO p (o.getD j default).product).needs.length
 have := mul_bd h.ea.1 h.ea.2 (by omega : (0 : Int) ≤ (chgN (paceO p (o.getD i default).product).needs (paceO p (o.getD j default).product).needs (paceO p (o.getD j default).product).needs.length : Int)) (by omega : _ ≤ (1000 : Int))
 unfold turnO chgI
 omega
theorem SchOk.bd : ∀ q, q < l.length → (0 ≤ fromP p o l start each q ∧ fromP p o l start each q ≤ endP p o l start each q) ∧ endP p o l start each q ≤ 345686400000 + (q + 1) * 1010000000000
 | 0, hq => by
  have h1 := h.at_ hq
  have h2 := h.long h1.2
  have h3 := (h.ook.all _ h1.2).2.1
  have h4 := h.st
  simp only [fromP, endP, orA]
  omega
 | q + 1, hq => by
  have h1 := h.at_ hq
  have h2 := h.long h1.2
  have h3 := (h.ook.all _ h1.2).2.1
  have h5 := SchOk.bd q (by omega)
  have h6 := h.turn (i := (l.getD q 0).toNat) h1.2
  simp only [fromP, endP, orA]
  omega
theorem SchOk.res : ∀ q, q ≤ l.length → (0 ≤ (resP p o l start each q).late ∧ (resP p o l start each q).late ≤ q * 300000000000000) ∧ (0 ≤ (resP p o l start each q).many ∧ (resP p o l start each q).many ≤ q) ∧ (0 ≤ (resP p o l start each q).en ∧ (resP p o l start each q).en ≤ 300000000000000)
 | 0, hq => by
  have h4 := h.st
  simp only [resP]
  omega
 | q + 1, hq => by
  have h1 := h.at_ (q := q) (by omega)
  have h3 := (h.ook.all _ h1.2).2.2
  have h5 := h.bd q (by omega)
  have h6 := SchOk.res q (by omega)
  have h7 := h.ook.len
  have h8 := h.len
  simp only [resP, orA]
  split
  ·rename_i hd
   simp only
   omega
  ·simp only
   omega
end
theorem Ord.take {n : Nat} {l : List Int} {q : Nat} (h : Ord n (l.take q)) (hq : q < l.length) (h0 : 0 ≤ l.getD q 0) (h1 : (l.getD q 0).toNat < n) (h2 : l.getD q 0 ∉ l.take q) : Ord n (l.take (q + 1)) := by
 have := h.snoc h1 (by rwa [Int.toNat_of_nonneg h0])
 rw [Int.toNat_of_nonneg h0] at this
 rw [List.take_add_one, List.getElem?_eq_getElem hq]
 rwa [List.getD_eq_getElem?_getD, List.getElem?_eq_getElem hq] at this
end Go.Proofs.YtdnlhdilpdeecaaGreatDoor
namespace Go.Proofs.YtdnlhdilpdeecaaGreatDoor
open Go.RowKit
set_option linter.unusedVariables false
set_option linter.unusedSimpArgs false

def Inp (w : World) (a : Option Addr) (L : List Int) : Prop :=
 L.length ≤ 9223372036854775807 ∧ ∀ i, i < L.length → ∃ b o, a = some ⟨b, o, none⟩ ∧ w.cell? ⟨b, o + i, none⟩ = some (.int .i64 (L.getD i 0))

theorem Inp.ofRow {w : World} {a : Option Addr} {len cap : Nat} {zs : List Int}
  (h : (a = none ∧ len = 0 ∧ cap = 0 ∧ zs = []) ∨
   ∃ x, a = some x ∧ len ≤ cap ∧ cap ≤ maxLen ∧ zs.length = cap ∧ (∀ i, i < zs.length → w.cell? (x.add i) = some (.int .i64 (zs.getD i 0))) ∧ ∀ n ∈ zs, (Lit.int .i64 n).wf = true) :
  ∃ L : List Int, L.length = len ∧ Inp w a L := by
 rcases h with ⟨rfl, rfl, rfl, rfl⟩ | ⟨x, rfl, h1, h2, h3, h4, h5⟩
 ·exact ⟨[], rfl, by simp, by simp⟩
 ·unfold maxLen at h2
  refine ⟨zs.take len, by simp; omega, by simp; omega, fun i hi => ?_⟩
  have hi' : i < len ∧ i < zs.length := by simp at hi; omega
  obtain ⟨b, o, s⟩ := x
  have h0 := h4 0 (by omega)
  have hs : s = none := by
   cases s with
   | none => rfl
   | some s =>
    simp only [Addr.add, if_true, World.cell?] at h0
    split at h0 <;> simp at h0
  subst hs
  have hadd : (⟨b, o, none⟩ : Addr).add i = ⟨b, o + i, none⟩ := by unfold Addr.add; split <;> simp_all
  have := h4 i hi'.2
  rw [hadd] at this
  exact ⟨b, o, rfl, by rw [this]; simp [hi'.1, hi'.2]⟩

def lawQ (t : Nat) (x : Value) (e : Exit) (s : St') : Prop := e = .ret ∧ look s.sl t = some (.v x)
section
variable {P : Program} {w : World} {A : Nat → Prop} {nt t : Nat} {x : Value} {c : Code} {s : St'}
theorem VC.rebase (h : ∀ a w1, R (B0 w A nt) s a w1 → ∃ (B1 : Bs) (s1 : St'), B1.nt = nt ∧ B1.w0 = w1 ∧ (∀ b, B1.S b → w.heap.size ≤ b) ∧ R B1 s1 a w1 ∧ VC P B1 c (lawQ t x) s1) : VC P (B0 w A nt) c (lawQ t x) s := fun a w1 hr => by
 obtain ⟨B1, s1, h1, h2, h3, h4, h5⟩ := h a w1 hr
 refine Code.wp_mono (fun e a' w' ⟨s2, ⟨k1, k2⟩, k3⟩ => ?_) (h5 a w1 h4)
 refine ⟨⟨[(t, .v x)], [], 0⟩, ⟨k1, by simp [look_put]⟩, fun t' y hy => ?_, k3.size.trans h1, k3.defs, fun p hp => by simp at hp, List.Pairwise.nil, ?_, fun p hp => by simp at hp, trivial⟩
 ·rw [look_put] at hy
  split at hy
  ·rename_i e; subst e; cases hy; exact (k3.slots _ _ k2).flat ⟨_, rfl⟩
  ·cases hy
 ·have c1 := hr.chg
  have c2 := k3.chg
  rw [h2] at c2
  exact (c1.any.trans c2).mono fun b hb hs => (Nat.not_lt.2 (h3 b hs) hb).elim
theorem law_calls {F : FuncId} {fn : Func} {a0 : Option Addr} {cap0 : Nat} {L : List Int} {body : Code} (hf : P.funcs[F]? = some fn) (hb : fn.body = some body) (hn : fn.ntmps = nt) (h1 : 1 ≤ nt) (hres : fn.results = #[.tmp t])
  (h : VC P (B0 w (fun _ => True) nt) body (lawQ t (.bool true)) ⟨slots0 0 [.v (.slice a0 L.length cap0)], [], 0⟩) : Calls P F #[.slice a0 L.length cap0] w fun e w' => e = .returned (.bool true) ∧ Chg NoB w w' := by
 subst hn
 refine calls_of_wp hf hb (Code.wp_mono (fun e a w' hq => ?_) (h _ w (R.start (us := #[.slice a0 L.length cap0]) (k := 0) rfl ⟨rfl, fun j hj => by simp at hj; subst hj; exact .v _⟩ (fun _ h => h.elim) trivial (by show fn.ntmps = 1 + (fn.ntmps - 1); omega))))
 obtain ⟨s, ⟨rfl, hq⟩, hr⟩ := hq
 refine ⟨hr.defs, .bool true, ?_, rfl, hr.chg⟩
 have hv := (hr.slots t _ hq).eq_v
 simp [results_eq, hres, resRun, hv]
end
theorem Le.boolT {B : Bs} {s : St'} {t : Nat} {b : Bool} (ht : look s.sl t = some (avB b)) (hb : b = true) : Le B s ⟨(t, avB true) :: s.sl, s.hp, s.k⟩ := Le.recast ht fun w Z u h => by subst hb; exact h
end Go.Proofs.YtdnlhdilpdeecaaGreatDoor
namespace Go.Proofs.YtdnlhdilpdeecaaGreatDoor
open Go.RowKit
set_option linter.unusedVariables false
set_option linter.unusedSimpArgs false

abbrev ε : ByteArray := ⟨#[]⟩
def has (s : List ByteArray) (x : ByteArray) : Bool := s.any fun y => sEq x y
def setupE (s : List ByteArray) (i : Nat) : Int :=
 if sEq (s.getD i ByteArray.empty) ε = true then 0 else if keyF (s.getD i ByteArray.empty) = false then 5 else if has (s.take i) (s.getD i ByteArray.empty) = true then 6 else 0
def setupF (s : List ByteArray) : Int := if s.length = 0 then 8 else if 100 < s.length then 2 else firstE (setupE s) s.length
def partE (slots : Int) (l : List ByteArray) : Int := if slots < l.length then 12 else firstE (canE l) l.length
def partsF (slots : Int) (p : List (List ByteArray)) : Int := if outR slots 1 100 = true then 1 else if 200 < p.length then 2 else firstE (fun i => partE slots (p.getD i default)) p.length
def missF (s parts : List ByteArray) : List ByteArray := parts.filter fun x => !has s x
theorem setupF_len {s : List ByteArray} (h : setupF s = 0) : 0 < s.length ∧ s.length ≤ 100 := by
 rw [setupF] at h
 split at h
 ·cases h
 ·split at h
  ·cases h
  ·omega
theorem setupF_zero {s : List ByteArray} (h : setupF s = 0) : ∀ j, j < s.length → setupE s j = 0 := by
 have hl := setupF_len h
 rw [setupF, if_neg (by omega), if_neg (by omega)] at h
 exact firstE_zero h
section
variable {s : List ByteArray} {i : Nat}
theorem setupE_5 (h : sEq (s.getD i ByteArray.empty) ε = false) (h2 : keyF (s.getD i ByteArray.empty) = false) : setupE s i = 5 := by rw [setupE, if_neg (by rw [h]; simp), if_pos h2]
theorem setupE_6 (h : sEq (s.getD i ByteArray.empty) ε = false) (h2 : keyF (s.getD i ByteArray.empty) = true) (h3 : has (s.take i) (s.getD i ByteArray.empty) = true) : setupE s i = 6 := by
 rw [setupE, if_neg (by rw [h]; simp), if_neg (by rw [h2]; simp), if_pos h3]
end
section
variable {slots : Int} {p : List (List ByteArray)} {l : List ByteArray}
theorem partsF_zero (h : partsF slots p = 0) : outR slots 1 100 = false ∧ p.length ≤ 200 ∧ ∀ j, j < p.length → partE slots (p.getD j default) = 0 := by
 rw [partsF] at h
 split at h
 ·cases h
 ·rename_i h1
  split at h
  ·cases h
  ·exact ⟨Bool.eq_false_iff.2 h1, by omega, firstE_zero h⟩
theorem partE_zero (h : partE slots l = 0) : (l.length : Int) ≤ slots ∧ ∀ j, j < l.length → canE l j = 0 := by
 rw [partE] at h
 split at h
 ·cases h
 ·exact ⟨by omega, firstE_zero h⟩
end
end Go.Proofs.YtdnlhdilpdeecaaGreatDoor
namespace Go.Proofs.YtdnlhdilpdeecaaGreatDoor
open Go.RowKit
set_option linter.unusedVariables false
set_option linter.unusedSimpArgs false

def needF (x : ByteArray) (later : List (List ByteArray)) : Int := if 0 ≤ fidx (fun l => has l x) later then fidx (fun l => has l x) later else later.length
def vic (s parts : List ByteArray) (later : List (List ByteArray)) : Nat → Int × Int
 | 0 => (-1, -1)
 | q + 1 => if has parts (s.getD q ByteArray.empty) = true then vic s parts later q
  else if (vic s parts later q).2 < needF (s.getD q ByteArray.empty) later ∨ (needF (s.getD q ByteArray.empty) later = (vic s parts later q).2 ∧ sLe (s.getD q ByteArray.empty) (s.getD (vic s parts later q).1.toNat ByteArray.empty) = false) then ((q : Int), needF (s.getD q ByteArray.empty) later)
  else vic s parts later q
section
variable {s parts : List ByteArray} {later : List (List ByteArray)}
end
def slotF (s parts : List ByteArray) (later : List (List ByteArray)) : Int := if fidx (fun x => sEq ε x) s < 0 then (vic s parts later s.length).1 else fidx (fun x => sEq ε x) s
def nextL (parts : List ByteArray) (later : List (List ByteArray)) : List ByteArray → List ByteArray → List ByteArray
 | s, [] => s
 | s, x :: r => nextL parts later (s.set (slotF s parts later).toNat x) r
theorem nextL_snoc (parts : List ByteArray) (later : List (List ByteArray)) : ∀ (l s : List ByteArray) (x : ByteArray), nextL parts later s (l ++ [x]) = (nextL parts later s l).set (slotF (nextL parts later s l) parts later).toNat x
 | [], s, x => rfl
 | y :: l, s, x => nextL_snoc parts later l _ x
theorem nextL_len (parts : List ByteArray) (later : List (List ByteArray)) : ∀ (l s : List ByteArray), (nextL parts later s l).length = s.length
 | [], s => rfl
 | y :: l, s => by rw [nextL, nextL_len parts later l]; simp
theorem has_iff {s : List ByteArray} {x : ByteArray} : has s x = true ↔ x ∈ s := by
 unfold has
 rw [List.any_eq_true]
 exact ⟨fun ⟨y, h1, h2⟩ => by rw [sEq_eq.1 h2]; exact h1, fun h => ⟨x, h, sEq_refl x⟩⟩
theorem has_not {s : List ByteArray} {x : ByteArray} : has s x = false ↔ x ∉ s := by
 rw [← has_iff, Bool.not_eq_true]
structure Fits (s parts : List ByteArray) : Prop where
 once : ∀ i j, i < j → j < s.length → s.getD i ByteArray.empty = s.getD j ByteArray.empty → s.getD j ByteArray.empty = ε
 room : parts.length ≤ s.length
 keys : ∀ x ∈ parts, x ≠ ε
 pnd : parts.Nodup
theorem Fits.set {s parts : List ByteArray} (h : Fits s parts) {x : ByteArray} (hs : x ∉ s) (i : Nat) : Fits (s.set i x) parts := by
 refine ⟨fun a b hab hb he => ?_, by rw [List.length_set]; exact h.room, h.keys, h.pnd⟩
 rw [List.length_set] at hb
 have hm : ∀ k, k < s.length → s.getD k ByteArray.empty ∈ s := fun k hk => by simp [hk]
 simp only [List.getD_eq_getElem?_getD, List.getElem?_set] at he ⊢
 have hal : a < s.length := by omega
 by_cases ea : i = a
 ·subst ea
  rw [if_pos rfl, if_pos (by omega), if_neg (by omega)] at he
  have : x ∈ s := by
   have := hm b hb
   rw [List.getD_eq_getElem?_getD] at this
   simp only [Option.getD_some] at he
   rw [he]; exact this
  exact absurd this hs
 ·by_cases eb : i = b
  ·subst eb
   rw [if_neg ea, if_pos rfl, if_pos (by omega)] at he
   have : x ∈ s := by
    have := hm a hal
    rw [List.getD_eq_getElem?_getD] at this
    simp only [Option.getD_some] at he
    rw [← he]; exact this
   exact absurd this hs
  ·rw [if_neg ea, if_neg eb] at he
   rw [if_neg eb]
   have := h.once a b hab hb (by rw [List.getD_eq_getElem?_getD, List.getD_eq_getElem?_getD]; exact he)
   rwa [List.getD_eq_getElem?_getD] at this
end Go.Proofs.YtdnlhdilpdeecaaGreatDoor
namespace Go.Proofs.YtdnlhdilpdeecaaGreatDoor
open Go.RowKit
set_option linter.unusedVariables false
set_option linter.unusedSimpArgs false

def SmS (s : List ByteArray) : Prop := s.length ≤ 1000000000 ∧ ∀ i, (s.getD i ByteArray.empty).size ≤ 1000000000
def SmSS (p : List (List ByteArray)) : Prop := p.length ≤ 1000000000 ∧ ∀ i, SmS (p.getD i default)
end Go.Proofs.YtdnlhdilpdeecaaGreatDoor
namespace Go.Proofs.YtdnlhdilpdeecaaGreatDoor
open Go.RowKit
set_option linter.unusedVariables false
set_option linter.unusedSimpArgs false

theorem SmS.nil : SmS [] := ⟨by simp, fun i => by simp [List.getD_eq_getElem?_getD]⟩
theorem SmSS.one {p : List ByteArray} (hp : SmS p) : SmSS [p] := ⟨by simp, fun i => by cases i with | zero => exact hp | succ i => exact SmS.nil⟩
end Go.Proofs.YtdnlhdilpdeecaaGreatDoor
namespace Go.Proofs.YtdnlhdilpdeecaaGreatDoor
open Go.RowKit
set_option linter.unusedVariables false
set_option linter.unusedSimpArgs false

theorem missF_mem {s p : List ByteArray} {x : ByteArray} : x ∈ missF s p ↔ x ∈ p ∧ x ∉ s := by
 unfold missF
 rw [List.mem_filter]
 constructor
 ·rintro ⟨h1, h2⟩; exact ⟨h1, has_not.1 (by simpa using h2)⟩
 ·rintro ⟨h1, h2⟩; exact ⟨h1, by rw [has_not.2 h2]; rfl⟩
theorem missF_nodup {s p : List ByteArray} (h : p.Nodup) : (missF s p).Nodup := h.sublist List.filter_sublist
section
variable {parts : List ByteArray} {later : List (List ByteArray)}
theorem nextL_mem : ∀ (l s : List ByteArray) (x : ByteArray), x ∈ nextL parts later s l → x ∈ s ∨ x ∈ l
 | [], s, x, h => .inl h
 | y :: l, s, x, h => by
  rcases nextL_mem l _ x h with h1 | h1
  ·rcases List.mem_or_eq_of_mem_set h1 with h2 | h2
   ·exact .inl h2
   ·exact .inr (by simp [h2])
  ·exact .inr (by simp [h1])
theorem nextL_take_succ {s l : List ByteArray} {q : Nat} (h : q < l.length) : nextL parts later s (l.take (q + 1)) = (nextL parts later s (l.take q)).set (slotF (nextL parts later s (l.take q)) parts later).toNat (l.getD q ByteArray.empty) := by
 rw [take_succ_getD (d := ByteArray.empty) h, nextL_snoc]
theorem nextL_fits {s l : List ByteArray} (hf : Fits s parts) (hl : l.Nodup) (hs : ∀ x ∈ l, x ∉ s) : ∀ q, q ≤ l.length → Fits (nextL parts later s (l.take q)) parts
 | 0, _ => by simpa [nextL] using hf
 | q + 1, hq => by
  rw [nextL_take_succ (by omega)]
  refine (nextL_fits hf hl hs q (by omega)).set (fun hc => ?_) _
  have hx : l.getD q ByteArray.empty ∈ l := by simp [show q < l.length by omega]
  rcases nextL_mem _ _ _ hc with h1 | h1
  ·exact hs _ hx h1
  ·obtain ⟨j, hj, e⟩ := List.mem_iff_getElem.1 h1
   have hj' : j < q ∧ j < l.length := by simp at hj; omega
   rw [List.getElem_take] at e
   have hd := List.pairwise_iff_getElem.1 hl j q hj'.2 (by omega) hj'.1
   apply hd
   rw [e]
   simp [show q < l.length by omega]
end
theorem keyF_size {x : ByteArray} (h : keyF x = true) : 1 ≤ x.size ∧ x.size ≤ 40 := by
 unfold keyF at h
 simp only [Bool.and_eq_true, decide_eq_true_eq] at h
 exact ⟨h.1.1.1, h.1.1.2⟩
theorem canE_key {l : List ByteArray} {i : Nat} (h : canE l i = 0) : keyF (l.getD i ByteArray.empty) = true := by
 cases hk : keyF (l.getD i ByteArray.empty) with
 | true => rfl
 | false => rw [canE_5 hk] at h; cases h
theorem canE_lt {l : List ByteArray} {i : Nat} (h : canE l i = 0) (h0 : 0 < i) : sLt (l.getD (i - 1) ByteArray.empty) (l.getD i ByteArray.empty) = true := by
 have hk := canE_key h
 cases hs : sLe (l.getD i ByteArray.empty) (l.getD (i - 1) ByteArray.empty) with
 | true => rw [canE_7 hk h0 hs] at h; cases h
 | false => exact sLt_of_not hs
theorem can_sort {l : List ByteArray} (h : ∀ j, j < l.length → canE l j = 0) : SortS l := by
 intro a b hab hb
 induction b with
 | zero => omega
 | succ b ih =>
  have h1 := canE_lt (h (b + 1) hb) (by omega)
  simp only [Nat.add_sub_cancel] at h1
  by_cases e : a = b
  ·subst e; exact h1
  ·exact sLt_trans (ih (by omega) (by omega)) h1
theorem sort_nodup {l : List ByteArray} (h : SortS l) : l.Nodup := by
 rw [List.Nodup, List.pairwise_iff_getElem]
 intro i j hi hj hij e
 have := h i j hij hj
 simp only [List.getD_eq_getElem?_getD, List.getElem?_eq_getElem hi, List.getElem?_eq_getElem hj, Option.getD_some, e] at this
 rw [sLt_irr] at this; cases this
theorem getD_mem {l : List ByteArray} {x : ByteArray} (h : x ∈ l) : ∃ j, j < l.length ∧ l.getD j ByteArray.empty = x := by
 obtain ⟨j, hj, rfl⟩ := List.mem_iff_getElem.1 h
 exact ⟨j, hj, by simp [hj]⟩
structure RightP (n : Nat) (l : List ByteArray) : Prop where
 len : l.length ≤ n
 can : ∀ j, j < l.length → canE l j = 0
theorem RightP.of {n : Int} {m : Nat} (hn : n = m) {p : List (List ByteArray)} (h : partsF n p = 0) {q : Nat} (hq : q < p.length) : RightP m (p.getD q default) := by
 obtain ⟨_, _, h3⟩ := partsF_zero h
 obtain ⟨k1, k2⟩ := partE_zero (h3 q hq)
 exact ⟨by omega, k2⟩
theorem RightP.nil (n : Nat) : RightP n [] := ⟨by simp, fun j hj => by simp at hj⟩
section
variable {n : Nat} {l s : List ByteArray}
theorem RightP.keys (h : RightP n l) : ∀ x ∈ l, 1 ≤ x.size ∧ x.size ≤ 40 := fun x hx => by
 obtain ⟨j, hj, rfl⟩ := getD_mem hx
 exact keyF_size (canE_key (h.can j hj))
theorem setup_once (h : setupF s = 0) : ∀ i j, i < j → j < s.length → s.getD i ByteArray.empty = s.getD j ByteArray.empty → s.getD j ByteArray.empty = ε := fun i j hij hj e => by
 have h0 := setupF_zero h j hj
 cases he : sEq (s.getD j ByteArray.empty) ε with
 | true => exact sEq_eq.1 he
 | false =>
  exfalso
  cases hk : keyF (s.getD j ByteArray.empty) with
  | false => rw [setupE_5 he hk] at h0; cases h0
  | true =>
   have hh : has (s.take j) (s.getD j ByteArray.empty) = true := by
    rw [has_iff, ← e]
    have hi : i < (s.take j).length := by simp; omega
    have : (s.take j)[i] = s.getD i ByteArray.empty := by simp [show i < s.length by omega]
    rw [← this]; exact List.getElem_mem hi
   rw [setupE_6 he hk hh] at h0; cases h0
theorem setup_size (h : setupF s = 0) : ∀ x ∈ s, x.size ≤ 40 := fun x hx => by
 obtain ⟨j, hj, rfl⟩ := getD_mem hx
 have h0 := setupF_zero h j hj
 cases he : sEq (s.getD j ByteArray.empty) ε with
 | true => rw [sEq_eq.1 he]; decide
 | false =>
  cases hk : keyF (s.getD j ByteArray.empty) with
  | false => rw [setupE_5 he hk] at h0; cases h0
  | true => exact (keyF_size hk).2
theorem RightP.fits (h : RightP s.length l) (ho : ∀ i j, i < j → j < s.length → s.getD i ByteArray.empty = s.getD j ByteArray.empty → s.getD j ByteArray.empty = ε) : Fits s l :=
 ⟨ho, h.len, fun x hx e => by have := h.keys x hx; rw [e] at this; exact absurd this.1 (by decide), sort_nodup (can_sort h.can)⟩
end
structure Good' (s : List ByteArray) : Prop where
 pos : 0 < s.length
 len : s.length ≤ 100
 once : ∀ i j, i < j → j < s.length → s.getD i ByteArray.empty = s.getD j ByteArray.empty → s.getD j ByteArray.empty = ε
 size : ∀ x ∈ s, x.size ≤ 40
theorem Good'.of {s : List ByteArray} (h : setupF s = 0) : Good' s := ⟨(setupF_len h).1, (setupF_len h).2, setup_once h, setup_size h⟩
theorem Good'.next {s l : List ByteArray} (h : Good' s) (hl : RightP s.length l) (later : List (List ByteArray)) (q : Nat) (hq : q ≤ (missF s l).length) : Good' (nextL l later s ((missF s l).take q)) := by
 have hf := hl.fits h.once
 have hn := nextL_fits (later := later) hf (missF_nodup hf.pnd) (fun x hx => (missF_mem.1 hx).2) q hq
 refine ⟨by rw [nextL_len]; exact h.pos, by rw [nextL_len]; exact h.len, hn.once, fun x hx => ?_⟩
 rcases nextL_mem _ _ _ hx with h1 | h1
 ·exact h.size x h1
 ·exact (hl.keys x (missF_mem.1 (List.mem_of_mem_take h1)).1).2
end Go.Proofs.YtdnlhdilpdeecaaGreatDoor
namespace Go.Proofs.YtdnlhdilpdeecaaGreatDoor
open Go.RowKit
set_option linter.unusedVariables false
set_option linter.unusedSimpArgs false
theorem SmSS.drop {p : List (List ByteArray)} (h : SmSS p) (k : Nat) : SmSS (p.drop k) := ⟨by have := h.1; simp; omega, fun i => by
 have : (p.drop k).getD i default = p.getD (k + i) default := by simp [List.getD_eq_getElem?_getD]
 rw [this]; exact h.2 _⟩
theorem SmSS.take {p : List (List ByteArray)} (h : SmSS p) (k : Nat) : SmSS (p.take k) := ⟨by have := h.1; simp; omega, fun i => by
 by_cases hi : i < k
 ·have : (p.take k).getD i default = p.getD i default := by simp [List.getD_eq_getElem?_getD, List.getElem?_take, hi]
  rw [this]; exact h.2 _
 ·have : (p.take k).getD i default = default := by simp [List.getD_eq_getElem?_getD, List.getElem?_take, hi]
  rw [this]; exact SmS.nil⟩
end Go.Proofs.YtdnlhdilpdeecaaGreatDoor
namespace Go.Proofs.YtdnlhdilpdeecaaGreatDoor
open Go.RowKit
set_option linter.unusedVariables false
set_option linter.unusedSimpArgs false

section
variable {P : Program} {α : Type} [Enc α]

end

theorem Own.set {w : World} {lo e g n cap : Nat} {xs : List Int} (h : Own w lo e (.slice (some ⟨g, 0, none⟩) n cap) xs) (i : Nat) (hi : i < xs.length) (x : Int) :
  Own (w.setCell ⟨g, i, none⟩ (.int .i64 x)) lo e (.slice (some ⟨g, 0, none⟩) n cap) (xs.set i x) := by
 obtain ⟨cs, h1, h2⟩ := h
 obtain ⟨h3, h4⟩ := h1
 rcases h4 with ⟨hv, _⟩ | ⟨g', cap', cur, hv, hb, hg, hc, hm, hs, ht⟩
 ·cases hv
 ·cases hv
  refine ⟨cs.set i (.int .i64 x), ⟨by simpa using h3, .inr ⟨g, cap, cur.setIfInBounds i (.int .i64 x), by simp, hb, ?_, by simpa using hc, hm, by simpa using hs, ?_⟩⟩, fun j hj => ?_⟩
  ·simp [World.setCell, Array.getElem?_modify, hg]
  ·rw [← ht]; simp [List.take_set]
  ·simp at hj
   have := h2 j hj
   simp only [Enc.Is, Enc.sz, Nat.mul_one, Nat.add_zero] at this ⊢ h3
   rw [List.getElem?_set, List.getElem_set]
   by_cases hij : i = j
   ·subst hij; simp; omega
   ·simp [hij, this]

end Go.Proofs.YtdnlhdilpdeecaaGreatDoor
namespace Go.Proofs.YtdnlhdilpdeecaaGreatDoor
open Go.RowKit
set_option linter.unusedVariables false
set_option linter.unusedSimpArgs false

structure Mat {α : Type} [Enc α] (w : World) (lo g n : Nat) (eo ei : TypeId) (V : Nat → Value) (R : Nat → List α) : Prop where
 low : lo ≤ g
 ex : ∃ cur, w.heap[g]? = some (.cells cur eo (0, 0)) ∧ cur.size = n ∧ ∀ k, k < n → cur[k]? = some (V k)
 own : ∀ k, k < n → Own w lo ei (V k) (R k)
 out : ∀ k, k < n → (V k).ownBlock ≠ some g
 sep : ∀ j k, j < n → k < n → j ≠ k → ∀ q, (V j).ownBlock = some q → (V k).ownBlock ≠ some q

namespace Mat
variable {α : Type} [Enc α] {w w' : World} {lo g n : Nat} {eo ei : TypeId} {V : Nat → Value} {R R' : Nat → List α}
theorem lt (h : Mat w lo g n eo ei V R) : g < w.heap.size := by obtain ⟨cur, h1, _⟩ := h.ex; exact (Array.getElem?_eq_some_iff.1 h1).1
theorem start (w : World) (lo n : Nat) (eo ei : TypeId) (hlo : lo ≤ w.heap.size) : Mat (α := α) (w.alloc (.cells (Array.replicate n (.slice none 0 0)) eo)) lo w.heap.size n eo ei (fun _ => .slice none 0 0) (fun _ => []) :=
 ⟨hlo, ⟨_, heap_alloc_new w _, by simp, fun k hk => by simp [hk]⟩, fun k hk => Own.nil _ _ _, fun k hk => by simp [Value.ownBlock], fun j k _ _ _ q h => by simp [Value.ownBlock] at h⟩
theorem congr (h : Mat w lo g n eo ei V R) (e : ∀ k, k < n → R k = R' k) : Mat w lo g n eo ei V R' :=
 ⟨h.low, h.ex, fun k hk => e k hk ▸ h.own k hk, h.out, h.sep⟩
theorem keep {S : Nat → Prop} (h : Mat w lo g n eo ei V R) (c : Chg S w w') (hs : ∀ k, lo ≤ k → k < w.heap.size → ¬ S k) : Mat w' lo g n eo ei V R := by
 obtain ⟨cur, h1, h2, h3⟩ := h.ex
 exact ⟨h.low, ⟨cur, (c.block g h.lt (hs g h.low h.lt)).trans h1, h2, h3⟩, fun k hk => (h.own k hk).keep c hs, h.out, h.sep⟩
theorem cell (h : Mat w lo g n eo ei V R) (k : Nat) (hk : k < n) : w.cell? ⟨g, k, none⟩ = some (V k) := by
 obtain ⟨cur, h1, h2, h3⟩ := h.ex
 simp [World.cell?, h1, h3 k hk]
theorem step [Flat α] (h : Mat w lo g n eo ei V R) (k : Nat) (hk : k < n) (v' : Value) (xs : List α) (ho : Own w' lo ei v' xs) (c : Chg (blk (V k)) w w')
  (hb : ∀ q, v'.ownBlock = some q → (V k).ownBlock = some q ∨ w.heap.size ≤ q) :
  Mat (w'.setCell ⟨g, k, none⟩ v') lo g n eo ei (fun j => if j = k then v' else V j) (fun j => if j = k then xs else R j) := by
 obtain ⟨cur, h1, h2, h3⟩ := h.ex
 have hg : w'.heap[g]? = some (.cells cur eo (0, 0)) := (c.block g h.lt (h.out k hk)).trans h1
 have hs : Chg (AtB g) w' (w'.setCell ⟨g, k, none⟩ v') := Chg.setAt _ _ _ _
 have hvg : v'.ownBlock ≠ some g := by
  intro e
  rcases hb g e with e | e
  ·exact h.out k hk e
  ·have := h.lt; omega
 refine ⟨h.low, ⟨cur.setIfInBounds k v', ?_, by simpa using h2, ?_⟩, ?_, ?_, ?_⟩
 ·simp [World.setCell, Array.getElem?_modify, hg]
 ·intro j hj
  rw [Array.getElem?_setIfInBounds]
  by_cases hjk : k = j
  ·subst hjk; simp [h2, hk]
  ·rw [if_neg hjk, if_neg (fun e => hjk e.symm)]; exact h3 j hj
 ·intro j hj
  by_cases hjk : j = k
  ·subst hjk
   simp only [if_true]
   exact ho.keepF hs fun q hq x => by unfold AtB at x; subst x; exact hvg hq
  ·simp only [if_neg hjk]
   refine ((h.own j hj).keepF c fun q hq x => h.sep j k hj hk hjk q hq x).keepF hs fun q hq x => ?_
   unfold AtB at x; subst x; exact h.out j hj hq
 ·intro j hj
  by_cases hjk : j = k
  ·subst hjk; simpa using hvg
  ·simp only [if_neg hjk]; exact h.out j hj
 ·intro j i hj hi hne q hq
  by_cases hjk : j = k
  ·subst hjk
   simp only [if_true, if_neg (fun e : i = j => hne e.symm)] at hq ⊢
   rcases hb q hq with e | e
   ·exact h.sep j i hk hi hne q e
   ·intro e2
    have := ((h.own i hi).lt q e2).2
    omega
  ·simp only [if_neg hjk] at hq
   by_cases hik : i = k
   ·subst hik
    simp only [if_true]
    intro e
    rcases hb q e with e | e
    ·exact h.sep j i hj hi hjk q hq e
    ·have := ((h.own j hj).lt q hq).2
     omega
   ·simp only [if_neg hik]; exact h.sep j i hj hi hne q hq
end Mat

end Go.Proofs.YtdnlhdilpdeecaaGreatDoor
namespace Go.Proofs.YtdnlhdilpdeecaaGreatDoor
open Go.RowKit
set_option linter.unusedVariables false
set_option linter.unusedSimpArgs false
def rdL : List LookS := [⟨⟨#[98]⟩, ⟨#[99]⟩, 0, 1, true, ⟨#[109]⟩, ⟨#[110]⟩, ⟨#[114]⟩⟩]
theorem one_sz {α : Type} [Inhabited α] {f : α → ByteArray} {x : α} (h : (f x).size ≤ 1000000) (h0 : (f default).size ≤ 1000000) (i : Nat) : (f ([x].getD i default)).size ≤ 1000000 := by
 match i with
 | 0 => exact h
 | i + 1 => exact h0
theorem rdL_sm : SmLk rdL := ⟨by decide, one_sz (f := LookS.board) (by decide) (by decide), one_sz (f := LookS.name) (by decide) (by decide), one_sz (f := LookS.machine) (by decide) (by decide), one_sz (f := LookS.nozzle) (by decide) (by decide), one_sz (f := LookS.reel) (by decide) (by decide)⟩
theorem rdL_ok : millE rdL = 0 := by decide +kernel
theorem rdL_n : (millN rdL).1 = 1000000 := by decide +kernel
end Go.Proofs.YtdnlhdilpdeecaaGreatDoor
namespace Go.Proofs.YtdnlhdilpdeecaaGreatDoor
open Go.RowKit
set_option linter.unusedVariables false
set_option linter.unusedSimpArgs false
set_option maxRecDepth 100000 in
theorem rl_looked   :
  SpecN Tryz.prog 44 [] (fun y => y = avB true) := by
 refine SpecN.of_VCN Tryz.func44 rfl Tryz.ntmps44 (Nle rfl) fun w A hB => ?_
 have hnew : True := trivial
 refine VC.sr ?_
 refine VO.ma rfl rfl rfl rfl ?_
 refine VO.nil ?_
 refine VC.sr ?_
 refine VO.val rfl rfl (OpV.build (pls := #[(0, 1), (1, 1), (2, 1), (3, 1), (4, 1), (5, 1), (6, 1), (7, 1)]) rfl Tryz.zeroValue80 Tryz.underlying80 (fun w => by kernel_rfl) rfl rfl) ?_
 refine VO.op rfl (OpE.buildSlice (zc := #[.string ⟨#[]⟩, .string ⟨#[]⟩, .int .i64 0, .int .i64 0, .bool false, .string ⟨#[]⟩, .string ⟨#[]⟩, .string ⟨#[]⟩]) rfl hB rfl Tryz.underlying54 Tryz.sizeOf80 Tryz.zeroValue80 (by decide) (by decide) (by kernel_rfl) rfl rfl ?_)
 refine VO.le _ (Le.recast (t := 5) (y := avL rdL) rfl (fun w Z u h => Rep.rowL (xs := rdL) rfl h)) ?_
 refine VO.op rfl (OpE.call rfl hB rfl Tryz.call149 rfl (SpecN.spec (inspect_Million rdL_sm)) ?_)
 rintro _ rfl
 refine VO.le _ (Le.recast (t := 6) (y := .tup [.agg [avI 1000000, avI ((millN rdL).2 : Int)], avI 0]) rfl (fun w Z u h => by rw [rdL_n, rdL_ok] at h; exact h)) ?_
 refine VO.mv rfl rfl rfl rfl ?_
 refine VO.val rfl rfl (OpV.extract rfl rfl rfl) ?_
 refine VO.val rfl rfl (OpV.extract rfl rfl rfl) ?_
 refine VO.op rfl (OpE.alloc rfl hB rfl Tryz.zeroValue180 rfl ?_)
 intro g1
 refine VO.op rfl (OpE.store (i := 0) rfl hB rfl Tryz.sizeOf180 rfl rfl rfl rfl rfl rfl (Nle rfl) trivial ?_)
 refine VO.ma rfl rfl rfl rfl ?_
 refine VO.nil ?_
 refine VC.sr ?_
 refine VO.mv rfl rfl rfl rfl ?_
 refine VO.val rfl rfl (OpV.eql rfl rfl rfl) ?_
 refine VO.le _ (Le.boolT (t := 10) rfl (decide_eq_true rfl)) ?_
 refine VO.mv rfl rfl rfl rfl ?_
 refine VO.opY rfl rfl rfl rfl rfl ?_
 refine OpE.val (W := NoB) (OpV.fieldAddrO 0 rfl Tryz.underlying180 rfl rfl Tryz.sizeOf3 rfl) rfl ?_
 refine VO.opY rfl rfl rfl rfl rfl ?_
 refine OpE.val (W := NoB) (OpV.load_own (i := 0) rfl hB Tryz.isAgg3 rfl rfl rfl (fun h => h)) rfl ?_
 refine VO.opY rfl rfl rfl rfl rfl ?_
 refine OpE.val (W := NoB) (OpV.eql rfl rfl rfl) rfl ?_
 refine VO.le _ (Le.boolT (t := 14) rfl (decide_eq_true rfl)) ?_
 refine VO.val rfl rfl (OpV.pickT rfl rfl rfl rfl rfl) ?_
 refine VO.ma rfl rfl rfl rfl ?_
 refine VO.nil ?_
 refine VC.ret ?_
 exact Exists.intro _ (And.intro (RetN.one Tryz.results44 (ResN.v rfl)) (rfl))
set_option maxRecDepth 100000 in
theorem slices_Equal_lk {xs ys : List LookS} (hl : xs.length ≤ 1000000000) (hl' : ys.length ≤ 1000000000) :
  SpecN Tryz.prog 77 [avL xs, avL ys] (fun y => y = avB (eqLs eqLk xs ys)) := by
 refine SpecN.of_VCN Tryz.func77 rfl Tryz.ntmps77 (Nle rfl) fun w A hB => ?_
 have hnew : True := trivial
 refine VC.sr ?_
 refine VO.ma rfl rfl rfl rfl ?_
 refine VO.nil ?_
 refine VC.seq ?_
 refine VC.sr ?_
 refine VO.mv rfl rfl rfl rfl ?_
 refine VO.val rfl rfl (OpV.len_im rfl Tryz.underlying54 rfl) ?_
 refine VO.mv rfl rfl rfl rfl ?_
 refine VO.val rfl rfl (OpV.len_im rfl Tryz.underlying54 rfl) ?_
 refine VO.val rfl rfl (OpV.neq rfl rfl rfl) ?_
 refine VO.nil ?_
 refine VC.cond rfl (fun aH1b => ?_) (fun aH1b => ?_)
 ·have aH1 := aH1b
  try simp only [qqT, qqF, qqN, qqM, qqL, qqE] at aH1
  refine VC.sr ?_
  refine VO.ma rfl rfl rfl rfl ?_
  refine VO.nil ?_
  refine VC.ret ?_
  exact Exists.intro _ (And.intro (RetN.one Tryz.results77 (ResN.v rfl)) (by first | rw [eqLs_len (by omega)] | rw [eqLs_at (d := default) (q := q) (by omega) (not_true_false h2b)] | rw [eqLs_all (d := default) (by omega) (fun j hj => hn j (by omega))]))
 ·have aH1 := aH1b
  try simp only [qqT, qqF, qqN, qqM, qqL, qqE] at aH1
  refine VC.skip ?_
  refine VC.seq ?_
  refine VC.sr ?_
  refine VO.mv rfl rfl rfl rfl ?_
  refine VO.val rfl rfl (OpV.len_im rfl Tryz.underlying54 rfl) ?_
  refine VO.mv rfl rfl rfl rfl ?_
  refine VO.nil ?_
  refine VC.block ?_
  refine VC.loopK [(0, _), (1, _), (12, _)] ⟨rfl, rfl, rfl, trivial⟩ ({q : Nat // q ≤ xs.length ∧ ∀ j, j < q → eqLk (xs.getD j default) (ys.getD j default) = true}) (fun (iZ : {q : Nat // q ≤ xs.length ∧ ∀ j, j < q → eqLk (xs.getD j default) (ys.getD j default) = true}) => match iZ with | ⟨q, hq, hn⟩ => [(13, avI (q : Int))]) (fun (iZ : {q : Nat // q ≤ xs.length ∧ ∀ j, j < q → eqLk (xs.getD j default) (ys.getD j default) = true}) => match iZ with | ⟨q, hq, hn⟩ => []) (fun (iZ : {q : Nat // q ≤ xs.length ∧ ∀ j, j < q → eqLk (xs.getD j default) (ys.getD j default) = true}) => match iZ with | ⟨q, hq, hn⟩ => 0) (fun (iZ : {q : Nat // q ≤ xs.length ∧ ∀ j, j < q → eqLk (xs.getD j default) (ys.getD j default) = true}) => match iZ with | ⟨q, hq, hn⟩ => xs.length - q) ⟨0, Nat.zero_le _, fun j hj => absurd hj (Nat.not_lt_zero j)⟩ (Le.mk hB [] ⟨rfl, rfl, rfl, rfl, trivial⟩ rfl rfl (Nat.le_refl _)) ?_
  rintro ⟨q, hq, hn⟩
  show VC _ _ _ _ ⟨[(13, avI (q : Int))] ++ [(0, _), (1, _), (12, _)], [], 0⟩
  refine VC.sr ?_
  refine VO.val rfl rfl (OpV.lss rfl rfl rfl) ?_
  refine VO.nil ?_
  refine VC.seq ?_
  refine VC.cond rfl (fun aH2b => ?_) (fun aH2b => ?_)
  ·have aH2 := aH2b
   try simp only [qqT, qqF, qqN, qqM, qqL, qqE] at aH2
   refine VC.skip ?_
   refine VC.seq ?_
   refine VC.block ?_
   refine VC.sr ?_
   refine VO.mv rfl rfl rfl rfl ?_
   refine VO.ma rfl rfl rfl rfl ?_
   refine VO.nil ?_
   refine VC.seq ?_
   refine VC.draw (fun _ => NoB) hB (by kernel_rfl) ?_
   refine VA.take (i := 0) rfl (by kernel_rfl) (by kernel_rfl) (by kernel_rfl) rfl rfl (OpV.move (.inl rfl) rfl) ?_
   refine VA.take (i := 1) rfl (by kernel_rfl) (by kernel_rfl) (by kernel_rfl) rfl rfl (OpV.move (.inl rfl) rfl) ?_
   refine VA.take (i := 2) rfl (by kernel_rfl) (by kernel_rfl) (by kernel_rfl) rfl rfl (OpV.indexAddr_E rfl Tryz.underlying54 Tryz.sizeOf80 rfl rfl rfl (by omega)) ?_
   refine VA.take (i := 3) rfl (by kernel_rfl) (by kernel_rfl) (by kernel_rfl) rfl rfl (OpV.loadK_at rfl hB OutW.wi0 Tryz.isAgg80 Tryz.sizeOf80 rfl rfl) ?_
   refine VA.take (i := 4) rfl (by kernel_rfl) (by kernel_rfl) (by kernel_rfl) rfl rfl (OpV.move (.inl rfl) rfl) ?_
   refine VA.take (i := 5) rfl (by kernel_rfl) (by kernel_rfl) (by kernel_rfl) rfl rfl (OpV.move (.inl rfl) rfl) ?_
   refine VA.take (i := 6) rfl (by kernel_rfl) (by kernel_rfl) (by kernel_rfl) rfl rfl (OpV.indexAddr_E rfl Tryz.underlying54 Tryz.sizeOf80 rfl rfl rfl (by omega)) ?_
   refine VA.take (i := 7) rfl (by kernel_rfl) (by kernel_rfl) (by kernel_rfl) rfl rfl (OpV.loadK_at rfl hB OutW.wi0 Tryz.isAgg80 Tryz.sizeOf80 rfl rfl) ?_
   refine VA.take (i := 8) rfl (by kernel_rfl) (by kernel_rfl) (by kernel_rfl) rfl rfl (OpV.aneq rfl Tryz.underlying80 (by kernel_rfl) (by kernel_rfl) rfl rfl (EqFs.str Tryz.underlying9 Tryz.isAgg9 rfl (by decide) (EqFs.str Tryz.underlying9 Tryz.isAgg9 rfl (by decide) (EqFs.int Tryz.underlying3 Tryz.isAgg3 rfl (by decide) (EqFs.int Tryz.underlying3 Tryz.isAgg3 rfl (by decide) (EqFs.bool Tryz.underlying4 Tryz.isAgg4 rfl (by decide) (EqFs.str Tryz.underlying9 Tryz.isAgg9 rfl (by decide) (EqFs.str Tryz.underlying9 Tryz.isAgg9 rfl (by decide) (EqFs.str Tryz.underlying9 Tryz.isAgg9 rfl (by decide) (EqFs.nil _)))))))))) ?_
   refine VA.done (by kernel_rfl) ?_
   refine VC.cond rfl (fun h2b => ?_) (fun h2b => ?_)
   ·have h2 := h2b
    try simp only [qqT, qqF, qqN, qqM, qqL, qqE] at h2
    refine VC.sr ?_
    refine VO.ma rfl rfl rfl rfl ?_
    refine VO.nil ?_
    refine VC.ret ?_
    exact Exists.intro _ (And.intro (RetN.one Tryz.results77 (ResN.v rfl)) (by first | rw [eqLs_len (by omega)] | rw [eqLs_at (d := default) (q := q) (by omega) (not_true_false h2b)] | rw [eqLs_all (d := default) (by omega) (fun j hj => hn j (by omega))]))
   ·have h2 := h2b
    try simp only [qqT, qqF, qqN, qqM, qqL, qqE] at h2
    refine VC.skip ?_
    refine VC.region ?_
    refine VO.val rfl rfl (OpV.add rfl rfl rfl (by unfold fits; omega)) ?_
    refine VO.mv rfl rfl rfl rfl ?_
    refine VO.nil ?_
    exact Exists.intro (⟨q + 1, by omega, lt_succ_cases hn (not_false_true h2b)⟩) (And.intro (Le.mk hB [] ⟨rfl, rfl, rfl, rfl, trivial⟩ rfl rfl (Nat.le_refl _)) (by first | omega | (show _ < _; omega) | (simp only []; omega)))
  ·have aH2 := aH2b
   try simp only [qqT, qqF, qqN, qqM, qqL, qqE] at aH2
   refine VC.exit ?_
   refine VC.sr ?_
   refine VO.ma rfl rfl rfl rfl ?_
   refine VO.nil ?_
   refine VC.ret ?_
   exact Exists.intro _ (And.intro (RetN.one Tryz.results77 (ResN.v rfl)) (by first | rw [eqLs_len (by omega)] | rw [eqLs_at (d := default) (q := q) (by omega) (not_true_false h2b)] | rw [eqLs_all (d := default) (by omega) (fun j hj => hn j (by omega))]))
theorem MrgIs.nil {a b l : List LookS} (h : MrgIs a b l) (he : mrgE a b ≠ 0) : l = [] := by
 rcases h with ⟨_, e⟩ | ⟨o, h1, _⟩
 ·exact e
 ·exact absurd h1 he
theorem MrgIs.len {a b l : List LookS} (h : MrgIs a b l) : l.length ≤ a.length + b.length := by
 rcases h with ⟨_, rfl⟩ | ⟨o, _, h2, h3, _⟩
 ·simp
 ·have := mgo_len h2
  rw [h3.length_eq]; simp at this; omega
end Go.Proofs.YtdnlhdilpdeecaaGreatDoor
namespace Go.Proofs.YtdnlhdilpdeecaaGreatDoor
open Go.RowKit
set_option linter.unusedVariables false
set_option linter.unusedSimpArgs false
def splitL (c : UInt8) : List UInt8 → List (List UInt8)
 | [] => [[]]
 | b :: l => if b = c then [] :: splitL c l else match splitL c l with
  | [] => [[b]]
  | h :: t => (b :: h) :: t
theorem splitL_ne (c : UInt8) : ∀ l, splitL c l ≠ []
 | [] => by simp [splitL]
 | b :: l => by
  unfold splitL
  split
  ·simp
  ·split <;> simp
theorem splitL_len (c : UInt8) : ∀ l, (splitL c l).length = Lib.countByte l c + 1
 | [] => by simp [splitL, Lib.countByte]
 | b :: l => by
  have ih := splitL_len c l
  unfold Lib.countByte at *
  rw [splitL]
  split
  ·rename_i h; subst h; rw [List.length_cons, ih]; simp
  ·rename_i h
   rw [List.count_cons_of_ne (by simpa using h)]
   have hne := splitL_ne c l
   split
   ·rename_i e; exact absurd e hne
   ·rename_i h' t e; rw [e] at ih; simpa using ih
theorem index_none {c : UInt8} : ∀ {l : List UInt8}, Lib.indexByte l c < 0 → splitL c l = [l]
 | [], _ => rfl
 | b :: l, h => by
  unfold Lib.indexByte at h
  by_cases hb : b = c
  ·subst hb; simp at h
  ·have hb' : (b == c) = false := by simpa using hb
   rw [hb'] at h
   have hge := Lib.indexByte_ge l c
   have h1 : Lib.indexByte l c < 0 := by
    by_cases e : Lib.indexByte l c = -1
    ·omega
    ·have : (Lib.indexByte l c == -1) = false := by simpa using e
     rw [this] at h
     simp at h
     omega
   rw [splitL, if_neg hb, index_none h1]
theorem index_some {c : UInt8} : ∀ {l : List UInt8} {m : Nat}, Lib.indexByte l c = m → m < l.length ∧ splitL c l = l.take m :: splitL c (l.drop (m + 1))
 | [], m, h => by simp [Lib.indexByte] at h
 | b :: l, m, h => by
  unfold Lib.indexByte at h
  by_cases hb : b = c
  ·subst hb
   simp at h
   obtain rfl : m = 0 := by omega
   exact ⟨by simp, by simp [splitL]⟩
  ·have hb' : (b == c) = false := by simpa using hb
   rw [hb'] at h
   have hge := Lib.indexByte_ge l c
   by_cases e : Lib.indexByte l c = -1
   ·have e2 : (Lib.indexByte l c == -1) = true := by simpa using e
    rw [e2] at h
    simp at h
   ·have e2 : (Lib.indexByte l c == -1) = false := by simpa using e
    rw [e2] at h
    simp only [Bool.false_eq_true, if_false] at h
    obtain ⟨k, rfl⟩ : ∃ k, m = k + 1 := ⟨m - 1, by omega⟩
    obtain ⟨h1, h2⟩ := index_some (c := c) (l := l) (m := k) (by omega)
    refine ⟨by simp; omega, ?_⟩
    rw [splitL, if_neg hb, h2]
    simp
abbrev byL (p : ByteArray) : List UInt8 := p.data.toList
theorem byL_len (p : ByteArray) : (byL p).length = p.size := lenB p
theorem bytesOf_byL (p : ByteArray) : bytesOf (byL p) = p := by simp [bytesOf, byL]
theorem byL_extract (p : ByteArray) (l h : Nat) : byL (p.extract l h) = ((byL p).drop l).take (h - l) := by
 simp [byL, ByteArray.data_extract, Array.toList_extract, List.extract_eq_take_drop]
def splitS (c : UInt8) (p : ByteArray) : List ByteArray := (splitL c (byL p)).map bytesOf
theorem splitS_len (c : UInt8) (p : ByteArray) : (splitS c p).length = Lib.countByte (byL p) c + 1 := by rw [splitS, List.length_map, splitL_len]
theorem splitS_none {c : UInt8} {p : ByteArray} (h : Lib.indexByte (byL p) c < 0) : splitS c p = [p] := by rw [splitS, index_none h]; simp [bytesOf]
theorem splitS_some {c : UInt8} {p : ByteArray} {m : Nat} (h : Lib.indexByte (byL p) c = m) : m < p.size ∧ splitS c p = p.extract 0 m :: splitS c (p.extract (m + 1) p.size) := by
 obtain ⟨h1, h2⟩ := index_some h
 rw [byL_len] at h1
 refine ⟨h1, ?_⟩
 have e1 : p.extract 0 m = bytesOf ((byL p).take m) := by rw [← bytesOf_byL (p.extract 0 m), byL_extract]; simp
 have e2 : byL (p.extract (m + 1) p.size) = (byL p).drop (m + 1) := by
  rw [byL_extract, List.take_of_length_le (by rw [List.length_drop, byL_len]; omega)]
 rw [splitS, h2, List.map_cons, e1, splitS, e2]
theorem getD_drop {ps : List ByteArray} {i : Nat} {x : ByteArray} {t : List ByteArray} (h : ps.drop i = x :: t) : i < ps.length ∧ ps.getD i ByteArray.empty = x ∧ ps.drop (i + 1) = t := by
 have hi : i < ps.length := by
  have := congrArg List.length h
  rw [List.length_drop, List.length_cons] at this; omega
 rw [List.drop_eq_getElem_cons hi] at h
 obtain ⟨h1, h2⟩ := List.cons.inj h
 exact ⟨hi, by rw [List.getD_eq_getElem?_getD, List.getElem?_eq_getElem hi]; exact h1, h2⟩
theorem split_next {ps : List ByteArray} {c : UInt8} {r : ByteArray} {i m : Nat} (h : ps.drop i = splitS c r) (hm : Lib.indexByte (byL r) c = m) : m < r.size ∧ ps.getD i ByteArray.empty = r.extract 0 m ∧ ps.drop (i + 1) = splitS c (r.extract (m + 1) r.size) := by
 obtain ⟨h1, h2⟩ := splitS_some hm
 rw [h2] at h
 exact ⟨h1, (getD_drop h).2⟩
theorem split_last {ps : List ByteArray} {c : UInt8} {r : ByteArray} {i : Nat} (h : ps.drop i = splitS c r) (hl : ps.length = i + 1) : ps.getD i ByteArray.empty = r := by
 have hn : Lib.indexByte (byL r) c < 0 := by
  by_cases h0 : Lib.indexByte (byL r) c < 0
  ·exact h0
  ·obtain ⟨m, hm⟩ : ∃ m : Nat, Lib.indexByte (byL r) c = m := ⟨_, (Int.toNat_of_nonneg (by omega)).symm⟩
   have h3 := congrArg List.length h
   rw [(splitS_some hm).2, List.length_drop, List.length_cons, splitS_len] at h3
   omega
 rw [splitS_none hn] at h
 exact (getD_drop h).2.1
def partS (ps : List ByteArray) (i : Nat) : List ByteArray := ps.take i ++ List.replicate (ps.length - i) ⟨#[]⟩
theorem partS_len (ps : List ByteArray) {i : Nat} (h : i ≤ ps.length) : (partS ps i).length = ps.length := by simp [partS]; omega
theorem partS_0 (ps : List ByteArray) : partS ps 0 = List.replicate ps.length ⟨#[]⟩ := by simp [partS]
theorem partS_all (ps : List ByteArray) : partS ps ps.length = ps := by simp [partS]
theorem partS_set {ps : List ByteArray} {i : Nat} {x : ByteArray} (h : i < ps.length) (hx : ps.getD i ByteArray.empty = x) : (partS ps i).set i x = partS ps (i + 1) := by
 rw [List.getD_eq_getElem?_getD, List.getElem?_eq_getElem h] at hx
 simp at hx
 unfold partS
 obtain ⟨k, hk⟩ : ∃ k, ps.length - i = k + 1 := ⟨ps.length - i - 1, by omega⟩
 rw [hk, show ps.length - (i + 1) = k by omega, List.replicate_succ, List.take_add_one, List.getElem?_eq_getElem h, List.set_append]
 have hl : (ps.take i).length = i := by simp; omega
 rw [if_neg (by omega), hl, Nat.sub_self]
 simp [hx]
end Go.Proofs.YtdnlhdilpdeecaaGreatDoor
namespace Go.Proofs.YtdnlhdilpdeecaaGreatDoor
open Go.RowKit
set_option linter.unusedVariables false
set_option linter.unusedSimpArgs false
section
variable {P : Program} {s : St'}
theorem ResN.boxS {t i n g cap : Nat} {xs : List ByteArray} {ty : TypeId} {tot : Nat} (h : look s.sl t = some (.v (.slice (some ⟨g, 0, none⟩) n cap))) (hi : s.hp[i]? = some (.box g ⟨strsL xs, ty, tot⟩)) (hn : n = xs.length) (hcap : n ≤ cap) (hm : cap ≤ maxLen) : ResN P s (.tmp t) (avStrs xs) :=
 ResN.box h hi (by show n * 1 ≤ (strsL xs).length; rw [strsL_len]; omega) hcap hm (flat_strs xs) fun w Z u h => Rep.strs hn h
end
theorem strings_Index_S {s : ByteArray} {c : UInt8} : SpecN Tryz.prog 194 [avS s, avS ⟨#[c]⟩] (fun y => y = avI (Lib.indexByte (byL s) c)) := by
 intro w us ha
 rw [argsV2 ha]
 refine (Tryz.strings_Index_one s c w).mono ?_
 rintro e w' ⟨rfl, rfl⟩
 exact ⟨_, _, rfl, rfl, .v _, Chg.refl _ _, trivial⟩
theorem stringslite_Index_S {s : ByteArray} {c : UInt8} : SpecN Tryz.prog 258 [avS s, avS ⟨#[c]⟩] (fun y => y = avI (Lib.indexByte (byL s) c)) := by
 intro w us ha
 rw [argsV2 ha]
 refine (Tryz.stringslite_Index_one s c w).mono ?_
 rintro e w' ⟨rfl, rfl⟩
 exact ⟨_, _, rfl, rfl, .v _, Chg.refl _ _, trivial⟩
theorem strings_Count_S {s : ByteArray} {c : UInt8} : SpecN Tryz.prog 315 [avS s, avS ⟨#[c]⟩] (fun y => y = avI (Lib.countByte (byL s) c : Int)) := by
 intro w us ha
 rw [argsV2 ha]
 refine (Tryz.strings_Count_one s c w).mono ?_
 rintro e w' ⟨rfl, rfl⟩
 exact ⟨_, _, rfl, rfl, .v _, Chg.refl _ _, trivial⟩



set_option maxRecDepth 100000 in
set_option maxHeartbeats 4000000 in
theorem strings_genSplit {s : ByteArray} {c : UInt8} (hs : s.size ≤ 100000000) :
  SpecN Tryz.prog 257 [avS s, avS ⟨#[c]⟩, avI 0, avI (-1)] (fun y => y = avStrs (splitS c s)) := by
 refine SpecN.of_VCN Tryz.func257 rfl Tryz.ntmps257 (Nle rfl) fun w A hB => ?_
 have hnew : True := trivial
 refine VC.seq ?_
 obtain ⟨ps, hps⟩ : ∃ ps, splitS c s = ps := ⟨_, rfl⟩
 have hpl : ps.length = Lib.countByte (byL s) c + 1 := by rw [← hps, splitS_len]
 have hcl : Lib.countByte (byL s) c ≤ s.size := by rw [← byL_len]; exact List.count_le_length
 have hc1 : (⟨#[c]⟩ : ByteArray).size = 1 := rfl
 refine VC.region ?_
 refine VO.ma rfl rfl rfl rfl ?_
 refine VO.nil ?_
 refine VC.seq ?_
 refine VC.sr ?_
 refine VO.mv rfl rfl rfl rfl ?_
 refine VO.val rfl rfl (OpV.eql rfl rfl rfl) ?_
 refine VO.nil ?_
 refine VC.condF rfl rfl ?_
 refine VC.skip ?_
 refine VC.seq ?_
 refine VC.sr ?_
 refine VO.mv rfl rfl rfl rfl ?_
 refine VO.val rfl rfl (OpV.seql rfl rfl rfl) ?_
 refine VO.le _ (Le.recast (t := 15) (y := avB false) rfl (fun w Z u h => by rw [sEq_empty] at h; exact h)) ?_
 refine VO.nil ?_
 refine VC.condF rfl rfl ?_
 refine VC.skip ?_
 refine VC.seq ?_
 refine VC.sr ?_
 refine VO.mv rfl rfl rfl rfl ?_
 refine VO.val rfl rfl (OpV.lss rfl rfl rfl) ?_
 refine VO.nil ?_
 refine VC.condT rfl rfl ?_
 refine VC.region ?_
 refine VO.mv rfl rfl rfl rfl ?_
 refine VO.mv rfl rfl rfl rfl ?_
 refine VO.op rfl (OpE.call rfl hB rfl Tryz.call315 rfl (SpecN.spec (strings_Count_S)) ?_)
 rintro _ rfl
 refine VO.val rfl rfl (OpV.add rfl rfl rfl (by unfold fits; omega)) ?_
 refine VO.ma rfl rfl rfl rfl ?_
 refine VO.nil ?_
 refine VC.sr ?_
 refine VO.mv rfl rfl rfl rfl ?_
 refine VO.mv rfl rfl rfl rfl ?_
 refine VO.val rfl rfl (OpV.len_s rfl Tryz.underlying9 rfl) ?_
 refine VO.val rfl rfl (OpV.add rfl rfl rfl (by unfold fits; omega)) ?_
 refine VO.val rfl rfl (OpV.min2 rfl rfl rfl) ?_
 refine VO.ma rfl rfl rfl rfl ?_
 refine VO.nil ?_
 refine VC.sr ?_
 refine VO.mv rfl rfl rfl rfl ?_
 refine VO.op rfl (OpE.make rfl hB rfl Tryz.underlying29 (infoOf Tryz.t9 1 (by kernel_rfl) rfl rfl) (by decide) rfl rfl (n := ps.length) (by omega) (by omega) (by omega) (made_strs _ _) ?_)
 intro g31
 refine VO.ma rfl rfl rfl rfl ?_
 refine VO.nil ?_
 refine VC.sr ?_
 refine VO.mv rfl rfl rfl rfl ?_
 refine VO.val rfl rfl (OpV.sub rfl rfl rfl (by unfold fits; omega)) ?_
 refine VO.ma rfl rfl rfl rfl ?_
 refine VO.nil ?_
 refine VC.sr ?_
 refine VO.ma rfl rfl rfl rfl ?_
 refine VO.nil ?_
 refine VC.seq ?_
 refine VC.block ?_
 refine VC.loopK [(1, _), (2, _), (3, _), (9, _)] ⟨rfl, rfl, rfl, rfl, trivial⟩ ({z : ByteArray × Nat // z.2 < ps.length ∧ ps.drop z.2 = splitS c z.1 ∧ z.1.size ≤ s.size}) (fun (iZ : {z : ByteArray × Nat // z.2 < ps.length ∧ ps.drop z.2 = splitS c z.1 ∧ z.1.size ≤ s.size}) => match iZ with | ⟨⟨r, i⟩, hi, hr, hrs⟩ => [(0, avS r), (10, avI (i : Int))]) (fun (iZ : {z : ByteArray × Nat // z.2 < ps.length ∧ ps.drop z.2 = splitS c z.1 ∧ z.1.size ≤ s.size}) => match iZ with | ⟨⟨r, i⟩, hi, hr, hrs⟩ => [.box g31 ⟨strsL (partS ps i), 9, (strsL (List.replicate ps.length (⟨#[]⟩ : ByteArray))).length⟩]) (fun (iZ : {z : ByteArray × Nat // z.2 < ps.length ∧ ps.drop z.2 = splitS c z.1 ∧ z.1.size ≤ s.size}) => match iZ with | ⟨⟨r, i⟩, hi, hr, hrs⟩ => 0) (fun (iZ : {z : ByteArray × Nat // z.2 < ps.length ∧ ps.drop z.2 = splitS c z.1 ∧ z.1.size ≤ s.size}) => match iZ with | ⟨⟨r, i⟩, hi, hr, hrs⟩ => ps.length - i) ⟨(s, 0), by show 0 < _; omega, by show ps.drop 0 = splitS c s; rw [hps, List.drop_zero], Nat.le_refl _⟩ (Le.mk hB [0] ⟨rfl, rfl, rfl, rfl, rfl, rfl, trivial⟩ rfl (congrArg (fun z => [Ent.box g31 ⟨strsL z, 9, (strsL (List.replicate ps.length (⟨#[]⟩ : ByteArray))).length⟩]) (partS_0 ps).symm) (Nat.le_refl _)) ?_
 rintro ⟨⟨r, i⟩, hi, hr, hrs⟩
 show VC _ _ _ _ ⟨[(0, avS r), (10, avI (i : Int))] ++ [(1, _), (2, _), (3, _), (9, _)], [.box g31 ⟨strsL (partS ps i), 9, (strsL (List.replicate ps.length (⟨#[]⟩ : ByteArray))).length⟩], 0⟩
 simp only at hi hr hrs
 have hrl : ps.length - i = Lib.countByte (byL r) c + 1 := by rw [← splitS_len, ← hr, List.length_drop]
 refine VC.seq ?_
 refine VC.sr ?_
 refine VO.mv rfl rfl rfl rfl ?_
 refine VO.mv rfl rfl rfl rfl ?_
 refine VO.val rfl rfl (OpV.lss rfl rfl rfl) ?_
 refine VO.nil ?_
 refine VC.cond rfl (fun aH1b => ?_) (fun aH1b => ?_)
 ·have aH1 := aH1b
  try simp only [qqT, qqF, qqN, qqM, qqL, qqE] at aH1
  refine VC.skip ?_
  refine VC.block ?_
  refine VC.sr ?_
  refine VO.mv rfl rfl rfl rfl ?_
  refine VO.mv rfl rfl rfl rfl ?_
  refine VO.op rfl (OpE.call rfl hB rfl Tryz.call194 rfl (SpecN.spec (strings_Index_S)) ?_)
  rintro _ rfl
  refine VO.ma rfl rfl rfl rfl ?_
  refine VO.nil ?_
  refine VC.seq ?_
  refine VC.sr ?_
  refine VO.mv rfl rfl rfl rfl ?_
  refine VO.val rfl rfl (OpV.lss rfl rfl rfl) ?_
  refine VO.nil ?_
  refine VC.cond rfl (fun h4b => ?_) (fun h4b => ?_)
  ·have h4 := h4b
   try simp only [qqT, qqF, qqN, qqM, qqL, qqE] at h4
   exact VC.absurd (by have := splitS_none h4; have h5 := congrArg List.length this; rw [splitS_len, ← hrl] at h5; simp at h5; omega)
  ·have h4 := h4b
   try simp only [qqT, qqF, qqN, qqM, qqL, qqE] at h4
   obtain ⟨m, hm⟩ : ∃ m : Nat, Lib.indexByte (byL r) c = m := ⟨(Lib.indexByte (byL r) c).toNat, by omega⟩
   obtain ⟨hm1, hm3, hr2⟩ := split_next hr hm
   refine VC.skip ?_
   refine VC.sr ?_
   refine VO.mv rfl rfl rfl rfl ?_
   refine VO.mv rfl rfl rfl rfl ?_
   refine VO.mv rfl rfl rfl rfl ?_
   refine VO.mv rfl rfl rfl rfl ?_
   refine VO.mv rfl rfl rfl rfl ?_
   refine VO.val rfl rfl (OpV.add rfl rfl rfl (by unfold fits; omega)) ?_
   refine VO.val rfl rfl (OpV.slice_s (h := m) rfl Tryz.underlying9 rfl rfl ⟨_, _, rfl, by omega⟩ (by omega) (by omega)) ?_
   refine VO.val rfl rfl (OpV.indexAddr_o rfl Tryz.underlying29 Tryz.sizeOf9 rfl rfl rfl (by omega)) ?_
   refine VO.op rfl (OpE.store1 (i := 0) rfl hB rfl Tryz.sizeOf9 rfl rfl rfl rfl rfl rfl (by rw [strsL_len, partS_len _ (by omega)]; exact hi) ((strsL_set _ _ _).trans (congrArg strsL (partS_set hi hm3))) trivial ?_)
   refine VO.nil ?_
   refine VC.sr ?_
   refine VO.mv rfl rfl rfl rfl ?_
   refine VO.mv rfl rfl rfl rfl ?_
   refine VO.mv rfl rfl rfl rfl ?_
   refine VO.val rfl rfl (OpV.len_s rfl Tryz.underlying9 rfl) ?_
   refine VO.val rfl rfl (OpV.add rfl rfl rfl (by unfold fits; omega)) ?_
   refine VO.val rfl rfl (OpV.slice_s (l := m + 1) rfl Tryz.underlying9 rfl ⟨_, _, rfl, by omega⟩ rfl (by omega) (by omega)) ?_
   refine VO.ma rfl rfl rfl rfl ?_
   refine VO.nil ?_
   refine VC.region ?_
   refine VO.mv rfl rfl rfl rfl ?_
   refine VO.val rfl rfl (OpV.add rfl rfl rfl (by unfold fits; omega)) ?_
   refine VO.ma rfl rfl rfl rfl ?_
   refine VO.nil ?_
   exact Exists.intro (⟨(r.extract (m + 1) r.size, i + 1), by show i + 1 < _; omega, hr2, by show (r.extract (m + 1) r.size).size ≤ _; rw [ByteArray.size_extract]; omega⟩) (And.intro (Le.mk hB [0] ⟨rfl, rfl, rfl, rfl, rfl, rfl, trivial⟩ rfl rfl (Nat.le_refl _)) (by first | omega | (show _ < _; omega) | (simp only []; omega)))
 ·have aH1 := aH1b
  try simp only [qqT, qqF, qqN, qqM, qqL, qqE] at aH1
  have hl1 : ps.length = i + 1 := by omega
  have hlast := split_last hr hl1
  refine VC.exit ?_
  refine VC.sr ?_
  refine VO.mv rfl rfl rfl rfl ?_
  refine VO.mv rfl rfl rfl rfl ?_
  refine VO.mv rfl rfl rfl rfl ?_
  refine VO.val rfl rfl (OpV.indexAddr_o rfl Tryz.underlying29 Tryz.sizeOf9 rfl rfl rfl (by omega)) ?_
  refine VO.op rfl (OpE.store1 (i := 0) rfl hB rfl Tryz.sizeOf9 rfl rfl rfl rfl rfl rfl (by rw [strsL_len, partS_len _ (by omega)]; exact hi) ((strsL_set _ _ _).trans (congrArg strsL (partS_set hi hlast))) trivial ?_)
  refine VO.nil ?_
  refine VC.sr ?_
  refine VO.mv rfl rfl rfl rfl ?_
  refine VO.mv rfl rfl rfl rfl ?_
  refine VO.val rfl rfl (OpV.add rfl rfl rfl (by unfold fits; omega)) ?_
  refine VO.val rfl rfl (OpV.slice_own (h := i + 1) rfl Tryz.underlying29 Tryz.sizeOf9 rfl rfl ⟨_, _, rfl, by omega⟩ (by omega) (by omega) (by omega)) ?_
  refine VO.ma rfl rfl rfl rfl ?_
  refine VO.nil ?_
  refine VC.ret ?_
  exact Exists.intro _ (And.intro (RetN.one Tryz.results257 (ResN.boxS (i := 0) (xs := partS ps (i + 1)) rfl rfl (by rw [partS_len _ (by omega)]; omega) (by omega) (capM (by omega)))) (by rw [hps, ← hl1, partS_all]))
end Go.Proofs.YtdnlhdilpdeecaaGreatDoor
namespace Go.Proofs.YtdnlhdilpdeecaaGreatDoor
open Go.RowKit
set_option linter.unusedVariables false
set_option linter.unusedSimpArgs false
theorem rep_sb {w : World} {Z : Nat → Prop} (p : ByteArray) (b : Bool) : Rep w Z (.tup [avS p, avB b]) (.tuple #[.string p, .bool b]) := .tup _ _ rfl fun q hq => by
 match q, hq with
 | 0, _ => exact .v _
 | 1, _ => exact .v _
theorem strings_CutPrefix_S {s p : ByteArray} : SpecN Tryz.prog 297 [avS s, avS p] (fun y => y = .tup [avS (bytesOf (Lib.trimPrefix (byL s) (byL p))), avB (Lib.hasPrefix (byL s) (byL p))]) := by
 intro w us ha
 rw [argsV2 ha]
 refine (Tryz.strings_CutPrefix s p w).mono ?_
 rintro e w' ⟨rfl, rfl⟩
 exact ⟨_, _, rfl, rfl, rep_sb _ _, Chg.refl _ _, trivial⟩
theorem strings_CutSuffix_S {s p : ByteArray} (hs : s.size ≤ 1000000000) : SpecN Tryz.prog 192 [avS s, avS p] (fun y => y = .tup [avS (bytesOf (Lib.trimSuffix (byL s) (byL p))), avB (Lib.hasSuffix (byL s) (byL p))]) := by
 intro w us ha
 rw [argsV2 ha]
 refine (Tryz.strings_CutSuffix s p w (by omega)).mono ?_
 rintro e w' ⟨rfl, rfl⟩
 exact ⟨_, _, rfl, rfl, rep_sb _ _, Chg.refl _ _, trivial⟩
theorem strings_TrimPrefix_S {s p : ByteArray} : SpecN Tryz.prog 240 [avS s, avS p] (fun y => y = avS (bytesOf (Lib.trimPrefix (byL s) (byL p)))) := by
 intro w us ha
 rw [argsV2 ha]
 refine (Tryz.strings_TrimPrefix s p w).mono ?_
 rintro e w' ⟨rfl, rfl⟩
 exact ⟨_, _, rfl, rfl, .v _, Chg.refl _ _, trivial⟩


set_option maxRecDepth 100000 in
theorem strings_Split {s : ByteArray} {c : UInt8} (hs : s.size ≤ 100000000) :
  Spec Tryz.prog 193 [avS s, avS ⟨#[c]⟩] (fun y => y = avStrs (splitS c s)) := by
 refine Spec.of_VC Tryz.func193 rfl Tryz.ntmps193 (Nle rfl) fun w A hB => ?_
 have hnew : True := trivial
 refine VC.sr ?_
 refine VO.ma rfl rfl rfl rfl ?_
 refine VO.nil ?_
 refine VC.sr ?_
 refine VO.mv rfl rfl rfl rfl ?_
 refine VO.mv rfl rfl rfl rfl ?_
 refine VO.op rfl (OpE.call rfl hB rfl Tryz.call257 rfl (SpecN.spec (strings_genSplit hs)) ?_)
 rintro _ rfl
 refine VO.ma rfl rfl rfl rfl ?_
 refine VO.nil ?_
 refine VC.ret ?_
 exact Exists.intro _ (And.intro (RetV.one Tryz.results193 (ResV.tmp rfl)) (rfl))
def wordsB (s : ByteArray) : Bool := (splitS 32 s).all fun x => !sEq x ⟨#[]⟩
def wordsR (s : ByteArray) : List ByteArray := if wordsB s = true then splitS 32 s else []
theorem words_all {s : ByteArray} (h : ∀ j, j < (splitS 32 s).length → sEq ((splitS 32 s).getD j ByteArray.empty) ⟨#[]⟩ = false) : wordsB s = true ∧ wordsR s = splitS 32 s := by
 have h1 : wordsB s = true := by
  unfold wordsB
  rw [List.all_eq_true]
  intro x hx
  obtain ⟨j, hj, rfl⟩ := List.getElem_of_mem hx
  have := h j hj
  rw [List.getD_eq_getElem?_getD, List.getElem?_eq_getElem hj] at this
  simp at this
  simp [this]
 exact ⟨h1, if_pos h1⟩
theorem words_none {s : ByteArray} {q : Nat} (hq : q < (splitS 32 s).length) (h : sEq ((splitS 32 s).getD q ByteArray.empty) ⟨#[]⟩ = true) : wordsB s = false ∧ wordsR s = [] := by
 have h1 : wordsB s = false := by
  unfold wordsB
  rw [List.all_eq_false]
  rw [List.getD_eq_getElem?_getD, List.getElem?_eq_getElem hq] at h
  exact ⟨_, List.getElem_mem hq, by simp at h; simp [h]⟩
 exact ⟨h1, if_neg (by rw [h1]; simp)⟩
set_option maxRecDepth 100000 in
theorem kit_Words {s : ByteArray} (hs : s.size ≤ 100000000) :
  Spec Tryz.prog 232 [avS s] (fun y => y = .tup [avStrs (wordsR s), avB (wordsB s)]) := by
 refine Spec.of_VC Tryz.func232 rfl Tryz.ntmps232 (Nle rfl) fun w A hB => ?_
 have hnew : True := trivial
 refine VC.seq ?_
 have hpl := splitS_len 32 s
 have hcl : Lib.countByte (byL s) 32 ≤ s.size := by rw [← byL_len]; exact List.count_le_length
 refine VC.region ?_
 refine VO.ma rfl rfl rfl rfl ?_
 first | refine VO.le _ (Le.recast (t := 2) (y := avStrs []) rfl (fun w Z u h => by rw [h.eq_v]; exact .nil _ _)) ?_ | skip
 refine VO.ma rfl rfl rfl rfl ?_
 refine VO.nil ?_
 refine VC.sr ?_
 refine VO.mv rfl rfl rfl rfl ?_
 refine VO.op rfl (OpE.call rfl hB rfl Tryz.call193 rfl (strings_Split (c := 32) hs) ?_)
 rintro _ rfl
 refine VO.ma rfl rfl rfl rfl ?_
 refine VO.nil ?_
 refine VC.seq ?_
 refine VC.sr ?_
 refine VO.mv rfl rfl rfl rfl ?_
 refine VO.val rfl rfl (OpV.len_im rfl Tryz.underlying29 rfl) ?_
 refine VO.mv rfl rfl rfl rfl ?_
 refine VO.nil ?_
 refine VC.block ?_
 refine VC.loopK [(4, _), (9, _), (10, _)] ⟨rfl, rfl, rfl, trivial⟩ ({q : Nat // q ≤ (splitS 32 s).length ∧ ∀ j, j < q → sEq ((splitS 32 s).getD j ByteArray.empty) ⟨#[]⟩ = false}) (fun (iZ : {q : Nat // q ≤ (splitS 32 s).length ∧ ∀ j, j < q → sEq ((splitS 32 s).getD j ByteArray.empty) ⟨#[]⟩ = false}) => match iZ with | ⟨q, hq, hn⟩ => [(11, avI (q : Int))]) (fun (iZ : {q : Nat // q ≤ (splitS 32 s).length ∧ ∀ j, j < q → sEq ((splitS 32 s).getD j ByteArray.empty) ⟨#[]⟩ = false}) => match iZ with | ⟨q, hq, hn⟩ => []) (fun (iZ : {q : Nat // q ≤ (splitS 32 s).length ∧ ∀ j, j < q → sEq ((splitS 32 s).getD j ByteArray.empty) ⟨#[]⟩ = false}) => match iZ with | ⟨q, hq, hn⟩ => 0) (fun (iZ : {q : Nat // q ≤ (splitS 32 s).length ∧ ∀ j, j < q → sEq ((splitS 32 s).getD j ByteArray.empty) ⟨#[]⟩ = false}) => match iZ with | ⟨q, hq, hn⟩ => (splitS 32 s).length - q) ⟨0, Nat.zero_le _, fun j hj => absurd hj (Nat.not_lt_zero j)⟩ (Le.mk hB [] ⟨rfl, rfl, rfl, rfl, trivial⟩ rfl rfl (Nat.le_refl _)) ?_
 rintro ⟨q, hq, hn⟩
 show VC _ _ _ _ ⟨[(11, avI (q : Int))] ++ [(4, _), (9, _), (10, _)], [], 0⟩
 refine VC.sr ?_
 refine VO.val rfl rfl (OpV.lss rfl rfl rfl) ?_
 refine VO.nil ?_
 refine VC.seq ?_
 refine VC.cond rfl (fun aH1b => ?_) (fun aH1b => ?_)
 ·have aH1 := aH1b
  try simp only [qqT, qqF, qqN, qqM, qqL, qqE] at aH1
  refine VC.skip ?_
  refine VC.seq ?_
  refine VC.block ?_
  refine VC.sr ?_
  refine VO.val rfl rfl (OpV.indexAddr_1 rfl Tryz.underlying29 Tryz.sizeOf9 rfl rfl rfl (by omega)) ?_
  refine VO.val rfl rfl (OpV.load_at rfl hB OutW.no Tryz.isAgg9 rfl rfl) ?_
  refine VO.ma rfl rfl rfl rfl ?_
  refine VO.nil ?_
  refine VC.sr ?_
  refine VO.mv rfl rfl rfl rfl ?_
  refine VO.val rfl rfl (OpV.seql rfl rfl rfl) ?_
  refine VO.nil ?_
  refine VC.cond rfl (fun h1b => ?_) (fun h1b => ?_)
  ·have h1 := h1b
   try simp only [qqT, qqF, qqN, qqM, qqL, qqE] at h1
   refine VC.sr ?_
   refine VO.ma rfl rfl rfl rfl ?_
   first | refine VO.le _ (Le.recast (t := 2) (y := avStrs []) rfl (fun w Z u h => by rw [h.eq_v]; exact .nil _ _)) ?_ | skip
   refine VO.ma rfl rfl rfl rfl ?_
   refine VO.nil ?_
   refine VC.ret ?_
   exact Exists.intro _ (And.intro (RetV.two Tryz.results232 (ResV.tmp rfl) (ResV.tmp rfl)) (by rw [(words_none (by omega) h1b).1, (words_none (by omega) h1b).2]))
  ·have h1 := h1b
   try simp only [qqT, qqF, qqN, qqM, qqL, qqE] at h1
   refine VC.skip ?_
   refine VC.region ?_
   refine VO.val rfl rfl (OpV.add rfl rfl rfl (by unfold fits; omega)) ?_
   refine VO.mv rfl rfl rfl rfl ?_
   refine VO.nil ?_
   exact Exists.intro (⟨q + 1, by omega, lt_succ_cases hn (h1b)⟩) (And.intro (Le.mk hB [] ⟨rfl, rfl, rfl, rfl, trivial⟩ rfl rfl (Nat.le_refl _)) (by first | omega | (show _ < _; omega) | (simp only []; omega)))
 ·have aH1 := aH1b
  try simp only [qqT, qqF, qqN, qqM, qqL, qqE] at aH1
  refine VC.exit ?_
  refine VC.sr ?_
  refine VO.mv rfl rfl rfl rfl ?_
  refine VO.ma rfl rfl rfl rfl ?_
  first | refine VO.le _ (Le.recast (t := 2) (y := avStrs []) rfl (fun w Z u h => by rw [h.eq_v]; exact .nil _ _)) ?_ | skip
  refine VO.ma rfl rfl rfl rfl ?_
  refine VO.nil ?_
  refine VC.ret ?_
  exact Exists.intro _ (And.intro (RetV.two Tryz.results232 (ResV.tmp rfl) (ResV.tmp rfl)) (by rw [(words_all (fun j hj => hn j (by omega))).1, (words_all (fun j hj => hn j (by omega))).2]))
def endB (s : ByteArray) : Bool := Lib.hasSuffix (byL s) [10]
def linesR (s : ByteArray) : List ByteArray := if sEq s ⟨#[]⟩ = true then [] else splitS 10 (bytesOf (Lib.trimSuffix (byL s) [10]))
def linesE (s : ByteArray) : Bool := if sEq s ⟨#[]⟩ = true then true else endB s
theorem trimSuffix_size (s p : ByteArray) : (bytesOf (Lib.trimSuffix (byL s) (byL p))).size ≤ s.size := by
 rw [← byL_len, ← byL_len]
 show ((Lib.trimSuffix (byL s) (byL p)).toArray.toList).length ≤ _
 unfold Lib.trimSuffix
 split <;> simp
set_option maxRecDepth 100000 in
theorem kit_Lines {s : ByteArray} (hs : s.size ≤ 100000000) :
  Spec Tryz.prog 105 [avS s] (fun y => y = .tup [avStrs (linesR s), avB (linesE s)]) := by
 refine Spec.of_VC Tryz.func105 rfl Tryz.ntmps105 (Nle rfl) fun w A hB => ?_
 have hnew : True := trivial
 refine VC.sr ?_
 refine VO.ma rfl rfl rfl rfl ?_
 first | refine VO.le _ (Le.recast (t := 2) (y := avStrs []) rfl (fun w Z u h => by rw [h.eq_v]; exact .nil _ _)) ?_ | skip
 refine VO.ma rfl rfl rfl rfl ?_
 refine VO.nil ?_
 refine VC.seq ?_
 refine VC.sr ?_
 refine VO.mv rfl rfl rfl rfl ?_
 refine VO.val rfl rfl (OpV.seql rfl rfl rfl) ?_
 refine VO.nil ?_
 refine VC.cond rfl (fun h0b => ?_) (fun h0b => ?_)
 ·have h0 := h0b
  try simp only [qqT, qqF, qqN, qqM, qqL, qqE] at h0
  refine VC.sr ?_
  refine VO.ma rfl rfl rfl rfl ?_
  first | refine VO.le _ (Le.recast (t := 2) (y := avStrs []) rfl (fun w Z u h => by rw [h.eq_v]; exact .nil _ _)) ?_ | skip
  refine VO.ma rfl rfl rfl rfl ?_
  refine VO.nil ?_
  refine VC.ret ?_
  exact Exists.intro _ (And.intro (RetV.two Tryz.results105 (ResV.tmp rfl) (ResV.tmp rfl)) (by rw [linesR, linesE, if_pos h0, if_pos h0]))
 ·have h0 := h0b
  try simp only [qqT, qqF, qqN, qqM, qqL, qqE] at h0
  refine VC.skip ?_
  refine VC.sr ?_
  refine VO.mv rfl rfl rfl rfl ?_
  refine VO.op rfl (OpE.call rfl hB rfl Tryz.call192 rfl (SpecN.spec (strings_CutSuffix_S (p := ⟨#[10]⟩) (by omega))) ?_)
  rintro _ rfl
  refine VO.mv rfl rfl rfl rfl ?_
  refine VO.val rfl rfl (OpV.extract rfl rfl rfl) ?_
  refine VO.val rfl rfl (OpV.extract rfl rfl rfl) ?_
  refine VO.ma rfl rfl rfl rfl ?_
  refine VO.ma rfl rfl rfl rfl ?_
  refine VO.nil ?_
  refine VC.sr ?_
  refine VO.mv rfl rfl rfl rfl ?_
  refine VO.op rfl (OpE.call rfl hB rfl Tryz.call193 rfl (strings_Split (c := 10) (Nat.le_trans (trimSuffix_size s ⟨#[10]⟩) hs)) ?_)
  rintro _ rfl
  refine VO.mv rfl rfl rfl rfl ?_
  refine VO.ma rfl rfl rfl rfl ?_
  first | refine VO.le _ (Le.recast (t := 2) (y := avStrs []) rfl (fun w Z u h => by rw [h.eq_v]; exact .nil _ _)) ?_ | skip
  refine VO.ma rfl rfl rfl rfl ?_
  refine VO.nil ?_
  refine VC.ret ?_
  exact Exists.intro _ (And.intro (RetV.two Tryz.results105 (ResV.tmp rfl) (ResV.tmp rfl)) (by rw [linesR, linesE, if_neg (by rw [h0]; simp), if_neg (by rw [h0]; simp)]; rfl))
end Go.Proofs.YtdnlhdilpdeecaaGreatDoor
namespace Go.Proofs.YtdnlhdilpdeecaaGreatDoor
open Go.RowKit
set_option linter.unusedVariables false
set_option linter.unusedSimpArgs false
section
variable {P : Program} {B : Bs} {W : Nat → Prop} {s : St'} {o : Oper}
theorem OpV.inil {x : Operand} {t u : TypeId} (ho : o.op = .binOp .eql t x (.const .nilIface) u) (hu : P.underlying t = some (.interface (P.methodsAt t))) (hx : evO s x = some (.v .nilIface)) : OpV P B W s o (avB true) :=
 OpV.conc (fun a w hr w' hcw => by
  have e := run_eql_nil_nil (P := P) w' t hu
  have e2 : a.eval (.const .nilIface) = .nilIface := rfl
  simp [execOp, ho, hr.evv hx, eqGuard, e2]
  rw [e]
  rfl)
end
theorem strconv_Atoi_S {d : ByteArray} {n : Int} (hl : d.size ≤ 18) (h : Lib.atoi (byL d) = some n) : SpecN Tryz.prog 50 [avS d] (fun y => y = .tup [avI n, .v .nilIface]) := by
 intro w us ha
 rw [args1 ha]
 refine (Tryz.strconv_Atoi d n hl h w).mono ?_
 rintro e w' ⟨rfl, t, rfl⟩
 refine ⟨_, _, rfl, rfl, .tup _ _ rfl fun q hq => ?_, .ofBelowN (Lib.bytesWorld_below w _ t), trivial⟩
 match q, hq with
 | 0, _ => exact .v _
 | 1, _ => exact .v _
abbrev digsB : List UInt8 := [48, 49, 50, 51, 52, 53, 54, 55, 56, 57]
def trimD (d : ByteArray) : ByteArray := ⟨(Lib.trimS (byL d) digsB).toArray⟩
def zerD (d : ByteArray) : Bool := decide ((byL d).getD 0 0 = 48)
def badD (d : ByteArray) (neg : Bool) (most : Int) : Bool := sEq d ⟨#[]⟩ || (decide (most < d.size) || (!sEq (trimD d) ⟨#[]⟩ || (zerD d && (decide ((1 : Int) < d.size) || neg))))
theorem trimD_all {d : ByteArray} (h : sEq (trimD d) ⟨#[]⟩ = true) : (byL d).all (inB digsB) = true := by
 rw [← trimS_all]
 have := sEq_eq.1 h
 have h2 := congrArg (fun p : ByteArray => p.data.toList) this
 simpa [trimD] using h2
theorem dig_val {b : UInt8} (h : inB digsB b = true) : ∃ k, Lib.digitVal b = some k := by
 have hc := inB_contains digsB b
 rw [h] at hc
 have h2 : b ∈ digsB := by simpa using hc.symm
 unfold Lib.digitVal
 simp [digsB] at h2
 rcases h2 with rfl | rfl | rfl | rfl | rfl | rfl | rfl | rfl | rfl | rfl <;> exact ⟨_, rfl⟩
theorem decFrom_all : ∀ {l : List UInt8} (acc : Nat), l.all (inB digsB) = true → ∃ n, Lib.decFrom acc l = some n
 | [], acc, _ => ⟨acc, rfl⟩
 | b :: r, acc, h => by
  rw [List.all_cons, Bool.and_eq_true] at h
  obtain ⟨k, hk⟩ := dig_val h.1
  unfold Lib.decFrom
  rw [hk]
  exact decFrom_all _ h.2
theorem dig_lt {b : UInt8} {k : Nat} (h : Lib.digitVal b = some k) : k ≤ 9 := by
 unfold Lib.digitVal at h
 split at h
 ·injection h with h; omega
 ·cases h
theorem decFrom_lt : ∀ {l : List UInt8} {acc n : Nat}, Lib.decFrom acc l = some n → n < (acc + 1) * 10 ^ l.length
 | [], acc, n, h => by
  unfold Lib.decFrom at h
  injection h with h; subst h; simp
 | b :: r, acc, n, h => by
  unfold Lib.decFrom at h
  cases hk : Lib.digitVal b with
  | none => rw [hk] at h; cases h
  | some k =>
   rw [hk] at h
   have h1 := decFrom_lt (l := r) h
   have h2 := dig_lt hk
   rw [List.length_cons, Nat.pow_succ']
   refine Nat.lt_of_lt_of_le h1 ?_
   rw [← Nat.mul_assoc]
   exact Nat.mul_le_mul_right _ (by omega)
theorem atoi_lt {l : List UInt8} {n : Nat} (h : l.all (inB digsB) = true) (ha : Lib.atoi l = some (n : Int)) (hl : l.length ≤ 18) : n < 10 ^ 18 := by
 cases l with
 | nil => cases ha
 | cons b r =>
  obtain ⟨m, e⟩ := decFrom_all 0 h
  rw [List.all_cons, Bool.and_eq_true] at h
  have hb : b ≠ 45 ∧ b ≠ 43 := by
   have hc := inB_contains digsB b
   rw [h.1] at hc
   constructor <;> (rintro rfl; simp at hc)
  have e1 : (b == 45) = false := by simpa using hb.1
  have e2 : (b == 43) = false := by simpa using hb.2
  simp only [Lib.atoi, e1, e2, Bool.false_eq_true, if_false, Lib.decNat, List.isEmpty_cons, e, Option.map_some, Option.some.injEq, Int.natCast_inj] at ha
  subst ha
  have h1 := decFrom_lt e
  rw [Nat.zero_add, Nat.one_mul] at h1
  exact Nat.lt_of_lt_of_le h1 (Nat.pow_le_pow_right (by decide) hl)
theorem atoi_all {l : List UInt8} (h : l.all (inB digsB) = true) (hn : l ≠ []) : ∃ n : Nat, Lib.atoi l = some (n : Int) := by
 cases l with
 | nil => exact absurd rfl hn
 | cons b r =>
  obtain ⟨n, e⟩ := decFrom_all 0 h
  rw [List.all_cons, Bool.and_eq_true] at h
  have hb : b ≠ 45 ∧ b ≠ 43 := by
   have hc := inB_contains digsB b
   rw [h.1] at hc
   constructor <;> (rintro rfl; simp at hc)
  have e1 : (b == 45) = false := by simpa using hb.1
  have e2 : (b == 43) = false := by simpa using hb.2
  refine ⟨n, ?_⟩
  simp only [Lib.atoi, e1, e2, Bool.false_eq_true, if_false, Lib.decNat, List.isEmpty_cons, e]
  rfl
def dOf (s : ByteArray) : ByteArray := bytesOf (Lib.trimPrefix (byL s) [45])
def negOf (s : ByteArray) : Bool := Lib.hasPrefix (byL s) [45]
def valD (d : ByteArray) : Int := (Lib.atoi (byL d)).getD 0
def numE (s : ByteArray) (most : Int) : Bool := !badD (dOf s) (negOf s) most
def numV (s : ByteArray) (most : Int) : Int := if badD (dOf s) (negOf s) most = true then 0 else if negOf s = true then -valD (dOf s) else valD (dOf s)
theorem dOf_size (s : ByteArray) : (dOf s).size ≤ s.size := by
 rw [← byL_len, ← byL_len]
 show ((Lib.trimPrefix (byL s) [45]).toArray.toList).length ≤ _
 unfold Lib.trimPrefix
 split <;> simp
theorem dig0 {d : ByteArray} (hp : 0 < d.size) : decide ((d[0].toNat : Int) = 48) = decide ((byL d).getD 0 0 = 48) := by
 have h := byteAt hp
 rw [← h]
 congr 1
 refine propext ⟨fun e => ?_, fun e => ?_⟩
 ·rw [e]; rfl
 ·have := congrArg UInt8.toNat e
  simp at this
  omega
theorem bad_ok {d : ByteArray} {neg : Bool} {most : Int} (h : badD d neg most = false) : sEq d ⟨#[]⟩ = false ∧ d.size ≤ most ∧ sEq (trimD d) ⟨#[]⟩ = true := by
 unfold badD at h
 simp only [Bool.or_eq_false_iff, decide_eq_false_iff_not, Bool.not_eq_false', Int.not_lt] at h
 exact ⟨h.1, h.2.1, h.2.2.1⟩
theorem bad_val {d : ByteArray} {neg : Bool} {most : Int} (hm : most ≤ 18) (h : badD d neg most = false) : ∃ n : Nat, Lib.atoi (byL d) = some (n : Int) ∧ valD d = n ∧ n < 1000000000000000000 := by
 obtain ⟨h1, h2, h3⟩ := bad_ok h
 obtain ⟨n, e⟩ := atoi_all (trimD_all h3) (fun e => by
  have := byL_len d
  rw [e] at this
  have hp := pos_of_ne (p := d) h1
  simp at this; omega)
 exact ⟨n, e, by rw [valD, e]; rfl, atoi_lt (trimD_all h3) e (by rw [byL_len]; omega)⟩
set_option maxRecDepth 100000 in
set_option maxHeartbeats 4000000 in
theorem kit_Number {s : ByteArray} {most : Int} (hs : s.size ≤ 100000000) (h0 : 0 ≤ most) (hm : most ≤ 18) :
  SpecN Tryz.prog 239 [avS s, avI most] (fun y => y = .tup [avI (numV s most), avB (numE s most)]) := by
 refine SpecN.of_VCN Tryz.func239 rfl Tryz.ntmps239 (Nle rfl) fun w A hB => ?_
 have hnew : True := trivial
 refine VC.sr ?_
 refine VO.ma rfl rfl rfl rfl ?_
 refine VO.ma rfl rfl rfl rfl ?_
 refine VO.nil ?_
 refine VC.sr ?_
 refine VO.mv rfl rfl rfl rfl ?_
 refine VO.op rfl (OpE.call rfl hB rfl Tryz.call297 rfl (SpecN.spec (strings_CutPrefix_S (p := ⟨#[45]⟩))) ?_)
 rintro _ rfl
 obtain ⟨d, hd⟩ : ∃ d, dOf s = d := ⟨_, rfl⟩
 obtain ⟨neg, hng⟩ : ∃ b, negOf s = b := ⟨_, rfl⟩
 have hds : d.size ≤ s.size := by rw [← hd]; exact dOf_size s
 refine VO.le _ (Le.recast (t := 12) (y := .tup [avS d, avB neg]) rfl (fun w Z u h => by rw [← hd, ← hng]; exact h)) ?_
 refine VO.mv rfl rfl rfl rfl ?_
 refine VO.val rfl rfl (OpV.extract rfl rfl rfl) ?_
 refine VO.val rfl rfl (OpV.extract rfl rfl rfl) ?_
 refine VO.ma rfl rfl rfl rfl ?_
 refine VO.ma rfl rfl rfl rfl ?_
 refine VO.nil ?_
 refine VC.seq ?_
 refine VC.sr ?_
 refine VO.mv rfl rfl rfl rfl ?_
 refine VO.val rfl rfl (OpV.seql rfl rfl rfl) ?_
 refine VO.mv rfl rfl rfl rfl ?_
 refine VO.opG rfl rfl rfl rfl (fun aK1b => ?_) (fun aK1b => ?_)
 ·replace aK1b : _ = false := aK1b
  have aK1 := aK1b
  try simp only [qqT, qqF, qqN, qqM, qqL, qqE] at aK1
  refine OpE.val (W := NoB) (OpV.move (.inl rfl) rfl) rfl ?_
  refine VO.opY rfl rfl rfl rfl aK1b ?_
  refine OpE.val (W := NoB) (OpV.len_s rfl Tryz.underlying9 rfl) rfl ?_
  refine VO.opY rfl rfl rfl rfl aK1b ?_
  refine OpE.val (W := NoB) (OpV.move (.inl rfl) rfl) rfl ?_
  refine VO.opY rfl rfl rfl rfl aK1b ?_
  refine OpE.val (W := NoB) (OpV.gtr rfl rfl rfl) rfl ?_
  refine VO.val rfl rfl (OpV.pickF rfl rfl rfl rfl aK1b) ?_
  refine VO.mv rfl rfl rfl rfl ?_
  refine VO.opG rfl rfl rfl rfl (fun aK2b => ?_) (fun aK2b => ?_)
  ·replace aK2b : _ = false := aK2b
   have aK2 := aK2b
   try simp only [qqT, qqF, qqN, qqM, qqL, qqE] at aK2
   refine OpE.val (W := NoB) (OpV.move (.inl rfl) rfl) rfl ?_
   refine VO.opY rfl rfl rfl rfl aK2b ?_
   refine OpE.call rfl hB rfl Tryz.call243 rfl (SpecN.spec (strings_Trim_S (s := d) (by omega) (by decide) (ascii_of_all (by decide)))) ?_
   rintro _ rfl
   refine VO.le _ (Le.recast (t := 25) (y := avS (trimD d)) rfl (fun w Z u h => h)) ?_
   refine VO.opY rfl rfl rfl rfl aK2b ?_
   refine OpE.val (W := NoB) (OpV.sneq rfl rfl rfl) rfl ?_
   refine VO.val rfl rfl (OpV.pickF rfl rfl rfl rfl aK2b) ?_
   refine VO.mv rfl rfl rfl rfl ?_
   refine VO.opG rfl rfl rfl rfl (fun aK3b => ?_) (fun aK3b => ?_)
   ·replace aK3b : _ = false := aK3b
    have aK3 := aK3b
    try simp only [qqT, qqF, qqN, qqM, qqL, qqE] at aK3
    refine OpE.val (W := NoB) (OpV.move (.inl rfl) rfl) rfl ?_
    refine VO.opY rfl rfl rfl rfl aK3b ?_
    refine OpE.val (W := NoB) (OpV.index_s rfl Tryz.underlying9 rfl rfl (by omega) (by have h := pos_of_ne (p := d) (by assumption); simpa using h)) rfl ?_
    refine VO.opY rfl rfl rfl rfl aK3b ?_
    refine OpE.val (W := NoB) (OpV.eql rfl rfl rfl) rfl ?_
    have hp0 : 0 < d.size := pos_of_ne (p := d) (by assumption)
    refine VO.le _ (Le.recast (t := 31) (y := avB (zerD d)) rfl (fun w Z u h => by rw [zerD, ← dig0 hp0]; exact h)) ?_
    refine VO.opY rfl rfl rfl rfl aK3b ?_
    refine OpE.val (W := NoB) (OpV.move (.inl rfl) rfl) rfl ?_
    refine VO.opG rfl rfl rfl rfl (fun aK4b => ?_) (fun aK4b => ?_)
    ·replace aK4b : _ = true := aK4b
     have aK4 := aK4b
     try simp only [qqT, qqF, qqN, qqM, qqL, qqE] at aK4
     refine OpE.val (W := NoB) (OpV.move (.inl rfl) rfl) rfl ?_
     refine VO.opY rfl rfl rfl rfl aK4b ?_
     refine OpE.val (W := NoB) (OpV.len_s rfl Tryz.underlying9 rfl) rfl ?_
     refine VO.opY rfl rfl rfl rfl aK4b ?_
     refine OpE.val (W := NoB) (OpV.gtr rfl rfl rfl) rfl ?_
     refine VO.opY rfl rfl rfl rfl aK4b ?_
     refine OpE.val (W := NoB) (OpV.move (.inl rfl) rfl) rfl ?_
     refine VO.opG rfl rfl rfl rfl (fun aK5b => ?_) (fun aK5b => ?_)
     ·replace aK5b : _ = false := aK5b
      have aK5 := aK5b
      try simp only [qqT, qqF, qqN, qqM, qqL, qqE] at aK5
      refine OpE.val (W := NoB) (OpV.move (.inl rfl) rfl) rfl ?_
      refine VO.opY rfl rfl rfl rfl aK4b ?_
      refine OpE.val (W := NoB) (OpV.pickF rfl rfl rfl rfl aK5b) rfl ?_
      refine VO.opY rfl rfl rfl rfl aK3b ?_
      refine OpE.val (W := NoB) (OpV.pickT rfl rfl rfl rfl aK4b) rfl ?_
      refine VO.val rfl rfl (OpV.pickF rfl rfl rfl rfl aK3b) ?_
      refine VO.nil ?_
      refine VC.cond rfl (fun aH6b => ?_) (fun aH6b => ?_)
      ·have aH6 := aH6b
       try simp only [qqT, qqF, qqN, qqM, qqL, qqE] at aH6
       have hbad : badD d neg most = true := by simp [badD, *]
       refine VC.sr ?_
       refine VO.ma rfl rfl rfl rfl ?_
       refine VO.ma rfl rfl rfl rfl ?_
       refine VO.nil ?_
       refine VC.ret ?_
       exact Exists.intro _ (And.intro (RetN.two Tryz.results239 (ResN.v rfl) (ResN.v rfl)) (by rw [numV, numE, hd, hng, hbad]; rfl))
      ·have aH6 := aH6b
       try simp only [qqT, qqF, qqN, qqM, qqL, qqE] at aH6
       have hbad : badD d neg most = false := by simp [badD, *]
       obtain ⟨n, hn1, hn2, hn3⟩ := bad_val hm hbad
       have hb3 := bad_ok hbad
       refine VC.skip ?_
       refine VC.sr ?_
       refine VO.mv rfl rfl rfl rfl ?_
       refine VO.op rfl (OpE.call rfl hB rfl Tryz.call50 rfl (SpecN.spec (strconv_Atoi_S (n := (n : Int)) (by omega) hn1)) ?_)
       rintro _ rfl
       refine VO.mv rfl rfl rfl rfl ?_
       refine VO.val rfl rfl (OpV.extract rfl rfl rfl) ?_
       refine VO.val rfl rfl (OpV.extract rfl rfl rfl) ?_
       refine VO.ma rfl rfl rfl rfl ?_
       refine VO.ma rfl rfl rfl rfl ?_
       refine VO.nil ?_
       refine VC.seq ?_
       refine VC.sr ?_
       refine VO.mv rfl rfl rfl rfl ?_
       refine VO.nil ?_
       refine VC.condF rfl aH6b ?_
       refine VC.skip ?_
       refine VC.seq ?_
       refine VC.draw (fun _ => NoB) hB (by kernel_rfl) ?_
       refine VA.take (i := 0) rfl (by kernel_rfl) (by kernel_rfl) (by kernel_rfl) rfl rfl (OpV.move (.inl rfl) rfl) ?_
       refine VA.take (i := 1) rfl (by kernel_rfl) (by kernel_rfl) (by kernel_rfl) rfl rfl (OpV.move (.inl rfl) rfl) ?_
       refine VA.take (i := 2) rfl (by kernel_rfl) (by kernel_rfl) (by kernel_rfl) rfl rfl (OpV.inil rfl (by first | exact Tryz.underlying76 | kernel_rfl) rfl) ?_
       refine VA.take (i := 3) rfl (by kernel_rfl) (by kernel_rfl) (by kernel_rfl) rfl rfl (OpV.move (.inr rfl) rfl) ?_
       refine VA.take (i := 4) rfl (by kernel_rfl) (by kernel_rfl) (by kernel_rfl) rfl rfl (OpV.move (.inr rfl) rfl) ?_
       refine VA.done (by kernel_rfl) ?_
       refine VC.ret ?_
       exact Exists.intro _ (And.intro (RetN.two Tryz.results239 (ResN.v rfl) (ResN.v rfl)) (by first | (rw [numV, numE, hd, hng, hbad, h1, hn2]; rfl) | (rw [numV, numE, hd, hng, hbad, hn2]; simp [*])))
     ·replace aK5b : _ = true := aK5b
      have aK5 := aK5b
      try simp only [qqT, qqF, qqN, qqM, qqL, qqE] at aK5
      refine VO.opY rfl rfl rfl rfl aK4b ?_
      refine OpE.val (W := NoB) (OpV.pickT rfl rfl rfl rfl aK5b) rfl ?_
      refine VO.opY rfl rfl rfl rfl aK3b ?_
      refine OpE.val (W := NoB) (OpV.pickT rfl rfl rfl rfl aK4b) rfl ?_
      refine VO.val rfl rfl (OpV.pickF rfl rfl rfl rfl aK3b) ?_
      refine VO.nil ?_
      refine VC.condT rfl rfl ?_
      have hbad : badD d neg most = true := by simp [badD, *]
      refine VC.sr ?_
      refine VO.ma rfl rfl rfl rfl ?_
      refine VO.ma rfl rfl rfl rfl ?_
      refine VO.nil ?_
      refine VC.ret ?_
      exact Exists.intro _ (And.intro (RetN.two Tryz.results239 (ResN.v rfl) (ResN.v rfl)) (by rw [numV, numE, hd, hng, hbad]; rfl))
    ·replace aK4b : _ = false := aK4b
     have aK4 := aK4b
     try simp only [qqT, qqF, qqN, qqM, qqL, qqE] at aK4
     refine VO.opX rfl rfl rfl rfl aK4b ?_
     refine VO.opX rfl rfl rfl rfl aK4b ?_
     refine VO.opX rfl rfl rfl rfl aK4b ?_
     refine VO.opU rfl rfl rfl rfl ?_
     refine VO.opX rfl rfl rfl rfl aK4b ?_
     refine VO.opY rfl rfl rfl rfl aK3b ?_
     refine OpE.val (W := NoB) (OpV.pickF rfl rfl rfl rfl aK4b) rfl ?_
     refine VO.val rfl rfl (OpV.pickF rfl rfl rfl rfl aK3b) ?_
     refine VO.nil ?_
     refine VC.condF rfl rfl ?_
     have hbad : badD d neg most = false := by simp [badD, *]
     obtain ⟨n, hn1, hn2, hn3⟩ := bad_val hm hbad
     have hb3 := bad_ok hbad
     refine VC.skip ?_
     refine VC.sr ?_
     refine VO.mv rfl rfl rfl rfl ?_
     refine VO.op rfl (OpE.call rfl hB rfl Tryz.call50 rfl (SpecN.spec (strconv_Atoi_S (n := (n : Int)) (by omega) hn1)) ?_)
     rintro _ rfl
     refine VO.mv rfl rfl rfl rfl ?_
     refine VO.val rfl rfl (OpV.extract rfl rfl rfl) ?_
     refine VO.val rfl rfl (OpV.extract rfl rfl rfl) ?_
     refine VO.ma rfl rfl rfl rfl ?_
     refine VO.ma rfl rfl rfl rfl ?_
     refine VO.nil ?_
     refine VC.seq ?_
     refine VC.sr ?_
     refine VO.mv rfl rfl rfl rfl ?_
     refine VO.nil ?_
     refine VC.cond rfl (fun h1b => ?_) (fun h1b => ?_)
     ·have h1 := h1b
      try simp only [qqT, qqF, qqN, qqM, qqL, qqE] at h1
      refine VC.region ?_
      refine VO.mv rfl rfl rfl rfl ?_
      refine VO.val rfl rfl (OpV.neg rfl rfl (by unfold fits; omega)) ?_
      refine VO.ma rfl rfl rfl rfl ?_
      refine VO.nil ?_
      refine VC.seq ?_
      refine VC.draw (fun _ => NoB) hB (by kernel_rfl) ?_
      refine VA.take (i := 0) rfl (by kernel_rfl) (by kernel_rfl) (by kernel_rfl) rfl rfl (OpV.move (.inl rfl) rfl) ?_
      refine VA.take (i := 1) rfl (by kernel_rfl) (by kernel_rfl) (by kernel_rfl) rfl rfl (OpV.move (.inl rfl) rfl) ?_
      refine VA.take (i := 2) rfl (by kernel_rfl) (by kernel_rfl) (by kernel_rfl) rfl rfl (OpV.inil rfl (by first | exact Tryz.underlying76 | kernel_rfl) rfl) ?_
      refine VA.take (i := 3) rfl (by kernel_rfl) (by kernel_rfl) (by kernel_rfl) rfl rfl (OpV.move (.inr rfl) rfl) ?_
      refine VA.take (i := 4) rfl (by kernel_rfl) (by kernel_rfl) (by kernel_rfl) rfl rfl (OpV.move (.inr rfl) rfl) ?_
      refine VA.done (by kernel_rfl) ?_
      refine VC.ret ?_
      exact Exists.intro _ (And.intro (RetN.two Tryz.results239 (ResN.v rfl) (ResN.v rfl)) (by first | (rw [numV, numE, hd, hng, hbad, h1, hn2]; rfl) | (rw [numV, numE, hd, hng, hbad, hn2]; simp [*])))
     ·have h1 := h1b
      try simp only [qqT, qqF, qqN, qqM, qqL, qqE] at h1
      refine VC.skip ?_
      refine VC.seq ?_
      refine VC.draw (fun _ => NoB) hB (by kernel_rfl) ?_
      refine VA.take (i := 0) rfl (by kernel_rfl) (by kernel_rfl) (by kernel_rfl) rfl rfl (OpV.move (.inl rfl) rfl) ?_
      refine VA.take (i := 1) rfl (by kernel_rfl) (by kernel_rfl) (by kernel_rfl) rfl rfl (OpV.move (.inl rfl) rfl) ?_
      refine VA.take (i := 2) rfl (by kernel_rfl) (by kernel_rfl) (by kernel_rfl) rfl rfl (OpV.inil rfl (by first | exact Tryz.underlying76 | kernel_rfl) rfl) ?_
      refine VA.take (i := 3) rfl (by kernel_rfl) (by kernel_rfl) (by kernel_rfl) rfl rfl (OpV.move (.inr rfl) rfl) ?_
      refine VA.take (i := 4) rfl (by kernel_rfl) (by kernel_rfl) (by kernel_rfl) rfl rfl (OpV.move (.inr rfl) rfl) ?_
      refine VA.done (by kernel_rfl) ?_
      refine VC.ret ?_
      exact Exists.intro _ (And.intro (RetN.two Tryz.results239 (ResN.v rfl) (ResN.v rfl)) (by first | (rw [numV, numE, hd, hng, hbad, h1, hn2]; rfl) | (rw [numV, numE, hd, hng, hbad, hn2]; simp [*])))
   ·replace aK3b : _ = true := aK3b
    have aK3 := aK3b
    try simp only [qqT, qqF, qqN, qqM, qqL, qqE] at aK3
    refine VO.opX rfl rfl rfl rfl aK3b ?_
    refine VO.opX rfl rfl rfl rfl aK3b ?_
    refine VO.opX rfl rfl rfl rfl aK3b ?_
    refine VO.opU rfl rfl rfl rfl ?_
    refine VO.opU rfl rfl rfl rfl ?_
    refine VO.opU rfl rfl rfl rfl ?_
    refine VO.opU rfl rfl rfl rfl ?_
    refine VO.opU rfl rfl rfl rfl ?_
    refine VO.opU rfl rfl rfl rfl ?_
    refine VO.opX rfl rfl rfl rfl aK3b ?_
    refine VO.val rfl rfl (OpV.pickT rfl rfl rfl rfl aK3b) ?_
    refine VO.nil ?_
    refine VC.condT rfl rfl ?_
    have hbad : badD d neg most = true := by simp [badD, *]
    refine VC.sr ?_
    refine VO.ma rfl rfl rfl rfl ?_
    refine VO.ma rfl rfl rfl rfl ?_
    refine VO.nil ?_
    refine VC.ret ?_
    exact Exists.intro _ (And.intro (RetN.two Tryz.results239 (ResN.v rfl) (ResN.v rfl)) (by rw [numV, numE, hd, hng, hbad]; rfl))
  ·replace aK2b : _ = true := aK2b
   have aK2 := aK2b
   try simp only [qqT, qqF, qqN, qqM, qqL, qqE] at aK2
   refine VO.opX rfl rfl rfl rfl aK2b ?_
   refine VO.opX rfl rfl rfl rfl aK2b ?_
   refine VO.val rfl rfl (OpV.pickT rfl rfl rfl rfl aK2b) ?_
   refine VO.mv rfl rfl rfl rfl ?_
   refine VO.opX rfl rfl rfl rfl rfl ?_
   refine VO.opX rfl rfl rfl rfl rfl ?_
   refine VO.opX rfl rfl rfl rfl rfl ?_
   refine VO.opX rfl rfl rfl rfl rfl ?_
   refine VO.opU rfl rfl rfl rfl ?_
   refine VO.opU rfl rfl rfl rfl ?_
   refine VO.opU rfl rfl rfl rfl ?_
   refine VO.opU rfl rfl rfl rfl ?_
   refine VO.opU rfl rfl rfl rfl ?_
   refine VO.opU rfl rfl rfl rfl ?_
   refine VO.opX rfl rfl rfl rfl rfl ?_
   refine VO.val rfl rfl (OpV.pickT rfl rfl rfl rfl rfl) ?_
   refine VO.nil ?_
   refine VC.condT rfl rfl ?_
   have hbad : badD d neg most = true := by simp [badD, *]
   refine VC.sr ?_
   refine VO.ma rfl rfl rfl rfl ?_
   refine VO.ma rfl rfl rfl rfl ?_
   refine VO.nil ?_
   refine VC.ret ?_
   exact Exists.intro _ (And.intro (RetN.two Tryz.results239 (ResN.v rfl) (ResN.v rfl)) (by rw [numV, numE, hd, hng, hbad]; rfl))
 ·replace aK1b : _ = true := aK1b
  have aK1 := aK1b
  try simp only [qqT, qqF, qqN, qqM, qqL, qqE] at aK1
  refine VO.opX rfl rfl rfl rfl aK1b ?_
  refine VO.opX rfl rfl rfl rfl aK1b ?_
  refine VO.opX rfl rfl rfl rfl aK1b ?_
  refine VO.val rfl rfl (OpV.pickT rfl rfl rfl rfl aK1b) ?_
  refine VO.mv rfl rfl rfl rfl ?_
  refine VO.opX rfl rfl rfl rfl rfl ?_
  refine VO.opX rfl rfl rfl rfl rfl ?_
  refine VO.opX rfl rfl rfl rfl rfl ?_
  refine VO.val rfl rfl (OpV.pickT rfl rfl rfl rfl rfl) ?_
  refine VO.mv rfl rfl rfl rfl ?_
  refine VO.opX rfl rfl rfl rfl rfl ?_
  refine VO.opX rfl rfl rfl rfl rfl ?_
  refine VO.opX rfl rfl rfl rfl rfl ?_
  refine VO.opX rfl rfl rfl rfl rfl ?_
  refine VO.opU rfl rfl rfl rfl ?_
  refine VO.opU rfl rfl rfl rfl ?_
  refine VO.opU rfl rfl rfl rfl ?_
  refine VO.opU rfl rfl rfl rfl ?_
  refine VO.opU rfl rfl rfl rfl ?_
  refine VO.opU rfl rfl rfl rfl ?_
  refine VO.opX rfl rfl rfl rfl rfl ?_
  refine VO.val rfl rfl (OpV.pickT rfl rfl rfl rfl rfl) ?_
  refine VO.nil ?_
  refine VC.condT rfl rfl ?_
  have hbad : badD d neg most = true := by simp [badD, *]
  refine VC.sr ?_
  refine VO.ma rfl rfl rfl rfl ?_
  refine VO.ma rfl rfl rfl rfl ?_
  refine VO.nil ?_
  refine VC.ret ?_
  exact Exists.intro _ (And.intro (RetN.two Tryz.results239 (ResN.v rfl) (ResN.v rfl)) (by rw [numV, numE, hd, hng, hbad]; rfl))
end Go.Proofs.YtdnlhdilpdeecaaGreatDoor
namespace Go.Proofs.YtdnlhdilpdeecaaGreatDoor
open Go.RowKit
set_option linter.unusedVariables false
set_option linter.unusedSimpArgs false
def SpecW (g : World → Prop) (P : Program) (F : FuncId) (xs : List AV) (G : AV → Prop) : Prop :=
 ∀ (w : World) (A : Nat → Prop) (us : Array Value), g w → Args w A xs us → Calls P F us w (Ret w A NoB (fun _ => True) G)
section
variable {P : Program} {B : Bs} {W : Nat → Prop} {s : St'} {o : Oper} {K : St' → Prop}
theorem OpE.callW {g : World → Prop} {f : FuncId} {args : Array Operand} {ts : Array TypeId} {xs : List AV} {G : AV → Prop} (ho : o.op = .call { callee := .value (.func f), args := args, argTypes := ts }) (hB : B.Ok) (hd : okd B.nt o.dst = true)
  (hcall : ∀ us w, (callFunc f us).run P w = .ok (.enter f us) w) (hxs : evL s args.toList = some xs) (hspec : SpecW g P f xs G) (hG : ∀ {s a w'}, R B s a w' → g w') (hK : ∀ y, G y → K (s.put o.dst y)) : OpE P B W s o K := by
 have hK' : ∀ y, G y → K ((St'.mk s.sl s.hp s.k).put o.dst y) := hK
 refine OpE.callG (str := NoB) (T' := fun w => B.T w s.k) (k' := s.k) (A := Zo B s.hp) (xs := xs) ho hB hd hcall rfl (fun b h => h.elim) (fun w h => h) (fun a w hr => by simpa using evL_args hr hxs) (fun a w us hr ha => ?_) (fun b h => h) hK'
 refine (hspec w _ us (hG hr) ha).mono fun e w' ⟨y, v, h1, h2, h3, h4, h5⟩ => ⟨y, v, h1, h2, h3, h4, hB.keep hr.res h4 fun j _ h => h⟩
theorem SpecW.of_VC {g : World → Prop} {F : FuncId} {fn : Func} {c : Code} (hf : P.funcs[F]? = some fn) (hb : fn.body = some c) {xs : List AV} {G : AV → Prop} {nt : Nat} (hn : fn.ntmps = nt) (hle : xs.length ≤ nt)
  (h : ∀ w A, g w → (B0 w A nt).Ok → VC P (B0 w A nt) c (retQ P fn G) ⟨slots0 0 xs, [], 0⟩) : SpecW g P F xs G := fun w A us hg ha =>
 (calls_of_VC (k := 0) hf hb (B := B0 w A nt) rfl hn.symm ha (fun _ h => h.elim) trivial (by omega) (h w A hg (B0.ok _ _ _))).mono fun e w' ⟨y, v, s, a, h1, h2, h3, h4⟩ =>
  ⟨y, v, h1, h2, h3.keep fun b hb _ => ⟨rfl, hb.1, fun hl => (hb.2.2 hl).1.elim id fun h => h.elim⟩, h4.chg, trivial⟩
end
def TabW (P : Program) (w : World) : Prop := Lib.TabIs P w "internal/strconv.uint64pow10" .u64 Lib.pow10Tab
theorem TabW.keep {P : Program} {S : Nat → Prop} {w w' : World} {g : Nat} (hg : P.globalNamed "internal/strconv.uint64pow10" = some g) (h : TabW P w) (c : Chg S w w') (hS : ¬ S g) : TabW P w' := by
 unfold TabW Lib.TabIs World.var? at *
 rw [hg] at h ⊢
 simp only [Option.bind_some] at h ⊢
 have hlt : g < w.heap.size := by
  by_cases hl : g < w.heap.size
  ·exact hl
  ·rw [Array.getElem?_eq_none (by omega)] at h; cases h
 rw [c.block g hlt hS]
 exact h
theorem TabW.base {P : Program} {w : World} {A : Nat → Prop} {nt g : Nat} (hg : P.globalNamed "internal/strconv.uint64pow10" = some g) (h : TabW P w) : ∀ {s a w'}, R (B0 w A nt) s a w' → TabW P w' := fun hr => h.keep hg hr.chg fun h => h
end Go.Proofs.YtdnlhdilpdeecaaGreatDoor
namespace Go.Proofs.YtdnlhdilpdeecaaGreatDoor
open Go.RowKit
set_option linter.unusedVariables false
set_option linter.unusedSimpArgs false
theorem tab_named : ∃ g, Tryz.prog.globalNamed "internal/strconv.uint64pow10" = some g := Option.isSome_iff_exists.1 (by kernel_rfl)
theorem tab_base {w : World} {A : Nat → Prop} {nt : Nat} (h : TabW Tryz.prog w) : ∀ {s a w'}, R (B0 w A nt) s a w' → TabW Tryz.prog w' := fun hr => by
 obtain ⟨g, hg⟩ := tab_named
 exact h.keep hg hr.chg fun h => h
theorem chg_grow (w : World) (q : Nat) (os : Array Obj) : Chg NoB w (Go.Sort.grow (w.drewN q) os) :=
 ⟨rfl, rfl, rfl, by simp [Go.Sort.grow], fun b hb _ => by simp [Go.Sort.grow, Array.getElem?_append_left hb]⟩
def itoaS (n : Int) : ByteArray := bytesOf (Lib.itoa n)
theorem strconv_Itoa_S {n : Int} (hn : fits n) : SpecW (TabW Tryz.prog) Tryz.prog 130 [avI n] (fun y => y = avS (itoaS n)) := by
 intro w A us hg ha
 rw [args1 ha]
 have h := hn
 unfold fits at h
 refine (Tryz.strconv_Itoa n (by omega) (by omega) w hg).mono ?_
 rintro e w' ⟨rfl, k, os, rfl⟩
 exact ⟨_, _, rfl, rfl, .v _, chg_grow w k os, trivial⟩
end Go.Proofs.YtdnlhdilpdeecaaGreatDoor
namespace Go.Proofs.YtdnlhdilpdeecaaGreatDoor
open Go.RowKit
set_option linter.unusedVariables false
set_option linter.unusedSimpArgs false
theorem dig_is {b : UInt8} {d : Nat} (h : Lib.digitVal b = some d) : b = UInt8.ofNat (48 + d) ∧ d ≤ 9 ∧ (b = 48 ↔ d = 0) := by
 unfold Lib.digitVal at h
 split at h
 ·rename_i hb
  injection h with h
  have e : b = UInt8.ofNat (48 + d) := by
   apply UInt8.toNat_inj.1
   simp
   omega
  refine ⟨e, by omega, fun e => ?_, fun e' => ?_⟩
  ·subst e; simp at h; omega
  ·subst e'; rw [e]; rfl
 ·cases h
theorem decFrom_snoc : ∀ {l : List UInt8} {acc m d : Nat} {b : UInt8}, Lib.decFrom acc l = some m → Lib.digitVal b = some d → Lib.decFrom acc (l ++ [b]) = some (m * 10 + d)
 | [], acc, m, d, b, h, hb => by
  unfold Lib.decFrom at h
  injection h with h; subst h
  simp [Lib.decFrom, hb]
 | x :: l, acc, m, d, b, h, hb => by
  rw [List.cons_append]
  unfold Lib.decFrom at h ⊢
  cases hx : Lib.digitVal x with
  | none => rw [hx] at h; cases h
  | some k => rw [hx] at h; exact decFrom_snoc h hb
theorem decFrom_ge : ∀ {l : List UInt8} {acc m : Nat}, Lib.decFrom acc l = some m → acc ≤ m
 | [], acc, m, h => by
  unfold Lib.decFrom at h
  injection h with h; omega
 | x :: l, acc, m, h => by
  unfold Lib.decFrom at h
  cases hx : Lib.digitVal x with
  | none => rw [hx] at h; cases h
  | some k =>
   rw [hx] at h
   have := decFrom_ge h
   omega
theorem decFrom_pos {l : List UInt8} {n : Nat} (h : Lib.decFrom 0 l = some n) (h0 : l ≠ []) (h1 : l.getD 0 0 ≠ 48) : 1 ≤ n := by
 cases l with
 | nil => exact absurd rfl h0
 | cons x r =>
  unfold Lib.decFrom at h
  cases hx : Lib.digitVal x with
  | none => rw [hx] at h; cases h
  | some k =>
   rw [hx] at h
   have h2 := decFrom_ge h
   have h3 := (dig_is hx).2.2
   simp at h1
   have : k ≠ 0 := fun e => h1 (h3.2 e)
   omega
theorem dd_head : ∀ u, 1 ≤ u → ∃ b r, Lib.decDigits u = b :: r ∧ b ≠ 48 := fun u => by
 induction u using Nat.strongRecOn with
 | _ u ih =>
  intro hu
  by_cases h : u < 10
  ·refine ⟨_, [], Lib.decDigits_one h, fun e => ?_⟩
   have := congrArg UInt8.toNat e
   simp at this
   omega
  ·obtain ⟨b, r, e, hb⟩ := ih (u / 10) (by omega) (by omega)
   rw [Lib.decDigits, dif_neg h, e]
   exact ⟨b, _, rfl, hb⟩
theorem canon_yes : ∀ {k : Nat} {l : List UInt8} {n : Nat}, l.length = k + 1 → Lib.decFrom 0 l = some n → l.all (inB digsB) = true → (l.length = 1 ∨ l.getD 0 0 ≠ 48) → Lib.decDigits n = l
 | 0, l, n, hl, h, ha, hc => by
  match l, hl with
  | [b], _ =>
   rw [List.all_cons, Bool.and_eq_true] at ha
   obtain ⟨d, hd⟩ := dig_val ha.1
   simp [Lib.decFrom, hd] at h
   subst h
   obtain ⟨e, h9, _⟩ := dig_is hd
   rw [Lib.decDigits_one (by omega), e]
 | k + 1, l, n, hl, h, ha, hc => by
  have hne : l ≠ [] := fun e => by rw [e] at hl; simp at hl
  obtain ⟨l', b, rfl⟩ : ∃ l' b, l = l' ++ [b] := ⟨l.dropLast, l.getLast hne, (List.dropLast_concat_getLast hne).symm⟩
  have hl' : l'.length = k + 1 := by simpa using hl
  rw [List.all_append, Bool.and_eq_true] at ha
  have hb := ha.2
  rw [List.all_cons, Bool.and_eq_true] at hb
  obtain ⟨d, hd⟩ := dig_val hb.1
  obtain ⟨m, hm⟩ := decFrom_all 0 ha.1
  have h2 := decFrom_snoc hm hd
  rw [h] at h2
  injection h2 with h2
  have h0 : (l' ++ [b]).getD 0 0 ≠ 48 := hc.resolve_left (by rw [hl]; omega)
  have hn' : l' ≠ [] := fun e => by rw [e] at hl'; simp at hl'
  have h0' : l'.getD 0 0 ≠ 48 := by
   cases l' with
   | nil => exact absurd rfl hn'
   | cons x r => simpa using h0
  have hp := decFrom_pos hm hn' h0'
  obtain ⟨e, h9, _⟩ := dig_is hd
  have ih := canon_yes hl' hm ha.1 (.inr h0')
  rw [Lib.decDigits, dif_neg (by omega), show n / 10 = m by omega, show n % 10 = d by omega, ih, ← e]
theorem canon_no {l : List UInt8} {n : Nat} (h : Lib.decDigits n = l) : l.length = 1 ∨ l.getD 0 0 ≠ 48 := by
 by_cases h0 : n = 0
 ·subst h0; rw [Lib.decDigits_one (by decide)] at h; subst h; exact .inl rfl
 ·obtain ⟨b, r, e, hb⟩ := dd_head n (by omega)
  rw [e] at h; subst h; exact .inr (by simpa using hb)
theorem canon {l : List UInt8} {n : Nat} (hn : l ≠ []) (h : Lib.decFrom 0 l = some n) (ha : l.all (inB digsB) = true) : Lib.decDigits n = l ↔ (l.length = 1 ∨ l.getD 0 0 ≠ 48) :=
 ⟨canon_no, canon_yes (k := l.length - 1) (by have := List.length_pos_iff.2 hn; omega) h ha⟩
end Go.Proofs.YtdnlhdilpdeecaaGreatDoor
namespace Go.Proofs.YtdnlhdilpdeecaaGreatDoor
open Go.RowKit
set_option linter.unusedVariables false
set_option linter.unusedSimpArgs false
theorem neg_yes {s : ByteArray} (h : negOf s = true) : byL s = 45 :: byL (dOf s) := by
 have h1 : Lib.hasPrefix (byL s) [45] = true := h
 have e : byL (dOf s) = (byL s).drop 1 := by
  show (Lib.trimPrefix (byL s) [45]).toArray.toList = _
  simp [Lib.trimPrefix, h1]
 rw [e]
 unfold Lib.hasPrefix at h1
 cases hs : byL s with
 | nil => rw [hs] at h1; cases h1
 | cons b r =>
  rw [hs] at h1
  simp [List.isPrefixOf] at h1
  simp [h1]
theorem neg_no {s : ByteArray} (h : negOf s = false) : dOf s = s := by
 have h1 : Lib.hasPrefix (byL s) [45] = false := h
 rw [dOf, Lib.trimPrefix, h1]
 simp [bytesOf]
def nVal (s : ByteArray) : Int := if negOf s = true then -valD (dOf s) else valD (dOf s)
def badR (d : ByteArray) (most : Int) : Bool := sEq d ⟨#[]⟩ || (decide (most < d.size) || !(byL d).all (inB digsB))
theorem badR_ok {d : ByteArray} {most : Int} (h : badR d most = false) : sEq d ⟨#[]⟩ = false ∧ d.size ≤ most ∧ (byL d).all (inB digsB) = true ∧ byL d ≠ [] := by
 unfold badR at h
 simp only [Bool.or_eq_false_iff, decide_eq_false_iff_not, Bool.not_eq_false', Int.not_lt] at h
 refine ⟨h.1, h.2.1, h.2.2, fun e => ?_⟩
 have := byL_len d
 rw [e] at this
 have hp := pos_of_ne (p := d) h.1
 simp at this; omega
theorem nVal_atoi {s : ByteArray} {most : Int} (hm : most ≤ 17) (h : badR (dOf s) most = false) : ∃ n : Nat, Lib.decFrom 0 (byL (dOf s)) = some n ∧ valD (dOf s) = n ∧ n < 1000000000000000000 ∧ Lib.atoi (byL s) = some (nVal s) ∧ s.size ≤ 18 := by
 obtain ⟨h1, h2, h3, h4⟩ := badR_ok h
 obtain ⟨n, e⟩ := decFrom_all 0 h3
 obtain ⟨n', e1⟩ := atoi_all h3 h4
 have hlt := Lib.decFrom_lt18 e (by rw [byL_len]; omega)
 have hnat : Lib.decNat (byL (dOf s)) = some n := by
  unfold Lib.decNat
  rw [if_neg (by simpa using h4), e]
 have hat : Lib.atoi (byL (dOf s)) = some (n : Int) := by
  cases hl : byL (dOf s) with
  | nil => exact absurd hl h4
  | cons b r =>
   rw [hl] at h3 hnat
   rw [List.all_cons, Bool.and_eq_true] at h3
   have hb : b ≠ 45 ∧ b ≠ 43 := by
    have hc := inB_contains digsB b
    rw [h3.1] at hc
    constructor <;> (rintro rfl; simp at hc)
   have e1 : (b == 45) = false := by simpa using hb.1
   have e2 : (b == 43) = false := by simpa using hb.2
   simp only [Lib.atoi, e1, e2, Bool.false_eq_true, if_false, hnat]
   rfl
 have hv : valD (dOf s) = n := by rw [valD, hat]; rfl
 have hsz := byL_len s
 have hdz := byL_len (dOf s)
 refine ⟨n, e, hv, hlt, ?_, ?_⟩
 ·cases hn : negOf s with
  | true =>
   rw [nVal, if_pos hn, neg_yes hn, hv]
   simp only [Lib.atoi, hnat, BEq.rfl, if_true]
   rfl
  | false =>
   rw [nVal, if_neg (by rw [hn]; simp), hv, ← hat, neg_no hn]
 ·cases hn : negOf s with
  | true => rw [neg_yes hn, List.length_cons] at hsz; omega
  | false => rw [neg_no hn] at h2; omega
def rfE (s : ByteArray) (most : Int) : Bool := !badR (dOf s) most && sEq (itoaS (nVal s)) s
def rfV (s : ByteArray) (most : Int) : Int := if badR (dOf s) most = true then 0 else nVal s
set_option maxRecDepth 100000 in
set_option maxHeartbeats 4000000 in
theorem rf_Number {s : ByteArray} {most : Int} (hs : s.size ≤ 100000000) (h0 : 0 ≤ most) (hm : most ≤ 17) :
  SpecW (TabW Tryz.prog) Tryz.prog 176 [avS s, avI most] (fun y => y = .tup [avI (rfV s most), avB (rfE s most)]) := by
 refine SpecW.of_VC Tryz.func176 rfl Tryz.ntmps176 (Nle rfl) fun w A hgw hB => ?_
 have hG : ∀ {s a w'}, R (B0 w A 38) s a w' → TabW Tryz.prog w' :=  tab_base hgw
 have hnew : True := trivial
 refine VC.sr ?_
 refine VO.ma rfl rfl rfl rfl ?_
 refine VO.ma rfl rfl rfl rfl ?_
 refine VO.nil ?_
 refine VC.sr ?_
 refine VO.mv rfl rfl rfl rfl ?_
 refine VO.op rfl (OpE.call rfl hB rfl Tryz.call240 rfl (SpecN.spec (strings_TrimPrefix_S (p := ⟨#[45]⟩))) ?_)
 rintro _ rfl
 obtain ⟨d, hd⟩ : ∃ d, dOf s = d := ⟨_, rfl⟩
 have hds : d.size ≤ s.size := by rw [← hd]; exact dOf_size s
 refine VO.le _ (Le.recast (t := 10) (y := avS d) rfl (fun w Z u h => by rw [← hd]; exact h)) ?_
 refine VO.ma rfl rfl rfl rfl ?_
 refine VO.nil ?_
 refine VC.seq ?_
 refine VC.sr ?_
 refine VO.mv rfl rfl rfl rfl ?_
 refine VO.val rfl rfl (OpV.seql rfl rfl rfl) ?_
 refine VO.mv rfl rfl rfl rfl ?_
 refine VO.opG rfl rfl rfl rfl (fun aK1b => ?_) (fun aK1b => ?_)
 ·replace aK1b : _ = false := aK1b
  have aK1 := aK1b
  try simp only [qqT, qqF, qqN, qqM, qqL, qqE] at aK1
  refine OpE.val (W := NoB) (OpV.move (.inl rfl) rfl) rfl ?_
  refine VO.opY rfl rfl rfl rfl aK1b ?_
  refine OpE.val (W := NoB) (OpV.len_s rfl Tryz.underlying9 rfl) rfl ?_
  refine VO.opY rfl rfl rfl rfl aK1b ?_
  refine OpE.val (W := NoB) (OpV.move (.inl rfl) rfl) rfl ?_
  refine VO.opY rfl rfl rfl rfl aK1b ?_
  refine OpE.val (W := NoB) (OpV.gtr rfl rfl rfl) rfl ?_
  refine VO.val rfl rfl (OpV.pickF rfl rfl rfl rfl aK1b) ?_
  refine VO.mv rfl rfl rfl rfl ?_
  refine VO.opG rfl rfl rfl rfl (fun aK2b => ?_) (fun aK2b => ?_)
  ·replace aK2b : _ = false := aK2b
   have aK2 := aK2b
   try simp only [qqT, qqF, qqN, qqM, qqL, qqE] at aK2
   refine OpE.val (W := NoB) (OpV.move (.inl rfl) rfl) rfl ?_
   refine VO.opY rfl rfl rfl rfl aK2b ?_
   refine OpE.call rfl hB rfl Tryz.call188 rfl (SpecN.spec (rf_only (p := d) (by omega))) ?_
   rintro _ rfl
   refine VO.le _ (Le.recast (t := 21) (y := avB ((byL d).all (inB digsB))) rfl (fun w Z u h => h)) ?_
   refine VO.opY rfl rfl rfl rfl aK2b ?_
   refine OpE.val (W := NoB) (OpV.not rfl rfl) rfl ?_
   refine VO.val rfl rfl (OpV.pickF rfl rfl rfl rfl aK2b) ?_
   refine VO.nil ?_
   refine VC.cond rfl (fun aH3b => ?_) (fun aH3b => ?_)
   ·have aH3 := aH3b
    try simp only [qqT, qqF, qqN, qqM, qqL, qqE] at aH3
    have hbad : badR d most = true := by simp only [badR, *]; simp
    refine VC.sr ?_
    refine VO.ma rfl rfl rfl rfl ?_
    refine VO.ma rfl rfl rfl rfl ?_
    refine VO.nil ?_
    refine VC.ret ?_
    exact Exists.intro _ (And.intro (RetV.two Tryz.results176 (ResV.tmp rfl) (ResV.tmp rfl)) (by rw [rfV, rfE, hd, hbad]; rfl))
   ·have aH3 := aH3b
    try simp only [qqT, qqF, qqN, qqM, qqL, qqE] at aH3
    have hbad : badR d most = false := by simp only [badR, *]; rfl
    obtain ⟨n, _, hn2, hn3, hat, hsz⟩ := nVal_atoi hm (by rw [hd]; exact hbad)
    have hfit : fits (nVal s) := by unfold fits nVal; split <;> omega
    refine VC.skip ?_
    refine VC.sr ?_
    refine VO.mv rfl rfl rfl rfl ?_
    refine VO.op rfl (OpE.call rfl hB rfl Tryz.call50 rfl (SpecN.spec (strconv_Atoi_S hsz hat)) ?_)
    rintro _ rfl
    refine VO.mv rfl rfl rfl rfl ?_
    refine VO.val rfl rfl (OpV.extract rfl rfl rfl) ?_
    refine VO.val rfl rfl (OpV.extract rfl rfl rfl) ?_
    refine VO.ma rfl rfl rfl rfl ?_
    refine VO.ma rfl rfl rfl rfl ?_
    refine VO.nil ?_
    refine VC.sr ?_
    refine VO.mv rfl rfl rfl rfl ?_
    refine VO.mv rfl rfl rfl rfl ?_
    refine VO.val rfl rfl (OpV.inil rfl (by first | exact Tryz.underlying76 | kernel_rfl) rfl) ?_
    refine VO.mv rfl rfl rfl rfl ?_
    refine VO.opY rfl rfl rfl rfl rfl ?_
    refine OpE.val (W := NoB) (OpV.move (.inl rfl) rfl) rfl ?_
    refine VO.opY rfl rfl rfl rfl rfl ?_
    refine OpE.callW rfl hB rfl Tryz.call130 rfl (strconv_Itoa_S hfit) hG ?_
    rintro _ rfl
    refine VO.opY rfl rfl rfl rfl rfl ?_
    refine OpE.val (W := NoB) (OpV.move (.inl rfl) rfl) rfl ?_
    refine VO.opY rfl rfl rfl rfl rfl ?_
    refine OpE.val (W := NoB) (OpV.seql rfl rfl rfl) rfl ?_
    refine VO.val rfl rfl (OpV.pickT rfl rfl rfl rfl rfl) ?_
    refine VO.ma rfl rfl rfl rfl ?_
    refine VO.ma rfl rfl rfl rfl ?_
    refine VO.nil ?_
    refine VC.ret ?_
    exact Exists.intro _ (And.intro (RetV.two Tryz.results176 (ResV.tmp rfl) (ResV.tmp rfl)) (by rw [rfV, rfE, hd, hbad]; rfl))
  ·replace aK2b : _ = true := aK2b
   have aK2 := aK2b
   try simp only [qqT, qqF, qqN, qqM, qqL, qqE] at aK2
   refine VO.opX rfl rfl rfl rfl aK2b ?_
   refine VO.opX rfl rfl rfl rfl aK2b ?_
   refine VO.val rfl rfl (OpV.pickT rfl rfl rfl rfl aK2b) ?_
   refine VO.nil ?_
   refine VC.condT rfl rfl ?_
   have hbad : badR d most = true := by simp only [badR, *]; simp
   refine VC.sr ?_
   refine VO.ma rfl rfl rfl rfl ?_
   refine VO.ma rfl rfl rfl rfl ?_
   refine VO.nil ?_
   refine VC.ret ?_
   exact Exists.intro _ (And.intro (RetV.two Tryz.results176 (ResV.tmp rfl) (ResV.tmp rfl)) (by rw [rfV, rfE, hd, hbad]; rfl))
 ·replace aK1b : _ = true := aK1b
  have aK1 := aK1b
  try simp only [qqT, qqF, qqN, qqM, qqL, qqE] at aK1
  refine VO.opX rfl rfl rfl rfl aK1b ?_
  refine VO.opX rfl rfl rfl rfl aK1b ?_
  refine VO.opX rfl rfl rfl rfl aK1b ?_
  refine VO.val rfl rfl (OpV.pickT rfl rfl rfl rfl aK1b) ?_
  refine VO.mv rfl rfl rfl rfl ?_
  refine VO.opX rfl rfl rfl rfl rfl ?_
  refine VO.opX rfl rfl rfl rfl rfl ?_
  refine VO.opX rfl rfl rfl rfl rfl ?_
  refine VO.val rfl rfl (OpV.pickT rfl rfl rfl rfl rfl) ?_
  refine VO.nil ?_
  refine VC.condT rfl rfl ?_
  have hbad : badR d most = true := by simp only [badR, *]; simp
  refine VC.sr ?_
  refine VO.ma rfl rfl rfl rfl ?_
  refine VO.ma rfl rfl rfl rfl ?_
  refine VO.nil ?_
  refine VC.ret ?_
  exact Exists.intro _ (And.intro (RetV.two Tryz.results176 (ResV.tmp rfl) (ResV.tmp rfl)) (by rw [rfV, rfE, hd, hbad]; rfl))
end Go.Proofs.YtdnlhdilpdeecaaGreatDoor
namespace Go.Proofs.YtdnlhdilpdeecaaGreatDoor
open Go.RowKit
set_option linter.unusedVariables false
set_option linter.unusedSimpArgs false
theorem trimD_eq (d : ByteArray) : sEq (trimD d) ⟨#[]⟩ = (byL d).all (inB digsB) := by
 cases h : (byL d).all (inB digsB) with
 | true =>
  rw [trimD, (trimS_all _ _).2 h]; exact sEq_eq.2 rfl
 | false =>
  cases h2 : sEq (trimD d) ⟨#[]⟩ with
  | false => rfl
  | true => rw [trimD_all h2] at h; cases h
theorem badD_eq (d : ByteArray) (neg : Bool) (most : Int) : badD d neg most = (badR d most || (zerD d && (decide ((1 : Int) < d.size) || neg))) := by
 unfold badD badR
 rw [trimD_eq]
 simp only [Bool.or_assoc]
theorem sEq_bytes {l : List UInt8} {s : ByteArray} : sEq (bytesOf l) s = decide (l = byL s) := by
 rw [Bool.eq_iff_iff, sEq_eq, decide_eq_true_eq]
 constructor
 ·rintro rfl; simp [bytesOf, byL]
 ·rintro rfl; exact bytesOf_byL s
theorem zerD_iff {d : ByteArray} : zerD d = true ↔ (byL d).getD 0 0 = 48 := by unfold zerD; rw [decide_eq_true_eq]
theorem num_same (s : ByteArray) (most : Int) (hm : most ≤ 17) : numE s most = rfE s most := by
  unfold numE rfE
  rw [badD_eq]
  cases hb : badR (dOf s) most with
  | true => rfl
  | false =>
    obtain ⟨n, e, hv, hlt, _, _⟩ := nVal_atoi hm hb
    obtain ⟨h1, h2, h3, h4⟩ := badR_ok hb
    have hc := canon h4 e h3
    rw [byL_len] at hc
    have hpos : 0 < (dOf s).size := pos_of_ne h1
    simp only [Bool.false_or, Bool.not_false, Bool.true_and]
    rw [itoaS, sEq_bytes]
    cases hn : negOf s with
    | false =>
      have hs : byL s = byL (dOf s) := by rw [neg_no hn]
      rw [nVal, if_neg (by rw [hn]; simp), hv, Lib.itoa_nonneg, hs]
      cases hz : zerD (dOf s) with
      | true =>
        have hz' := zerD_iff.1 hz
        simp only [Bool.true_and, Bool.or_false]
        rw [← decide_not]
        refine decide_eq_decide.2 ?_
        rw [hc]
        constructor
        · intro h; left; omega
        · rintro (h | h)
          · omega
          · exact absurd hz' h
      | false =>
        have hz' : ¬ (byL (dOf s)).getD 0 0 = 48 := fun h => by rw [zerD_iff.2 h] at hz; cases hz
        simp only [Bool.false_and, Bool.not_false]
        exact (decide_eq_true (hc.2 (.inr hz'))).symm
    | true =>
      rw [nVal, if_pos hn, hv, neg_yes hn]
      simp only [Bool.or_true, Bool.and_true]
      by_cases h0 : n = 0
      · subst h0
        have hz : zerD (dOf s) = true := by
          rw [zerD_iff]
          by_cases hh : (byL (dOf s)).getD 0 0 = 48
          · exact hh
          · have := decFrom_pos e h4 hh; omega
        rw [hz]
        symm
        refine decide_eq_false fun h => ?_
        rw [show -((0 : Nat) : Int) = ((0 : Nat) : Int) by rfl, Lib.itoa_nonneg, Lib.decDigits_one (by decide)] at h
        simp at h
      · rw [Lib.itoa_neg n (by omega)]
        cases hz : zerD (dOf s) with
        | true =>
          have hz' := zerD_iff.1 hz
          symm
          refine decide_eq_false fun h => ?_
          injection h with _ h
          rcases hc.1 h with h5 | h5
          · have hl : (byL (dOf s)).length = 1 := by rw [byL_len]; exact h5
            match hd : byL (dOf s), hl with
            | [b], _ =>
              rw [hd] at hz' e
              simp at hz'
              subst hz'
              simp [Lib.decFrom, Lib.digitVal] at e
              omega
          · exact h5 hz'
        | false =>
          have hz' : ¬ (byL (dOf s)).getD 0 0 = 48 := fun h => by rw [zerD_iff.2 h] at hz; cases hz
          symm
          refine decide_eq_true ?_
          rw [hc.2 (.inr hz')]
theorem numV_same (s : ByteArray) (most : Int) (hm : most ≤ 17) (h : numE s most = true) : numV s most = nVal s ∧ rfV s most = nVal s := by
 have h2 := h
 rw [num_same s most hm] at h2
 unfold numE at h
 unfold rfE at h2
 rw [Bool.and_eq_true] at h2
 constructor
 ·rw [numV, if_neg (by simpa using h)]; rfl
 ·rw [rfV, if_neg (by simpa using h2.1)]
end Go.Proofs.YtdnlhdilpdeecaaGreatDoor
namespace Go.Proofs.YtdnlhdilpdeecaaGreatDoor
open Go.RowKit
set_option linter.unusedVariables false
set_option linter.unusedSimpArgs false
set_option maxRecDepth 100000 in
theorem rf_Words {s : ByteArray} (hs : s.size ≤ 100000000) :
  Spec Tryz.prog 163 [avS s] (fun y => y = .tup [avStrs (splitS 32 s), avB (!((splitS 32 s).any fun y => sEq ⟨#[]⟩ y))]) := by
 refine Spec.of_VC Tryz.func163 rfl Tryz.ntmps163 (Nle rfl) fun w A hB => ?_
 have hnew : True := trivial
 refine VC.seq ?_
 have hpl := splitS_len 32 s
 have hcl : Lib.countByte (byL s) 32 ≤ s.size := by rw [← byL_len]; exact List.count_le_length
 refine VC.region ?_
 refine VO.ma rfl rfl rfl rfl ?_
 refine VO.ma rfl rfl rfl rfl ?_
 refine VO.nil ?_
 refine VC.sr ?_
 refine VO.mv rfl rfl rfl rfl ?_
 refine VO.op rfl (OpE.call rfl hB rfl Tryz.call193 rfl (strings_Split (c := 32) hs) ?_)
 rintro _ rfl
 refine VO.ma rfl rfl rfl rfl ?_
 refine VO.nil ?_
 refine VC.sr ?_
 refine VO.mv rfl rfl rfl rfl ?_
 refine VO.mv rfl rfl rfl rfl ?_
 refine VO.op rfl (OpE.call rfl hB rfl Tryz.call49 rfl (SpecN.spec (slices_Contains_str (by omega))) ?_)
 rintro _ rfl
 refine VO.val rfl rfl (OpV.not rfl rfl) ?_
 refine VO.ma rfl rfl rfl rfl ?_
 refine VO.ma rfl rfl rfl rfl ?_
 refine VO.nil ?_
 refine VC.ret ?_
 exact Exists.intro _ (And.intro (RetV.two Tryz.results163 (ResV.tmp rfl) (ResV.tmp rfl)) (rfl))
end Go.Proofs.YtdnlhdilpdeecaaGreatDoor
namespace Go.Proofs.YtdnlhdilpdeecaaGreatDoor
open Go.RowKit
set_option linter.unusedVariables false
set_option linter.unusedSimpArgs false
def joinL (xs : List ByteArray) (sep : ByteArray) : List UInt8 := Lib.join (xs.map (·.data.toList)) sep.data.toList
theorem strings_Join_S {xs : List ByteArray} {sep : ByteArray} (hN : xs.length ≤ 1000000) (hlen : (joinL xs sep).length ≤ 100000000) : SpecN Tryz.prog 187 [avStrs xs, avS sep] (fun y => y = avS (bytesOf (joinL xs sep))) := by
 intro w us ha
 obtain ⟨hsz, hr⟩ := ha
 have h0 : Rep w (fun b => b < w.heap.size ∧ True) (avStrs xs) (us.getD 0 undef) := hr 0 (by simp)
 have h1 : us.getD 1 undef = .string sep := (hr 1 (by simp)).eq_v
 have hus : us = #[us.getD 0 undef, .string sep] := by
  apply Array.ext (by simpa using hsz)
  intro i hi hi'
  simp at hi'
  match i, hi' with
  | 0, _ => simp [Array.getD_eq_getD_getElem?, Array.getElem?_eq_getElem hi]
  | 1, _ =>
   rw [Array.getD_eq_getD_getElem?, Array.getElem?_eq_getElem hi] at h1
   simpa using h1
 generalize us.getD 0 undef = v at h0 hus
 subst hus
 have h2 : Rep w (fun b => b < w.heap.size ∧ True) (.im xs.length 1 fun j => avS (xs.getD j ByteArray.empty)) v := h0
 clear h0 hr hsz h1
 generalize hn : xs.length = n at h2
 cases h2 with
 | nil =>
  have hx : xs = [] := List.length_eq_zero_iff.1 hn
  subst hx
  refine (Tryz.strings_Join_none none 0 sep w).mono ?_
  rintro e w' ⟨rfl, rfl⟩
  exact ⟨_, _, rfl, rfl, .v _, Chg.refl _ _, trivial⟩
 | im n sz f b off cap c e u hZ k1 k2 hb hc hrr =>
  subst hn
  refine (Tryz.strings_Join b off cap xs sep w (fun j x hj => ?_) hZ.1 (by omega) k1 (by unfold joinL at hlen; omega)).mono ?_
  ·have hjl : j < xs.length := (List.getElem?_eq_some_iff.1 hj).1
   have hx := (hrr j (by omega)).eq_v
   have hcj := hc j (by omega)
   rw [hx] at hcj
   have e1 : xs.getD j ByteArray.empty = x := by rw [List.getD_eq_getElem?_getD, hj]; rfl
   simp only [World.cell?, hb]
   rw [← e1]
   exact hcj
  ·rintro e w' ⟨rfl, h⟩
   exact ⟨_, _, rfl, rfl, .v _, .ofBelowN h, trivial⟩
theorem bytesOf_append (l r : List UInt8) : bytesOf l ++ bytesOf r = bytesOf (l ++ r) := by
 apply ByteArray.ext
 simp [bytesOf]
theorem bytesOf_size (l : List UInt8) : (bytesOf l).size = l.length := by rw [← byL_len]; simp [bytesOf, byL]
set_option maxRecDepth 100000 in
theorem kit_Join {xs : List ByteArray} (hN : xs.length ≤ 1000000) (hlen : (joinL xs ⟨#[32]⟩).length ≤ 10000000) :
  SpecN Tryz.prog 94 [avStrs xs] (fun y => y = avS (bytesOf (joinL xs ⟨#[32]⟩ ++ [10]))) := by
 refine SpecN.of_VCN Tryz.func94 rfl Tryz.ntmps94 (Nle rfl) fun w A hB => ?_
 have hnew : True := trivial
 refine VC.seq ?_
 have hz := bytesOf_size (joinL xs ⟨#[32]⟩)
 have hz1 : (⟨#[10]⟩ : ByteArray).size = 1 := rfl
 refine VC.region ?_
 refine VO.ma rfl rfl rfl rfl ?_
 refine VO.nil ?_
 refine VC.sr ?_
 refine VO.mv rfl rfl rfl rfl ?_
 refine VO.op rfl (OpE.call rfl hB rfl Tryz.call187 rfl (SpecN.spec (strings_Join_S (sep := ⟨#[32]⟩) hN (by omega))) ?_)
 rintro _ rfl
 refine VO.val rfl rfl (OpV.sadd rfl rfl rfl (by omega)) ?_
 refine VO.ma rfl rfl rfl rfl ?_
 refine VO.nil ?_
 refine VC.ret ?_
 exact Exists.intro _ (And.intro (RetN.one Tryz.results94 (ResN.v rfl)) (by rw [← bytesOf_append]; rfl))
end Go.Proofs.YtdnlhdilpdeecaaGreatDoor
namespace Go.Proofs.YtdnlhdilpdeecaaGreatDoor
open Go.RowKit
set_option linter.unusedVariables false
set_option linter.unusedSimpArgs false
section
variable {P : Program} {ops : Array Oper} {Q : Act → World → Prop} {md : Region.Mode} {E : Nat → World → World → Prop}
theorem wpAnyE_firstT {S : Nat → Bool} {F : World → World → Prop} (htr : ∀ x y z, F x y → F y z → F x z) (hrf : ∀ x, F x x) {i : Nat} (hEr : ∀ x, E i x x)
  (hEF : ∀ j oj, ops[j]? = some oj → S j = false → ∀ w w', E j w w' → F w w') (hcl : ∀ k, S k = true → k ≠ i → ∃ ok, ops[k]? = some ok ∧ ∃ e ∈ ok.after, Region.binds md e = true ∧ S e.on = true)
  {oi : Oper} {v : Value} (hi : ops[i]? = some oi) (hsel : ∀ (j : Nat) (o : Oper) cs b, ops[j]? = some o → o.op ≠ .select cs b) :
  ∀ (fuel : Nat) (listed : Array Bool) (a : Act) (w : World), (∀ k, S k = true → listed.getD k true = false) →
   (∀ j oj, ops[j]? = some oj → j ≠ i → listed.getD j true = false → (∀ e ∈ oj.after, Region.binds md e = true → e.on ≠ i) → oi.apart ops oj = true) →
   i ∈ Region.ready md ops listed → YieldsE P ops F oi v a w →
   wpAnyE P md ops Q E fuel (listed.setIfInBounds i true) (a.put oi.dst v) w → wpAnyE P md ops Q E (fuel + 1) listed a w := by
 intro fuel
 induction fuel with
 | zero =>
  intro listed a w _ _ hr hy H
  refine ⟨fun h => (by rw [h] at hr; cases hr), fun j hj => ?_⟩
  by_cases hji : j = i
  ·subst hji; exact YieldsIf.wpOp hi hy.iff (hrf w) ⟨hEr w, H⟩
  ·have := ready_mono hj hji
   rw [H.1] at this
   cases this
 | succ fuel ih =>
  intro listed a w hS hfree hr hy H
  refine ⟨fun h => (by rw [h] at hr; cases hr), fun j hj => ?_⟩
  by_cases hji : j = i
  ·subst hji; exact YieldsIf.wpOp hi hy.iff (hrf w) ⟨hEr w, H⟩
  ·have h1 := H.2 j (ready_mono hj hji)
   obtain ⟨hjun, oj, hoj, hall⟩ := mem_ready.1 hj
   have hnot : ∀ e ∈ oj.after, Region.binds md e = true → e.on ≠ i := fun e he hb heq => by
    have h1 := hall e he hb
    have h0 := (mem_ready.1 hr).1
    rw [heq] at h1
    rcases Nat.lt_or_ge i listed.size with h' | h'
    ·simp [h'] at h0 h1; rw [h0] at h1; cases h1
    ·simp [Array.getElem?_eq_none h'] at h1
   have hjS : S j = false := by
    cases hc : S j with
    | false => rfl
    | true =>
     obtain ⟨ok, k1, e, he, hb, k2⟩ := hcl j hc hji
     obtain rfl : oj = ok := Option.some.inj (hoj.symm.trans k1)
     have h1 := hall e he hb
     have h0 := hS e.on k2
     rcases Nat.lt_or_ge e.on listed.size with h' | h'
     ·simp [h'] at h0 h1; rw [h0] at h1; cases h1
     ·simp [Array.getElem?_eq_none h'] at h1
   have h2 := wpOp_putIf (S := F w) hoj (hfree j oj hoj hji hjun hnot) (fun cs b => hsel i oi cs b hi) (fun cs b => hsel j oj cs b hoj) (fun c a w h => h.elim) hy.iff h1
   have hfree' : ∀ k ok, ops[k]? = some ok → k ≠ i → (listed.setIfInBounds j true).getD k true = false →
     (∀ e ∈ ok.after, Region.binds md e = true → e.on ≠ i) → oi.apart ops ok = true := fun k ok hk hki hun hno => by
    refine hfree k ok hk hki ?_ hno
    by_cases hjk : j = k
    ·subst hjk; exact hjun
    ·rw [Go.getD_set_ne true hjk] at hun; exact hun
   have hS' : ∀ k, S k = true → (listed.setIfInBounds j true).getD k true = false := fun k hk => by
    have hjk : j ≠ k := fun e => by rw [e, hk] at hjS; cases hjS
    rw [Go.getD_set_ne true hjk]; exact hS k hk
   refine wpOp_mono (fun a' w' h3 => ⟨h3.2.1, ih (listed.setIfInBounds j true) a' w' hS' hfree' (ready_mono hr (Ne.symm hji)) ?_ ?_⟩) h2
   ·rcases h3.1 with ⟨k1, k2⟩ | k
    ·exact .inl ⟨k1, fun w'' hw'' => k2 w'' (htr _ _ _ (hEF j oj hoj hjS _ _ h3.2.1) hw'')⟩
    ·exact .inr k
   rw [Array.setIfInBounds_comm _ _ hji]
   exact h3.2.2
end
section
variable {P : Program} {B : Bs} {V : Nat → Nat → Prop} {ops : Array Oper} {s : St'} {Q : Exit → St' → Prop} {n : Nat} {L : Array Bool}
def WS (V : Nat → Nat → Prop) (S : List Nat) : Nat → Prop := fun b => ∃ j, S.contains j = false ∧ V j b
def hangB (ops : Array Oper) (S : List Nat) (i : Nat) : Bool := S.all fun k => k == i || match ops[k]? with
 | some o => o.after.any fun e => Region.binds .any e && S.contains e.on
 | none => false
theorem VA.takeT (S : List Nat) {i : Nat} {o : Oper} {x : AV} (hS : hangB ops S i = true) (hL : (S.all fun k => !(L.getD k true)) = true) (hi : ops[i]? = some o) (hs : Region.noSelect ops = true) (hf : Region.free .any ops L i = true) (hr : (Region.ready .any ops L).contains i = true) (hg : o.guard = none) (hd : okd B.nt o.dst = true)
  (hv : OpV P B (WS V S) s o x) (h : VA P B V ops Q n (L.setIfInBounds i true) (s.put o.dst x)) : VA P B V ops Q (n + 1) L s := fun a w hR => by
 obtain ⟨v, h1, h2⟩ := hv a w hR
 refine wpAnyE_firstT (S := fun k => S.contains k) (F := Ew B (WS V S)) Ew.tr Ew.rf (fun x => Ew.rf x) (fun j oj hj hjS w w' h => h.mono fun b _ hb => hb.imp id fun hv => ⟨j, hjS, hv⟩) (fun k hk hki => ?_) hi (Region.noSelect_spec hs) n L a w (fun k hk => ?_) (Region.free_spec hi hf) (by simpa using hr) (.inl ⟨by simp [Region.wanted, hg], h1⟩) (h _ _ (hR.put _ hd _ _ h2))
 ·have hk' : k ∈ S := by simpa using hk
  have := List.all_eq_true.1 hS k hk'
  simp only [Bool.or_eq_true, beq_iff_eq] at this
  have := this.resolve_left hki
  cases ho : ops[k]? with
  | none => rw [ho] at this; cases this
  | some ok =>
   rw [ho] at this
   obtain ⟨e, he, h3⟩ := Array.any_eq_true'.1 this
   simp only [Bool.and_eq_true] at h3
   exact ⟨ok, rfl, e, he, h3.1, h3.2⟩
 ·have hk' : k ∈ S := by simpa using hk
  have := List.all_eq_true.1 hL k hk'
  simpa using this
end
end Go.Proofs.YtdnlhdilpdeecaaGreatDoor
namespace Go.Proofs.YtdnlhdilpdeecaaGreatDoor
open Go.RowKit
set_option linter.unusedVariables false
set_option linter.unusedSimpArgs false
theorem decB_size : ∀ i, i < 100 → (decB i).size ≤ 3 := by decide +kernel



end Go.Proofs.YtdnlhdilpdeecaaGreatDoor
namespace Go.Proofs.YtdnlhdilpdeecaaGreatDoor
open Go.RowKit
set_option linter.unusedVariables false
set_option linter.unusedSimpArgs false
theorem lk_app (a b : ByteArray) : (a ++ b).size = a.size + b.size := ByteArray.size_append
def vWords : List ByteArray := [⟨#[]⟩, ⟨#[103, 111, 111, 100]⟩, ⟨#[109, 105, 115, 115, 105, 110, 103]⟩, ⟨#[115, 104, 105, 102, 116, 101, 100]⟩, ⟨#[116, 117, 114, 110, 101, 100]⟩, ⟨#[115, 111, 108, 100, 101, 114, 101, 100]⟩]
def fineW : ByteArray := ⟨#[102, 105, 110, 101]⟩
def badW : ByteArray := ⟨#[98, 97, 100]⟩
def wordL (x : LookS) : ByteArray := if x.bad = true then badW else fineW
def vWd (x : LookS) : ByteArray := vWords.getD x.verdict.toNat ByteArray.empty
def lineWs (x : LookS) : List ByteArray := [decB x.at_.toNat, x.board, x.name, vWd x, wordL x, x.machine, x.nozzle, x.reel]
abbrev spB : ByteArray := ⟨#[32]⟩
def lineT (x : LookS) : ByteArray := bytesOf (joinL (lineWs x) ⟨#[32]⟩ ++ [10])
def txt (l : List LookS) : ByteArray := l.foldl (fun a x => a ++ lineT x) ⟨#[]⟩
theorem txt_take {l : List LookS} {q : Nat} (h : q < l.length) : txt (l.take (q + 1)) = txt (l.take q) ++ lineT (l.getD q default) := by
 have : l.take (q + 1) = l.take q ++ [l.getD q default] := by
  rw [List.take_succ_eq_append_getElem h]; simp [List.getD_eq_getElem?_getD, h]
 rw [this]; unfold txt; rw [List.foldl_append]; rfl
theorem lineT_eq (x : LookS) : lineT x = decB x.at_.toNat ++ spB ++ x.board ++ spB ++ x.name ++ spB ++ vWd x ++ spB ++ wordL x ++ spB ++ x.machine ++ spB ++ x.nozzle ++ spB ++ x.reel ++ ⟨#[10]⟩ := by
 unfold lineT
 apply ByteArray.ext
 apply Array.toList_inj.1
 simp [bytesOf, joinL, lineWs, Lib.join, List.intercalate, ByteArray.data_append]
structure LkT (x : LookS) : Prop where
 at_ : 0 ≤ x.at_ ∧ x.at_ < 100
 verdict : 1 ≤ x.verdict ∧ x.verdict ≤ 5
 board : x.board.size ≤ 1000
 name : x.name.size ≤ 1000
 machine : x.machine.size ≤ 1000
 nozzle : x.nozzle.size ≤ 1000
 reel : x.reel.size ≤ 1000
theorem LkT.of {m : Nat} (hm : m ≤ 9) {l : List LookS} (hk : ∀ x ∈ l, LkG m x) (h0 : lookF l = 0) {q : Nat} (h : q < l.length) : LkT (l.getD q default) := by
 have h1 := lookE_zero ((lookOk h0).all q h)
 have h2 := LkG.getD hk q
 have h3 := h2.at_.2 h1.at_.1 h1.at_.2
 exact ⟨⟨h1.at_.1, by omega⟩, h1.verdict, h2.board.1, h2.name.1, h2.machine, h2.nozzle, h2.reel⟩
theorem vWords_size : ∀ j, j < 6 → (vWords.getD j ByteArray.empty).size ≤ 10 := by decide +kernel
theorem lineT_size {x : LookS} (h : LkT x) : (lineT x).size ≤ 5100 ∧ (joinL (lineWs x) ⟨#[32]⟩).length ≤ 5100 := by
 have h1 := h.at_
 have h2 := h.verdict
 have h3 := decB_size x.at_.toNat (by omega)
 have h4 : (vWd x).size ≤ 10 := vWords_size x.verdict.toNat (by omega)
 have h5 : (wordL x).size ≤ 4 := by unfold wordL; split <;> decide
 have e1 : spB.size = 1 := rfl
 have e2 : (⟨#[10]⟩ : ByteArray).size = 1 := rfl
 have a1 := h.board
 have a2 := h.name
 have a3 := h.machine
 have a4 := h.nozzle
 have a5 := h.reel
 have key : (lineT x).size ≤ 5100 := by
  rw [lineT_eq]
  simp only [lk_app]
  omega
 refine ⟨key, ?_⟩
 have hl : (lineT x).size = (joinL (lineWs x) ⟨#[32]⟩ ++ [10]).length := by unfold lineT; rw [bytesOf_size]
 rw [List.length_append] at hl
 simp at hl
 omega
theorem txt_size {l : List LookS} (h : ∀ j, j < l.length → LkT (l.getD j default)) : ∀ q, q ≤ l.length → (txt (l.take q)).size ≤ 5100 * q
 | 0, _ => by rw [List.take_zero]; exact Nat.le_refl _
 | q + 1, hq => by
  have ih := txt_size h q (by omega)
  have h1 := (lineT_size (h q (by omega))).1
  rw [txt_take (by omega), lk_app]
  omega
theorem lineWs_len (x : LookS) : (lineWs x).length = 8 := rfl
end Go.Proofs.YtdnlhdilpdeecaaGreatDoor
namespace Go.Proofs.YtdnlhdilpdeecaaGreatDoor
open Go.RowKit Go.Lib
set_option linter.unusedVariables false
set_option linter.unusedSimpArgs false
def bysA (s : ByteArray) : List AV := (strCells s).map .v
theorem bysA_len (s : ByteArray) : (bysA s).length = s.size := by rw [bysA, List.length_map, strCells_length]
theorem appendS_run {P : Program} (w : World) (T U ty e : TypeId) (i : TypeInfo) (ht : P.underlying T = some (.slice e)) (hU : P.underlying U = some .string) (hi : P.info? e = some i) (hz : i.zero = some (.int .u8 0)) (hs : i.size = 1) (hb : i.bytes = 1)
  (u : Value) (n : Nat) (xs : List Value) (hown : w.ownsRow 0 e 1 u n xs) (s : ByteArray) (hlen : n + s.size ≤ 10000000000) :
  ∃ v' w', (Builtin.append_ #[T, U] ty #[u, .string s]).run P w = .ok v' w' ∧ w'.ownsRow 0 e 1 v' (n + s.size) (xs ++ strCells s) ∧ Chg (fun q => u.ownBlock = some q) w w' ∧ (v'.ownBlock = u.ownBlock ∨ ∃ g, v'.ownBlock = some g ∧ w.heap.size ≤ g) := by
 have h63 : n + s.size ≤ maxLen := by simp only [maxLen]; omega
 have hxl : xs.length = n := by simpa using hown.1
 have hll : (xs ++ strCells s).length = (n + s.size) * 1 := by rw [List.length_append, hxl, strCells_length, Nat.mul_one]
 have grown : ∀ (old : Nat), (w.drew.alloc (.cells (xs.toArray ++ (strCells s).toArray ++ Builtin.zeroCells (Value.int .u8 0).cells (grownCap w (n + s.size) old e - (n + s.size))) e)).ownsRow 0 e 1 (.slice (some ⟨w.heap.size, 0, none⟩) (n + s.size) (grownCap w (n + s.size) old e)) (n + s.size) (xs ++ strCells s) := by
  intro old
  have hge := grownCap_ge w (n + s.size) old e
  have hcm : grownCap w (n + s.size) old e ≤ maxLen := grownCap_le_maxLen w (n + s.size) old e h63
  refine ⟨hll, .inr ⟨w.heap.size, _, _, rfl, Nat.zero_le _, heap_alloc_new w.drew _, hge, hcm, ?_, ?_⟩⟩
  ·have hz1 : (Value.int IntKind.u8 0).cells.size = 1 := rfl
   simp only [Array.size_append, List.size_toArray, size_zeroCells, hz1, hxl, strCells_length]
   omega
  ·simp only [Array.toList_append, List.append_assoc]
   rw [← List.append_assoc, ← hll]
   exact List.take_left
 rcases hown.2 with ⟨rfl, rfl⟩ | ⟨g, cap, cur, rfl, hbg, hg, hnc, hcm, hcs, htake⟩
 ·have hx : xs = [] := List.eq_nil_of_length_eq_zero hxl
  subst hx
  by_cases hm : s.size = 0
  ·have hn : strCells s = [] := List.eq_nil_of_length_eq_zero (by rw [strCells_length]; exact hm)
   refine ⟨.slice none 0 0, w, ?_, by rw [hm, hn]; exact World.ownsRow_nil w 0 e 1, Chg.refl _ _, .inl rfl⟩
   have hf := run_firstCells_string (P := P) w 1 s
   rw [hm] at hf
   simp [Builtin.append_, run_underlying ht, run_underlying hU, sizeOf, typeInfo, hi, hs, Builtin.lenOf, hm, hf]
  ·have hr := run_append_nil_string (P := P) w T U ty e i (.int .u8 0) ht hU hi hz s (by omega) (by omega) (by rw [hb]; omega)
   have hgr := grown 0
   simp only [Nat.zero_add, List.nil_append, Array.empty_append] at hgr ⊢
   have e1 : (s.data.map fun b => Value.int .u8 b.toNat) = (strCells s).toArray := by
    apply Array.ext'
    simp [strCells]
   rw [e1] at hr
   exact ⟨_, _, hr, hgr, (Chg.refl _ w).drew.alloc _, .inr ⟨_, rfl, by simp⟩⟩
 ·by_cases hroom : n + s.size ≤ cap
  ·have hcs' : cur.size = cap := by simpa using hcs
   have hr := run_append_room_string (P := P) w T U ty e i ht hU hi hs g n cap cur hg s hroom (by omega)
   refine ⟨_, _, hr, ⟨hll, .inr ⟨g, cap, _, rfl, hbg, setRow_heap w g cur _ e _ hg, hroom, hcm, ?_, ?_⟩⟩, chg_setRow w g _, .inl rfl⟩
   ·simp only [List.size_toArray, List.length_append, List.length_take, List.length_drop, Array.length_toList, strCells_length]
    omega
   ·have ht' : cur.toList.take n = xs := by simpa using htake
    rw [ht', ← hll]
    exact List.take_left
  ·have holds : ∀ j u, xs[j]? = some u → w.cell? ((⟨g, 0, none⟩ : Addr).add j) = some u := hown.cells (g := g) rfl
   have hr := run_append_grow_string (P := P) w T U ty e i (.int .u8 0) ht hU hi hz ⟨g, 0, none⟩ n cap xs (by rw [hs]; simpa using hxl) holds s (by omega) (by omega) (by rw [hb]; exact growslice_fits (by omega) (by omega))
   exact ⟨_, _, hr, grown cap, (Chg.refl _ w).drew.alloc _, .inr ⟨_, rfl, by simp⟩⟩
theorem ownsRow_of {w : World} {Z : Nat → Prop} {u : Value} {t : ByteArray} {e : TypeId} (h : EntR w Z (.row u t.size 1 (bysA t) e)) : w.ownsRow 0 e 1 u t.size (strCells t) := by
 obtain ⟨h0, h⟩ := h
 refine ⟨by rw [strCells_length, Nat.mul_one], ?_⟩
 rcases h with ⟨rfl, h⟩ | ⟨g, cap, c, rfl, h1, h2, h3, h4, h5⟩
 ·exact .inl ⟨rfl, h⟩
 ·refine .inr ⟨g, cap, c, rfl, Nat.zero_le _, h3, h1, h2, h4, ?_⟩
  apply List.ext_getElem?
  intro j
  rw [List.getElem?_take]
  by_cases hj : j < t.size
  ·rw [if_pos (by omega)]
   obtain ⟨x, k1, k2⟩ := h5 j (by rw [bysA_len]; exact hj)
   have hl : j < (strCells t).length := by rw [strCells_length]; exact hj
   have k3 : (bysA t)[j]'(by rw [bysA_len]; exact hj) = .v ((strCells t)[j]) := by simp [bysA]
   rw [k3] at k2
   rw [Array.getElem?_toList, k1, k2.eq_v, List.getElem?_eq_getElem hl]
  ·rw [if_neg (by omega), List.getElem?_eq_none (by rw [strCells_length]; omega)]
theorem row_of_owns {w : World} {Z : Nat → Prop} {u : Value} {t : ByteArray} {n : Nat} {e : TypeId} (hn : n = t.size) (h : w.ownsRow 0 e 1 u n (strCells t)) : EntR w Z (.row u n 1 (bysA t) e) := by
 subst hn
 refine ⟨by rw [bysA_len, Nat.mul_one], ?_⟩
 rcases h.2 with ⟨rfl, h0⟩ | ⟨g, cap, cur, rfl, hbg, hg, hnc, hcm, hcs, htake⟩
 ·exact .inl ⟨rfl, h0⟩
 ·refine .inr ⟨g, cap, cur, rfl, hnc, hcm, hg, hcs, fun j hj => ?_⟩
  rw [bysA_len] at hj
  have hl : j < (strCells t).length := by rw [strCells_length]; exact hj
  have k3 : (bysA t)[j]'(by rw [bysA_len]; exact hj) = .v ((strCells t)[j]) := by simp [bysA]
  rw [k3]
  refine ⟨(strCells t)[j], ?_, .v _⟩
  have := congrArg (fun z => z[j]?) htake
  simp only [List.getElem?_take, List.getElem?_eq_getElem hl, Nat.mul_one] at this
  rw [if_pos hj] at this
  simpa using this
section
variable {P : Program} {B : Bs} {W : Nat → Prop} {s : St'} {a : Act} {w w' : World} {o : Oper} {K : St' → Prop}
theorem OpE.appendStr {x y : Operand} {T U e i : Nat} {u : Value} {t s0 : ByteArray} (ho : o.op = .call { callee := .builtin .append, args := #[x, y], argTypes := #[T, U] }) (hB : B.Ok) (hd : okd B.nt o.dst = true)
  (hu : P.underlying T = some (.slice e)) (hU : P.underlying U = some .string) (hinfo : (P.info? e).map (fun i => (i.zero, i.size, i.bytes)) = some (some (.int .u8 0), 1, 1))
  (hx : evO s x = some (.v u)) (hi : s.hp[i]? = some (.row u t.size 1 (bysA t) e)) (hy : evO s y = some (avS s0)) (hlen : t.size + s0.size ≤ 10000000000) (hW : ∀ g, u.ownBlock = some g → W g)
  (hK : ∀ u', K ((St'.mk s.sl (s.hp.set i (.row u' (t ++ s0).size 1 (bysA (t ++ s0)) e)) s.k).put o.dst (.v u'))) : OpE P B W s o K := by
 obtain ⟨ii, hii, hz0, hz1, hz2⟩ := info_parts hinfo
 intro a w hr next Qx hn
 have hmem := List.mem_of_getElem? hi
 have hE := hr.blocks _ hmem
 obtain ⟨v', w', hrun, hown, hch, hbl⟩ := appendS_run (P := P) w T U o.type e ii hu hU hii hz0 hz1 hz2 u t.size (strCells t) (ownsRow_of hE) s0 hlen
 have hsz : (t ++ s0).size = t.size + s0.size := ByteArray.size_append
 have hsc : strCells (t ++ s0) = strCells t ++ strCells s0 := by unfold strCells; rw [← List.map_append, ByteArray.data_append, Array.toList_append]
 have hr' := hr.set hB hi (e' := .row v' (t ++ s0).size 1 (bysA (t ++ s0)) e) hch hbl (row_of_owns rfl (by rw [hsc, hsz]; exact hown))
 unfold Oper.wp
 simp only [execOp, ho, resolve, invoke, builtin, List.map_toArray, List.map_cons, List.map_nil, hr.evv hx, hr.evv hy, Sem.run_bind, Sem.run_pure, Result.andThen_ok, hrun]
 exact hn _ _ _ (hK _) (hr'.put _ hd _ _ (.v _)) (hch.mono fun b _ h => .inr (hW b h))
end
end Go.Proofs.YtdnlhdilpdeecaaGreatDoor
namespace Go.Proofs.YtdnlhdilpdeecaaGreatDoor
open Go.RowKit Go.Lib
set_option linter.unusedVariables false
set_option linter.unusedSimpArgs false
def bldOk (g : Nat) (p : Value) : Prop := p = .pointer none ∨ p = ptv g
theorem bldOk.none (g : Nat) : bldOk g (.pointer none) := .inl rfl
theorem bldOk.self (g : Nat) : bldOk g (ptv g) := .inr rfl
abbrev bldE (g : Nat) (p u : Value) : Ent := .box g ⟨[.v p, .v u], 133, 2⟩
abbrev bufE (u : Value) (t : ByteArray) : Ent := .row u t.size 1 (bysA t) 5
set_option maxHeartbeats 1000000 in
set_option maxRecDepth 100000 in
theorem copyCheck_used (g : Nat) (w : World) (h0 : w.cell? ⟨g, 0, none⟩ = some (.pointer (some ⟨g, 0, none⟩))) : Calls Tryz.prog 186 #[.pointer (some ⟨g, 0, none⟩)] w fun e w' => e = .returned (.tuple #[]) ∧ w' = w := by
 obtain ⟨j, hj, _⟩ := Option.map_eq_some_iff.1 (show (Tryz.prog.info? 133).map (·.size) = some 2 by kernel_rfl)
 go_enter Tryz.func186, Tryz.ntmps186
 go_wp2
 rw [Lib.run_neq_ptr_same w _ Tryz.underlying130 hj]
 go_wp2
 go_end0
 exact ⟨rfl, rfl⟩
set_option maxHeartbeats 1000000 in
set_option maxRecDepth 100000 in
theorem copyCheck_fresh (g : Nat) (w : World) (h0 : w.cell? ⟨g, 0, none⟩ = some (.pointer none)) (hsh : w.shape? g = some (133, 2)) (hfz : w.frozen? ⟨g, 0, none⟩ = false) :
  Calls Tryz.prog 186 #[.pointer (some ⟨g, 0, none⟩)] w fun e w' => e = .returned (.tuple #[]) ∧ w' = w.setCell ⟨g, 0, none⟩ (.pointer (some ⟨g, 0, none⟩)) := by
 obtain ⟨j, hj, hjs⟩ := Option.map_eq_some_iff.1 (show (Tryz.prog.info? 133).map (·.size) = some 2 by kernel_rfl)
 go_enter Tryz.func186, Tryz.ntmps186
 go_wp2
 rw [Lib.run_to_unsafe w ⟨g, 0, none⟩ Tryz.underlying130 Tryz.underlying282 hj (by rw [hjs]; decide) hsh (Nat.zero_lt_succ 1)]
 simp only [Result.andThen]
 rw [Oper.upon_value]
 go_wp2
 rw [run_callFunc_extern Tryz.func244 (by kernel_rfl) (by kernel_rfl) (by kernel_rfl) (e := Extern.AbiNoEscape.same) (by kernel_rfl)]
 rw [Lib.run_noEscape]
 simp only [Result.andThen]
 rw [Oper.upon_value]
 go_wp2
 rw [Lib.run_from_unsafe w ⟨g, 0, none⟩ Tryz.underlying282 Tryz.underlying130 hj hsh (by show liesAt _ _ _ _ 0 _ 1 = true; decide +kernel)]
 simp only [Result.andThen]
 rw [Oper.upon_value]
 go_wp2
 go_end0
 exact ⟨rfl, rfl⟩
theorem copyCheck_H {g : Nat} {p u : Value} (hp : bldOk g p) : SpecH Tryz.prog 186 [pt g] [bldE g p u] (fun y hp' => y = .tup [] ∧ hp' = [bldE g (ptv g) u]) := fun w A us ha hap hA hE => by
 obtain rfl := args1 ha
 obtain ⟨c, k1, k2, k3, k4⟩ := hE _ (List.mem_cons_self ..)
 obtain ⟨v0, p0, q0⟩ := k4 0 (by simp)
 obtain ⟨v1, p1, q1⟩ := k4 1 (by simp)
 have e0 : v0 = p := (show Rep w _ (.v p) v0 from q0).eq_v
 have e1 : v1 = u := (show Rep w _ (.v u) v1 from q1).eq_v
 subst e0; subst e1
 have hcell : w.cell? ⟨g, 0, none⟩ = some v0 := by simp [World.cell?, k1, p0]
 have hc2 : c.size = 2 := k2
 rcases hp with rfl | rfl
 ·refine (copyCheck_fresh g w hcell (by simp [World.shape?, k1, hc2]) (by simp [World.frozen?, k1])).mono fun e w' ⟨h1, h2⟩ => ?_
  subst h1; subst h2
  have hheap : (w.setCell ⟨g, 0, none⟩ (ptv g)).heap[g]? = some (.cells (c.setIfInBounds 0 (ptv g)) 133 (0, 0)) := by simp [World.setCell, Array.getElem?_modify, k1]
  refine ⟨_, .tuple #[], _, ⟨rfl, rfl⟩, rfl, List.pairwise_singleton _ _, .tup _ _ rfl (fun j hj => by simp at hj), fun e he => ?_, fun b ⟨e, he, hb⟩ _ => ?_, (Chg.setAt w g 0 _).mono fun b _ hb => ⟨_, List.mem_cons_self .., by have : b = g := hb; rw [this]; rfl⟩⟩
  ·obtain rfl := List.mem_singleton.1 he
   refine ⟨_, hheap, by simp [hc2], by simp, fun j hj => ?_⟩
   match j, hj with
   | 0, _ => exact ⟨ptv g, by simp [hc2], .v _⟩
   | 1, _ => exact ⟨v1, by rw [Array.getElem?_setIfInBounds_ne (by decide)]; exact p1, .v _⟩
  ·obtain rfl := List.mem_singleton.1 he
   exact ⟨_, List.mem_cons_self .., hb⟩
 ·refine (copyCheck_used g w hcell).mono fun e w' ⟨h1, h2⟩ => ?_
  subst h1; subst h2
  refine ⟨_, .tuple #[], _, ⟨rfl, rfl⟩, rfl, List.pairwise_singleton _ _, .tup _ _ rfl (fun j hj => by simp at hj), fun e he => ?_, fun b ⟨e, he, hb⟩ _ => ?_, Chg.refl _ _⟩
  ·obtain rfl := List.mem_singleton.1 he
   refine ⟨_, k1, k2, k3, fun j hj => ?_⟩
   match j, hj with
   | 0, _ => exact ⟨_, p0, .v _⟩
   | 1, _ => exact ⟨_, p1, .v _⟩
  ·obtain rfl := List.mem_singleton.1 he
   exact ⟨_, List.mem_cons_self .., hb⟩
set_option maxRecDepth 100000 in
theorem Builder_WriteString_H {g : Nat} {p u : Value} {t s : ByteArray} (hp : bldOk g p) (hlen : t.size + s.size ≤ 1000000000) :
  SpecH Tryz.prog 93 [pt g, avS s] [bldE g p u, bufE u t] (fun y hp' => ∃ u', y = .tup [avI s.size, .v .nilIface] ∧ hp' = [bldE g (ptv g) u', bufE u' (t ++ s)]) := by
 refine SpecH.of_VC Tryz.func93 rfl Tryz.ntmps93 (Nle rfl) fun w A hB => ?_
 have hnew : True := trivial
 refine VC.sr ?_
 refine VO.ma rfl rfl rfl rfl ?_
 refine VO.ma rfl rfl rfl rfl ?_
 refine VO.nil ?_
 refine VC.sr ?_
 refine VO.mv rfl rfl rfl rfl ?_
 refine VO.op rfl (OpE.callH (rest := [_]) rfl hB rfl Tryz.call186 rfl rfl (copyCheck_H hp) (List.Perm.refl _) (fun _ _ => trivial) ?_)
 rintro _ _ ⟨rfl, rfl⟩
 refine VO.nil ?_
 refine VC.sr ?_
 refine VO.mv rfl rfl rfl rfl ?_
 refine VO.mv rfl rfl rfl rfl ?_
 refine VO.val rfl rfl (OpV.nilCheck rfl rfl) ?_
 refine VO.val rfl rfl (OpV.fieldAddrO 1 rfl Tryz.underlying133 rfl rfl Tryz.sizeOf131 rfl) ?_
 refine VO.val rfl rfl (OpV.load_own (i := 0) rfl hB Tryz.isAgg131 rfl rfl rfl (fun h => h)) ?_
 refine VO.mv rfl rfl rfl rfl ?_
 refine VO.op rfl (OpE.appendStr (i := 1) rfl hB rfl Tryz.underlying131 Tryz.underlying9 (infoOf Tryz.t5 1 (by kernel_rfl) rfl rfl) rfl rfl rfl (by omega) (fun _ _ => trivial) ?_)
 intro u14
 refine VO.rowIs (i := 1) rfl (fun b14 c14 hu14 => ?_)
 subst hu14
 refine VO.val rfl rfl (OpV.nilCheck rfl rfl) ?_
 refine VO.val rfl rfl (OpV.fieldAddrO 1 rfl Tryz.underlying133 rfl rfl Tryz.sizeOf131 rfl) ?_
 refine VO.op rfl (OpE.store (i := 0) rfl hB rfl Tryz.sizeOf131 rfl rfl rfl rfl rfl rfl (Nle rfl) trivial ?_)
 refine VO.nil ?_
 refine VC.sr ?_
 refine VO.mv rfl rfl rfl rfl ?_
 refine VO.val rfl rfl (OpV.len_s rfl Tryz.underlying9 rfl) ?_
 refine VO.ma rfl rfl rfl rfl ?_
 refine VO.ma rfl rfl rfl rfl ?_
 refine VO.nil ?_
 refine VC.ret ?_
 exact Exists.intro _ (And.intro (RetV.two Tryz.results93 (ResV.tmp rfl) (ResV.tmp rfl)) (⟨_, rfl, rfl⟩))
set_option maxRecDepth 100000 in
theorem Builder_Len_H {g : Nat} {p u : Value} {t : ByteArray}  :
  SpecH Tryz.prog 158 [pt g] [bldE g p u, bufE u t] (fun y hp' => y = avI t.size ∧ hp' = [bldE g p u, bufE u t]) := by
 refine SpecH.of_VC Tryz.func158 rfl Tryz.ntmps158 (Nle rfl) fun w A hB => ?_
 have hnew : True := trivial
 refine VC.sr ?_
 refine VO.ma rfl rfl rfl rfl ?_
 refine VO.nil ?_
 refine VC.sr ?_
 refine VO.mv rfl rfl rfl rfl ?_
 refine VO.val rfl rfl (OpV.nilCheck rfl rfl) ?_
 refine VO.val rfl rfl (OpV.fieldAddrO 1 rfl Tryz.underlying133 rfl rfl Tryz.sizeOf131 rfl) ?_
 refine VO.val rfl rfl (OpV.load_own (i := 0) rfl hB Tryz.isAgg131 rfl rfl rfl (fun h => h)) ?_
 refine VO.val rfl rfl (OpV.len_row (i := 1) rfl Tryz.underlying131 rfl rfl) ?_
 refine VO.ma rfl rfl rfl rfl ?_
 refine VO.nil ?_
 refine VC.ret ?_
 exact Exists.intro _ (And.intro (RetV.one Tryz.results158 (ResV.tmp rfl)) (⟨rfl, rfl⟩))
theorem ownsRow_ofB {w : World} {Z : Nat → Prop} {u : Value} {t : ByteArray} {e : TypeId} {B0 : Nat} (h : EntR w Z (.row u t.size 1 (bysA t) e)) (hb : ∀ g, u.ownBlock = some g → B0 ≤ g) : w.ownsRow B0 e 1 u t.size (strCells t) := by
 obtain ⟨h0, h1⟩ := ownsRow_of h
 refine ⟨h0, ?_⟩
 rcases h1 with h1 | ⟨g, cap, cur, rfl, h2, h3⟩
 ·exact .inl h1
 ·exact .inr ⟨g, cap, cur, rfl, hb g rfl, h3⟩
section
variable {B : Bs} {s : St'} {o : Oper} {K : St' → Prop}
theorem OpE.bstr {x : Operand} {ts : Array TypeId} {g i j : Nat} {p u : Value} {d : ByteArray} (ho : o.op = .call { callee := .value (.func 96), args := #[x], argTypes := ts }) (hB : B.Ok) (hd : okd B.nt o.dst = true) (hS : ∀ b, ¬ B.S b)
  (hcall : ∀ us w, (callFunc 96 us).run Tryz.prog w = .ok (.enter 96 us) w) (hx : evO s x = some (pt g)) (hi : s.hp[i]? = some (bldE g p u)) (hp : bldOk g p) (hj : s.hp[j]? = some (bufE u d)) (hne : i ≠ j)
  (hK : K ((St'.mk [] [] s.k).put o.dst (avS d))) : OpE Tryz.prog B AllW s o K := by
 intro a w hr next Qx hn
 have hmi := List.mem_of_getElem? hi
 have hmj := List.mem_of_getElem? hj
 have hnew : ∀ q ∈ s.hp, ∀ b, q.blk = some b → B.w0.heap.size ≤ b := fun q hq b hb => by
  have := hr.isNew (fun b h => hS b h) hq hb
  omega
 have hE := hr.blocks _ hmj
 have hown := ownsRow_ofB hE (B0 := B.w0.heap.size) (fun b hb => hnew _ hmj b hb)
 obtain ⟨c, k1, k2, k3, k4⟩ := hr.blocks _ hmi
 obtain ⟨v0, p0, q0⟩ := k4 0 (by simp)
 obtain ⟨v1, p1, q1⟩ := k4 1 (by simp)
 have e0 : v0 = p := (show Rep w _ (.v p) v0 from q0).eq_v
 have e1 : v1 = u := (show Rep w _ (.v u) v1 from q1).eq_v
 subst e0; subst e1
 have hc2 : c.size = 2 := k2
 have hcc : c = #[v0, v1] := by
  apply Array.ext (by simpa using hc2)
  intro n h1 h2
  have h2' : n < 2 := by simpa using h2
  match n, h2' with
  | 0, _ => have := Array.getElem?_eq_some_iff.1 p0; simp; rw [this.2]
  | 1, _ => have := Array.getElem?_eq_some_iff.1 p1; simp; rw [this.2]
 subst hcc
 have hapart : v1.ownBlock ≠ some g := by
  intro e
  have hh := hr.nodup
  unfold Apart at hh
  have hil := (List.getElem?_eq_some_iff.1 hi).1
  have hjl := (List.getElem?_eq_some_iff.1 hj).1
  rw [List.pairwise_iff_getElem] at hh
  have ei := (List.getElem?_eq_some_iff.1 hi).2
  have ej := (List.getElem?_eq_some_iff.1 hj).2
  rcases Nat.lt_or_gt_of_ne hne with h | h
  ·have := hh i j hil hjl h g (by rw [ei]; rfl)
   rw [ej] at this; exact this e
  ·have := hh j i hjl hil h g (by rw [ej]; exact e)
   rw [ei] at this; exact this rfl
 have hbs : Lib.IsBuilder 133 5 B.w0.heap.size g (Lib.byteCells d.data.toList) w := by
  have hb0 := hnew _ hmi g rfl
  have hrow : w.ownsRow B.w0.heap.size 5 1 v1 (Lib.byteCells d.data.toList).length (Lib.byteCells d.data.toList) := by
   have e2 : (Lib.byteCells d.data.toList) = strCells d := rfl
   rw [e2, strCells_length]; exact hown
  rcases hp with rfl | rfl
  ·exact .inl ⟨hb0, v1, k1, hrow, hapart⟩
  ·exact .inr ⟨hb0, v1, k1, hrow, hapart⟩
 have h1 := Tryz.Builder_String_any B.w0.heap.size g d.data.toList w hbs hr.chg.size
 unfold Oper.wp
 have hxv := hr.evv hx
 simp only [execOp, ho, resolve, Act.eval, Deferred.ofValue, Sem.run_bind, Sem.run_pure, Result.andThen_ok, invoke, hcall, Array.empty_append, Array.append_empty]
 simp only [Oper.upon]
 have hargs : (#[x].map a.eval) = #[ptv g] := by simp [hxv]
 rw [hargs]
 refine h1.mono fun e w' ⟨h2, h3⟩ => ?_
 subst h2
 have hchg : Chg (fun b => B.w0.heap.size ≤ b) w w' := ⟨h3.os, h3.tape, h3.output, h3.size, fun k hk hn => h3.block k (Nat.lt_of_not_le hn)⟩
 have hr' : R B ⟨[], [], s.k⟩ a w' := by
  refine ⟨fun t y hy => (by cases hy), hr.size, hr.defs, fun q hq => (by cases hq), List.Pairwise.nil, ?_, fun q hq => (by cases hq), hB.keep hr.res hchg fun b hb h => ?_⟩
  ·obtain ⟨c1, c2, c3, c4, c5⟩ := hr.chg
   exact ⟨h3.os.trans c1, h3.tape.trans c2, h3.output.trans c3, Nat.le_trans c4 h3.size, fun k hk hn => (h3.block k hk).trans (c5 k hk hn)⟩
  ·have := hB.low b hb; omega
 exact hn _ _ _ hK (hr'.put _ hd _ _ (.v _)) ⟨h3.os, h3.tape, h3.output, h3.size, fun k hk hn => (hn (.inr trivial)).elim⟩
end
end Go.Proofs.YtdnlhdilpdeecaaGreatDoor
namespace Go.Proofs.YtdnlhdilpdeecaaGreatDoor
open Go.RowKit
set_option linter.unusedVariables false
set_option linter.unusedSimpArgs false
set_option maxRecDepth 100000 in
theorem inspect_verdictWords   :
  Spec Tryz.prog 172 [] (fun y => y = avStrs vWords) := by
 refine Spec.of_VC Tryz.func172 rfl Tryz.ntmps172 (Nle rfl) fun w A hB => ?_
 have hnew : True := trivial
 refine VC.sr ?_
 refine VO.ma rfl rfl rfl rfl ?_
 refine VO.nil ?_
 refine VC.sr ?_
 refine VO.op rfl (OpE.buildSlice (zc := #[.string ⟨#[]⟩, .string ⟨#[]⟩, .string ⟨#[]⟩, .string ⟨#[]⟩, .string ⟨#[]⟩, .string ⟨#[]⟩]) rfl hB rfl Tryz.underlying29 Tryz.sizeOf9 Tryz.zeroValue9 (by decide) (by decide) (by kernel_rfl) rfl rfl ?_)
 refine VO.le _ (Le.litsS (t := 1) (xs := vWords) rfl rfl) ?_
 refine VO.ma rfl rfl rfl rfl ?_
 refine VO.nil ?_
 refine VC.ret ?_
 exact Exists.intro _ (And.intro (RetV.one Tryz.results172 (ResV.tmp rfl)) (rfl))
set_option maxRecDepth 100000 in
theorem rf_verdictWords   :
  Spec Tryz.prog 173 [] (fun y => y = avStrs vWords) := by
 refine Spec.of_VC Tryz.func173 rfl Tryz.ntmps173 (Nle rfl) fun w A hB => ?_
 have hnew : True := trivial
 refine VC.sr ?_
 refine VO.ma rfl rfl rfl rfl ?_
 refine VO.nil ?_
 refine VC.sr ?_
 refine VO.op rfl (OpE.buildSlice (zc := #[.string ⟨#[]⟩, .string ⟨#[]⟩, .string ⟨#[]⟩, .string ⟨#[]⟩, .string ⟨#[]⟩, .string ⟨#[]⟩]) rfl hB rfl Tryz.underlying29 Tryz.sizeOf9 Tryz.zeroValue9 (by decide) (by decide) (by kernel_rfl) rfl rfl ?_)
 refine VO.le _ (Le.litsS (t := 1) (xs := vWords) rfl rfl) ?_
 refine VO.ma rfl rfl rfl rfl ?_
 refine VO.nil ?_
 refine VC.ret ?_
 exact Exists.intro _ (And.intro (RetV.one Tryz.results173 (ResV.tmp rfl)) (rfl))
theorem wordL_t {x : LookS} (h : x.bad = true) : badW = wordL x := by rw [wordL, if_pos h]
theorem wordL_f {x : LookS} (h : x.bad = false) : fineW = wordL x := by rw [wordL, if_neg (by rw [h]; simp)]
set_option maxRecDepth 100000 in
set_option maxHeartbeats 8000000 in
theorem rf_LookLines {l : List LookS} (hl : l.length ≤ 18) (ht : ∀ j, j < l.length → LkT (l.getD j default)) :
  SpecN Tryz.prog 74 [avL l] (fun y => y = avS (txt l)) := by
 refine SpecN.of_VCN Tryz.func74 rfl Tryz.ntmps74 (Nle rfl) fun w A hB => ?_
 have hnew : True := trivial
 refine VC.sr ?_
 refine VO.ma rfl rfl rfl rfl ?_
 refine VO.nil ?_
 refine VC.sr ?_
 refine VO.ma rfl rfl rfl rfl ?_
 refine VO.nil ?_
 refine VC.seq ?_
 refine VC.sr ?_
 refine VO.mv rfl rfl rfl rfl ?_
 refine VO.val rfl rfl (OpV.len_im rfl Tryz.underlying54 rfl) ?_
 refine VO.mv rfl rfl rfl rfl ?_
 refine VO.nil ?_
 refine VC.block ?_
 refine VC.loopK [(7, _), (8, _)] ⟨rfl, rfl, trivial⟩ ({q : Nat // q ≤ l.length}) (fun (iZ : {q : Nat // q ≤ l.length}) => match iZ with | ⟨q, hq⟩ => [(3, avS (txt (l.take q))), (9, avI (q : Int))]) (fun (iZ : {q : Nat // q ≤ l.length}) => match iZ with | ⟨q, hq⟩ => []) (fun (iZ : {q : Nat // q ≤ l.length}) => match iZ with | ⟨q, hq⟩ => 0) (fun (iZ : {q : Nat // q ≤ l.length}) => match iZ with | ⟨q, hq⟩ => l.length - q) ⟨0, Nat.zero_le _⟩ (Le.mk hB [] ⟨rfl, rfl, rfl, rfl, trivial⟩ rfl rfl (Nat.le_refl _)) ?_
 rintro ⟨q, hq⟩
 show VC _ _ _ _ ⟨[(3, avS (txt (l.take q))), (9, avI (q : Int))] ++ [(7, _), (8, _)], [], 0⟩
 have hts := txt_size ht q hq
 refine VC.sr ?_
 refine VO.val rfl rfl (OpV.lss rfl rfl rfl) ?_
 refine VO.nil ?_
 refine VC.seq ?_
 refine VC.cond rfl (fun aH1b => ?_) (fun aH1b => ?_)
 ·have aH1 := aH1b
  try simp only [qqT, qqF, qqN, qqM, qqL, qqE] at aH1
  refine VC.skip ?_
  refine VC.seq ?_
  refine VC.block ?_
  refine VC.seq ?_
  obtain ⟨x, hxx⟩ : ∃ x, l.getD q default = x := ⟨_, rfl⟩
  have hx : LkT x := by rw [← hxx]; exact ht q (by omega)
  obtain ⟨n, hn, hnn⟩ : ∃ n : Nat, x.at_ = (n : Int) ∧ n = x.at_.toNat := ⟨x.at_.toNat, by have := hx.at_; omega, rfl⟩
  have hn100 : n < 100 := by have := hx.at_; omega
  have hvr := hx.verdict
  have hv6 : vWords.length = 6 := rfl
  obtain ⟨vv, hvv⟩ : ∃ vv, vv = vWd x := ⟨_, rfl⟩
  have hvs : vv.size ≤ 10 := by rw [hvv]; exact vWords_size x.verdict.toNat (by omega)
  have hds := decB_size n hn100
  have hb1 := hx.board
  have hb2 := hx.name
  have hb3 := hx.machine
  have hb4 := hx.nozzle
  have hb5 := hx.reel
  have e1 : (⟨#[32]⟩ : ByteArray).size = 1 := rfl
  have e2 : (⟨#[10]⟩ : ByteArray).size = 1 := rfl
  have e3 : badW.size = 3 := rfl
  have e4 : fineW.size = 4 := rfl
  refine VC.region ?_
  refine VO.val rfl rfl (OpV.indexAddr_E rfl Tryz.underlying54 Tryz.sizeOf80 rfl rfl rfl (by omega)) ?_
  refine VO.val rfl rfl (OpV.loadK_at rfl hB OutW.no Tryz.isAgg80 Tryz.sizeOf80 rfl rfl) ?_
  refine VO.le _ (Le.recast (t := 12) (y := avT x) rfl (fun w Z u h => by rw [← hxx]; exact h)) ?_
  refine VO.op rfl (OpE.alloc rfl hB rfl Tryz.zeroValue80 rfl ?_)
  intro g5
  refine VO.op rfl (OpE.store (i := 0) rfl hB rfl Tryz.sizeOf80 rfl rfl rfl rfl rfl rfl (Nle rfl) trivial ?_)
  refine VO.nil ?_
  refine VC.sr ?_
  refine VO.ma rfl rfl rfl rfl ?_
  refine VO.nil ?_
  refine VC.seq ?_
  refine VC.sr ?_
  refine VO.val rfl rfl (OpV.fieldAddrO 4 rfl Tryz.underlying80 rfl rfl Tryz.sizeOf4 rfl) ?_
  refine VO.val rfl rfl (OpV.load_own (i := 0) rfl hB Tryz.isAgg4 rfl rfl rfl (fun h => h)) ?_
  refine VO.nil ?_
  refine VC.cond rfl (fun h1b => ?_) (fun h1b => ?_)
  ·have h1 := h1b
   try simp only [qqT, qqF, qqN, qqM, qqL, qqE] at h1
   obtain ⟨ww, hww, hwz⟩ : ∃ ww, ww = wordL x ∧ ww.size ≤ 4 := ⟨_, rfl, by unfold wordL; split <;> decide⟩
   refine VC.region ?_
   refine VO.ma rfl rfl rfl rfl ?_
   refine VO.nil ?_
   refine VC.le _ (Le.recast (t := 6) (y := avS ww) rfl (fun w Z u h => by rw [hww]; first | (rw [← wordL_t (by assumption)]; exact h) | (rw [← wordL_f (by assumption)]; exact h))) ?_
   refine VC.draw (fun _ => NoB) hB (by kernel_rfl) ?_
   refine VA.take (i := 0) rfl (by kernel_rfl) (by kernel_rfl) (by kernel_rfl) rfl rfl (OpV.move (.inl rfl) rfl) ?_
   refine VA.take (i := 1) rfl (by kernel_rfl) (by kernel_rfl) (by kernel_rfl) rfl rfl (OpV.fieldAddrO 2 rfl Tryz.underlying80 rfl rfl Tryz.sizeOf3 rfl) ?_
   refine VA.take (i := 2) rfl (by kernel_rfl) (by kernel_rfl) (by kernel_rfl) rfl rfl (OpV.load_own (i := 0) rfl hB Tryz.isAgg3 rfl rfl rfl Wi.not0) ?_
   refine VA.le _ (Le.recast (t := 17) (y := avI (n : Int)) rfl (fun w Z u h => by rw [← hn]; exact h)) ?_
   refine VA.take (i := 5) rfl (by kernel_rfl) (by kernel_rfl) (by kernel_rfl) rfl rfl (OpV.fieldAddrO 0 rfl Tryz.underlying80 rfl rfl Tryz.sizeOf9 rfl) ?_
   refine VA.take (i := 6) rfl (by kernel_rfl) (by kernel_rfl) (by kernel_rfl) rfl rfl (OpV.load_own (i := 0) rfl hB Tryz.isAgg9 rfl rfl rfl Wi.not0) ?_
   refine VA.take (i := 9) rfl (by kernel_rfl) (by kernel_rfl) (by kernel_rfl) rfl rfl (OpV.fieldAddrO 1 rfl Tryz.underlying80 rfl rfl Tryz.sizeOf9 rfl) ?_
   refine VA.take (i := 10) rfl (by kernel_rfl) (by kernel_rfl) (by kernel_rfl) rfl rfl (OpV.load_own (i := 0) rfl hB Tryz.isAgg9 rfl rfl rfl Wi.not0) ?_
   refine VA.take (i := 14) rfl (by kernel_rfl) (by kernel_rfl) (by kernel_rfl) rfl rfl (OpV.fieldAddrO 3 rfl Tryz.underlying80 rfl rfl Tryz.sizeOf3 rfl) ?_
   refine VA.take (i := 15) rfl (by kernel_rfl) (by kernel_rfl) (by kernel_rfl) rfl rfl (OpV.load_own (i := 0) rfl hB Tryz.isAgg3 rfl rfl rfl Wi.not0) ?_
   refine VA.take (i := 20) rfl (by kernel_rfl) (by kernel_rfl) (by kernel_rfl) rfl rfl (OpV.move (.inl rfl) rfl) ?_
   refine VA.take (i := 23) rfl (by kernel_rfl) (by kernel_rfl) (by kernel_rfl) rfl rfl (OpV.fieldAddrO 5 rfl Tryz.underlying80 rfl rfl Tryz.sizeOf9 rfl) ?_
   refine VA.take (i := 24) rfl (by kernel_rfl) (by kernel_rfl) (by kernel_rfl) rfl rfl (OpV.load_own (i := 0) rfl hB Tryz.isAgg9 rfl rfl rfl Wi.not0) ?_
   refine VA.take (i := 27) rfl (by kernel_rfl) (by kernel_rfl) (by kernel_rfl) rfl rfl (OpV.fieldAddrO 6 rfl Tryz.underlying80 rfl rfl Tryz.sizeOf9 rfl) ?_
   refine VA.take (i := 28) rfl (by kernel_rfl) (by kernel_rfl) (by kernel_rfl) rfl rfl (OpV.load_own (i := 0) rfl hB Tryz.isAgg9 rfl rfl rfl Wi.not0) ?_
   refine VA.take (i := 31) rfl (by kernel_rfl) (by kernel_rfl) (by kernel_rfl) rfl rfl (OpV.fieldAddrO 7 rfl Tryz.underlying80 rfl rfl Tryz.sizeOf9 rfl) ?_
   refine VA.take (i := 32) rfl (by kernel_rfl) (by kernel_rfl) (by kernel_rfl) rfl rfl (OpV.load_own (i := 0) rfl hB Tryz.isAgg9 rfl rfl rfl Wi.not0) ?_
   refine VA.all (rs := [3]) (by kernel_rfl) (by decide) ?_
   refine ⟨⟨_, rfl, .inl rfl, ?_⟩, trivial⟩
   refine OpE.call rfl hB rfl Tryz.call130 rfl (SpecN.spec (itoa_100 (i := n) (by omega))) ?_
   rintro _ rfl
   refine VA.take (i := 4) rfl (by kernel_rfl) (by kernel_rfl) (by kernel_rfl) rfl rfl (OpV.sadd rfl rfl rfl (by omega)) ?_
   refine VA.take (i := 7) rfl (by kernel_rfl) (by kernel_rfl) (by kernel_rfl) rfl rfl (OpV.sadd rfl rfl rfl (by simp only [lk_app]; omega)) ?_
   refine VA.take (i := 8) rfl (by kernel_rfl) (by kernel_rfl) (by kernel_rfl) rfl rfl (OpV.sadd rfl rfl rfl (by simp only [lk_app]; omega)) ?_
   refine VA.take (i := 11) rfl (by kernel_rfl) (by kernel_rfl) (by kernel_rfl) rfl rfl (OpV.sadd rfl rfl rfl (by simp only [lk_app]; omega)) ?_
   refine VA.take (i := 12) rfl (by kernel_rfl) (by kernel_rfl) (by kernel_rfl) rfl rfl (OpV.sadd rfl rfl rfl (by simp only [lk_app]; omega)) ?_
   refine VA.all (rs := [13]) (by kernel_rfl) (by decide) ?_
   refine ⟨⟨_, rfl, .inl rfl, ?_⟩, trivial⟩
   refine OpE.call rfl hB rfl Tryz.call173 rfl (rf_verdictWords) ?_
   rintro _ rfl
   refine VA.take (i := 16) rfl (by kernel_rfl) (by kernel_rfl) (by kernel_rfl) rfl rfl (OpV.indexAddr_1 rfl Tryz.underlying29 Tryz.sizeOf9 rfl rfl (Int.toNat_of_nonneg (by omega)).symm (by omega)) ?_
   refine VA.take (i := 17) rfl (by kernel_rfl) (by kernel_rfl) (by kernel_rfl) rfl rfl (OpV.load_at rfl hB OutW.wi0 Tryz.isAgg9 rfl rfl) ?_
   refine VA.le _ (Le.recast (t := 32) (y := avS vv) rfl (fun w Z u h => by rw [hvv]; exact h)) ?_
   refine VA.take (i := 18) rfl (by kernel_rfl) (by kernel_rfl) (by kernel_rfl) rfl rfl (OpV.sadd rfl rfl rfl (by simp only [lk_app]; omega)) ?_
   refine VA.take (i := 19) rfl (by kernel_rfl) (by kernel_rfl) (by kernel_rfl) rfl rfl (OpV.sadd rfl rfl rfl (by simp only [lk_app]; omega)) ?_
   refine VA.take (i := 21) rfl (by kernel_rfl) (by kernel_rfl) (by kernel_rfl) rfl rfl (OpV.sadd rfl rfl rfl (by simp only [lk_app]; omega)) ?_
   refine VA.take (i := 22) rfl (by kernel_rfl) (by kernel_rfl) (by kernel_rfl) rfl rfl (OpV.sadd rfl rfl rfl (by simp only [lk_app]; omega)) ?_
   refine VA.take (i := 25) rfl (by kernel_rfl) (by kernel_rfl) (by kernel_rfl) rfl rfl (OpV.sadd rfl rfl rfl (by simp only [lk_app]; omega)) ?_
   refine VA.take (i := 26) rfl (by kernel_rfl) (by kernel_rfl) (by kernel_rfl) rfl rfl (OpV.sadd rfl rfl rfl (by simp only [lk_app]; omega)) ?_
   refine VA.take (i := 29) rfl (by kernel_rfl) (by kernel_rfl) (by kernel_rfl) rfl rfl (OpV.sadd rfl rfl rfl (by simp only [lk_app]; omega)) ?_
   refine VA.take (i := 30) rfl (by kernel_rfl) (by kernel_rfl) (by kernel_rfl) rfl rfl (OpV.sadd rfl rfl rfl (by simp only [lk_app]; omega)) ?_
   refine VA.take (i := 33) rfl (by kernel_rfl) (by kernel_rfl) (by kernel_rfl) rfl rfl (OpV.sadd rfl rfl rfl (by simp only [lk_app]; omega)) ?_
   refine VA.take (i := 34) rfl (by kernel_rfl) (by kernel_rfl) (by kernel_rfl) rfl rfl (OpV.sadd rfl rfl rfl (by simp only [lk_app]; omega)) ?_
   refine VA.take (i := 35) rfl (by kernel_rfl) (by kernel_rfl) (by kernel_rfl) rfl rfl (OpV.sadd rfl rfl rfl (by simp only [lk_app]; omega)) ?_
   refine VA.take (i := 36) rfl (by kernel_rfl) (by kernel_rfl) (by kernel_rfl) rfl rfl (OpV.move (.inr rfl) rfl) ?_
   refine VA.done (by kernel_rfl) ?_
   refine VC.region ?_
   refine VO.val rfl rfl (OpV.add rfl rfl rfl (by unfold fits; omega)) ?_
   refine VO.mv rfl rfl rfl rfl ?_
   refine VO.nil ?_
   exact Exists.intro (⟨q + 1, by omega⟩) (And.intro (Le.mk hB [] ⟨(by rw [txt_take (by omega), hxx, lineT_eq, ← hww, ← hvv, ← hnn]; rfl), rfl, rfl, rfl, trivial⟩ rfl rfl (Nat.le_refl _)) (by first | omega | (show _ < _; omega) | (simp only []; omega)))
  ·have h1 := h1b
   try simp only [qqT, qqF, qqN, qqM, qqL, qqE] at h1
   obtain ⟨ww, hww, hwz⟩ : ∃ ww, ww = wordL x ∧ ww.size ≤ 4 := ⟨_, rfl, by unfold wordL; split <;> decide⟩
   refine VC.skip ?_
   refine VC.le _ (Le.recast (t := 6) (y := avS ww) rfl (fun w Z u h => by rw [hww]; first | (rw [← wordL_t (by assumption)]; exact h) | (rw [← wordL_f (by assumption)]; exact h))) ?_
   refine VC.draw (fun _ => NoB) hB (by kernel_rfl) ?_
   refine VA.take (i := 0) rfl (by kernel_rfl) (by kernel_rfl) (by kernel_rfl) rfl rfl (OpV.move (.inl rfl) rfl) ?_
   refine VA.take (i := 1) rfl (by kernel_rfl) (by kernel_rfl) (by kernel_rfl) rfl rfl (OpV.fieldAddrO 2 rfl Tryz.underlying80 rfl rfl Tryz.sizeOf3 rfl) ?_
   refine VA.take (i := 2) rfl (by kernel_rfl) (by kernel_rfl) (by kernel_rfl) rfl rfl (OpV.load_own (i := 0) rfl hB Tryz.isAgg3 rfl rfl rfl Wi.not0) ?_
   refine VA.le _ (Le.recast (t := 17) (y := avI (n : Int)) rfl (fun w Z u h => by rw [← hn]; exact h)) ?_
   refine VA.take (i := 5) rfl (by kernel_rfl) (by kernel_rfl) (by kernel_rfl) rfl rfl (OpV.fieldAddrO 0 rfl Tryz.underlying80 rfl rfl Tryz.sizeOf9 rfl) ?_
   refine VA.take (i := 6) rfl (by kernel_rfl) (by kernel_rfl) (by kernel_rfl) rfl rfl (OpV.load_own (i := 0) rfl hB Tryz.isAgg9 rfl rfl rfl Wi.not0) ?_
   refine VA.take (i := 9) rfl (by kernel_rfl) (by kernel_rfl) (by kernel_rfl) rfl rfl (OpV.fieldAddrO 1 rfl Tryz.underlying80 rfl rfl Tryz.sizeOf9 rfl) ?_
   refine VA.take (i := 10) rfl (by kernel_rfl) (by kernel_rfl) (by kernel_rfl) rfl rfl (OpV.load_own (i := 0) rfl hB Tryz.isAgg9 rfl rfl rfl Wi.not0) ?_
   refine VA.take (i := 14) rfl (by kernel_rfl) (by kernel_rfl) (by kernel_rfl) rfl rfl (OpV.fieldAddrO 3 rfl Tryz.underlying80 rfl rfl Tryz.sizeOf3 rfl) ?_
   refine VA.take (i := 15) rfl (by kernel_rfl) (by kernel_rfl) (by kernel_rfl) rfl rfl (OpV.load_own (i := 0) rfl hB Tryz.isAgg3 rfl rfl rfl Wi.not0) ?_
   refine VA.take (i := 20) rfl (by kernel_rfl) (by kernel_rfl) (by kernel_rfl) rfl rfl (OpV.move (.inl rfl) rfl) ?_
   refine VA.take (i := 23) rfl (by kernel_rfl) (by kernel_rfl) (by kernel_rfl) rfl rfl (OpV.fieldAddrO 5 rfl Tryz.underlying80 rfl rfl Tryz.sizeOf9 rfl) ?_
   refine VA.take (i := 24) rfl (by kernel_rfl) (by kernel_rfl) (by kernel_rfl) rfl rfl (OpV.load_own (i := 0) rfl hB Tryz.isAgg9 rfl rfl rfl Wi.not0) ?_
   refine VA.take (i := 27) rfl (by kernel_rfl) (by kernel_rfl) (by kernel_rfl) rfl rfl (OpV.fieldAddrO 6 rfl Tryz.underlying80 rfl rfl Tryz.sizeOf9 rfl) ?_
   refine VA.take (i := 28) rfl (by kernel_rfl) (by kernel_rfl) (by kernel_rfl) rfl rfl (OpV.load_own (i := 0) rfl hB Tryz.isAgg9 rfl rfl rfl Wi.not0) ?_
   refine VA.take (i := 31) rfl (by kernel_rfl) (by kernel_rfl) (by kernel_rfl) rfl rfl (OpV.fieldAddrO 7 rfl Tryz.underlying80 rfl rfl Tryz.sizeOf9 rfl) ?_
   refine VA.take (i := 32) rfl (by kernel_rfl) (by kernel_rfl) (by kernel_rfl) rfl rfl (OpV.load_own (i := 0) rfl hB Tryz.isAgg9 rfl rfl rfl Wi.not0) ?_
   refine VA.all (rs := [3]) (by kernel_rfl) (by decide) ?_
   refine ⟨⟨_, rfl, .inl rfl, ?_⟩, trivial⟩
   refine OpE.call rfl hB rfl Tryz.call130 rfl (SpecN.spec (itoa_100 (i := n) (by omega))) ?_
   rintro _ rfl
   refine VA.take (i := 4) rfl (by kernel_rfl) (by kernel_rfl) (by kernel_rfl) rfl rfl (OpV.sadd rfl rfl rfl (by omega)) ?_
   refine VA.take (i := 7) rfl (by kernel_rfl) (by kernel_rfl) (by kernel_rfl) rfl rfl (OpV.sadd rfl rfl rfl (by simp only [lk_app]; omega)) ?_
   refine VA.take (i := 8) rfl (by kernel_rfl) (by kernel_rfl) (by kernel_rfl) rfl rfl (OpV.sadd rfl rfl rfl (by simp only [lk_app]; omega)) ?_
   refine VA.take (i := 11) rfl (by kernel_rfl) (by kernel_rfl) (by kernel_rfl) rfl rfl (OpV.sadd rfl rfl rfl (by simp only [lk_app]; omega)) ?_
   refine VA.take (i := 12) rfl (by kernel_rfl) (by kernel_rfl) (by kernel_rfl) rfl rfl (OpV.sadd rfl rfl rfl (by simp only [lk_app]; omega)) ?_
   refine VA.all (rs := [13]) (by kernel_rfl) (by decide) ?_
   refine ⟨⟨_, rfl, .inl rfl, ?_⟩, trivial⟩
   refine OpE.call rfl hB rfl Tryz.call173 rfl (rf_verdictWords) ?_
   rintro _ rfl
   refine VA.take (i := 16) rfl (by kernel_rfl) (by kernel_rfl) (by kernel_rfl) rfl rfl (OpV.indexAddr_1 rfl Tryz.underlying29 Tryz.sizeOf9 rfl rfl (Int.toNat_of_nonneg (by omega)).symm (by omega)) ?_
   refine VA.take (i := 17) rfl (by kernel_rfl) (by kernel_rfl) (by kernel_rfl) rfl rfl (OpV.load_at rfl hB OutW.wi0 Tryz.isAgg9 rfl rfl) ?_
   refine VA.le _ (Le.recast (t := 32) (y := avS vv) rfl (fun w Z u h => by rw [hvv]; exact h)) ?_
   refine VA.take (i := 18) rfl (by kernel_rfl) (by kernel_rfl) (by kernel_rfl) rfl rfl (OpV.sadd rfl rfl rfl (by simp only [lk_app]; omega)) ?_
   refine VA.take (i := 19) rfl (by kernel_rfl) (by kernel_rfl) (by kernel_rfl) rfl rfl (OpV.sadd rfl rfl rfl (by simp only [lk_app]; omega)) ?_
   refine VA.take (i := 21) rfl (by kernel_rfl) (by kernel_rfl) (by kernel_rfl) rfl rfl (OpV.sadd rfl rfl rfl (by simp only [lk_app]; omega)) ?_
   refine VA.take (i := 22) rfl (by kernel_rfl) (by kernel_rfl) (by kernel_rfl) rfl rfl (OpV.sadd rfl rfl rfl (by simp only [lk_app]; omega)) ?_
   refine VA.take (i := 25) rfl (by kernel_rfl) (by kernel_rfl) (by kernel_rfl) rfl rfl (OpV.sadd rfl rfl rfl (by simp only [lk_app]; omega)) ?_
   refine VA.take (i := 26) rfl (by kernel_rfl) (by kernel_rfl) (by kernel_rfl) rfl rfl (OpV.sadd rfl rfl rfl (by simp only [lk_app]; omega)) ?_
   refine VA.take (i := 29) rfl (by kernel_rfl) (by kernel_rfl) (by kernel_rfl) rfl rfl (OpV.sadd rfl rfl rfl (by simp only [lk_app]; omega)) ?_
   refine VA.take (i := 30) rfl (by kernel_rfl) (by kernel_rfl) (by kernel_rfl) rfl rfl (OpV.sadd rfl rfl rfl (by simp only [lk_app]; omega)) ?_
   refine VA.take (i := 33) rfl (by kernel_rfl) (by kernel_rfl) (by kernel_rfl) rfl rfl (OpV.sadd rfl rfl rfl (by simp only [lk_app]; omega)) ?_
   refine VA.take (i := 34) rfl (by kernel_rfl) (by kernel_rfl) (by kernel_rfl) rfl rfl (OpV.sadd rfl rfl rfl (by simp only [lk_app]; omega)) ?_
   refine VA.take (i := 35) rfl (by kernel_rfl) (by kernel_rfl) (by kernel_rfl) rfl rfl (OpV.sadd rfl rfl rfl (by simp only [lk_app]; omega)) ?_
   refine VA.take (i := 36) rfl (by kernel_rfl) (by kernel_rfl) (by kernel_rfl) rfl rfl (OpV.move (.inr rfl) rfl) ?_
   refine VA.done (by kernel_rfl) ?_
   refine VC.region ?_
   refine VO.val rfl rfl (OpV.add rfl rfl rfl (by unfold fits; omega)) ?_
   refine VO.mv rfl rfl rfl rfl ?_
   refine VO.nil ?_
   exact Exists.intro (⟨q + 1, by omega⟩) (And.intro (Le.mk hB [] ⟨(by rw [txt_take (by omega), hxx, lineT_eq, ← hww, ← hvv, ← hnn]; rfl), rfl, rfl, rfl, trivial⟩ rfl rfl (Nat.le_refl _)) (by first | omega | (show _ < _; omega) | (simp only []; omega)))
 ·have aH1 := aH1b
  try simp only [qqT, qqF, qqN, qqM, qqL, qqE] at aH1
  obtain rfl : q = l.length := by omega
  rw [List.take_length]
  refine VC.exit ?_
  refine VC.sr ?_
  refine VO.mv rfl rfl rfl rfl ?_
  refine VO.ma rfl rfl rfl rfl ?_
  refine VO.nil ?_
  refine VC.ret ?_
  exact Exists.intro _ (And.intro (RetN.one Tryz.results74 (ResN.v rfl)) (rfl))
end Go.Proofs.YtdnlhdilpdeecaaGreatDoor
namespace Go.Proofs.YtdnlhdilpdeecaaGreatDoor
open Go.RowKit
set_option linter.unusedVariables false
set_option linter.unusedSimpArgs false
theorem blkB {g : Nat} {p u : Value} {t : ByteArray} {b : Nat} (h : BlkL [bldE g p u, bufE u t] b) : b = g ∨ u.ownBlock = some b := by
 obtain ⟨e, he, hb⟩ := h
 simp only [List.mem_cons, List.not_mem_nil, or_false] at he
 rcases he with rfl | rfl
 ·exact .inl (Option.some.inj hb).symm
 ·exact .inr hb
set_option maxRecDepth 100000 in
set_option maxHeartbeats 8000000 in
theorem inspect_TextL {l : List LookS} {m : Nat} (hk : ∀ x ∈ l, LkG m x) (hm : m ≤ 9) (hl : l.length ≤ 18) :
  SpecN Tryz.prog 73 [avL l] (fun y => y = .tup [avS (if lookF l = 0 then txt l else ⟨#[]⟩), avI (lookF l)]) := by
 refine SpecN.of_VCN Tryz.func73 rfl Tryz.ntmps73 (Nle rfl) fun w A hB => ?_
 have hnew : True := trivial
 refine VC.seq ?_
 have hs := LkG.sm hk (by omega)
 refine VC.region ?_
 refine VO.ma rfl rfl rfl rfl ?_
 refine VO.ma rfl rfl rfl rfl ?_
 refine VO.nil ?_
 refine VC.seq ?_
 refine VC.sr ?_
 refine VO.mv rfl rfl rfl rfl ?_
 refine VO.op rfl (OpE.call rfl hB rfl Tryz.call112 rfl (SpecN.spec (inspect_CheckLooks hs)) ?_)
 rintro _ rfl
 refine VO.ma rfl rfl rfl rfl ?_
 refine VO.nil ?_
 refine VC.sr ?_
 refine VO.mv rfl rfl rfl rfl ?_
 refine VO.val rfl rfl (OpV.neq rfl rfl rfl) ?_
 refine VO.nil ?_
 refine VC.cond rfl (fun h0b => ?_) (fun h0b => ?_)
 ·have h0 := h0b
  try simp only [qqT, qqF, qqN, qqM, qqL, qqE] at h0
  refine VC.sr ?_
  refine VO.mv rfl rfl rfl rfl ?_
  refine VO.ma rfl rfl rfl rfl ?_
  refine VO.ma rfl rfl rfl rfl ?_
  refine VO.nil ?_
  refine VC.ret ?_
  exact Exists.intro _ (And.intro (RetN.two Tryz.results73 (ResN.v rfl) (ResN.v rfl)) (by rw [if_neg h0]))
 ·have h0 := h0b
  try simp only [qqT, qqF, qqN, qqM, qqL, qqE] at h0
  refine VC.skip ?_
  refine VC.seq ?_
  have ht : ∀ j, j < l.length → LkT (l.getD j default) := fun j hj => LkT.of hm hk (by omega) hj
  refine VC.region ?_
  refine VO.op rfl (OpE.alloc rfl hB rfl Tryz.zeroValue133 rfl ?_)
  intro g
  refine VO.nil ?_
  refine VC.seq ?_
  refine VC.sr ?_
  refine VO.mv rfl rfl rfl rfl ?_
  refine VO.val rfl rfl (OpV.len_im rfl Tryz.underlying54 rfl) ?_
  refine VO.mv rfl rfl rfl rfl ?_
  refine VO.nil ?_
  refine VC.block ?_
  refine VC.le _ (Le.nilRow 1 5) ?_
  refine VC.loopK [(5, _), (14, _), (15, _)] ⟨rfl, rfl, rfl, trivial⟩ ({z : (Value × Value) × Nat // z.2 ≤ l.length ∧ bldOk g z.1.1}) (fun (iZ : {z : (Value × Value) × Nat // z.2 ≤ l.length ∧ bldOk g z.1.1}) => match iZ with | ⟨⟨⟨p, u⟩, q⟩, hq, hp⟩ => [(16, avI (q : Int))]) (fun (iZ : {z : (Value × Value) × Nat // z.2 ≤ l.length ∧ bldOk g z.1.1}) => match iZ with | ⟨⟨⟨p, u⟩, q⟩, hq, hp⟩ => [bldE g p u, bufE u (txt (l.take q))]) (fun (iZ : {z : (Value × Value) × Nat // z.2 ≤ l.length ∧ bldOk g z.1.1}) => match iZ with | ⟨⟨⟨p, u⟩, q⟩, hq, hp⟩ => 0) (fun (iZ : {z : (Value × Value) × Nat // z.2 ≤ l.length ∧ bldOk g z.1.1}) => match iZ with | ⟨⟨⟨p, u⟩, q⟩, hq, hp⟩ => l.length - q) ⟨((.pointer none, .slice none 0 0), 0), Nat.zero_le _, bldOk.none g⟩ (Le.mk hB [0, 1] ⟨rfl, rfl, rfl, rfl, trivial⟩ rfl rfl (Nat.le_refl _)) ?_
  rintro ⟨⟨⟨p, u⟩, q⟩, hq, hp⟩
  show VC _ _ _ _ ⟨[(16, avI (q : Int))] ++ [(5, _), (14, _), (15, _)], [bldE g p u, bufE u (txt (l.take q))], 0⟩
  simp only at hq hp
  have hts := txt_size ht q hq
  refine VC.sr ?_
  refine VO.val rfl rfl (OpV.lss rfl rfl rfl) ?_
  refine VO.nil ?_
  refine VC.seq ?_
  refine VC.cond rfl (fun aH1b => ?_) (fun aH1b => ?_)
  ·have aH1 := aH1b
   try simp only [qqT, qqF, qqN, qqM, qqL, qqE] at aH1
   refine VC.skip ?_
   refine VC.seq ?_
   refine VC.block ?_
   refine VC.seq ?_
   obtain ⟨x, hxx⟩ : ∃ x, l.getD q default = x := ⟨_, rfl⟩
   have hx : LkT x := by rw [← hxx]; exact ht q (by omega)
   obtain ⟨n, hn, hnn⟩ : ∃ n : Nat, x.at_ = (n : Int) ∧ n = x.at_.toNat := ⟨x.at_.toNat, by have := hx.at_; omega, rfl⟩
   have hn100 : n < 100 := by have := hx.at_; omega
   have hvr := hx.verdict
   have hv6 : vWords.length = 6 := rfl
   have hjl := lineT_size hx
   refine VC.region ?_
   refine VO.val rfl rfl (OpV.indexAddr_E rfl Tryz.underlying54 Tryz.sizeOf80 rfl rfl rfl (by omega)) ?_
   refine VO.val rfl rfl (OpV.loadK_at rfl hB OutW.no Tryz.isAgg80 Tryz.sizeOf80 rfl rfl) ?_
   refine VO.le _ (Le.recast (t := 19) (y := avT x) rfl (fun w Z u h => by rw [← hxx]; exact h)) ?_
   refine VO.op rfl (OpE.alloc rfl hB rfl Tryz.zeroValue80 rfl ?_)
   intro g7
   refine VO.op rfl (OpE.store (i := 2) rfl hB rfl Tryz.sizeOf80 rfl rfl rfl rfl rfl rfl (Nle rfl) trivial ?_)
   refine VO.nil ?_
   refine VC.sr ?_
   refine VO.ma rfl rfl rfl rfl ?_
   refine VO.nil ?_
   refine VC.seq ?_
   refine VC.sr ?_
   refine VO.val rfl rfl (OpV.fieldAddrO 4 rfl Tryz.underlying80 rfl rfl Tryz.sizeOf4 rfl) ?_
   refine VO.val rfl rfl (OpV.load_own (i := 2) rfl hB Tryz.isAgg4 rfl rfl rfl (fun h => h)) ?_
   refine VO.nil ?_
   refine VC.cond rfl (fun h1b => ?_) (fun h1b => ?_)
   ·have h1 := h1b
    try simp only [qqT, qqF, qqN, qqM, qqL, qqE] at h1
    refine VC.region ?_
    refine VO.ma rfl rfl rfl rfl ?_
    refine VO.nil ?_
    refine VC.le _ (Le.recast (t := 8) (y := avS (wordL x)) rfl (fun w Z u h => by first | (rw [← wordL_t (by assumption)]; exact h) | (rw [← wordL_f (by assumption)]; exact h))) ?_
    refine VC.draw (fun j b => j = 21 ∧ (b = g ∨ u.ownBlock = some b)) hB (by kernel_rfl) ?_
    refine VA.take (i := 0) rfl (by kernel_rfl) (by kernel_rfl) (by kernel_rfl) rfl rfl (OpV.fieldAddrO 2 rfl Tryz.underlying80 rfl rfl Tryz.sizeOf3 rfl) ?_
    refine VA.takeT [1, 2, 19, 20, 21] (i := 1) (by kernel_rfl) (by kernel_rfl) rfl (by kernel_rfl) (by kernel_rfl) (by kernel_rfl) rfl rfl (OpV.load_own (i := 2) rfl hB Tryz.isAgg3 rfl rfl rfl (fun ⟨j, h1, h2, _⟩ => by subst h2; cases h1)) ?_
    refine VA.le _ (Le.recast (t := 23) (y := avI (n : Int)) rfl (fun w Z u h => by rw [← hn]; exact h)) ?_
    refine VA.take (i := 3) rfl (by kernel_rfl) (by kernel_rfl) (by kernel_rfl) rfl rfl (OpV.fieldAddrO 0 rfl Tryz.underlying80 rfl rfl Tryz.sizeOf9 rfl) ?_
    refine VA.takeT [4, 19, 20, 21] (i := 4) (by kernel_rfl) (by kernel_rfl) rfl (by kernel_rfl) (by kernel_rfl) (by kernel_rfl) rfl rfl (OpV.load_own (i := 2) rfl hB Tryz.isAgg9 rfl rfl rfl (fun ⟨j, h1, h2, _⟩ => by subst h2; cases h1)) ?_
    refine VA.take (i := 5) rfl (by kernel_rfl) (by kernel_rfl) (by kernel_rfl) rfl rfl (OpV.fieldAddrO 1 rfl Tryz.underlying80 rfl rfl Tryz.sizeOf9 rfl) ?_
    refine VA.takeT [6, 19, 20, 21] (i := 6) (by kernel_rfl) (by kernel_rfl) rfl (by kernel_rfl) (by kernel_rfl) (by kernel_rfl) rfl rfl (OpV.load_own (i := 2) rfl hB Tryz.isAgg9 rfl rfl rfl (fun ⟨j, h1, h2, _⟩ => by subst h2; cases h1)) ?_
    refine VA.take (i := 8) rfl (by kernel_rfl) (by kernel_rfl) (by kernel_rfl) rfl rfl (OpV.fieldAddrO 3 rfl Tryz.underlying80 rfl rfl Tryz.sizeOf3 rfl) ?_
    refine VA.takeT [9, 10, 11, 19, 20, 21] (i := 9) (by kernel_rfl) (by kernel_rfl) rfl (by kernel_rfl) (by kernel_rfl) (by kernel_rfl) rfl rfl (OpV.load_own (i := 2) rfl hB Tryz.isAgg3 rfl rfl rfl (fun ⟨j, h1, h2, _⟩ => by subst h2; cases h1)) ?_
    refine VA.take (i := 12) rfl (by kernel_rfl) (by kernel_rfl) (by kernel_rfl) rfl rfl (OpV.move (.inl rfl) rfl) ?_
    refine VA.take (i := 13) rfl (by kernel_rfl) (by kernel_rfl) (by kernel_rfl) rfl rfl (OpV.fieldAddrO 5 rfl Tryz.underlying80 rfl rfl Tryz.sizeOf9 rfl) ?_
    refine VA.takeT [14, 19, 20, 21] (i := 14) (by kernel_rfl) (by kernel_rfl) rfl (by kernel_rfl) (by kernel_rfl) (by kernel_rfl) rfl rfl (OpV.load_own (i := 2) rfl hB Tryz.isAgg9 rfl rfl rfl (fun ⟨j, h1, h2, _⟩ => by subst h2; cases h1)) ?_
    refine VA.take (i := 15) rfl (by kernel_rfl) (by kernel_rfl) (by kernel_rfl) rfl rfl (OpV.fieldAddrO 6 rfl Tryz.underlying80 rfl rfl Tryz.sizeOf9 rfl) ?_
    refine VA.takeT [16, 19, 20, 21] (i := 16) (by kernel_rfl) (by kernel_rfl) rfl (by kernel_rfl) (by kernel_rfl) (by kernel_rfl) rfl rfl (OpV.load_own (i := 2) rfl hB Tryz.isAgg9 rfl rfl rfl (fun ⟨j, h1, h2, _⟩ => by subst h2; cases h1)) ?_
    refine VA.take (i := 17) rfl (by kernel_rfl) (by kernel_rfl) (by kernel_rfl) rfl rfl (OpV.fieldAddrO 7 rfl Tryz.underlying80 rfl rfl Tryz.sizeOf9 rfl) ?_
    refine VA.takeT [18, 19, 20, 21] (i := 18) (by kernel_rfl) (by kernel_rfl) rfl (by kernel_rfl) (by kernel_rfl) (by kernel_rfl) rfl rfl (OpV.load_own (i := 2) rfl hB Tryz.isAgg9 rfl rfl rfl (fun ⟨j, h1, h2, _⟩ => by subst h2; cases h1)) ?_
    refine VA.all (rs := [2]) (by kernel_rfl) (by decide) ?_
    refine ⟨⟨_, rfl, .inl rfl, ?_⟩, trivial⟩
    refine OpE.call rfl hB rfl Tryz.call130 rfl (SpecN.spec (itoa_100 (i := n) (by omega))) ?_
    rintro _ rfl
    refine VA.all (rs := [7]) (by kernel_rfl) (by decide) ?_
    refine ⟨⟨_, rfl, .inl rfl, ?_⟩, trivial⟩
    refine OpE.call rfl hB rfl Tryz.call172 rfl (inspect_verdictWords) ?_
    rintro _ rfl
    refine VA.take (i := 10) rfl (by kernel_rfl) (by kernel_rfl) (by kernel_rfl) rfl rfl (OpV.indexAddr_1 rfl Tryz.underlying29 Tryz.sizeOf9 rfl rfl (Int.toNat_of_nonneg (by omega)).symm (by omega)) ?_
    refine VA.take (i := 11) rfl (by kernel_rfl) (by kernel_rfl) (by kernel_rfl) rfl rfl (OpV.load_at rfl hB (OutW.wi (fun j b ⟨_, h⟩ => h.elim (fun e => ⟨_, List.mem_of_getElem? (i := 0) rfl, by rw [e]; rfl⟩) (fun e => ⟨_, List.mem_of_getElem? (i := 1) rfl, e⟩))) Tryz.isAgg9 rfl rfl) ?_
    refine VA.le _ (Le.recast (t := 33) (y := avS (vWd x)) rfl (fun w Z u h => h)) ?_
    refine VA.all (rs := [19]) (by kernel_rfl) (by decide) ?_
    refine ⟨⟨_, rfl, .inl rfl, ?_⟩, trivial⟩
    refine OpE.buildSlice (zc := #[.string ⟨#[]⟩, .string ⟨#[]⟩, .string ⟨#[]⟩, .string ⟨#[]⟩, .string ⟨#[]⟩, .string ⟨#[]⟩, .string ⟨#[]⟩, .string ⟨#[]⟩]) rfl hB rfl Tryz.underlying29 Tryz.sizeOf9 Tryz.zeroValue9 (by decide) (by decide) (by kernel_rfl) rfl rfl ?_
    refine VA.le _ (Le.litsS (t := 41) (xs := lineWs x) rfl (by rw [hnn]; rfl)) ?_
    refine VA.all (rs := [20]) (by kernel_rfl) (by decide) ?_
    refine ⟨⟨_, rfl, .inl rfl, ?_⟩, trivial⟩
    refine OpE.call rfl hB rfl Tryz.call94 rfl (SpecN.spec (kit_Join (xs := lineWs x) (by rw [lineWs_len]; decide) (by omega))) ?_
    rintro _ rfl
    refine VA.le _ (Le.recast (t := 42) (y := avS (lineT x)) rfl (fun w Z u h => h)) ?_
    refine VA.all (rs := [21]) (by kernel_rfl) (by decide) ?_
    refine ⟨⟨_, rfl, .inl rfl, ?_⟩, trivial⟩
    refine OpE.callH (rest := [_]) rfl hB rfl Tryz.call93 rfl rfl (Builder_WriteString_H hp (by omega)) (List.Perm.refl _) (fun b h => ⟨rfl, blkB h⟩) ?_
    rintro _ _ ⟨u43, rfl, rfl⟩
    refine VA.done (by kernel_rfl) ?_
    refine VC.region ?_
    refine VO.val rfl rfl (OpV.add rfl rfl rfl (by unfold fits; omega)) ?_
    refine VO.mv rfl rfl rfl rfl ?_
    refine VO.nil ?_
    exact Exists.intro (⟨((ptv g, u43), q + 1), by show q + 1 ≤ _; omega, bldOk.self g⟩) (And.intro (Le.mk hB [0, 1] ⟨rfl, rfl, rfl, rfl, trivial⟩ rfl (by dsimp only; rw [txt_take (by omega), hxx]; rfl) (Nat.le_refl _)) (by first | omega | (show _ < _; omega) | (simp only []; omega)))
   ·have h1 := h1b
    try simp only [qqT, qqF, qqN, qqM, qqL, qqE] at h1
    refine VC.skip ?_
    refine VC.le _ (Le.recast (t := 8) (y := avS (wordL x)) rfl (fun w Z u h => by first | (rw [← wordL_t (by assumption)]; exact h) | (rw [← wordL_f (by assumption)]; exact h))) ?_
    refine VC.draw (fun j b => j = 21 ∧ (b = g ∨ u.ownBlock = some b)) hB (by kernel_rfl) ?_
    refine VA.take (i := 0) rfl (by kernel_rfl) (by kernel_rfl) (by kernel_rfl) rfl rfl (OpV.fieldAddrO 2 rfl Tryz.underlying80 rfl rfl Tryz.sizeOf3 rfl) ?_
    refine VA.takeT [1, 2, 19, 20, 21] (i := 1) (by kernel_rfl) (by kernel_rfl) rfl (by kernel_rfl) (by kernel_rfl) (by kernel_rfl) rfl rfl (OpV.load_own (i := 2) rfl hB Tryz.isAgg3 rfl rfl rfl (fun ⟨j, h1, h2, _⟩ => by subst h2; cases h1)) ?_
    refine VA.le _ (Le.recast (t := 23) (y := avI (n : Int)) rfl (fun w Z u h => by rw [← hn]; exact h)) ?_
    refine VA.take (i := 3) rfl (by kernel_rfl) (by kernel_rfl) (by kernel_rfl) rfl rfl (OpV.fieldAddrO 0 rfl Tryz.underlying80 rfl rfl Tryz.sizeOf9 rfl) ?_
    refine VA.takeT [4, 19, 20, 21] (i := 4) (by kernel_rfl) (by kernel_rfl) rfl (by kernel_rfl) (by kernel_rfl) (by kernel_rfl) rfl rfl (OpV.load_own (i := 2) rfl hB Tryz.isAgg9 rfl rfl rfl (fun ⟨j, h1, h2, _⟩ => by subst h2; cases h1)) ?_
    refine VA.take (i := 5) rfl (by kernel_rfl) (by kernel_rfl) (by kernel_rfl) rfl rfl (OpV.fieldAddrO 1 rfl Tryz.underlying80 rfl rfl Tryz.sizeOf9 rfl) ?_
    refine VA.takeT [6, 19, 20, 21] (i := 6) (by kernel_rfl) (by kernel_rfl) rfl (by kernel_rfl) (by kernel_rfl) (by kernel_rfl) rfl rfl (OpV.load_own (i := 2) rfl hB Tryz.isAgg9 rfl rfl rfl (fun ⟨j, h1, h2, _⟩ => by subst h2; cases h1)) ?_
    refine VA.take (i := 8) rfl (by kernel_rfl) (by kernel_rfl) (by kernel_rfl) rfl rfl (OpV.fieldAddrO 3 rfl Tryz.underlying80 rfl rfl Tryz.sizeOf3 rfl) ?_
    refine VA.takeT [9, 10, 11, 19, 20, 21] (i := 9) (by kernel_rfl) (by kernel_rfl) rfl (by kernel_rfl) (by kernel_rfl) (by kernel_rfl) rfl rfl (OpV.load_own (i := 2) rfl hB Tryz.isAgg3 rfl rfl rfl (fun ⟨j, h1, h2, _⟩ => by subst h2; cases h1)) ?_
    refine VA.take (i := 12) rfl (by kernel_rfl) (by kernel_rfl) (by kernel_rfl) rfl rfl (OpV.move (.inl rfl) rfl) ?_
    refine VA.take (i := 13) rfl (by kernel_rfl) (by kernel_rfl) (by kernel_rfl) rfl rfl (OpV.fieldAddrO 5 rfl Tryz.underlying80 rfl rfl Tryz.sizeOf9 rfl) ?_
    refine VA.takeT [14, 19, 20, 21] (i := 14) (by kernel_rfl) (by kernel_rfl) rfl (by kernel_rfl) (by kernel_rfl) (by kernel_rfl) rfl rfl (OpV.load_own (i := 2) rfl hB Tryz.isAgg9 rfl rfl rfl (fun ⟨j, h1, h2, _⟩ => by subst h2; cases h1)) ?_
    refine VA.take (i := 15) rfl (by kernel_rfl) (by kernel_rfl) (by kernel_rfl) rfl rfl (OpV.fieldAddrO 6 rfl Tryz.underlying80 rfl rfl Tryz.sizeOf9 rfl) ?_
    refine VA.takeT [16, 19, 20, 21] (i := 16) (by kernel_rfl) (by kernel_rfl) rfl (by kernel_rfl) (by kernel_rfl) (by kernel_rfl) rfl rfl (OpV.load_own (i := 2) rfl hB Tryz.isAgg9 rfl rfl rfl (fun ⟨j, h1, h2, _⟩ => by subst h2; cases h1)) ?_
    refine VA.take (i := 17) rfl (by kernel_rfl) (by kernel_rfl) (by kernel_rfl) rfl rfl (OpV.fieldAddrO 7 rfl Tryz.underlying80 rfl rfl Tryz.sizeOf9 rfl) ?_
    refine VA.takeT [18, 19, 20, 21] (i := 18) (by kernel_rfl) (by kernel_rfl) rfl (by kernel_rfl) (by kernel_rfl) (by kernel_rfl) rfl rfl (OpV.load_own (i := 2) rfl hB Tryz.isAgg9 rfl rfl rfl (fun ⟨j, h1, h2, _⟩ => by subst h2; cases h1)) ?_
    refine VA.all (rs := [2]) (by kernel_rfl) (by decide) ?_
    refine ⟨⟨_, rfl, .inl rfl, ?_⟩, trivial⟩
    refine OpE.call rfl hB rfl Tryz.call130 rfl (SpecN.spec (itoa_100 (i := n) (by omega))) ?_
    rintro _ rfl
    refine VA.all (rs := [7]) (by kernel_rfl) (by decide) ?_
    refine ⟨⟨_, rfl, .inl rfl, ?_⟩, trivial⟩
    refine OpE.call rfl hB rfl Tryz.call172 rfl (inspect_verdictWords) ?_
    rintro _ rfl
    refine VA.take (i := 10) rfl (by kernel_rfl) (by kernel_rfl) (by kernel_rfl) rfl rfl (OpV.indexAddr_1 rfl Tryz.underlying29 Tryz.sizeOf9 rfl rfl (Int.toNat_of_nonneg (by omega)).symm (by omega)) ?_
    refine VA.take (i := 11) rfl (by kernel_rfl) (by kernel_rfl) (by kernel_rfl) rfl rfl (OpV.load_at rfl hB (OutW.wi (fun j b ⟨_, h⟩ => h.elim (fun e => ⟨_, List.mem_of_getElem? (i := 0) rfl, by rw [e]; rfl⟩) (fun e => ⟨_, List.mem_of_getElem? (i := 1) rfl, e⟩))) Tryz.isAgg9 rfl rfl) ?_
    refine VA.le _ (Le.recast (t := 33) (y := avS (vWd x)) rfl (fun w Z u h => h)) ?_
    refine VA.all (rs := [19]) (by kernel_rfl) (by decide) ?_
    refine ⟨⟨_, rfl, .inl rfl, ?_⟩, trivial⟩
    refine OpE.buildSlice (zc := #[.string ⟨#[]⟩, .string ⟨#[]⟩, .string ⟨#[]⟩, .string ⟨#[]⟩, .string ⟨#[]⟩, .string ⟨#[]⟩, .string ⟨#[]⟩, .string ⟨#[]⟩]) rfl hB rfl Tryz.underlying29 Tryz.sizeOf9 Tryz.zeroValue9 (by decide) (by decide) (by kernel_rfl) rfl rfl ?_
    refine VA.le _ (Le.litsS (t := 41) (xs := lineWs x) rfl (by rw [hnn]; rfl)) ?_
    refine VA.all (rs := [20]) (by kernel_rfl) (by decide) ?_
    refine ⟨⟨_, rfl, .inl rfl, ?_⟩, trivial⟩
    refine OpE.call rfl hB rfl Tryz.call94 rfl (SpecN.spec (kit_Join (xs := lineWs x) (by rw [lineWs_len]; decide) (by omega))) ?_
    rintro _ rfl
    refine VA.le _ (Le.recast (t := 42) (y := avS (lineT x)) rfl (fun w Z u h => h)) ?_
    refine VA.all (rs := [21]) (by kernel_rfl) (by decide) ?_
    refine ⟨⟨_, rfl, .inl rfl, ?_⟩, trivial⟩
    refine OpE.callH (rest := [_]) rfl hB rfl Tryz.call93 rfl rfl (Builder_WriteString_H hp (by omega)) (List.Perm.refl _) (fun b h => ⟨rfl, blkB h⟩) ?_
    rintro _ _ ⟨u43, rfl, rfl⟩
    refine VA.done (by kernel_rfl) ?_
    refine VC.region ?_
    refine VO.val rfl rfl (OpV.add rfl rfl rfl (by unfold fits; omega)) ?_
    refine VO.mv rfl rfl rfl rfl ?_
    refine VO.nil ?_
    exact Exists.intro (⟨((ptv g, u43), q + 1), by show q + 1 ≤ _; omega, bldOk.self g⟩) (And.intro (Le.mk hB [0, 1] ⟨rfl, rfl, rfl, rfl, trivial⟩ rfl (by dsimp only; rw [txt_take (by omega), hxx]; rfl) (Nat.le_refl _)) (by first | omega | (show _ < _; omega) | (simp only []; omega)))
  ·have aH1 := aH1b
   try simp only [qqT, qqF, qqN, qqM, qqL, qqE] at aH1
   obtain rfl : q = l.length := by omega
   rw [List.take_length] at hts ⊢
   refine VC.exit ?_
   refine VC.seq ?_
   refine VC.sr ?_
   refine VO.op rfl (OpE.callH0 rfl hB rfl Tryz.call158 rfl rfl (Builder_Len_H) (List.Perm.refl _) (fun _ _ => trivial) ?_)
   rintro _ _ ⟨rfl, rfl⟩
   refine VO.val rfl rfl (OpV.gtr rfl rfl rfl) ?_
   refine VO.nil ?_
   refine VC.cond rfl (fun aH2b => ?_) (fun aH2b => ?_)
   ·have aH2 := aH2b
    try simp only [qqT, qqF, qqN, qqM, qqL, qqE] at aH2
    exact VC.absurd (by omega)
   ·have aH2 := aH2b
    try simp only [qqT, qqF, qqN, qqM, qqL, qqE] at aH2
    refine VC.skip ?_
    refine VC.sr ?_
    refine VO.op rfl (OpE.bstr (i := 0) (j := 1) rfl hB rfl (fun _ h => h) Tryz.call96 rfl rfl hp rfl (by decide) ?_)
    refine VO.ma rfl rfl rfl rfl ?_
    refine VO.ma rfl rfl rfl rfl ?_
    refine VO.nil ?_
    refine VC.ret ?_
    exact Exists.intro _ (And.intro (RetN.two Tryz.results73 (ResN.v rfl) (ResN.v rfl)) (by rw [if_pos (by omega), show lookF l = 0 by omega]))
end Go.Proofs.YtdnlhdilpdeecaaGreatDoor
namespace Go.Proofs.YtdnlhdilpdeecaaGreatDoor
open Go.RowKit
set_option linter.unusedVariables false
set_option linter.unusedSimpArgs false
theorem cg_app (a b : ByteArray) : (a ++ b).size = a.size + b.size := ByteArray.size_append
theorem cg_ext (s : ByteArray) (a b : Nat) : (s.extract a b).size = min b s.size - a := ByteArray.size_extract
theorem cg_pos {p : ByteArray} (h : sEq p ⟨#[]⟩ = false) : 0 < p.size := by
 by_cases h0 : p.size = 0
 ·exfalso
  have : p = ⟨#[]⟩ := by
   apply ByteArray.ext
   apply Array.eq_empty_of_size_eq_zero
   exact h0
  rw [this, sEq_eq.2 rfl] at h; cases h
 ·omega
set_option maxRecDepth 100000 in
set_option maxHeartbeats 4000000 in
theorem changed_T {p : Nat} {L : List Int} {t s : ByteArray} (ht : t.size ≤ 1000000) (hs : 0 < s.size ∧ s.size ≤ 100) :
  SpecT Tryz.prog (TT p L) (fun b => b = p) 84 [sp p, avS t, avS s] 3 (fun y => ∃ r : ByteArray, r.size ≤ t.size + 100 ∧ y = avS r) := by
 refine SpecT.of_VC Tryz.func84 rfl Tryz.ntmps84 (Nle rfl) (low := (fun b => b ≤ p)) (fun w A k h => h.ok) fun w A k hk hB => ?_
 have hnew : True := trivial
 refine VC.sr ?_
 refine VO.ma rfl rfl rfl rfl ?_
 refine VO.nil ?_
 refine VC.seq ?_
 refine VC.sr ?_
 refine VO.mv rfl rfl rfl rfl ?_
 refine VO.val rfl rfl (OpV.seql rfl rfl rfl) ?_
 refine VO.mv rfl rfl rfl rfl ?_
 refine VO.opG rfl rfl rfl rfl (fun aK1b => ?_) (fun aK1b => ?_)
 ·replace aK1b : _ = false := aK1b
  have aK1 := aK1b
  try simp only [qqT, qqF, qqN, qqM, qqL, qqE] at aK1
  refine OpE.val (W := NoB) (OpV.move (.inl rfl) rfl) rfl ?_
  refine VO.opY rfl rfl rfl rfl aK1b ?_
  refine OpE.val (W := NoB) (OpV.seql rfl rfl rfl) rfl ?_
  refine VO.val rfl rfl (OpV.pickF rfl rfl rfl rfl aK1b) ?_
  refine VO.nil ?_
  refine VC.cond rfl (fun h0b => ?_) (fun h0b => ?_)
  ·have h0 := h0b
   try simp only [qqT, qqF, qqN, qqM, qqL, qqE] at h0
   refine VC.sr ?_
   refine VO.mv rfl rfl rfl rfl ?_
   refine VO.ma rfl rfl rfl rfl ?_
   refine VO.nil ?_
   refine VC.ret ?_
   exact Exists.intro _ (And.intro (RetV.one Tryz.results84 (ResV.tmp rfl)) (And.intro (⟨_, by omega, rfl⟩) ((show k ≤ k + 3 by omega))))
  ·have h0 := h0b
   try simp only [qqT, qqF, qqN, qqM, qqL, qqE] at h0
   refine VC.skip ?_
   refine VC.seq ?_
   have htp : 0 < t.size := cg_pos (by simp_all)
   have hsp := hs.1
   refine VC.region ?_
   refine VO.mv rfl rfl rfl rfl ?_
   refine VO.mv rfl rfl rfl rfl ?_
   refine VO.val rfl rfl (OpV.len_s rfl Tryz.underlying9 rfl) ?_
   refine VO.op rfl (OpE.callT' (k) rfl rfl hB rfl Tryz.call80 rfl ((next_T (by omega))) (by omega) ?_)
   rintro _ ⟨r19, hr19, rfl⟩
   obtain ⟨i, rfl⟩ : ∃ i : Nat, r19 = i := ⟨r19.toNat, by omega⟩
   refine VO.ma rfl rfl rfl rfl ?_
   refine VO.nil ?_
   refine VC.sr ?_
   refine VO.mv rfl rfl rfl rfl ?_
   refine VO.mv rfl rfl rfl rfl ?_
   refine VO.mv rfl rfl rfl rfl ?_
   refine VO.val rfl rfl (OpV.len_s rfl Tryz.underlying9 rfl) ?_
   refine VO.op rfl (OpE.callT' (k + 1) rfl rfl hB rfl Tryz.call80 rfl ((next_T (by omega))) (by omega) ?_)
   rintro _ ⟨r24, hr24, rfl⟩
   obtain ⟨j, rfl⟩ : ∃ j : Nat, r24 = j := ⟨r24.toNat, by omega⟩
   refine VO.val rfl rfl (OpV.index_s rfl Tryz.underlying9 rfl rfl (by omega) (by omega)) ?_
   obtain ⟨cv, hcv, hcb⟩ : ∃ cv : Nat, cv = s[(j : Int).toNat].toNat ∧ cv < 256 := ⟨_, rfl, UInt8.toNat_lt _⟩
   refine VO.le _ (Le.recast (t := 25) (y := .v (.int .u8 (cv : Int))) rfl (fun w Z u h => by rw [hcv]; exact h)) ?_
   refine VO.ma rfl rfl rfl rfl ?_
   refine VO.nil ?_
   refine VC.seq ?_
   refine VC.seq ?_
   have hen := encL_small (cv : Int)
   have hx1 := cg_ext t 0 i
   have hx2 := cg_ext t (i + 1) t.size
   have hx3 := cg_ext t i t.size
   refine VC.region ?_
   refine VO.mv rfl rfl rfl rfl ?_
   refine VO.op rfl (OpE.callT' (k + 1 + 1) rfl rfl hB rfl Tryz.call80 rfl ((next_T (by omega))) (by omega) ?_)
   rintro _ ⟨r27, hr27, rfl⟩
   refine VO.nil ?_
   refine VC.block ?_
   refine VC.sr ?_
   refine VO.val rfl rfl (OpV.eql rfl rfl rfl) ?_
   refine VO.ma rfl rfl rfl rfl ?_
   refine VO.nil ?_
   refine VC.cond rfl (fun aH2b => ?_) (fun aH2b => ?_)
   ·have aH2 := aH2b
    try simp only [qqT, qqF, qqN, qqM, qqL, qqE] at aH2
    refine VC.seq ?_
    refine VC.draw (fun _ => NoB) hB (by kernel_rfl) ?_
    refine VA.take (i := 0) rfl (by kernel_rfl) (by kernel_rfl) (by kernel_rfl) rfl rfl (OpV.move (.inl rfl) rfl) ?_
    refine VA.take (i := 1) rfl (by kernel_rfl) (by kernel_rfl) (by kernel_rfl) rfl rfl (OpV.move (.inl rfl) rfl) ?_
    refine VA.take (i := 2) rfl (by kernel_rfl) (by kernel_rfl) (by kernel_rfl) rfl rfl (OpV.slice_s (h := i) rfl Tryz.underlying9 rfl rfl ⟨_, _, rfl, by omega⟩ (by omega) (by omega)) ?_
    refine VA.take (i := 3) rfl (by kernel_rfl) (by kernel_rfl) (by kernel_rfl) rfl rfl (OpV.move (.inl rfl) rfl) ?_
    refine VA.take (i := 4) rfl (by kernel_rfl) (by kernel_rfl) (by kernel_rfl) rfl rfl (OpV.conv rfl Tryz.underlying5 Tryz.underlying21 rfl (IntWalk.i32_in _ (by omega))) ?_
    refine VA.take (i := 5) rfl (by kernel_rfl) (by kernel_rfl) (by kernel_rfl) rfl rfl (OpV.convStr rfl Tryz.underlying21 Tryz.underlying9 rfl) ?_
    refine VA.take (i := 6) rfl (by kernel_rfl) (by kernel_rfl) (by kernel_rfl) rfl rfl (OpV.sadd rfl rfl rfl (by omega)) ?_
    refine VA.take (i := 7) rfl (by kernel_rfl) (by kernel_rfl) (by kernel_rfl) rfl rfl (OpV.move (.inl rfl) rfl) ?_
    refine VA.take (i := 8) rfl (by kernel_rfl) (by kernel_rfl) (by kernel_rfl) rfl rfl (OpV.move (.inl rfl) rfl) ?_
    refine VA.take (i := 9) rfl (by kernel_rfl) (by kernel_rfl) (by kernel_rfl) rfl rfl (OpV.add rfl rfl rfl (by unfold fits; omega)) ?_
    refine VA.take (i := 10) rfl (by kernel_rfl) (by kernel_rfl) (by kernel_rfl) rfl rfl (OpV.slice_s (l := i + 1) rfl Tryz.underlying9 rfl ⟨_, _, rfl, by omega⟩ rfl (by omega) (by omega)) ?_
    refine VA.take (i := 11) rfl (by kernel_rfl) (by kernel_rfl) (by kernel_rfl) rfl rfl (OpV.sadd rfl rfl rfl (by simp only [cg_app]; omega)) ?_
    refine VA.take (i := 12) rfl (by kernel_rfl) (by kernel_rfl) (by kernel_rfl) rfl rfl (OpV.move (.inr rfl) rfl) ?_
    refine VA.done (by kernel_rfl) ?_
    refine VC.ret ?_
    exact Exists.intro _ (And.intro (RetV.one Tryz.results84 (ResV.tmp rfl)) (And.intro (⟨_, by simp only [cg_app]; omega, rfl⟩) ((show k + 1 + 1 + 1 ≤ k + 3 by omega))))
   ·have aH2 := aH2b
    try simp only [qqT, qqF, qqN, qqM, qqL, qqE] at aH2
    refine VC.sr ?_
    refine VO.val rfl rfl (OpV.eql rfl rfl rfl) ?_
    refine VO.ma rfl rfl rfl rfl ?_
    refine VO.nil ?_
    refine VC.cond rfl (fun aH3b => ?_) (fun aH3b => ?_)
    ·have aH3 := aH3b
     try simp only [qqT, qqF, qqN, qqM, qqL, qqE] at aH3
     refine VC.seq ?_
     refine VC.draw (fun _ => NoB) hB (by kernel_rfl) ?_
     refine VA.take (i := 0) rfl (by kernel_rfl) (by kernel_rfl) (by kernel_rfl) rfl rfl (OpV.move (.inl rfl) rfl) ?_
     refine VA.take (i := 1) rfl (by kernel_rfl) (by kernel_rfl) (by kernel_rfl) rfl rfl (OpV.move (.inl rfl) rfl) ?_
     refine VA.take (i := 2) rfl (by kernel_rfl) (by kernel_rfl) (by kernel_rfl) rfl rfl (OpV.slice_s (h := i) rfl Tryz.underlying9 rfl rfl ⟨_, _, rfl, by omega⟩ (by omega) (by omega)) ?_
     refine VA.take (i := 3) rfl (by kernel_rfl) (by kernel_rfl) (by kernel_rfl) rfl rfl (OpV.move (.inl rfl) rfl) ?_
     refine VA.take (i := 4) rfl (by kernel_rfl) (by kernel_rfl) (by kernel_rfl) rfl rfl (OpV.conv rfl Tryz.underlying5 Tryz.underlying21 rfl (IntWalk.i32_in _ (by omega))) ?_
     refine VA.take (i := 5) rfl (by kernel_rfl) (by kernel_rfl) (by kernel_rfl) rfl rfl (OpV.convStr rfl Tryz.underlying21 Tryz.underlying9 rfl) ?_
     refine VA.take (i := 6) rfl (by kernel_rfl) (by kernel_rfl) (by kernel_rfl) rfl rfl (OpV.sadd rfl rfl rfl (by omega)) ?_
     refine VA.take (i := 7) rfl (by kernel_rfl) (by kernel_rfl) (by kernel_rfl) rfl rfl (OpV.move (.inl rfl) rfl) ?_
     refine VA.take (i := 8) rfl (by kernel_rfl) (by kernel_rfl) (by kernel_rfl) rfl rfl (OpV.move (.inl rfl) rfl) ?_
     refine VA.take (i := 9) rfl (by kernel_rfl) (by kernel_rfl) (by kernel_rfl) rfl rfl (OpV.slice_s (l := i) rfl Tryz.underlying9 rfl ⟨_, _, rfl, by omega⟩ rfl (by omega) (by omega)) ?_
     refine VA.take (i := 10) rfl (by kernel_rfl) (by kernel_rfl) (by kernel_rfl) rfl rfl (OpV.sadd rfl rfl rfl (by simp only [cg_app]; omega)) ?_
     refine VA.take (i := 11) rfl (by kernel_rfl) (by kernel_rfl) (by kernel_rfl) rfl rfl (OpV.move (.inr rfl) rfl) ?_
     refine VA.done (by kernel_rfl) ?_
     refine VC.ret ?_
     exact Exists.intro _ (And.intro (RetV.one Tryz.results84 (ResV.tmp rfl)) (And.intro (⟨_, by simp only [cg_app]; omega, rfl⟩) ((show k + 1 + 1 + 1 ≤ k + 3 by omega))))
    ·have aH3 := aH3b
     try simp only [qqT, qqF, qqN, qqM, qqL, qqE] at aH3
     refine VC.skip ?_
     refine VC.seq ?_
     refine VC.draw (fun _ => NoB) hB (by kernel_rfl) ?_
     refine VA.take (i := 0) rfl (by kernel_rfl) (by kernel_rfl) (by kernel_rfl) rfl rfl (OpV.move (.inl rfl) rfl) ?_
     refine VA.take (i := 1) rfl (by kernel_rfl) (by kernel_rfl) (by kernel_rfl) rfl rfl (OpV.move (.inl rfl) rfl) ?_
     refine VA.take (i := 2) rfl (by kernel_rfl) (by kernel_rfl) (by kernel_rfl) rfl rfl (OpV.slice_s (h := i) rfl Tryz.underlying9 rfl rfl ⟨_, _, rfl, by omega⟩ (by omega) (by omega)) ?_
     refine VA.take (i := 3) rfl (by kernel_rfl) (by kernel_rfl) (by kernel_rfl) rfl rfl (OpV.move (.inl rfl) rfl) ?_
     refine VA.take (i := 4) rfl (by kernel_rfl) (by kernel_rfl) (by kernel_rfl) rfl rfl (OpV.move (.inl rfl) rfl) ?_
     refine VA.take (i := 5) rfl (by kernel_rfl) (by kernel_rfl) (by kernel_rfl) rfl rfl (OpV.add rfl rfl rfl (by unfold fits; omega)) ?_
     refine VA.take (i := 6) rfl (by kernel_rfl) (by kernel_rfl) (by kernel_rfl) rfl rfl (OpV.slice_s (l := i + 1) rfl Tryz.underlying9 rfl ⟨_, _, rfl, by omega⟩ rfl (by omega) (by omega)) ?_
     refine VA.take (i := 7) rfl (by kernel_rfl) (by kernel_rfl) (by kernel_rfl) rfl rfl (OpV.sadd rfl rfl rfl (by omega)) ?_
     refine VA.take (i := 8) rfl (by kernel_rfl) (by kernel_rfl) (by kernel_rfl) rfl rfl (OpV.move (.inr rfl) rfl) ?_
     refine VA.done (by kernel_rfl) ?_
     refine VC.ret ?_
     exact Exists.intro _ (And.intro (RetV.one Tryz.results84 (ResV.tmp rfl)) (And.intro (⟨_, by simp only [cg_app]; omega, rfl⟩) ((show k + 1 + 1 + 1 ≤ k + 3 by omega))))
 ·replace aK1b : _ = true := aK1b
  have aK1 := aK1b
  try simp only [qqT, qqF, qqN, qqM, qqL, qqE] at aK1
  refine VO.opX rfl rfl rfl rfl aK1b ?_
  refine VO.val rfl rfl (OpV.pickT rfl rfl rfl rfl aK1b) ?_
  refine VO.nil ?_
  refine VC.condT rfl rfl ?_
  refine VC.sr ?_
  refine VO.mv rfl rfl rfl rfl ?_
  refine VO.ma rfl rfl rfl rfl ?_
  refine VO.nil ?_
  refine VC.ret ?_
  exact Exists.intro _ (And.intro (RetV.one Tryz.results84 (ResV.tmp rfl)) (And.intro (⟨_, by omega, rfl⟩) ((show k ≤ k + 3 by omega))))
end Go.Proofs.YtdnlhdilpdeecaaGreatDoor
namespace Go.Proofs.YtdnlhdilpdeecaaGreatDoor
open Go.RowKit
set_option linter.unusedVariables false
set_option linter.unusedSimpArgs false
theorem take_getD {l : List LookS} {n q : Nat} (h : q < (l.take n).length) : (l.take n).getD q default = l.getD q default := by
 rw [List.length_take] at h
 rw [List.getD_eq_getElem?_getD, List.getD_eq_getElem?_getD, List.getElem?_take, if_pos (by omega)]
set_option maxRecDepth 100000 in
set_option maxHeartbeats 4000000 in
theorem lookText_T {p : Nat} {L : List Int}  :
  SpecT Tryz.prog (TT p L) (fun b => b = p) 72 [sp p] 1320 (fun y => ∃ r : ByteArray, r.size ≤ 21000 ∧ y = avS r) := by
 refine SpecT.of_VC Tryz.func72 rfl Tryz.ntmps72 (Nle rfl) (low := (fun b => b ≤ p)) (fun w A k h => h.ok) fun w A k hk hB => ?_
 have hnew : True := trivial
 refine VC.sr ?_
 refine VO.ma rfl rfl rfl rfl ?_
 refine VO.nil ?_
 refine VC.sr ?_
 refine VO.mv rfl rfl rfl rfl ?_
 refine VO.op rfl (OpE.callTO (k) rfl rfl hB rfl Tryz.call45 rfl (rightLooks_O (m := 3) (by omega)) (by omega) ?_)
 rintro _ _ ⟨l, ul, ⟨hll, hlk, hl0⟩, rfl, rfl⟩
 refine VO.le _ (Le.rowT (t := 6) (i := 0) (xs := l) hB hnew rfl rfl rfl) ?_
 refine VO.ma rfl rfl rfl rfl ?_
 refine VO.nil ?_
 refine VC.seq ?_
 obtain ⟨n4, hn4⟩ : ∃ n4 : Nat, min l.length 4 = n4 := ⟨_, rfl⟩
 have hl9 : l.length ≤ 9 := by omega
 have htk : (l.take n4).length ≤ 4 := by rw [List.length_take]; omega
 have ht : ∀ j, j < (l.take n4).length → LkT ((l.take n4).getD j default) := fun j hj => by
  rw [take_getD hj]
  rw [List.length_take] at hj
  exact LkT.of (m := 3) (by omega) hlk hl0 (by omega)
 have hts := txt_size ht (l.take n4).length (Nat.le_refl _)
 rw [List.take_length] at hts
 obtain ⟨lt, hlt⟩ : ∃ lt, l.take n4 = lt := ⟨_, rfl⟩
 rw [hlt] at ht hts htk
 obtain ⟨tx, htx⟩ : ∃ tx, txt lt = tx := ⟨_, rfl⟩
 rw [htx] at hts
 refine VC.region ?_
 refine VO.mv rfl rfl rfl rfl ?_
 refine VO.mv rfl rfl rfl rfl ?_
 refine VO.val rfl rfl (OpV.len_im rfl Tryz.underlying54 rfl) ?_
 refine VO.val rfl rfl (OpV.min2 rfl rfl rfl) ?_
 refine VO.val rfl rfl (OpV.slice_L (h := n4) rfl Tryz.underlying54 Tryz.sizeOf80 rfl rfl ⟨_, _, rfl, by omega⟩ (by omega) (by omega)) ?_
 refine VO.le _ (Le.recast (t := 11) (y := avL lt) rfl (fun w Z u h => by rw [← hlt]; exact h)) ?_
 refine VO.op rfl (OpE.call rfl hB rfl Tryz.call74 rfl (SpecN.spec (rf_LookLines (by omega) ht)) ?_)
 rintro _ rfl
 rw [htx]
 refine VO.ma rfl rfl rfl rfl ?_
 refine VO.nil ?_
 refine VC.seq ?_
 refine VC.sr ?_
 refine VO.mv rfl rfl rfl rfl ?_
 refine VO.op rfl (OpE.buildSlice (zc := #[.int .i64 0, .int .i64 0, .int .i64 0, .int .i64 0]) rfl hB rfl Tryz.underlying22 Tryz.sizeOf3 Tryz.zeroValue3 (by decide) (by decide) (by kernel_rfl) rfl rfl ?_)
 refine VO.op rfl (OpE.callT' (k + 1300) rfl rfl hB rfl Tryz.call14 rfl ((pick_T 0 2 (by rfl) (by decide) (by decide) (by repeat (first | exact AllI.nil | refine AllI.cons (by omega) ?_)))) (by omega) ?_)
 rintro _ ⟨r15, hr15, rfl⟩
 obtain ⟨c, rfl⟩ : ∃ c : Nat, r15 = c := ⟨r15.toNat, by omega⟩
 refine VO.mv rfl rfl rfl rfl ?_
 refine VO.nil ?_
 refine VC.block ?_
 refine VC.loopK [(0, _), (15, _)] ⟨rfl, rfl, trivial⟩ ({z : ByteArray × Nat // z.2 ≤ c ∧ z.1.size ≤ 20400 + 100 * z.2}) (fun (iZ : {z : ByteArray × Nat // z.2 ≤ c ∧ z.1.size ≤ 20400 + 100 * z.2}) => match iZ with | ⟨⟨t, q⟩, hq, htz⟩ => [(4, avS t), (16, avI (q : Int))]) (fun (iZ : {z : ByteArray × Nat // z.2 ≤ c ∧ z.1.size ≤ 20400 + 100 * z.2}) => match iZ with | ⟨⟨t, q⟩, hq, htz⟩ => []) (fun (iZ : {z : ByteArray × Nat // z.2 ≤ c ∧ z.1.size ≤ 20400 + 100 * z.2}) => match iZ with | ⟨⟨t, q⟩, hq, htz⟩ => k + 1301 + 3 * q) (fun (iZ : {z : ByteArray × Nat // z.2 ≤ c ∧ z.1.size ≤ 20400 + 100 * z.2}) => match iZ with | ⟨⟨t, q⟩, hq, htz⟩ => c - q) ⟨(tx, 0), Nat.zero_le _, by show tx.size ≤ 20400 + 100 * 0; omega⟩ (Le.mk hB [] ⟨rfl, rfl, rfl, rfl, trivial⟩ rfl rfl (show k + 1300 + 1 ≤ k + 1301 + 3 * 0 by omega)) ?_
 rintro ⟨⟨t, q⟩, hq, htz⟩
 show VC _ _ _ _ ⟨[(4, avS t), (16, avI (q : Int))] ++ [(0, _), (15, _)], [], k + 1301 + 3 * q⟩
 simp only at hq htz
 refine VC.sr ?_
 refine VO.val rfl rfl (OpV.lss rfl rfl rfl) ?_
 refine VO.nil ?_
 refine VC.seq ?_
 refine VC.cond rfl (fun aH1b => ?_) (fun aH1b => ?_)
 ·have aH1 := aH1b
  try simp only [qqT, qqF, qqN, qqM, qqL, qqE] at aH1
  refine VC.skip ?_
  refine VC.seq ?_
  refine VC.block ?_
  refine VC.region ?_
  refine VO.mv rfl rfl rfl rfl ?_
  refine VO.mv rfl rfl rfl rfl ?_
  refine VO.op rfl (OpE.callT' (k + 1301 + 3 * q) rfl rfl hB rfl Tryz.call84 rfl (changed_T (by omega) (by decide)) (by omega) ?_)
  rintro _ ⟨r20, hr20, rfl⟩
  refine VO.ma rfl rfl rfl rfl ?_
  refine VO.nil ?_
  refine VC.region ?_
  refine VO.val rfl rfl (OpV.add rfl rfl rfl (by unfold fits; omega)) ?_
  refine VO.mv rfl rfl rfl rfl ?_
  refine VO.nil ?_
  exact Exists.intro (⟨(r20, q + 1), by show q + 1 ≤ c; omega, by show r20.size ≤ 20400 + 100 * (q + 1); omega⟩) (And.intro (Le.mk hB [] ⟨rfl, rfl, rfl, rfl, trivial⟩ rfl rfl (show k + 1301 + 3 * q + 3 ≤ k + 1301 + 3 * (q + 1) by omega)) (by first | omega | (show _ < _; omega) | (simp only []; omega)))
 ·have aH1 := aH1b
  try simp only [qqT, qqF, qqN, qqM, qqL, qqE] at aH1
  refine VC.exit ?_
  refine VC.sr ?_
  refine VO.mv rfl rfl rfl rfl ?_
  refine VO.ma rfl rfl rfl rfl ?_
  refine VO.nil ?_
  refine VC.ret ?_
  exact Exists.intro _ (And.intro (RetV.one Tryz.results72 (ResV.tmp rfl)) (And.intro (⟨t, by omega, rfl⟩) ((show k + 1301 + 3 * q ≤ k + 1320 by omega))))
end Go.Proofs.YtdnlhdilpdeecaaGreatDoor
