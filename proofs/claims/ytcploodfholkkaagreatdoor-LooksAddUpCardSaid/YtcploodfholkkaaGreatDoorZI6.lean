/- Part 6 of a proof: the walks and laws that it needs. -/
import Derived.Lib.Walk
import Derived.Sort.Grow
import Derived.Test.YtcploodfholkkaaGreatDoorZI5
set_option linter.unusedVariables false
set_option linter.unusedSimpArgs false
namespace Go.Proofs.YtcploodfholkkaaGreatDoor
open Go.RowKit
set_option maxRecDepth 100000
section
theorem isSl_of_rep {w : World} {Z : Nat → Prop} {xs : List Int} {v : Value} (h : Rep w Z (avInts xs) v) : IsSl w Z v xs := by
 change Rep w Z (.im xs.length 1 fun j => avI (xs.getD j 0)) v at h
 generalize hn : xs.length = n at h
 cases h with
 | nil => exact .inl ⟨rfl, List.eq_nil_of_length_eq_zero hn⟩
 | im n sz f b off cap c e u hZ h1 h2 hb hc hr =>
  refine .inr ⟨b, off, cap, c, e, by rw [hn], hZ, by omega, h2, hb, fun i hi => ?_⟩
  show c[off + i * 1 + 0]? = some (.int .i64 xs[i])
  have k1 := hc i (by omega)
  have k2 := (hr i (by omega)).eq_v
  rw [k2] at k1
  simpa [hi] using k1
theorem rep_of_isSl {w : World} {A : Nat → Prop} {v : Value} {xs : List Int} (h : IsSl w A v xs) : Rep w A (avInts xs) v := by
 rcases h with ⟨rfl, rfl⟩ | ⟨b, off, cap, c, e, rfl, hb, hl, hm, hh, hi⟩
 ·exact .nil _ _
 ·refine .im _ 1 _ b off cap c e (fun j => .int .i64 (xs.getD j 0)) hb hl hm hh (fun j hj => ?_) fun j hj => .v _
  have : c[off + j * 1 + 0]? = some (.int .i64 (xs[j]'(by omega))) := hi j (by omega)
  have hj' : j < xs.length := by omega
  simpa [hj'] using this
theorem argsLLv {x y : AV} {u : Value} {w : World} {A : Nat → Prop} {us : Array Value} (h : Args w A [x, y, .v u] us) : ∃ v1 v2, us = #[v1, v2, u] ∧ Rep w (fun b => b < w.heap.size ∧ A b) x v1 ∧ Rep w (fun b => b < w.heap.size ∧ A b) y v2 := by
 obtain ⟨h1, h2⟩ := h
 have e2 := (h2 2 (by simp)).eq_v
 refine ⟨us.getD 0 undef, us.getD 1 undef, ?_, h2 0 (by simp), h2 1 (by simp)⟩
 apply Array.ext (by simpa using h1)
 intro i hi hi'
 simp at hi'
 rw [h1] at hi
 match i, hi' with
 | 0, _ => simp [Array.getD_eq_getD_getElem?, h1]
 | 1, _ => simp [Array.getD_eq_getD_getElem?, h1]
 | 2, _ => simpa [Array.getD_eq_getD_getElem?, h1] using e2
theorem line_Leave_S {c b : List Int} {n : Int} : SpecN Tryz.prog 32 [avInts c, avInts b, avI n] (fun y => y = .tup [avInts (leavesF c b n), avI (flowF c b n)]) := by
 intro w us ha
 obtain ⟨v1, v2, rfl, q1, q2⟩ := argsLLv ha
 refine (leave_any v1 v2 c b n _ _ w (isSl_of_rep q1) (isSl_of_rep q2)).mono ?_
 rintro e w' ⟨v, rfl, hv, hc⟩
 refine ⟨_, _, rfl, rfl, .tup _ _ rfl fun j hj => ?_, hc, trivial⟩
 match j, hj with
 | 0, _ => exact (rep_of_isSl hv).keep fun b hb hl => ⟨rfl, hl, fun h => absurd h (Nat.not_lt.2 hb)⟩
 | 1, _ => exact .v _
end
section
theorem rk_errs {xs : List Int} (hl : xs.length ≤ 1000000000) :
  SpecN Tryz.prog 65 [avInts xs] (fun y => y = avI (errsF xs)) := by
 refine SpecN.of_VCN Tryz.func65 rfl Tryz.ntmps65 (Nle rfl) fun w A hB => ?_
 refine VC.sr ?_
 refine VO.ma rfl rfl rfl rfl ?_
 refine VO.nil ?_
 refine VC.seq ?_
 refine VC.sr ?_
 refine VO.mv rfl rfl rfl rfl ?_
 refine VO.val rfl rfl (OpV.len_im rfl Tryz.underlying262 rfl) ?_
 refine VO.mv rfl rfl rfl rfl ?_
 refine VO.nil ?_
 refine VC.block ?_
 refine VC.loopK [(5, _), (6, _)] ⟨rfl, rfl, trivial⟩ ({q : Nat // q ≤ xs.length ∧ ∀ j, j < q → xs.getD j 0 = 0}) (fun (iZ : {q : Nat // q ≤ xs.length ∧ ∀ j, j < q → xs.getD j 0 = 0}) => match iZ with | ⟨q, hq, hn⟩ => [(7, avI (q : Int))]) (fun (iZ : {q : Nat // q ≤ xs.length ∧ ∀ j, j < q → xs.getD j 0 = 0}) => match iZ with | ⟨q, hq, hn⟩ => []) (fun (iZ : {q : Nat // q ≤ xs.length ∧ ∀ j, j < q → xs.getD j 0 = 0}) => match iZ with | ⟨q, hq, hn⟩ => 0) (fun (iZ : {q : Nat // q ≤ xs.length ∧ ∀ j, j < q → xs.getD j 0 = 0}) => match iZ with | ⟨q, hq, hn⟩ => xs.length - q) ⟨0, Nat.zero_le _, fun j hj => absurd hj (Nat.not_lt_zero j)⟩ (Le.mk hB [] ⟨rfl, rfl, rfl, trivial⟩ rfl rfl (Nat.le_refl _)) ?_
 rintro ⟨q, hq, hn⟩
 show VC _ _ _ _ ⟨[(7, avI (q : Int))] ++ [(5, _), (6, _)], [], 0⟩
 refine VC.sr ?_
 refine VO.val rfl rfl (OpV.lss rfl rfl rfl) ?_
 refine VO.nil ?_
 refine VC.seq ?_
 refine VC.cond rfl (fun aH1b => ?_) (fun aH1b => ?_)
 ·have aH1 := aH1b
  try simp only [qq] at aH1
  refine VC.skip ?_
  refine VC.seq ?_
  refine VC.block ?_
  refine VC.sr ?_
  refine VO.val rfl rfl (OpV.indexAddr_1 rfl Tryz.underlying262 Tryz.sizeOf34 rfl rfl rfl (by omega)) ?_
  refine VO.val rfl rfl (OpV.load_at rfl hB OutW.no Tryz.isAgg34 rfl rfl) ?_
  refine VO.ma rfl rfl rfl rfl ?_
  refine VO.nil ?_
  refine VC.sr ?_
  refine VO.mv rfl rfl rfl rfl ?_
  refine VO.val rfl rfl (OpV.neq rfl rfl rfl) ?_
  refine VO.nil ?_
  refine VC.cond rfl (fun h1b => ?_) (fun h1b => ?_)
  ·have h1 := h1b
   try simp only [qq] at h1
   refine VC.sr ?_
   refine VO.mv rfl rfl rfl rfl ?_
   refine VO.ma rfl rfl rfl rfl ?_
   refine VO.nil ?_
   refine VC.ret ?_
   exact Exists.intro _ (And.intro (RetN.one Tryz.results65 (ResN.v rfl)) (by rw [errsF_at (q := q) (by omega) hn h1]))
  ·have h1 := h1b
   try simp only [qq] at h1
   refine VC.skip ?_
   refine VC.region ?_
   refine VO.val rfl rfl (OpV.add rfl rfl rfl (by unfold fits; omega)) ?_
   refine VO.mv rfl rfl rfl rfl ?_
   refine VO.nil ?_
   exact Exists.intro (⟨q + 1, by omega, lt_succ_cases hn ((by omega))⟩) (And.intro (Le.mk hB [] ⟨rfl, rfl, rfl, trivial⟩ rfl rfl (Nat.le_refl _)) (by first | omega | (show _ < _; omega) | (simp only []; omega)))
 ·have aH1 := aH1b
  try simp only [qq] at aH1
  refine VC.exit ?_
  refine VC.sr ?_
  refine VO.ma rfl rfl rfl rfl ?_
  refine VO.nil ?_
  refine VC.ret ?_
  exact Exists.intro _ (And.intro (RetN.one Tryz.results65 (ResN.v rfl)) (by rw [errsF_none (fun j hj => hn j (by omega))]))
def rdL : List LookS := [⟨⟨#[98]⟩, ⟨#[99]⟩, 0, 1, true, ⟨#[109]⟩, ⟨#[110]⟩, ⟨#[114]⟩⟩]
theorem one_sz {α : Type} [Inhabited α] {f : α → ByteArray} {x : α} (h : (f x).size ≤ 1000000) (h0 : (f default).size ≤ 1000000) (i : Nat) : (f ([x].getD i default)).size ≤ 1000000 := by
 match i with
 | 0 => exact h
 | i + 1 => exact h0
theorem rdL_sm : SmLk rdL := ⟨by decide, one_sz (f := LookS.board) (by decide) (by decide), one_sz (f := LookS.name) (by decide) (by decide), one_sz (f := LookS.machine) (by decide) (by decide), one_sz (f := LookS.nozzle) (by decide) (by decide), one_sz (f := LookS.reel) (by decide) (by decide)⟩
theorem rdL_ok : millE rdL = 0 := by decide +kernel
theorem rdL_n : (millN rdL).1 = 1000000 := by decide +kernel
def rdP : List PaceS := [⟨⟨#[112]⟩, 10, []⟩]
def rdO : List OrdrS := [⟨⟨#[111]⟩, ⟨#[112]⟩, 3, 0, 5⟩]
theorem rdP_sm : SmPc rdP := ⟨by decide, one_sz (f := PaceS.product) (by decide) (by decide), fun i => by
 match i with
 | 0 => decide
 | i + 1 => show ([] : List NeedS).length ≤ _; decide, fun i j => by
 match i with
 | 0 => show (([] : List NeedS).getD j default).key.size ≤ _; simp; decide
 | i + 1 => show (([] : List NeedS).getD j default).key.size ≤ _; simp; decide⟩
theorem rdO_sm : SmOr rdO := ⟨by decide, one_sz (f := OrdrS.key) (by decide) (by decide), one_sz (f := OrdrS.product) (by decide) (by decide)⟩
theorem rd_sch : scheF rdP rdO [0] 1 0 = 0 := by decide +kernel
theorem rd_from : fromP rdP rdO [0] 1 0 0 = 1 := by decide +kernel
theorem rd_end : endP rdP rdO [0] 1 0 0 = 31 := by decide +kernel
theorem rd_times : timesR rdP rdO [0] 1 0 = [⟨1, 31⟩] := by
 rw [timesR, if_pos rd_sch]
 show [winP rdP rdO [0] 1 0 0] = _
 rw [winP, rd_from, rd_end]
theorem pace_nil {w : World} {Z : Nat → Prop} {u : Value} {a : ByteArray} {b : Int} (h : Rep w Z (.agg [avS a, avI b, .v (.slice none 0 0)]) u) : Rep w Z (avPc ⟨a, b, []⟩) u := by
 cases h with
 | agg cs us hl hr =>
  refine .agg _ us hl fun j hj => ?_
  match j, hj with
  | 0, _ => exact hr 0 (by simp)
  | 1, _ => exact hr 1 (by simp)
  | 2, _ =>
   have := hr 2 (by simp)
   show Rep w Z (.im 0 2 _) _
   rw [this.eq_v]; exact .nil _ _
set_option maxHeartbeats 4000000 in
theorem rk_ready   :
  SpecN Tryz.prog 22 [] (fun y => y = avB true) := by
 refine SpecN.of_VCN Tryz.func22 rfl Tryz.ntmps22 (Nle rfl) fun w A hB => ?_
 refine VC.sr ?_
 refine VO.ma rfl rfl rfl rfl ?_
 refine VO.nil ?_
 refine VC.sr ?_
 refine VO.val rfl rfl (OpV.build (pls := #[(0, 1), (1, 1), (2, 1), (3, 1), (4, 1)]) rfl Tryz.zeroValue152 Tryz.underlying152 (fun w => by kernel_rfl) rfl rfl) ?_
 refine VO.op rfl (OpE.buildSlice (zc := #[.string ⟨#[]⟩, .string ⟨#[]⟩, .int .i64 0, .int .i64 0, .int .i64 0]) rfl hB rfl Tryz.underlying26 Tryz.sizeOf152 Tryz.zeroValue152 (by decide) (by decide) (by kernel_rfl) rfl rfl ?_)
 refine VO.le _ (Le.recast (t := 13) (y := avL panL) rfl (fun w Z u h => Rep.rowL (xs := panL) rfl h)) ?_
 refine VO.val rfl rfl (OpV.build (pls := #[(0, 1), (1, 1), (2, 1), (3, 1)]) rfl Tryz.zeroValue28 Tryz.underlying28 (fun w => by kernel_rfl) rfl rfl) ?_
 refine VO.op rfl (OpE.call rfl hB rfl Tryz.call83 rfl (SpecN.spec (panel_Needs (p := panP) panP_sm)) ?_)
 rintro _ rfl
 refine VO.le _ (Le.recast (t := 15) (y := .tup [avL ([⟨⟨#[99, 97, 112]⟩, 1⟩] : List NeedS), avI 0]) rfl (fun w Z u h => by rw [← panP_needs, ← panP_ok]; exact h)) ?_
 refine VO.mv rfl rfl rfl rfl ?_
 refine VO.val rfl rfl (OpV.extract rfl rfl rfl) ?_
 refine VO.val rfl rfl (OpV.extract rfl rfl rfl) ?_
 refine VO.ma rfl rfl rfl rfl ?_
 refine VO.ma rfl rfl rfl rfl ?_
 refine VO.nil ?_
 refine VC.sr ?_
 refine VO.op rfl (OpE.buildSlice (zc := #[.string ⟨#[]⟩]) rfl hB rfl Tryz.underlying82 Tryz.sizeOf9 Tryz.zeroValue9 (by decide) (by decide) (by kernel_rfl) rfl rfl ?_)
 refine VO.le _ (Le.recast (t := 19) (y := avStrs loadS) rfl (fun w Z u h => Rep.strs (xs := loadS) rfl h)) ?_
 refine VO.op rfl (OpE.buildSlice (zc := #[.string ⟨#[]⟩]) rfl hB rfl Tryz.underlying82 Tryz.sizeOf9 Tryz.zeroValue9 (by decide) (by decide) (by kernel_rfl) rfl rfl ?_)
 refine VO.le _ (Le.recast (t := 20) (y := avStrs [⟨#[97]⟩]) rfl (fun w Z u h => Rep.strs (xs := [⟨#[97]⟩]) rfl h)) ?_
 refine VO.op rfl (OpE.buildSlice (zc := #[.string ⟨#[]⟩]) rfl hB rfl Tryz.underlying82 Tryz.sizeOf9 Tryz.zeroValue9 (by decide) (by decide) (by kernel_rfl) rfl rfl ?_)
 refine VO.le _ (Le.recast (t := 21) (y := avStrs [⟨#[98]⟩]) rfl (fun w Z u h => Rep.strs (xs := [⟨#[98]⟩]) rfl h)) ?_
 refine VO.op rfl (OpE.buildSlice (zc := #[.slice none 0 0, .slice none 0 0]) rfl hB rfl Tryz.underlying169 Tryz.sizeOf82 Tryz.zeroValue82 (by decide) (by decide) (by kernel_rfl) rfl rfl ?_)
 refine VO.le _ (Le.recast (t := 22) (y := avM loadP) rfl (fun w Z u h => Rep.listM (xs := loadP) rfl h)) ?_
 refine VO.op rfl (OpE.call rfl hB rfl Tryz.call84 rfl (SpecN.spec (setup_Total load_sms load_smss)) ?_)
 rintro _ rfl
 refine VO.le _ (Le.recast (t := 23) (y := .tup [avI 2, avI 0]) rfl (fun w Z u h => by rw [load_two, load_ok] at h; exact h)) ?_
 refine VO.mv rfl rfl rfl rfl ?_
 refine VO.val rfl rfl (OpV.extract rfl rfl rfl) ?_
 refine VO.val rfl rfl (OpV.extract rfl rfl rfl) ?_
 refine VO.ma rfl rfl rfl rfl ?_
 refine VO.ma rfl rfl rfl rfl ?_
 refine VO.nil ?_
 refine VC.sr ?_
 refine VO.op rfl (OpE.buildSlice (zc := #[.int .i64 0, .int .i64 0]) rfl hB rfl Tryz.underlying22 Tryz.sizeOf3 Tryz.zeroValue3 (by decide) (by decide) (by kernel_rfl) rfl rfl ?_)
 refine VO.le _ (Le.lits (t := 27) (xs := [10, 30]) rfl rfl) ?_
 refine VO.op rfl (OpE.buildSlice (zc := #[.int .i64 0]) rfl hB rfl Tryz.underlying22 Tryz.sizeOf3 Tryz.zeroValue3 (by decide) (by decide) (by kernel_rfl) rfl rfl ?_)
 refine VO.le _ (Le.lits (t := 28) (xs := [0]) rfl rfl) ?_
 refine VO.op rfl (OpE.call rfl hB rfl Tryz.call32 rfl (SpecN.spec (line_Leave_S)) ?_)
 rintro _ rfl
 refine VO.le _ (Le.recast (t := 29) (y := .tup [avInts [40, 70], avI 0]) rfl (fun w Z u h => by rw [lined_leaves, lined_flow] at h; exact h)) ?_
 refine VO.mv rfl rfl rfl rfl ?_
 refine VO.val rfl rfl (OpV.extract rfl rfl rfl) ?_
 refine VO.val rfl rfl (OpV.extract rfl rfl rfl) ?_
 refine VO.ma rfl rfl rfl rfl ?_
 refine VO.ma rfl rfl rfl rfl ?_
 refine VO.nil ?_
 refine VC.sr ?_
 refine VO.val rfl rfl (OpV.build (pls := #[(0, 1), (1, 1), (2, 1), (3, 1), (4, 1), (5, 1), (6, 1), (7, 1)]) rfl Tryz.zeroValue124 Tryz.underlying124 (fun w => by kernel_rfl) rfl rfl) ?_
 refine VO.op rfl (OpE.buildSlice (zc := #[.string ⟨#[]⟩, .string ⟨#[]⟩, .int .i64 0, .int .i64 0, .bool false, .string ⟨#[]⟩, .string ⟨#[]⟩, .string ⟨#[]⟩]) rfl hB rfl Tryz.underlying118 Tryz.sizeOf124 Tryz.zeroValue124 (by decide) (by decide) (by kernel_rfl) rfl rfl ?_)
 refine VO.le _ (Le.recast (t := 34) (y := avL rdL) rfl (fun w Z u h => Rep.rowL (xs := rdL) rfl h)) ?_
 refine VO.op rfl (OpE.call rfl hB rfl Tryz.call85 rfl (SpecN.spec (inspect_Million rdL_sm)) ?_)
 rintro _ rfl
 refine VO.le _ (Le.recast (t := 35) (y := .tup [.agg [avI 1000000, avI ((millN rdL).2 : Int)], avI 0]) rfl (fun w Z u h => by rw [rdL_n, rdL_ok] at h; exact h)) ?_
 refine VO.mv rfl rfl rfl rfl ?_
 refine VO.val rfl rfl (OpV.extract rfl rfl rfl) ?_
 refine VO.val rfl rfl (OpV.extract rfl rfl rfl) ?_
 refine VO.op rfl (OpE.alloc rfl hB rfl Tryz.zeroValue171 rfl ?_)
 intro g7
 refine VO.op rfl (OpE.store (i := 0) rfl hB rfl Tryz.sizeOf171 rfl rfl rfl rfl rfl rfl (Nle rfl) trivial ?_)
 refine VO.ma rfl rfl rfl rfl ?_
 refine VO.nil ?_
 refine VC.sr ?_
 refine VO.val rfl rfl (OpV.build (pls := #[(0, 1), (1, 1), (2, 1)]) rfl Tryz.zeroValue115 Tryz.underlying115 (fun w => by kernel_rfl) rfl rfl) ?_
 refine VO.le _ (Le.recast (t := 39) (y := avPc ⟨⟨#[112]⟩, 10, []⟩) rfl (fun w Z u h => pace_nil h)) ?_
 refine VO.op rfl (OpE.buildSlice (zc := #[.string ⟨#[]⟩, .int .i64 0, .slice none 0 0]) rfl hB rfl Tryz.underlying92 Tryz.sizeOf115 Tryz.zeroValue115 (by decide) (by decide) (by kernel_rfl) rfl rfl ?_)
 refine VO.le _ (Le.recast (t := 40) (y := avL rdP) rfl (fun w Z u h => Rep.rowL (xs := rdP) rfl h)) ?_
 refine VO.val rfl rfl (OpV.build (pls := #[(0, 1), (1, 1), (2, 1), (3, 1), (4, 1)]) rfl Tryz.zeroValue110 Tryz.underlying110 (fun w => by kernel_rfl) rfl rfl) ?_
 refine VO.op rfl (OpE.buildSlice (zc := #[.string ⟨#[]⟩, .string ⟨#[]⟩, .int .i64 0, .int .i64 0, .int .i64 0]) rfl hB rfl Tryz.underlying93 Tryz.sizeOf110 Tryz.zeroValue110 (by decide) (by decide) (by kernel_rfl) rfl rfl ?_)
 refine VO.le _ (Le.recast (t := 42) (y := avL rdO) rfl (fun w Z u h => Rep.rowL (xs := rdO) rfl h)) ?_
 refine VO.op rfl (OpE.buildSlice (zc := #[.int .i64 0]) rfl hB rfl Tryz.underlying22 Tryz.sizeOf3 Tryz.zeroValue3 (by decide) (by decide) (by kernel_rfl) rfl rfl ?_)
 refine VO.le _ (Le.lits (t := 43) (xs := [0]) rfl rfl) ?_
 refine VO.op rfl (OpE.call rfl hB rfl Tryz.call42 rfl (SpecN.spec (plan_Times rdP_sm rdO_sm (by decide))) ?_)
 rintro _ rfl
 refine VO.le _ (Le.recast (t := 44) (y := .tup [avL ([⟨1, 31⟩] : List WinS), avI 0]) rfl (fun w Z u h => by rw [rd_times, rd_sch] at h; exact h)) ?_
 refine VO.mv rfl rfl rfl rfl ?_
 refine VO.val rfl rfl (OpV.extract rfl rfl rfl) ?_
 refine VO.val rfl rfl (OpV.extract rfl rfl rfl) ?_
 refine VO.ma rfl rfl rfl rfl ?_
 refine VO.ma rfl rfl rfl rfl ?_
 refine VO.nil ?_
 refine VC.sr ?_
 refine VO.mv rfl rfl rfl rfl ?_
 refine VO.mv rfl rfl rfl rfl ?_
 refine VO.mv rfl rfl rfl rfl ?_
 refine VO.mv rfl rfl rfl rfl ?_
 refine VO.mv rfl rfl rfl rfl ?_
 refine VO.op rfl (OpE.buildSlice (zc := #[.int .i64 0, .int .i64 0, .int .i64 0, .int .i64 0, .int .i64 0]) rfl hB rfl Tryz.underlying262 Tryz.sizeOf34 Tryz.zeroValue34 (by decide) (by decide) (by kernel_rfl) rfl rfl ?_)
 refine VO.le _ (Le.lits (t := 52) (xs := [0, 0, 0, 0, 0]) rfl rfl) ?_
 refine VO.op rfl (OpE.call rfl hB rfl Tryz.call65 rfl (SpecN.spec (rk_errs (by decide))) ?_)
 rintro _ rfl
 refine VO.val rfl rfl (OpV.eql rfl rfl rfl) ?_
 refine VO.le _ (Le.boolT (t := 54) rfl (decide_eq_true rfl)) ?_
 refine VO.mv rfl rfl rfl rfl ?_
 refine VO.opY rfl rfl rfl rfl rfl ?_
 refine OpE.val (W := NoB) (OpV.move (.inl rfl) rfl) rfl ?_
 refine VO.opY rfl rfl rfl rfl rfl ?_
 refine OpE.val (W := NoB) (OpV.len_im rfl Tryz.underlying68 rfl) rfl ?_
 refine VO.opY rfl rfl rfl rfl rfl ?_
 refine OpE.val (W := NoB) (OpV.eql rfl rfl rfl) rfl ?_
 refine VO.le _ (Le.boolT (t := 58) rfl (decide_eq_true rfl)) ?_
 refine VO.val rfl rfl (OpV.pickT rfl rfl rfl rfl rfl) ?_
 refine VO.mv rfl rfl rfl rfl ?_
 refine VO.opY rfl rfl rfl rfl rfl ?_
 refine OpE.val (W := NoB) (OpV.move (.inl rfl) rfl) rfl ?_
 refine VO.opY rfl rfl rfl rfl rfl ?_
 refine OpE.val (W := NoB) (OpV.eql rfl rfl rfl) rfl ?_
 refine VO.le _ (Le.boolT (t := 62) rfl (decide_eq_true rfl)) ?_
 refine VO.val rfl rfl (OpV.pickT rfl rfl rfl rfl rfl) ?_
 refine VO.mv rfl rfl rfl rfl ?_
 refine VO.opY rfl rfl rfl rfl rfl ?_
 refine OpE.val (W := NoB) (OpV.move (.inl rfl) rfl) rfl ?_
 refine VO.opY rfl rfl rfl rfl rfl ?_
 refine OpE.val (W := NoB) (OpV.len_im rfl Tryz.underlying22 rfl) rfl ?_
 refine VO.opY rfl rfl rfl rfl rfl ?_
 refine OpE.val (W := NoB) (OpV.eql rfl rfl rfl) rfl ?_
 refine VO.le _ (Le.boolT (t := 67) rfl (decide_eq_true rfl)) ?_
 refine VO.val rfl rfl (OpV.pickT rfl rfl rfl rfl rfl) ?_
 refine VO.mv rfl rfl rfl rfl ?_
 refine VO.opY rfl rfl rfl rfl rfl ?_
 refine OpE.val (W := NoB) (OpV.fieldAddrO 0 rfl Tryz.underlying171 rfl rfl Tryz.sizeOf3 rfl) rfl ?_
 refine VO.opY rfl rfl rfl rfl rfl ?_
 refine OpE.val (W := NoB) (OpV.load_own (i := 0) rfl hB Tryz.isAgg3 rfl rfl rfl (fun h => h)) rfl ?_
 refine VO.opY rfl rfl rfl rfl rfl ?_
 refine OpE.val (W := NoB) (OpV.eql rfl rfl rfl) rfl ?_
 refine VO.le _ (Le.boolT (t := 72) rfl (decide_eq_true rfl)) ?_
 refine VO.val rfl rfl (OpV.pickT rfl rfl rfl rfl rfl) ?_
 refine VO.mv rfl rfl rfl rfl ?_
 refine VO.opY rfl rfl rfl rfl rfl ?_
 refine OpE.val (W := NoB) (OpV.move (.inl rfl) rfl) rfl ?_
 refine VO.opY rfl rfl rfl rfl rfl ?_
 refine OpE.val (W := NoB) (OpV.len_im rfl Tryz.underlying99 rfl) rfl ?_
 refine VO.opY rfl rfl rfl rfl rfl ?_
 refine OpE.val (W := NoB) (OpV.eql rfl rfl rfl) rfl ?_
 refine VO.le _ (Le.boolT (t := 77) rfl (decide_eq_true rfl)) ?_
 refine VO.val rfl rfl (OpV.pickT rfl rfl rfl rfl rfl) ?_
 refine VO.mv rfl rfl rfl rfl ?_
 refine VO.opY rfl rfl rfl rfl rfl ?_
 refine OpE.val (W := NoB) (OpV.move (.inl rfl) rfl) rfl ?_
 refine VO.opY rfl rfl rfl rfl rfl ?_
 refine OpE.val (W := NoB) (OpV.indexAddr_E rfl Tryz.underlying99 Tryz.sizeOf104 rfl rfl rfl (by show 0 < 1; decide)) rfl ?_
 refine VO.opY rfl rfl rfl rfl rfl ?_
 refine OpE.val (W := NoB) (OpV.fieldAddr_atO 1 rfl Tryz.underlying104 rfl rfl Tryz.sizeOf3 rfl rfl) rfl ?_
 refine VO.opY rfl rfl rfl rfl rfl ?_
 refine OpE.val (W := NoB) (OpV.load_at rfl hB OutW.no Tryz.isAgg3 rfl rfl) rfl ?_
 refine VO.opY rfl rfl rfl rfl rfl ?_
 refine OpE.val (W := NoB) (OpV.eql rfl rfl rfl) rfl ?_
 refine VO.le _ (Le.boolT (t := 84) rfl (decide_eq_true rfl)) ?_
 refine VO.val rfl rfl (OpV.pickT rfl rfl rfl rfl rfl) ?_
 refine VO.ma rfl rfl rfl rfl ?_
 refine VO.nil ?_
 refine VC.ret ?_
 exact Exists.intro _ (And.intro (RetN.one Tryz.results22 (ResN.v rfl)) (rfl))
end
section
theorem Le.boolF {B : Bs} {s : St'} {t : Nat} {b : Bool} (ht : look s.sl t = some (avB b)) (hb : b = false) : Le B s ⟨(t, avB false) :: s.sl, s.hp, s.k⟩ := Le.recast ht fun w Z u h => by subst hb; exact h
end
section
theorem slices_Equal_lk {xs ys : List LookS} (hl : xs.length ≤ 1000000000) (hl' : ys.length ≤ 1000000000) :
  SpecN Tryz.prog 57 [avL xs, avL ys] (fun y => y = avB (eqLs eqLk xs ys)) := by
 refine SpecN.of_VCN Tryz.func57 rfl Tryz.ntmps57 (Nle rfl) fun w A hB => ?_
 refine VC.sr ?_
 refine VO.ma rfl rfl rfl rfl ?_
 refine VO.nil ?_
 refine VC.seq ?_
 refine VC.sr ?_
 refine VO.mv rfl rfl rfl rfl ?_
 refine VO.val rfl rfl (OpV.len_im rfl Tryz.underlying118 rfl) ?_
 refine VO.mv rfl rfl rfl rfl ?_
 refine VO.val rfl rfl (OpV.len_im rfl Tryz.underlying118 rfl) ?_
 refine VO.val rfl rfl (OpV.neq rfl rfl rfl) ?_
 refine VO.nil ?_
 refine VC.cond rfl (fun aH1b => ?_) (fun aH1b => ?_)
 ·have aH1 := aH1b
  try simp only [qq] at aH1
  refine VC.sr ?_
  refine VO.ma rfl rfl rfl rfl ?_
  refine VO.nil ?_
  refine VC.ret ?_
  exact Exists.intro _ (And.intro (RetN.one Tryz.results57 (ResN.v rfl)) (by first | rw [eqLs_len (by omega)] | rw [eqLs_at (d := default) (q := q) (by omega) (not_true_false h2b)] | rw [eqLs_all (d := default) (by omega) (fun j hj => hn j (by omega))]))
 ·have aH1 := aH1b
  try simp only [qq] at aH1
  refine VC.skip ?_
  refine VC.seq ?_
  refine VC.sr ?_
  refine VO.mv rfl rfl rfl rfl ?_
  refine VO.val rfl rfl (OpV.len_im rfl Tryz.underlying118 rfl) ?_
  refine VO.mv rfl rfl rfl rfl ?_
  refine VO.nil ?_
  refine VC.block ?_
  refine VC.loopK [(0, _), (1, _), (12, _)] ⟨rfl, rfl, rfl, trivial⟩ ({q : Nat // q ≤ xs.length ∧ ∀ j, j < q → eqLk (xs.getD j default) (ys.getD j default) = true}) (fun (iZ : {q : Nat // q ≤ xs.length ∧ ∀ j, j < q → eqLk (xs.getD j default) (ys.getD j default) = true}) => match iZ with | ⟨q, hq, hn⟩ => [(13, avI (q : Int))]) (fun (iZ : {q : Nat // q ≤ xs.length ∧ ∀ j, j < q → eqLk (xs.getD j default) (ys.getD j default) = true}) => match iZ with | ⟨q, hq, hn⟩ => []) (fun (iZ : {q : Nat // q ≤ xs.length ∧ ∀ j, j < q → eqLk (xs.getD j default) (ys.getD j default) = true}) => match iZ with | ⟨q, hq, hn⟩ => 0) (fun (iZ : {q : Nat // q ≤ xs.length ∧ ∀ j, j < q → eqLk (xs.getD j default) (ys.getD j default) = true}) => match iZ with | ⟨q, hq, hn⟩ => xs.length - q) ⟨0, Nat.zero_le _, fun j hj => absurd hj (Nat.not_lt_zero j)⟩ (Le.mk hB [] ⟨rfl, rfl, rfl, rfl, trivial⟩ rfl rfl (Nat.le_refl _)) ?_
  rintro ⟨q, hq, hn⟩
  show VC _ _ _ _ ⟨[(13, avI (q : Int))] ++ [(0, _), (1, _), (12, _)], [], 0⟩
  refine VC.sr ?_
  refine VO.val rfl rfl (OpV.lss rfl rfl rfl) ?_
  refine VO.nil ?_
  refine VC.seq ?_
  refine VC.cond rfl (fun aH2b => ?_) (fun aH2b => ?_)
  ·have aH2 := aH2b
   try simp only [qq] at aH2
   refine VC.skip ?_
   refine VC.seq ?_
   refine VC.block ?_
   refine VC.sr ?_
   refine VO.mv rfl rfl rfl rfl ?_
   refine VO.ma rfl rfl rfl rfl ?_
   refine VO.nil ?_
   refine VC.seq ?_
   refine VC.draw (fun _ => NoB) hB (by kernel_rfl) ?_
   refine VA.take (i := 0) rfl (by kernel_rfl) (by kernel_rfl) (by kernel_rfl) rfl rfl (OpV.move (.inl rfl) rfl) ?_
   refine VA.take (i := 1) rfl (by kernel_rfl) (by kernel_rfl) (by kernel_rfl) rfl rfl (OpV.move (.inl rfl) rfl) ?_
   refine VA.take (i := 2) rfl (by kernel_rfl) (by kernel_rfl) (by kernel_rfl) rfl rfl (OpV.indexAddr_E rfl Tryz.underlying118 Tryz.sizeOf124 rfl rfl rfl (by omega)) ?_
   refine VA.take (i := 3) rfl (by kernel_rfl) (by kernel_rfl) (by kernel_rfl) rfl rfl (OpV.loadK_at rfl hB OutW.wi0 Tryz.isAgg124 Tryz.sizeOf124 rfl rfl) ?_
   refine VA.take (i := 4) rfl (by kernel_rfl) (by kernel_rfl) (by kernel_rfl) rfl rfl (OpV.move (.inl rfl) rfl) ?_
   refine VA.take (i := 5) rfl (by kernel_rfl) (by kernel_rfl) (by kernel_rfl) rfl rfl (OpV.move (.inl rfl) rfl) ?_
   refine VA.take (i := 6) rfl (by kernel_rfl) (by kernel_rfl) (by kernel_rfl) rfl rfl (OpV.indexAddr_E rfl Tryz.underlying118 Tryz.sizeOf124 rfl rfl rfl (by omega)) ?_
   refine VA.take (i := 7) rfl (by kernel_rfl) (by kernel_rfl) (by kernel_rfl) rfl rfl (OpV.loadK_at rfl hB OutW.wi0 Tryz.isAgg124 Tryz.sizeOf124 rfl rfl) ?_
   refine VA.take (i := 8) rfl (by kernel_rfl) (by kernel_rfl) (by kernel_rfl) rfl rfl (OpV.aneq rfl Tryz.underlying124 (by kernel_rfl) (by kernel_rfl) rfl rfl (EqFs.str Tryz.underlying9 Tryz.isAgg9 rfl (by decide) (EqFs.str Tryz.underlying9 Tryz.isAgg9 rfl (by decide) (EqFs.int Tryz.underlying3 Tryz.isAgg3 rfl (by decide) (EqFs.int Tryz.underlying3 Tryz.isAgg3 rfl (by decide) (EqFs.bool Tryz.underlying4 Tryz.isAgg4 rfl (by decide) (EqFs.str Tryz.underlying9 Tryz.isAgg9 rfl (by decide) (EqFs.str Tryz.underlying9 Tryz.isAgg9 rfl (by decide) (EqFs.str Tryz.underlying9 Tryz.isAgg9 rfl (by decide) (EqFs.nil _)))))))))) ?_
   refine VA.done (by kernel_rfl) ?_
   refine VC.cond rfl (fun h2b => ?_) (fun h2b => ?_)
   ·have h2 := h2b
    try simp only [qq] at h2
    refine VC.sr ?_
    refine VO.ma rfl rfl rfl rfl ?_
    refine VO.nil ?_
    refine VC.ret ?_
    exact Exists.intro _ (And.intro (RetN.one Tryz.results57 (ResN.v rfl)) (by first | rw [eqLs_len (by omega)] | rw [eqLs_at (d := default) (q := q) (by omega) (not_true_false h2b)] | rw [eqLs_all (d := default) (by omega) (fun j hj => hn j (by omega))]))
   ·have h2 := h2b
    try simp only [qq] at h2
    refine VC.skip ?_
    refine VC.region ?_
    refine VO.val rfl rfl (OpV.add rfl rfl rfl (by unfold fits; omega)) ?_
    refine VO.mv rfl rfl rfl rfl ?_
    refine VO.nil ?_
    exact Exists.intro (⟨q + 1, by omega, lt_succ_cases hn (not_false_true h2b)⟩) (And.intro (Le.mk hB [] ⟨rfl, rfl, rfl, rfl, trivial⟩ rfl rfl (Nat.le_refl _)) (by first | omega | (show _ < _; omega) | (simp only []; omega)))
  ·have aH2 := aH2b
   try simp only [qq] at aH2
   refine VC.exit ?_
   refine VC.sr ?_
   refine VO.ma rfl rfl rfl rfl ?_
   refine VO.nil ?_
   refine VC.ret ?_
   exact Exists.intro _ (And.intro (RetN.one Tryz.results57 (ResN.v rfl)) (by first | rw [eqLs_len (by omega)] | rw [eqLs_at (d := default) (q := q) (by omega) (not_true_false h2b)] | rw [eqLs_all (d := default) (by omega) (fun j hj => hn j (by omega))]))
def plc12 : List (ByteArray × ByteArray) := (List.range 4).flatMap fun i => nm3.map fun n => (bdK i, n)
theorem plc12_len : plc12.length = 12 := by decide +kernel
theorem plc_in {l : List LookS} (h0 : lookF l = 0) (hk : ∀ x ∈ l, LkG 4 x) : ∀ x ∈ l, plc x ∈ plc12 := fun x hx => by
 have hg := hk x hx
 obtain ⟨j, hj, e⟩ := List.getElem_of_mem hx
 have hkey := (lookE_zero ((lookOk h0).all j hj)).keys
 rw [List.getD_eq_getElem?_getD, List.getElem?_eq_getElem hj] at hkey
 simp only [Option.getD_some, e, lkStrs, List.all_cons, Bool.and_eq_true] at hkey
 obtain ⟨i, hi, hb⟩ := hg.board.2 hkey.1
 have hn := hg.name.2 hkey.2.1
 unfold plc12 plc
 exact List.mem_flatMap.2 ⟨i, List.mem_range.2 hi, List.mem_map.2 ⟨x.name, hn, by rw [hb]⟩⟩
theorem mg_small {a b o : List LookS} (ha : ∀ x ∈ a, LkG 4 x) (hb : ∀ x ∈ b, LkG 4 x) (ha0 : lookF a = 0) (hb0 : lookF b = 0) (h : mgo [] (a ++ b) = some o) : o.length ≤ 12 := by
 have h1 := mgo_nodup (out := []) (by simp) h
 have h2 := h1.length_le_of_subset (l₂ := plc12) (fun p hp => by
  obtain ⟨x, hx, rfl⟩ := List.mem_map.1 hp
  rcases mgo_mem h x hx with h3 | h3
  ·cases h3
  ·rcases List.mem_append.1 h3 with h4 | h4
   ·exact plc_in ha0 ha x h4
   ·exact plc_in hb0 hb x h4)
 rw [plc12_len, List.length_map] at h2
 exact h2
theorem MrgIs.nil {a b l : List LookS} (h : MrgIs a b l) (he : mrgE a b ≠ 0) : l = [] := by
 rcases h with ⟨_, e⟩ | ⟨o, h1, _⟩
 ·exact e
 ·exact absurd h1 he
theorem MrgIs.len {a b l : List LookS} (h : MrgIs a b l) : l.length ≤ a.length + b.length := by
 rcases h with ⟨_, rfl⟩ | ⟨o, _, h2, h3, _⟩
 ·simp
 ·have := mgo_len h2
  rw [h3.length_eq]; simp at this; omega
end
section
abbrev mcV (l : List LookS) : List (ByteArray × Bool) := kvs (fun x => [x.machine]) l
theorem mc_keys (l : List LookS) : sKeys (shM (mcV l)) = mcK l := by rw [sKeys_shM, kvs_one_keys]; rfl
theorem mc_get (l : List LookS) (k : ByteArray) : mgetD (shM (mcV l)) k (0, 0) = (badN (mcF k l), (mcF k l).length) := by
 rw [shM_get, kvs_one]
 have : (fun x : LookS => sEq x.machine k) = fun x => decide (x.machine = k) := funext fun x => sEq_dec _ _
 unfold mcF
 rw [this]
theorem mc_vlen (l : List LookS) : (shM (mcV l)).length ≤ l.length := by
 have h := shM_len (mcV l)
 have h2 : (mcV l).length = l.length := by have := congrArg List.length (kvs_one_keys (fun x => x.machine) l); simpa using this
 omega
theorem mc_small {l : List LookS} (hs : SmLk l) : ∀ p ∈ shM (mcV l), p.1.size ≤ maxLen := fun p hp => by
 have h1 : p.1 ∈ (shM (mcV l)).map (·.1) := List.mem_map.2 ⟨p, hp, rfl⟩
 rw [shM_mem, kvs_one_keys] at h1
 have := mc_size hs _ h1
 unfold maxLen; omega
theorem inspect_ByMachine1 {x : LookS}  :
  Spec Tryz.prog 150 [avT x] (fun y => y = avStrs [x.machine]) := by
 refine Spec.of_VC Tryz.func150 rfl Tryz.ntmps150 (Nle rfl) fun w A hB => ?_
 refine VC.sr ?_
 refine VO.op rfl (OpE.box rfl hB rfl rfl rfl ?_)
 intro g1
 refine VO.ma rfl rfl rfl rfl ?_
 refine VO.nil ?_
 refine VC.sr ?_
 refine VO.val rfl rfl (OpV.fieldAddrO 5 rfl Tryz.underlying124 rfl rfl Tryz.sizeOf9 rfl) ?_
 refine VO.val rfl rfl (OpV.load_own (i := 0) rfl hB Tryz.isAgg9 rfl rfl rfl (fun h => h)) ?_
 refine VO.op rfl (OpE.buildSlice (zc := #[.string ⟨#[]⟩]) rfl hB rfl Tryz.underlying82 Tryz.sizeOf9 Tryz.zeroValue9 (by decide) (by decide) (by kernel_rfl) rfl rfl ?_)
 refine VO.le _ (Le.litsS (t := 5) (xs := [x.machine]) rfl rfl) ?_
 refine VO.ma rfl rfl rfl rfl ?_
 refine VO.nil ?_
 refine VC.ret ?_
 exact Exists.intro _ (And.intro (RetV.one Tryz.results150 (ResV.tmp rfl)) (rfl))
set_option maxHeartbeats 8000000 in
theorem inspect_ByMachine {l : List LookS} (hs : SmLk l) (h100 : l.length < 100) :
  SpecN Tryz.prog 63 [avL l] (fun y => y = .tup [avL (if lookF l = 0 then byM l else []), avI (lookF l)]) := by
 refine SpecN.of_VCN Tryz.func63 rfl Tryz.ntmps63 (Nle rfl) fun w A hB => ?_
 have hnew : True := trivial
 refine VC.seq ?_
 have hl := hs.len
 have hkl := mcK_len l
 have hvl := mc_vlen l
 refine VC.region ?_
 refine VO.ma rfl rfl rfl rfl ?_
 refine VO.ma rfl rfl rfl rfl ?_
 refine VO.nil ?_
 refine VC.seq ?_
 refine VC.sr ?_
 refine VO.mv rfl rfl rfl rfl ?_
 refine VO.op rfl (OpE.call rfl hB rfl Tryz.call128 rfl (SpecN.spec (inspect_CheckLooks hs)) ?_)
 rintro _ rfl
 refine VO.ma rfl rfl rfl rfl ?_
 refine VO.nil ?_
 refine VC.sr ?_
 refine VO.mv rfl rfl rfl rfl ?_
 refine VO.val rfl rfl (OpV.neq rfl rfl rfl) ?_
 refine VO.nil ?_
 refine VC.cond rfl (fun h0b => ?_) (fun h0b => ?_)
 ·have h0 := h0b
  try simp only [qq] at h0
  refine VC.sr ?_
  refine VO.mv rfl rfl rfl rfl ?_
  refine VO.ma rfl rfl rfl rfl ?_
  refine VO.ma rfl rfl rfl rfl ?_
  refine VO.nil ?_
  refine VC.ret ?_
  exact Exists.intro _ (And.intro (RetN.two Tryz.results63 (ResN.nilE rfl) (ResN.v rfl)) (by rw [if_neg h0]; rfl))
 ·have h0 := h0b
  try simp only [qq] at h0
  refine VC.skip ?_
  refine VC.sr ?_
  refine VO.mv rfl rfl rfl rfl ?_
  refine VO.op rfl (OpE.callH (hp := []) (rest := _) rfl hB rfl Tryz.call136 rfl rfl (inspect_shares (f := fun x => [x.machine]) hl Tryz.call150 (fun i => inspect_ByMachine1) (fun i => by simp)) (List.Perm.refl _) (fun _ h => by obtain ⟨e, he, _⟩ := h; cases he) ?_)
  rintro _ _ ⟨gm, rfl, rfl⟩
  refine VO.ma rfl rfl rfl rfl ?_
  refine VO.nil ?_
  refine VC.sr ?_
  refine VO.ma rfl rfl rfl rfl ?_
  refine VO.nil ?_
  refine VC.seq ?_
  refine VC.sr ?_
  refine VO.mv rfl rfl rfl rfl ?_
  refine VO.op rfl (OpE.callH rfl hB rfl Tryz.call141 rfl rfl (maps_Keys_sh (some gm)) (List.Perm.refl _) (fun _ _ => trivial) ?_)
  rintro _ _ ⟨g18, rfl, rfl⟩
  refine VO.op rfl (OpE.callH0 rfl hB rfl Tryz.call140 rfl rfl (slices_Sorted_sh (l := shM (mcV l)) (E := eSh) (shM_nodup _) (mc_small hs) (by omega)) (List.Perm.refl _) (fun _ _ => trivial) ?_)
  rintro _ _ ⟨u19, rfl, rfl⟩
  refine VO.le _ (Le.rowS (t := 19) (i := 0) hB hnew rfl rfl (sKeys_len _).symm) ?_
  refine VO.le _ (Le.recast (t := 19) (y := avStrs (mcK l)) rfl (fun w Z u h => by rw [← mc_keys]; exact h)) ?_
  refine VO.val rfl rfl (OpV.len_im rfl Tryz.underlying82 rfl) ?_
  refine VO.mv rfl rfl rfl rfl ?_
  refine VO.nil ?_
  refine VC.block ?_
  refine VC.le _ (Le.nilRow 2 58) ?_
  refine VC.loopK [(5, _), (19, _), (20, _)] ⟨rfl, rfl, rfl, trivial⟩ ({zz : Value × Nat // zz.2 ≤ (mcK l).length}) (fun (iZ : {zz : Value × Nat // zz.2 ≤ (mcK l).length}) => match iZ with | ⟨⟨u, r⟩, hq⟩ => [(6, .v u), (21, avI (r : Int))]) (fun (iZ : {zz : Value × Nat // zz.2 ≤ (mcK l).length}) => match iZ with | ⟨⟨u, r⟩, hq⟩ => [mapE kvS gm eSh (shM (mcV l)), .row u r 2 (rowL ((byM l).take r)) 58]) (fun (iZ : {zz : Value × Nat // zz.2 ≤ (mcK l).length}) => match iZ with | ⟨⟨u, r⟩, hq⟩ => 0) (fun (iZ : {zz : Value × Nat // zz.2 ≤ (mcK l).length}) => match iZ with | ⟨⟨u, r⟩, hq⟩ => (mcK l).length - r) ⟨(.slice none 0 0, 0), Nat.zero_le _⟩ (Le.mk hB [1, 2] ⟨rfl, rfl, rfl, rfl, rfl, trivial⟩ rfl rfl (Nat.le_refl _)) ?_
  rintro ⟨⟨u, r⟩, hq⟩
  show VC _ _ _ _ ⟨[(6, .v u), (21, avI (r : Int))] ++ [(5, _), (19, _), (20, _)], [mapE kvS gm eSh (shM (mcV l)), .row u r 2 (rowL ((byM l).take r)) 58], 0⟩
  simp only at hq
  refine VC.sr ?_
  refine VO.val rfl rfl (OpV.lss rfl rfl rfl) ?_
  refine VO.nil ?_
  refine VC.seq ?_
  refine VC.cond rfl (fun aH1b => ?_) (fun aH1b => ?_)
  ·have aH1 := aH1b
   try simp only [qq] at aH1
   refine VC.skip ?_
   refine VC.seq ?_
   refine VC.block ?_
   refine VC.seq ?_
   obtain ⟨k, hke⟩ : ∃ k, (mcK l).getD r ByteArray.empty = k := ⟨_, rfl⟩
   have hks : k.size ≤ 1000000 := by rw [← hke]; exact uK_size (mc_size hs) r
   have hfl : (mcF k l).length ≤ l.length := List.length_filter_le _ _
   have hfb := badN_le (mcF k l)
   have hd1 := decB_size (badN (mcF k l)) (by omega)
   have hd2 := decB_size (mcF k l).length (by omega)
   refine VC.region ?_
   refine VO.val rfl rfl (OpV.indexAddr_1 rfl Tryz.underlying82 Tryz.sizeOf9 rfl rfl rfl (by omega)) ?_
   refine VO.val rfl rfl (OpV.load_at rfl hB OutW.no Tryz.isAgg9 rfl rfl) ?_
   refine VO.le _ (Le.recast (t := 24) (y := avS k) rfl (fun w Z u h => by rw [← hke]; exact h)) ?_
   refine VO.ma rfl rfl rfl rfl ?_
   refine VO.nil ?_
   refine VC.sr ?_
   refine VO.mv rfl rfl rfl rfl ?_
   refine VO.mv rfl rfl rfl rfl ?_
   refine VO.val rfl rfl (OpV.lookup_own (i := 0) rfl hB Tryz.underlying238 (KeyOk.str Tryz.underlying9) Tryz.zeroValue243 rfl (KeyE.v rfl) rfl (fun h => h)) ?_
   refine VO.le _ (Le.recast (t := 27) (y := eSh (badN (mcF k l), (mcF k l).length)) rfl (fun w Z u h => by rw [← mc_get]; unfold mgetD; revert h; cases mget (shM (mcV l)) k with | none => intro h; rw [h.eq_v]; exact sh_zero | some x => exact id)) ?_
   refine VO.op rfl (OpE.alloc rfl hB rfl Tryz.zeroValue243 rfl ?_)
   intro g9
   refine VO.op rfl (OpE.store (i := 2) rfl hB rfl Tryz.sizeOf243 rfl rfl rfl rfl rfl rfl (Nle rfl) trivial ?_)
   refine VO.nil ?_
   refine VC.draw (fun j b => j = 12 ∧ u.ownBlock = some b) hB (by kernel_rfl) ?_
   refine VA.take (i := 0) rfl (by kernel_rfl) (by kernel_rfl) (by kernel_rfl) rfl rfl (OpV.move (.inl rfl) rfl) ?_
   refine VA.take (i := 1) rfl (by kernel_rfl) (by kernel_rfl) (by kernel_rfl) rfl rfl (OpV.move (.inl rfl) rfl) ?_
   refine VA.take (i := 2) rfl (by kernel_rfl) (by kernel_rfl) (by kernel_rfl) rfl rfl (OpV.fieldAddrO 0 rfl Tryz.underlying243 rfl rfl Tryz.sizeOf3 rfl) ?_
   refine VA.takeT [3, 4, 5, 9, 10, 11, 12] (i := 3) (by kernel_rfl) (by kernel_rfl) rfl (by kernel_rfl) (by kernel_rfl) (by kernel_rfl) rfl rfl (OpV.load_own (i := 2) rfl hB Tryz.isAgg3 rfl rfl rfl (fun ⟨j, h1, h2, _⟩ => by subst h2; cases h1)) ?_
   refine VA.take (i := 6) rfl (by kernel_rfl) (by kernel_rfl) (by kernel_rfl) rfl rfl (OpV.fieldAddrO 1 rfl Tryz.underlying243 rfl rfl Tryz.sizeOf3 rfl) ?_
   refine VA.takeT [7, 8, 9, 10, 11, 12] (i := 7) (by kernel_rfl) (by kernel_rfl) rfl (by kernel_rfl) (by kernel_rfl) (by kernel_rfl) rfl rfl (OpV.load_own (i := 2) rfl hB Tryz.isAgg3 rfl rfl rfl (fun ⟨j, h1, h2, _⟩ => by subst h2; cases h1)) ?_
   refine VA.all (rs := [4]) (by kernel_rfl) (by decide) ?_
   refine ⟨⟨_, rfl, .inl rfl, ?_⟩, trivial⟩
   refine OpE.call rfl hB rfl Tryz.call135 rfl (SpecN.spec (itoa_100 (i := badN (mcF k l)) (by omega))) ?_
   rintro _ rfl
   refine VA.take (i := 5) rfl (by kernel_rfl) (by kernel_rfl) (by kernel_rfl) rfl rfl (OpV.sadd rfl rfl rfl (by have h : (⟨#[47]⟩ : ByteArray).size = 1 := rfl; omega)) ?_
   refine VA.all (rs := [8]) (by kernel_rfl) (by decide) ?_
   refine ⟨⟨_, rfl, .inl rfl, ?_⟩, trivial⟩
   refine OpE.call rfl hB rfl Tryz.call135 rfl (SpecN.spec (itoa_100 (i := (mcF k l).length) (by omega))) ?_
   rintro _ rfl
   refine VA.take (i := 9) rfl (by kernel_rfl) (by kernel_rfl) (by kernel_rfl) rfl rfl (OpV.sadd rfl rfl rfl (by have h : (⟨#[47]⟩ : ByteArray).size = 1 := rfl; rw [ByteArray.size_append]; omega)) ?_
   refine VA.take (i := 10) rfl (by kernel_rfl) (by kernel_rfl) (by kernel_rfl) rfl rfl (OpV.build (pls := #[(0, 1), (1, 1)]) rfl Tryz.zeroValue58 Tryz.underlying58 (fun w => by kernel_rfl) rfl rfl) ?_
   refine VA.all (rs := [11]) (by kernel_rfl) (by decide) ?_
   refine ⟨⟨_, rfl, .inl rfl, ?_⟩, trivial⟩
   refine OpE.buildSlice (zc := #[.string ⟨#[]⟩, .string ⟨#[]⟩]) rfl hB rfl Tryz.underlying53 Tryz.sizeOf58 Tryz.zeroValue58 (by decide) (by decide) (by kernel_rfl) rfl rfl ?_
   refine VA.all (rs := [12]) (by kernel_rfl) (by decide) ?_
   refine ⟨⟨_, rfl, .inl rfl, ?_⟩, trivial⟩
   refine OpE.append1 (i := 1) rfl hB rfl Tryz.underlying53 (infoOf Tryz.t58 2 (by kernel_rfl) rfl rfl) rfl (by decide) (by decide) rfl rfl rfl rfl (rowL_snoc _ (byP l k)) (by omega) (fun _ h => ⟨rfl, h⟩) ?_
   intro u40
   refine VA.take (i := 13) rfl (by kernel_rfl) (by kernel_rfl) (by kernel_rfl) rfl rfl (OpV.move (.inr rfl) rfl) ?_
   refine VA.done (by kernel_rfl) ?_
   refine VC.region ?_
   refine VO.val rfl rfl (OpV.add rfl rfl rfl (by unfold fits; omega)) ?_
   refine VO.mv rfl rfl rfl rfl ?_
   refine VO.nil ?_
   exact Exists.intro (⟨(u40, r + 1), by show _ ≤ _; omega⟩) (And.intro (Le.mk hB [0, 1] ⟨rfl, rfl, rfl, rfl, rfl, trivial⟩ rfl (by dsimp only; rw [byM_take (by omega) hke]; rfl) (Nat.le_refl _)) (by first | omega | (show _ < _; omega) | (simp only []; omega)))
  ·have aH1 := aH1b
   try simp only [qq] at aH1
   obtain rfl : r = (mcK l).length := by omega
   rw [byM_all]
   refine VC.exit ?_
   refine VC.sr ?_
   refine VO.mv rfl rfl rfl rfl ?_
   refine VO.ma rfl rfl rfl rfl ?_
   refine VO.ma rfl rfl rfl rfl ?_
   refine VO.nil ?_
   refine VC.ret ?_
   exact Exists.intro _ (And.intro (RetN.two Tryz.results63 (ResN.rowT (i := 1) (xs := byM l) rfl rfl (byM_len l).symm (flat_pairs _)) (ResN.v rfl)) (by rw [if_pos (by omega), show lookF l = 0 by omega]))
end
section
theorem blkB {g : Nat} {p u : Value} {t : ByteArray} {b : Nat} (h : BlkL [bldE g p u, bufE u t] b) : b = g ∨ u.ownBlock = some b := by
 obtain ⟨e, he, hb⟩ := h
 simp only [List.mem_cons, List.not_mem_nil, or_false] at he
 rcases he with rfl | rfl
 ·exact .inl (Option.some.inj hb).symm
 ·exact .inr hb
set_option maxHeartbeats 8000000 in
theorem inspect_TextL {l : List LookS} {m : Nat} (hk : ∀ x ∈ l, LkG m x) (hm : m ≤ 9) (hl : l.length ≤ 18) :
  SpecN Tryz.prog 60 [avL l] (fun y => y = .tup [avS (if lookF l = 0 then txt l else ⟨#[]⟩), avI (lookF l)]) := by
 refine SpecN.of_VCN Tryz.func60 rfl Tryz.ntmps60 (Nle rfl) fun w A hB => ?_
 refine VC.seq ?_
 have hs := LkG.sm hk (by omega)
 refine VC.region ?_
 refine VO.ma rfl rfl rfl rfl ?_
 refine VO.ma rfl rfl rfl rfl ?_
 refine VO.nil ?_
 refine VC.seq ?_
 refine VC.sr ?_
 refine VO.mv rfl rfl rfl rfl ?_
 refine VO.op rfl (OpE.call rfl hB rfl Tryz.call128 rfl (SpecN.spec (inspect_CheckLooks hs)) ?_)
 rintro _ rfl
 refine VO.ma rfl rfl rfl rfl ?_
 refine VO.nil ?_
 refine VC.sr ?_
 refine VO.mv rfl rfl rfl rfl ?_
 refine VO.val rfl rfl (OpV.neq rfl rfl rfl) ?_
 refine VO.nil ?_
 refine VC.cond rfl (fun h0b => ?_) (fun h0b => ?_)
 ·have h0 := h0b
  try simp only [qq] at h0
  refine VC.sr ?_
  refine VO.mv rfl rfl rfl rfl ?_
  refine VO.ma rfl rfl rfl rfl ?_
  refine VO.ma rfl rfl rfl rfl ?_
  refine VO.nil ?_
  refine VC.ret ?_
  exact Exists.intro _ (And.intro (RetN.two Tryz.results60 (ResN.v rfl) (ResN.v rfl)) (by rw [if_neg h0]))
 ·have h0 := h0b
  try simp only [qq] at h0
  refine VC.skip ?_
  refine VC.seq ?_
  have ht : ∀ j, j < l.length → LkT (l.getD j default) := fun j hj => LkT.of hm hk (by omega) hj
  refine VC.region ?_
  refine VO.op rfl (OpE.alloc rfl hB rfl Tryz.zeroValue252 rfl ?_)
  intro g
  refine VO.nil ?_
  refine VC.seq ?_
  refine VC.sr ?_
  refine VO.mv rfl rfl rfl rfl ?_
  refine VO.val rfl rfl (OpV.len_im rfl Tryz.underlying118 rfl) ?_
  refine VO.mv rfl rfl rfl rfl ?_
  refine VO.nil ?_
  refine VC.block ?_
  refine VC.le _ (Le.nilRow 1 5) ?_
  refine VC.loopK [(5, _), (14, _), (15, _)] ⟨rfl, rfl, rfl, trivial⟩ ({z : (Value × Value) × Nat // z.2 ≤ l.length ∧ bldOk g z.1.1}) (fun (iZ : {z : (Value × Value) × Nat // z.2 ≤ l.length ∧ bldOk g z.1.1}) => match iZ with | ⟨⟨⟨p, u⟩, q⟩, hq, hp⟩ => [(16, avI (q : Int))]) (fun (iZ : {z : (Value × Value) × Nat // z.2 ≤ l.length ∧ bldOk g z.1.1}) => match iZ with | ⟨⟨⟨p, u⟩, q⟩, hq, hp⟩ => [bldE g p u, bufE u (txt (l.take q))]) (fun (iZ : {z : (Value × Value) × Nat // z.2 ≤ l.length ∧ bldOk g z.1.1}) => match iZ with | ⟨⟨⟨p, u⟩, q⟩, hq, hp⟩ => 0) (fun (iZ : {z : (Value × Value) × Nat // z.2 ≤ l.length ∧ bldOk g z.1.1}) => match iZ with | ⟨⟨⟨p, u⟩, q⟩, hq, hp⟩ => l.length - q) ⟨((.pointer none, .slice none 0 0), 0), Nat.zero_le _, bldOk.none g⟩ (Le.mk hB [0, 1] ⟨rfl, rfl, rfl, rfl, trivial⟩ rfl rfl (Nat.le_refl _)) ?_
  rintro ⟨⟨⟨p, u⟩, q⟩, hq, hp⟩
  show VC _ _ _ _ ⟨[(16, avI (q : Int))] ++ [(5, _), (14, _), (15, _)], [bldE g p u, bufE u (txt (l.take q))], 0⟩
  simp only at hq hp
  have hts := txt_size ht q hq
  refine VC.sr ?_
  refine VO.val rfl rfl (OpV.lss rfl rfl rfl) ?_
  refine VO.nil ?_
  refine VC.seq ?_
  refine VC.cond rfl (fun aH1b => ?_) (fun aH1b => ?_)
  ·have aH1 := aH1b
   try simp only [qq] at aH1
   refine VC.skip ?_
   refine VC.seq ?_
   refine VC.block ?_
   refine VC.seq ?_
   obtain ⟨x, hxx⟩ : ∃ x, l.getD q default = x := ⟨_, rfl⟩
   have hx : LkT x := by rw [← hxx]; exact ht q (by omega)
   obtain ⟨n, hn, hnn⟩ : ∃ n : Nat, x.at_ = (n : Int) ∧ n = x.at_.toNat := ⟨x.at_.toNat, by have := hx.at_; omega, rfl⟩
   have hn100 : n < 100 := by have := hx.at_; omega
   have hvr := hx.verdict
   have hv6 : vWords.length = 6 := rfl
   have hjl := lineT_size hx
   refine VC.region ?_
   refine VO.val rfl rfl (OpV.indexAddr_E rfl Tryz.underlying118 Tryz.sizeOf124 rfl rfl rfl (by omega)) ?_
   refine VO.val rfl rfl (OpV.loadK_at rfl hB OutW.no Tryz.isAgg124 Tryz.sizeOf124 rfl rfl) ?_
   refine VO.le _ (Le.recast (t := 19) (y := avT x) rfl (fun w Z u h => by rw [← hxx]; exact h)) ?_
   refine VO.op rfl (OpE.alloc rfl hB rfl Tryz.zeroValue124 rfl ?_)
   intro g7
   refine VO.op rfl (OpE.store (i := 2) rfl hB rfl Tryz.sizeOf124 rfl rfl rfl rfl rfl rfl (Nle rfl) trivial ?_)
   refine VO.nil ?_
   refine VC.sr ?_
   refine VO.ma rfl rfl rfl rfl ?_
   refine VO.nil ?_
   refine VC.seq ?_
   refine VC.sr ?_
   refine VO.val rfl rfl (OpV.fieldAddrO 4 rfl Tryz.underlying124 rfl rfl Tryz.sizeOf4 rfl) ?_
   refine VO.val rfl rfl (OpV.load_own (i := 2) rfl hB Tryz.isAgg4 rfl rfl rfl (fun h => h)) ?_
   refine VO.nil ?_
   refine VC.cond rfl (fun h1b => ?_) (fun h1b => ?_)
   ·have h1 := h1b
    try simp only [qq] at h1
    refine VC.region ?_
    refine VO.ma rfl rfl rfl rfl ?_
    refine VO.nil ?_
    refine VC.le _ (Le.recast (t := 8) (y := avS (wordL x)) rfl (fun w Z u h => by first | (rw [← wordL_t (by assumption)]; exact h) | (rw [← wordL_f (by assumption)]; exact h))) ?_
    refine VC.draw (fun j b => j = 21 ∧ (b = g ∨ u.ownBlock = some b)) hB (by kernel_rfl) ?_
    refine VA.take (i := 0) rfl (by kernel_rfl) (by kernel_rfl) (by kernel_rfl) rfl rfl (OpV.fieldAddrO 2 rfl Tryz.underlying124 rfl rfl Tryz.sizeOf3 rfl) ?_
    refine VA.takeT [1, 2, 19, 20, 21] (i := 1) (by kernel_rfl) (by kernel_rfl) rfl (by kernel_rfl) (by kernel_rfl) (by kernel_rfl) rfl rfl (OpV.load_own (i := 2) rfl hB Tryz.isAgg3 rfl rfl rfl (fun ⟨j, h1, h2, _⟩ => by subst h2; cases h1)) ?_
    refine VA.le _ (Le.recast (t := 23) (y := avI (n : Int)) rfl (fun w Z u h => by rw [← hn]; exact h)) ?_
    refine VA.take (i := 3) rfl (by kernel_rfl) (by kernel_rfl) (by kernel_rfl) rfl rfl (OpV.fieldAddrO 0 rfl Tryz.underlying124 rfl rfl Tryz.sizeOf9 rfl) ?_
    refine VA.takeT [4, 19, 20, 21] (i := 4) (by kernel_rfl) (by kernel_rfl) rfl (by kernel_rfl) (by kernel_rfl) (by kernel_rfl) rfl rfl (OpV.load_own (i := 2) rfl hB Tryz.isAgg9 rfl rfl rfl (fun ⟨j, h1, h2, _⟩ => by subst h2; cases h1)) ?_
    refine VA.take (i := 5) rfl (by kernel_rfl) (by kernel_rfl) (by kernel_rfl) rfl rfl (OpV.fieldAddrO 1 rfl Tryz.underlying124 rfl rfl Tryz.sizeOf9 rfl) ?_
    refine VA.takeT [6, 19, 20, 21] (i := 6) (by kernel_rfl) (by kernel_rfl) rfl (by kernel_rfl) (by kernel_rfl) (by kernel_rfl) rfl rfl (OpV.load_own (i := 2) rfl hB Tryz.isAgg9 rfl rfl rfl (fun ⟨j, h1, h2, _⟩ => by subst h2; cases h1)) ?_
    refine VA.take (i := 8) rfl (by kernel_rfl) (by kernel_rfl) (by kernel_rfl) rfl rfl (OpV.fieldAddrO 3 rfl Tryz.underlying124 rfl rfl Tryz.sizeOf3 rfl) ?_
    refine VA.takeT [9, 10, 11, 19, 20, 21] (i := 9) (by kernel_rfl) (by kernel_rfl) rfl (by kernel_rfl) (by kernel_rfl) (by kernel_rfl) rfl rfl (OpV.load_own (i := 2) rfl hB Tryz.isAgg3 rfl rfl rfl (fun ⟨j, h1, h2, _⟩ => by subst h2; cases h1)) ?_
    refine VA.take (i := 12) rfl (by kernel_rfl) (by kernel_rfl) (by kernel_rfl) rfl rfl (OpV.move (.inl rfl) rfl) ?_
    refine VA.take (i := 13) rfl (by kernel_rfl) (by kernel_rfl) (by kernel_rfl) rfl rfl (OpV.fieldAddrO 5 rfl Tryz.underlying124 rfl rfl Tryz.sizeOf9 rfl) ?_
    refine VA.takeT [14, 19, 20, 21] (i := 14) (by kernel_rfl) (by kernel_rfl) rfl (by kernel_rfl) (by kernel_rfl) (by kernel_rfl) rfl rfl (OpV.load_own (i := 2) rfl hB Tryz.isAgg9 rfl rfl rfl (fun ⟨j, h1, h2, _⟩ => by subst h2; cases h1)) ?_
    refine VA.take (i := 15) rfl (by kernel_rfl) (by kernel_rfl) (by kernel_rfl) rfl rfl (OpV.fieldAddrO 6 rfl Tryz.underlying124 rfl rfl Tryz.sizeOf9 rfl) ?_
    refine VA.takeT [16, 19, 20, 21] (i := 16) (by kernel_rfl) (by kernel_rfl) rfl (by kernel_rfl) (by kernel_rfl) (by kernel_rfl) rfl rfl (OpV.load_own (i := 2) rfl hB Tryz.isAgg9 rfl rfl rfl (fun ⟨j, h1, h2, _⟩ => by subst h2; cases h1)) ?_
    refine VA.take (i := 17) rfl (by kernel_rfl) (by kernel_rfl) (by kernel_rfl) rfl rfl (OpV.fieldAddrO 7 rfl Tryz.underlying124 rfl rfl Tryz.sizeOf9 rfl) ?_
    refine VA.takeT [18, 19, 20, 21] (i := 18) (by kernel_rfl) (by kernel_rfl) rfl (by kernel_rfl) (by kernel_rfl) (by kernel_rfl) rfl rfl (OpV.load_own (i := 2) rfl hB Tryz.isAgg9 rfl rfl rfl (fun ⟨j, h1, h2, _⟩ => by subst h2; cases h1)) ?_
    refine VA.all (rs := [2]) (by kernel_rfl) (by decide) ?_
    refine ⟨⟨_, rfl, .inl rfl, ?_⟩, trivial⟩
    refine OpE.call rfl hB rfl Tryz.call135 rfl (SpecN.spec (itoa_100 (i := n) (by omega))) ?_
    rintro _ rfl
    refine VA.all (rs := [7]) (by kernel_rfl) (by decide) ?_
    refine ⟨⟨_, rfl, .inl rfl, ?_⟩, trivial⟩
    refine OpE.call rfl hB rfl Tryz.call144 rfl (inspect_verdictWords) ?_
    rintro _ rfl
    refine VA.take (i := 10) rfl (by kernel_rfl) (by kernel_rfl) (by kernel_rfl) rfl rfl (OpV.indexAddr_1 rfl Tryz.underlying82 Tryz.sizeOf9 rfl rfl (Int.toNat_of_nonneg (by omega)).symm (by omega)) ?_
    refine VA.take (i := 11) rfl (by kernel_rfl) (by kernel_rfl) (by kernel_rfl) rfl rfl (OpV.load_at rfl hB (OutW.wi (fun j b ⟨_, h⟩ => h.elim (fun e => ⟨_, List.mem_of_getElem? (i := 0) rfl, by rw [e]; rfl⟩) (fun e => ⟨_, List.mem_of_getElem? (i := 1) rfl, e⟩))) Tryz.isAgg9 rfl rfl) ?_
    refine VA.le _ (Le.recast (t := 33) (y := avS (vWd x)) rfl (fun w Z u h => h)) ?_
    refine VA.all (rs := [19]) (by kernel_rfl) (by decide) ?_
    refine ⟨⟨_, rfl, .inl rfl, ?_⟩, trivial⟩
    refine OpE.buildSlice (zc := #[.string ⟨#[]⟩, .string ⟨#[]⟩, .string ⟨#[]⟩, .string ⟨#[]⟩, .string ⟨#[]⟩, .string ⟨#[]⟩, .string ⟨#[]⟩, .string ⟨#[]⟩]) rfl hB rfl Tryz.underlying82 Tryz.sizeOf9 Tryz.zeroValue9 (by decide) (by decide) (by kernel_rfl) rfl rfl ?_
    refine VA.le _ (Le.litsS (t := 41) (xs := lineWs x) rfl (by rw [hnn]; rfl)) ?_
    refine VA.all (rs := [20]) (by kernel_rfl) (by decide) ?_
    refine ⟨⟨_, rfl, .inl rfl, ?_⟩, trivial⟩
    refine OpE.call rfl hB rfl Tryz.call143 rfl (SpecN.spec (kit_Join (xs := lineWs x) (by rw [lineWs_len]; decide) (by omega))) ?_
    rintro _ rfl
    refine VA.le _ (Le.recast (t := 42) (y := avS (lineT x)) rfl (fun w Z u h => h)) ?_
    refine VA.all (rs := [21]) (by kernel_rfl) (by decide) ?_
    refine ⟨⟨_, rfl, .inl rfl, ?_⟩, trivial⟩
    refine OpE.callH (rest := [_]) rfl hB rfl Tryz.call142 rfl rfl (Builder_WriteString_H hp (by omega)) (List.Perm.refl _) (fun b h => ⟨rfl, blkB h⟩) ?_
    rintro _ _ ⟨u43, rfl, rfl⟩
    refine VA.done (by kernel_rfl) ?_
    refine VC.region ?_
    refine VO.val rfl rfl (OpV.add rfl rfl rfl (by unfold fits; omega)) ?_
    refine VO.mv rfl rfl rfl rfl ?_
    refine VO.nil ?_
    exact Exists.intro (⟨((ptv g, u43), q + 1), by show q + 1 ≤ _; omega, bldOk.self g⟩) (And.intro (Le.mk hB [0, 1] ⟨rfl, rfl, rfl, rfl, trivial⟩ rfl (by dsimp only; rw [txt_take (by omega), hxx]; rfl) (Nat.le_refl _)) (by first | omega | (show _ < _; omega) | (simp only []; omega)))
   ·have h1 := h1b
    try simp only [qq] at h1
    refine VC.skip ?_
    refine VC.le _ (Le.recast (t := 8) (y := avS (wordL x)) rfl (fun w Z u h => by first | (rw [← wordL_t (by assumption)]; exact h) | (rw [← wordL_f (by assumption)]; exact h))) ?_
    refine VC.draw (fun j b => j = 21 ∧ (b = g ∨ u.ownBlock = some b)) hB (by kernel_rfl) ?_
    refine VA.take (i := 0) rfl (by kernel_rfl) (by kernel_rfl) (by kernel_rfl) rfl rfl (OpV.fieldAddrO 2 rfl Tryz.underlying124 rfl rfl Tryz.sizeOf3 rfl) ?_
    refine VA.takeT [1, 2, 19, 20, 21] (i := 1) (by kernel_rfl) (by kernel_rfl) rfl (by kernel_rfl) (by kernel_rfl) (by kernel_rfl) rfl rfl (OpV.load_own (i := 2) rfl hB Tryz.isAgg3 rfl rfl rfl (fun ⟨j, h1, h2, _⟩ => by subst h2; cases h1)) ?_
    refine VA.le _ (Le.recast (t := 23) (y := avI (n : Int)) rfl (fun w Z u h => by rw [← hn]; exact h)) ?_
    refine VA.take (i := 3) rfl (by kernel_rfl) (by kernel_rfl) (by kernel_rfl) rfl rfl (OpV.fieldAddrO 0 rfl Tryz.underlying124 rfl rfl Tryz.sizeOf9 rfl) ?_
    refine VA.takeT [4, 19, 20, 21] (i := 4) (by kernel_rfl) (by kernel_rfl) rfl (by kernel_rfl) (by kernel_rfl) (by kernel_rfl) rfl rfl (OpV.load_own (i := 2) rfl hB Tryz.isAgg9 rfl rfl rfl (fun ⟨j, h1, h2, _⟩ => by subst h2; cases h1)) ?_
    refine VA.take (i := 5) rfl (by kernel_rfl) (by kernel_rfl) (by kernel_rfl) rfl rfl (OpV.fieldAddrO 1 rfl Tryz.underlying124 rfl rfl Tryz.sizeOf9 rfl) ?_
    refine VA.takeT [6, 19, 20, 21] (i := 6) (by kernel_rfl) (by kernel_rfl) rfl (by kernel_rfl) (by kernel_rfl) (by kernel_rfl) rfl rfl (OpV.load_own (i := 2) rfl hB Tryz.isAgg9 rfl rfl rfl (fun ⟨j, h1, h2, _⟩ => by subst h2; cases h1)) ?_
    refine VA.take (i := 8) rfl (by kernel_rfl) (by kernel_rfl) (by kernel_rfl) rfl rfl (OpV.fieldAddrO 3 rfl Tryz.underlying124 rfl rfl Tryz.sizeOf3 rfl) ?_
    refine VA.takeT [9, 10, 11, 19, 20, 21] (i := 9) (by kernel_rfl) (by kernel_rfl) rfl (by kernel_rfl) (by kernel_rfl) (by kernel_rfl) rfl rfl (OpV.load_own (i := 2) rfl hB Tryz.isAgg3 rfl rfl rfl (fun ⟨j, h1, h2, _⟩ => by subst h2; cases h1)) ?_
    refine VA.take (i := 12) rfl (by kernel_rfl) (by kernel_rfl) (by kernel_rfl) rfl rfl (OpV.move (.inl rfl) rfl) ?_
    refine VA.take (i := 13) rfl (by kernel_rfl) (by kernel_rfl) (by kernel_rfl) rfl rfl (OpV.fieldAddrO 5 rfl Tryz.underlying124 rfl rfl Tryz.sizeOf9 rfl) ?_
    refine VA.takeT [14, 19, 20, 21] (i := 14) (by kernel_rfl) (by kernel_rfl) rfl (by kernel_rfl) (by kernel_rfl) (by kernel_rfl) rfl rfl (OpV.load_own (i := 2) rfl hB Tryz.isAgg9 rfl rfl rfl (fun ⟨j, h1, h2, _⟩ => by subst h2; cases h1)) ?_
    refine VA.take (i := 15) rfl (by kernel_rfl) (by kernel_rfl) (by kernel_rfl) rfl rfl (OpV.fieldAddrO 6 rfl Tryz.underlying124 rfl rfl Tryz.sizeOf9 rfl) ?_
    refine VA.takeT [16, 19, 20, 21] (i := 16) (by kernel_rfl) (by kernel_rfl) rfl (by kernel_rfl) (by kernel_rfl) (by kernel_rfl) rfl rfl (OpV.load_own (i := 2) rfl hB Tryz.isAgg9 rfl rfl rfl (fun ⟨j, h1, h2, _⟩ => by subst h2; cases h1)) ?_
    refine VA.take (i := 17) rfl (by kernel_rfl) (by kernel_rfl) (by kernel_rfl) rfl rfl (OpV.fieldAddrO 7 rfl Tryz.underlying124 rfl rfl Tryz.sizeOf9 rfl) ?_
    refine VA.takeT [18, 19, 20, 21] (i := 18) (by kernel_rfl) (by kernel_rfl) rfl (by kernel_rfl) (by kernel_rfl) (by kernel_rfl) rfl rfl (OpV.load_own (i := 2) rfl hB Tryz.isAgg9 rfl rfl rfl (fun ⟨j, h1, h2, _⟩ => by subst h2; cases h1)) ?_
    refine VA.all (rs := [2]) (by kernel_rfl) (by decide) ?_
    refine ⟨⟨_, rfl, .inl rfl, ?_⟩, trivial⟩
    refine OpE.call rfl hB rfl Tryz.call135 rfl (SpecN.spec (itoa_100 (i := n) (by omega))) ?_
    rintro _ rfl
    refine VA.all (rs := [7]) (by kernel_rfl) (by decide) ?_
    refine ⟨⟨_, rfl, .inl rfl, ?_⟩, trivial⟩
    refine OpE.call rfl hB rfl Tryz.call144 rfl (inspect_verdictWords) ?_
    rintro _ rfl
    refine VA.take (i := 10) rfl (by kernel_rfl) (by kernel_rfl) (by kernel_rfl) rfl rfl (OpV.indexAddr_1 rfl Tryz.underlying82 Tryz.sizeOf9 rfl rfl (Int.toNat_of_nonneg (by omega)).symm (by omega)) ?_
    refine VA.take (i := 11) rfl (by kernel_rfl) (by kernel_rfl) (by kernel_rfl) rfl rfl (OpV.load_at rfl hB (OutW.wi (fun j b ⟨_, h⟩ => h.elim (fun e => ⟨_, List.mem_of_getElem? (i := 0) rfl, by rw [e]; rfl⟩) (fun e => ⟨_, List.mem_of_getElem? (i := 1) rfl, e⟩))) Tryz.isAgg9 rfl rfl) ?_
    refine VA.le _ (Le.recast (t := 33) (y := avS (vWd x)) rfl (fun w Z u h => h)) ?_
    refine VA.all (rs := [19]) (by kernel_rfl) (by decide) ?_
    refine ⟨⟨_, rfl, .inl rfl, ?_⟩, trivial⟩
    refine OpE.buildSlice (zc := #[.string ⟨#[]⟩, .string ⟨#[]⟩, .string ⟨#[]⟩, .string ⟨#[]⟩, .string ⟨#[]⟩, .string ⟨#[]⟩, .string ⟨#[]⟩, .string ⟨#[]⟩]) rfl hB rfl Tryz.underlying82 Tryz.sizeOf9 Tryz.zeroValue9 (by decide) (by decide) (by kernel_rfl) rfl rfl ?_
    refine VA.le _ (Le.litsS (t := 41) (xs := lineWs x) rfl (by rw [hnn]; rfl)) ?_
    refine VA.all (rs := [20]) (by kernel_rfl) (by decide) ?_
    refine ⟨⟨_, rfl, .inl rfl, ?_⟩, trivial⟩
    refine OpE.call rfl hB rfl Tryz.call143 rfl (SpecN.spec (kit_Join (xs := lineWs x) (by rw [lineWs_len]; decide) (by omega))) ?_
    rintro _ rfl
    refine VA.le _ (Le.recast (t := 42) (y := avS (lineT x)) rfl (fun w Z u h => h)) ?_
    refine VA.all (rs := [21]) (by kernel_rfl) (by decide) ?_
    refine ⟨⟨_, rfl, .inl rfl, ?_⟩, trivial⟩
    refine OpE.callH (rest := [_]) rfl hB rfl Tryz.call142 rfl rfl (Builder_WriteString_H hp (by omega)) (List.Perm.refl _) (fun b h => ⟨rfl, blkB h⟩) ?_
    rintro _ _ ⟨u43, rfl, rfl⟩
    refine VA.done (by kernel_rfl) ?_
    refine VC.region ?_
    refine VO.val rfl rfl (OpV.add rfl rfl rfl (by unfold fits; omega)) ?_
    refine VO.mv rfl rfl rfl rfl ?_
    refine VO.nil ?_
    exact Exists.intro (⟨((ptv g, u43), q + 1), by show q + 1 ≤ _; omega, bldOk.self g⟩) (And.intro (Le.mk hB [0, 1] ⟨rfl, rfl, rfl, rfl, trivial⟩ rfl (by dsimp only; rw [txt_take (by omega), hxx]; rfl) (Nat.le_refl _)) (by first | omega | (show _ < _; omega) | (simp only []; omega)))
  ·have aH1 := aH1b
   try simp only [qq] at aH1
   obtain rfl : q = l.length := by omega
   rw [List.take_length] at hts ⊢
   refine VC.exit ?_
   refine VC.seq ?_
   refine VC.sr ?_
   refine VO.op rfl (OpE.callH0 rfl hB rfl Tryz.call145 rfl rfl (Builder_Len_H) (List.Perm.refl _) (fun _ _ => trivial) ?_)
   rintro _ _ ⟨rfl, rfl⟩
   refine VO.val rfl rfl (OpV.gtr rfl rfl rfl) ?_
   refine VO.nil ?_
   refine VC.cond rfl (fun aH2b => ?_) (fun aH2b => ?_)
   ·have aH2 := aH2b
    try simp only [qq] at aH2
    exact VC.absurd (by omega)
   ·have aH2 := aH2b
    try simp only [qq] at aH2
    refine VC.skip ?_
    refine VC.sr ?_
    refine VO.op rfl (OpE.bstr (i := 0) (j := 1) rfl hB rfl (fun _ h => h) Tryz.call146 rfl rfl hp rfl (by decide) ?_)
    refine VO.ma rfl rfl rfl rfl ?_
    refine VO.ma rfl rfl rfl rfl ?_
    refine VO.nil ?_
    refine VC.ret ?_
    exact Exists.intro _ (And.intro (RetN.two Tryz.results60 (ResN.v rfl) (ResN.v rfl)) (by rw [if_pos (by omega), show lookF l = 0 by omega]))
end
section
section
variable {ls : List ByteArray} {en : Bool} {q : Nat}
theorem lnb1 (h : okLk (ls.getD q ByteArray.empty) = false) : lnBad (okAt okL1 ls) ls en q = true := by rw [lnBad_at, h]; rfl
theorem lnb2 (h : en = false) (h2 : q + 1 = ls.length) : lnBad (okAt okL1 ls) ls en q = true := by rw [lnBad_at, h, decide_eq_true h2]; simp
theorem lnb3 (h : okLk (ls.getD q ByteArray.empty) = true) (h2 : en = true) : lnBad (okAt okL1 ls) ls en q = false := by rw [lnBad_at, h, h2]; rfl
theorem lnb4 (h : okLk (ls.getD q ByteArray.empty) = true) (h2 : ¬ q + 1 = ls.length) : lnBad (okAt okL1 ls) ls en q = false := by rw [lnBad_at, h, decide_eq_false h2]; simp
end
set_option maxHeartbeats 8000000 in
theorem inspect_ReadL {text : ByteArray} (ht : text.size ≤ 900000) :
  SpecN Tryz.prog 61 [avS text] (fun y => y = .tup [avL (lkRead text).1, avI (lkRead text).2.1, avI (lkRead text).2.2]) := by
 refine SpecN.of_VCN Tryz.func61 rfl Tryz.ntmps61 (Nle rfl) fun w A hB => ?_
 refine VC.sr ?_
 refine VO.ma rfl rfl rfl rfl ?_
 refine VO.ma rfl rfl rfl rfl ?_
 refine VO.ma rfl rfl rfl rfl ?_
 refine VO.nil ?_
 refine VC.seq ?_
 refine VC.sr ?_
 refine VO.mv rfl rfl rfl rfl ?_
 refine VO.val rfl rfl (OpV.len_s rfl Tryz.underlying9 rfl) ?_
 refine VO.val rfl rfl (OpV.gtr rfl rfl rfl) ?_
 refine VO.nil ?_
 refine VC.cond rfl (fun h0b => ?_) (fun h0b => ?_)
 ·have h0 := h0b
  try simp only [qq] at h0
  refine VC.sr ?_
  refine VO.ma rfl rfl rfl rfl ?_
  refine VO.ma rfl rfl rfl rfl ?_
  refine VO.ma rfl rfl rfl rfl ?_
  refine VO.nil ?_
  refine VC.ret ?_
  exact Exists.intro _ (And.intro (RetN.three Tryz.results61 (ResN.nilE rfl) (ResN.v rfl) (ResN.v rfl)) (by rw [lkRead_2 (by omega)]; rfl))
 ·have h0 := h0b
  try simp only [qq] at h0
  refine VC.skip ?_
  refine VC.sr ?_
  refine VO.mv rfl rfl rfl rfl ?_
  refine VO.op rfl (OpE.call rfl hB rfl Tryz.call147 rfl (kit_Lines (by omega)) ?_)
  rintro _ rfl
  have hll := linesR_length text
  have hlg := linesR_get text
  obtain ⟨ls, hls⟩ : ∃ ls, linesR text = ls := ⟨_, rfl⟩
  obtain ⟨en, hen⟩ : ∃ en, linesE text = en := ⟨_, rfl⟩
  rw [hls] at hll hlg
  have hsm := lkOf_SmLk (ls := ls) (n := text.size) (by omega) (by omega) hlg
  refine VO.le _ (Le.recast (t := 18) (y := .tup [avStrs ls, avB en]) rfl (fun w Z u h => by rw [← hls, ← hen]; exact h)) ?_
  refine VO.mv rfl rfl rfl rfl ?_
  refine VO.val rfl rfl (OpV.extract rfl rfl rfl) ?_
  refine VO.val rfl rfl (OpV.extract rfl rfl rfl) ?_
  refine VO.ma rfl rfl rfl rfl ?_
  refine VO.ma rfl rfl rfl rfl ?_
  refine VO.nil ?_
  refine VC.sr ?_
  refine VO.ma rfl rfl rfl rfl ?_
  refine VO.nil ?_
  refine VC.seq ?_
  refine VC.sr ?_
  refine VO.mv rfl rfl rfl rfl ?_
  refine VO.val rfl rfl (OpV.len_im rfl Tryz.underlying82 rfl) ?_
  refine VO.mv rfl rfl rfl rfl ?_
  refine VO.nil ?_
  refine VC.block ?_
  refine VC.le _ (Le.nilRow 8 124) ?_
  refine VC.loopK [(5, _), (6, _), (21, _), (22, _)] ⟨rfl, rfl, rfl, rfl, trivial⟩ ({zz : Value × Nat // zz.2 ≤ ls.length ∧ ∀ j, j < zz.2 → lnBad (okAt okL1 ls) ls en j = false}) (fun (iZ : {zz : Value × Nat // zz.2 ≤ ls.length ∧ ∀ j, j < zz.2 → lnBad (okAt okL1 ls) ls en j = false}) => match iZ with | ⟨⟨u, q⟩, hq, hn⟩ => [(7, .v u), (23, avI (q : Int))]) (fun (iZ : {zz : Value × Nat // zz.2 ≤ ls.length ∧ ∀ j, j < zz.2 → lnBad (okAt okL1 ls) ls en j = false}) => match iZ with | ⟨⟨u, q⟩, hq, hn⟩ => [.row u q 8 (rowL ((ls.take q).map lkOf)) 124]) (fun (iZ : {zz : Value × Nat // zz.2 ≤ ls.length ∧ ∀ j, j < zz.2 → lnBad (okAt okL1 ls) ls en j = false}) => match iZ with | ⟨⟨u, q⟩, hq, hn⟩ => 0) (fun (iZ : {zz : Value × Nat // zz.2 ≤ ls.length ∧ ∀ j, j < zz.2 → lnBad (okAt okL1 ls) ls en j = false}) => match iZ with | ⟨⟨u, q⟩, hq, hn⟩ => ls.length - q) ⟨(.slice none 0 0, 0), Nat.zero_le _, fun j hj => absurd hj (Nat.not_lt_zero j)⟩ (Le.mk hB [0] ⟨rfl, rfl, rfl, rfl, rfl, rfl, trivial⟩ rfl rfl (Nat.le_refl _)) ?_
  rintro ⟨⟨u, q⟩, hq, hn⟩
  show VC _ _ _ _ ⟨[(7, .v u), (23, avI (q : Int))] ++ [(5, _), (6, _), (21, _), (22, _)], [.row u q 8 (rowL ((ls.take q).map lkOf)) 124], 0⟩
  simp only at hq
  refine VC.sr ?_
  refine VO.val rfl rfl (OpV.lss rfl rfl rfl) ?_
  refine VO.nil ?_
  refine VC.seq ?_
  refine VC.cond rfl (fun aH1b => ?_) (fun aH1b => ?_)
  ·have aH1 := aH1b
   try simp only [qq] at aH1
   refine VC.skip ?_
   refine VC.seq ?_
   refine VC.block ?_
   refine VC.sr ?_
   refine VO.mv rfl rfl rfl rfl ?_
   refine VO.val rfl rfl (OpV.indexAddr_1 rfl Tryz.underlying82 Tryz.sizeOf9 rfl rfl rfl (by omega)) ?_
   refine VO.val rfl rfl (OpV.load_at rfl hB OutW.no Tryz.isAgg9 rfl rfl) ?_
   refine VO.ma rfl rfl rfl rfl ?_
   refine VO.ma rfl rfl rfl rfl ?_
   refine VO.nil ?_
   refine VC.sr ?_
   refine VO.mv rfl rfl rfl rfl ?_
   refine VO.op rfl (OpE.call rfl hB rfl Tryz.call148 rfl (SpecN.spec (inspect_readLine (Nat.le_trans (hlg q) (by omega)))) ?_)
   rintro _ ⟨x, hx, rfl⟩
   refine VO.mv rfl rfl rfl rfl ?_
   refine VO.val rfl rfl (OpV.extract rfl rfl rfl) ?_
   refine VO.val rfl rfl (OpV.extract rfl rfl rfl) ?_
   refine VO.op rfl (OpE.alloc rfl hB rfl Tryz.zeroValue124 rfl ?_)
   intro g10
   refine VO.op rfl (OpE.store (i := 1) rfl hB rfl Tryz.sizeOf124 rfl rfl rfl rfl rfl rfl (Nle rfl) trivial ?_)
   refine VO.ma rfl rfl rfl rfl ?_
   refine VO.nil ?_
   refine VC.seq ?_
   refine VC.sr ?_
   refine VO.mv rfl rfl rfl rfl ?_
   refine VO.val rfl rfl (OpV.not rfl rfl) ?_
   refine VO.mv rfl rfl rfl rfl ?_
   refine VO.opG rfl rfl rfl rfl (fun aK2b => ?_) (fun aK2b => ?_)
   ·replace aK2b : _ = false := aK2b
    have aK2 := aK2b
    try simp only [qq] at aK2
    refine OpE.val (W := NoB) (OpV.move (.inl rfl) rfl) rfl ?_
    refine VO.opY rfl rfl rfl rfl aK2b ?_
    refine OpE.val (W := NoB) (OpV.not rfl rfl) rfl ?_
    refine VO.opY rfl rfl rfl rfl aK2b ?_
    refine OpE.val (W := NoB) (OpV.move (.inl rfl) rfl) rfl ?_
    refine VO.opG rfl rfl rfl rfl (fun aK3b => ?_) (fun aK3b => ?_)
    ·replace aK3b : _ = true := aK3b
     have aK3 := aK3b
     try simp only [qq] at aK3
     refine OpE.val (W := NoB) (OpV.move (.inl rfl) rfl) rfl ?_
     refine VO.opY rfl rfl rfl rfl aK3b ?_
     refine OpE.val (W := NoB) (OpV.move (.inl rfl) rfl) rfl ?_
     refine VO.opY rfl rfl rfl rfl aK3b ?_
     refine OpE.val (W := NoB) (OpV.len_im rfl Tryz.underlying82 rfl) rfl ?_
     refine VO.opY rfl rfl rfl rfl aK3b ?_
     refine OpE.val (W := NoB) (OpV.sub rfl rfl rfl (by unfold fits; omega)) rfl ?_
     refine VO.opY rfl rfl rfl rfl aK3b ?_
     refine OpE.val (W := NoB) (OpV.eql rfl rfl rfl) rfl ?_
     refine VO.opY rfl rfl rfl rfl aK2b ?_
     refine OpE.val (W := NoB) (OpV.pickT rfl rfl rfl rfl aK3b) rfl ?_
     refine VO.val rfl rfl (OpV.pickF rfl rfl rfl rfl aK2b) ?_
     refine VO.nil ?_
     refine VC.cond rfl (fun h2b => ?_) (fun h2b => ?_)
     ·have h2 := h2b
      try simp only [qq] at h2
      have hsome : lkBad text = some q := by show lnF _ _ _ = _; rw [hls, hen]; exact lnF_some (by omega) (lnb2 (not_true_false (by assumption)) (by omega)) hn
      refine VC.sr ?_
      refine VO.mv rfl rfl rfl rfl ?_
      refine VO.ma rfl rfl rfl rfl ?_
      refine VO.ma rfl rfl rfl rfl ?_
      refine VO.ma rfl rfl rfl rfl ?_
      refine VO.nil ?_
      refine VC.ret ?_
      exact Exists.intro _ (And.intro (RetN.three Tryz.results61 (ResN.nilE rfl) (ResN.v rfl) (ResN.v rfl)) (by rw [lkRead_9 (by omega) hsome]; rfl))
     ·have h2 := h2b
      try simp only [qq] at h2
      have hnb : lnBad (okAt okL1 ls) ls en q = false := lnb4 (not_false_true (by assumption)) (by omega)
      obtain rfl := hx (not_false_true (by assumption))
      refine VC.skip ?_
      refine VC.region ?_
      refine VO.mv rfl rfl rfl rfl ?_
      refine VO.val rfl rfl (OpV.loadK_own (i := 1) rfl hB Tryz.isAgg124 Tryz.sizeOf124 rfl rfl rfl (fun h => h)) ?_
      refine VO.op rfl (OpE.buildSlice (zc := #[.string ⟨#[]⟩, .string ⟨#[]⟩, .int .i64 0, .int .i64 0, .bool false, .string ⟨#[]⟩, .string ⟨#[]⟩, .string ⟨#[]⟩]) rfl hB rfl Tryz.underlying118 Tryz.sizeOf124 Tryz.zeroValue124 (by decide) (by decide) (by kernel_rfl) rfl rfl ?_)
      refine VO.op rfl (OpE.append1 (i := 0) rfl hB rfl Tryz.underlying118 (infoOf Tryz.t124 8 (by kernel_rfl) rfl rfl) rfl (by decide) (by decide) rfl rfl rfl rfl (rowL_snoc _ (lkOf (ls.getD q ByteArray.empty))) (by omega) (fun _ _ => trivial) ?_)
      intro u50
      refine VO.ma rfl rfl rfl rfl ?_
      refine VO.nil ?_
      refine VC.region ?_
      refine VO.val rfl rfl (OpV.add rfl rfl rfl (by unfold fits; omega)) ?_
      refine VO.mv rfl rfl rfl rfl ?_
      refine VO.nil ?_
      exact Exists.intro (⟨(u50, q + 1), by show _ ≤ _; omega, lt_succ_cases hn (by assumption)⟩) (And.intro (Le.mk hB [0] ⟨rfl, rfl, rfl, rfl, rfl, rfl, trivial⟩ rfl (by dsimp only; rw [lkMap_take (by omega)]; rfl) (Nat.le_refl _)) (by first | omega | (show _ < _; omega) | (simp only []; omega)))
    ·replace aK3b : _ = false := aK3b
     have aK3 := aK3b
     try simp only [qq] at aK3
     refine VO.opX rfl rfl rfl rfl aK3b ?_
     refine VO.opX rfl rfl rfl rfl aK3b ?_
     refine VO.opX rfl rfl rfl rfl aK3b ?_
     refine VO.opX rfl rfl rfl rfl aK3b ?_
     refine VO.opY rfl rfl rfl rfl aK2b ?_
     refine OpE.val (W := NoB) (OpV.pickF rfl rfl rfl rfl aK3b) rfl ?_
     refine VO.val rfl rfl (OpV.pickF rfl rfl rfl rfl aK2b) ?_
     refine VO.nil ?_
     refine VC.condF rfl rfl ?_
     have hnb : lnBad (okAt okL1 ls) ls en q = false := lnb3 (not_false_true (by assumption)) (not_false_true (by assumption))
     obtain rfl := hx (not_false_true (by assumption))
     refine VC.skip ?_
     refine VC.region ?_
     refine VO.mv rfl rfl rfl rfl ?_
     refine VO.val rfl rfl (OpV.loadK_own (i := 1) rfl hB Tryz.isAgg124 Tryz.sizeOf124 rfl rfl rfl (fun h => h)) ?_
     refine VO.op rfl (OpE.buildSlice (zc := #[.string ⟨#[]⟩, .string ⟨#[]⟩, .int .i64 0, .int .i64 0, .bool false, .string ⟨#[]⟩, .string ⟨#[]⟩, .string ⟨#[]⟩]) rfl hB rfl Tryz.underlying118 Tryz.sizeOf124 Tryz.zeroValue124 (by decide) (by decide) (by kernel_rfl) rfl rfl ?_)
     refine VO.op rfl (OpE.append1 (i := 0) rfl hB rfl Tryz.underlying118 (infoOf Tryz.t124 8 (by kernel_rfl) rfl rfl) rfl (by decide) (by decide) rfl rfl rfl rfl (rowL_snoc _ (lkOf (ls.getD q ByteArray.empty))) (by omega) (fun _ _ => trivial) ?_)
     intro u50
     refine VO.ma rfl rfl rfl rfl ?_
     refine VO.nil ?_
     refine VC.region ?_
     refine VO.val rfl rfl (OpV.add rfl rfl rfl (by unfold fits; omega)) ?_
     refine VO.mv rfl rfl rfl rfl ?_
     refine VO.nil ?_
     exact Exists.intro (⟨(u50, q + 1), by show _ ≤ _; omega, lt_succ_cases hn (by assumption)⟩) (And.intro (Le.mk hB [0] ⟨rfl, rfl, rfl, rfl, rfl, rfl, trivial⟩ rfl (by dsimp only; rw [lkMap_take (by omega)]; rfl) (Nat.le_refl _)) (by first | omega | (show _ < _; omega) | (simp only []; omega)))
   ·replace aK2b : _ = true := aK2b
    have aK2 := aK2b
    try simp only [qq] at aK2
    refine VO.opX rfl rfl rfl rfl aK2b ?_
    refine VO.opX rfl rfl rfl rfl aK2b ?_
    refine VO.opU rfl rfl rfl rfl ?_
    refine VO.opU rfl rfl rfl rfl ?_
    refine VO.opU rfl rfl rfl rfl ?_
    refine VO.opU rfl rfl rfl rfl ?_
    refine VO.opU rfl rfl rfl rfl ?_
    refine VO.opX rfl rfl rfl rfl aK2b ?_
    refine VO.val rfl rfl (OpV.pickT rfl rfl rfl rfl aK2b) ?_
    refine VO.nil ?_
    refine VC.condT rfl rfl ?_
    have hsome : lkBad text = some q := by show lnF _ _ _ = _; rw [hls, hen]; exact lnF_some (by omega) (lnb1 (not_true_false (by assumption))) hn
    refine VC.sr ?_
    refine VO.mv rfl rfl rfl rfl ?_
    refine VO.ma rfl rfl rfl rfl ?_
    refine VO.ma rfl rfl rfl rfl ?_
    refine VO.ma rfl rfl rfl rfl ?_
    refine VO.nil ?_
    refine VC.ret ?_
    exact Exists.intro _ (And.intro (RetN.three Tryz.results61 (ResN.nilE rfl) (ResN.v rfl) (ResN.v rfl)) (by rw [lkRead_9 (by omega) hsome]; rfl))
  ·have aH1 := aH1b
   try simp only [qq] at aH1
   obtain rfl : q = ls.length := by omega
   have hnone : lkBad text = none := by show lnF _ _ _ = _; rw [hls, hen]; exact lnF_none hn
   rw [List.take_length]
   refine VC.exit ?_
   refine VC.seq ?_
   refine VC.sr ?_
   refine VO.mv rfl rfl rfl rfl ?_
   refine VO.op rfl (OpE.callL rfl hB rfl Tryz.call128 (inspect_CheckLooks hsm) (ArgsP.cons (ArgP.rowT (i := 0) (xs := ls.map lkOf) rfl rfl (by rw [List.length_map])) (ArgsP.nil)) ?_)
   rintro _ rfl
   refine VO.ma rfl rfl rfl rfl ?_
   refine VO.nil ?_
   refine VC.sr ?_
   refine VO.mv rfl rfl rfl rfl ?_
   refine VO.val rfl rfl (OpV.neq rfl rfl rfl) ?_
   refine VO.nil ?_
   refine VC.cond rfl (fun h3b => ?_) (fun h3b => ?_)
   ·have h3 := h3b
    try simp only [qq] at h3
    refine VC.sr ?_
    refine VO.mv rfl rfl rfl rfl ?_
    refine VO.ma rfl rfl rfl rfl ?_
    refine VO.ma rfl rfl rfl rfl ?_
    refine VO.ma rfl rfl rfl rfl ?_
    refine VO.nil ?_
    refine VC.ret ?_
    exact Exists.intro _ (And.intro (RetN.three Tryz.results61 (ResN.nilE rfl) (ResN.v rfl) (ResN.v rfl)) (by rw [lkRead_e (by omega) hnone (by rw [hls]; exact h3), hls]; rfl))
   ·have h3 := h3b
    try simp only [qq] at h3
    refine VC.skip ?_
    refine VC.sr ?_
    refine VO.mv rfl rfl rfl rfl ?_
    refine VO.ma rfl rfl rfl rfl ?_
    refine VO.ma rfl rfl rfl rfl ?_
    refine VO.ma rfl rfl rfl rfl ?_
    refine VO.nil ?_
    refine VC.ret ?_
    exact Exists.intro _ (And.intro (RetN.three Tryz.results61 (ResN.rowT (i := 0) (xs := ls.map lkOf) rfl rfl (by rw [List.length_map]) (flat_lk _)) (ResN.v rfl) (ResN.v rfl)) (by rw [lkRead_0 (by omega) hnone (by rw [hls]; omega), hls]))
end
end Go.Proofs.YtcploodfholkkaaGreatDoor
namespace Go.Proofs.YtcploodfholkkaaGreatDoor
open Go.RowKit Go.Sort
section
variable {P : Program} {B : Bs} {W : Nat → Prop} {ops : Array Oper} {rest : List Oper} {s : St'} {o : Oper} {K : St' → Prop} {Q : Exit → St' → Prop}
theorem VOD.op (hg : o.guard = none) (h : OpED P B AllW s o (VOD P B ops rest Q)) : VOD P B ops (o :: rest) Q s := fun a w hr =>
 wpList_plain hg fun K hK => h a w hr K _ fun s' a' w' h1 h2 _ => hK a' w' (h1 a' w' h2)
theorem OpED.box {x : Operand} {e : TypeId} {v : AV} (ho : o.op = .box e x) (hB : B.Ok) (hd : okd B.nt o.dst = true) (hx : evO s x = some v) (hk : v.known = true)
  (hK : ∀ g, K ((St'.mk s.sl (s.hp ++ [.box g ⟨cellsOf v, e, (cellsOf v).length⟩]) s.k).put o.dst (.v (.pointer (some ⟨g, 0, none⟩))))) : OpED P B W s o K := by
 intro a w hr0 next Qx hn
 have hr := hr0.1
 have h1 := hr.newBox hB _ e _ ((hr.ev hx).cells hk)
 unfold Oper.wp
 simp only [execOp, ho, Instr.box, newVar, newRow, Sem.run_bind, run_newObj_alloc, Result.andThen_ok, Sem.run_pure]
 exact hn _ _ _ (hK _) ⟨h1.put _ hd _ _ (.v _), hr0.2⟩ ⟨.ofN ((Chg.refl _ _).alloc _), Nat.le_refl _⟩
theorem VCD.cond {x : Operand} {b : Bool} {c1 c2 : Code} (hx : evO s x = some (avB b)) (h1 : b = true → VCD P B c1 Q s) (h2 : b = false → VCD P B c2 Q s) : VCD P B (.cond x c1 c2) Q s := fun a w hr => by
 have hv := hr.1.evv hx
 cases b with
 | true => exact wp_cond_true (by rw [hv]) (h1 rfl a w hr)
 | false => exact wp_cond_false (by rw [hv]) (h2 rfl a w hr)
theorem VCD.skip (h : Q .normal s) : VCD P B .skip Q s := fun a w hr => wp_skip ⟨s, h, hr⟩
end
end Go.Proofs.YtcploodfholkkaaGreatDoor
namespace Go.Proofs.YtcploodfholkkaaGreatDoor
open Go.RowKit Go.Sort
theorem strCmp_x (a b : ByteArray) (w : World) : Calls Tryz.prog 95 #[.string a, .string b] w fun e w' => e = .returned (.int .i64 (cmpB a b)) ∧ w' = w := Tryz.strings_Compare a b w
set_option maxHeartbeats 400000 in
theorem cmpOr_x (x y : Int) (g off cap : Nat) (w : World) (h0 : w.cell? ⟨g, off, none⟩ = some (.int .i64 x)) (h1 : w.cell? ⟨g, off + 1, none⟩ = some (.int .i64 y)) :
  Calls Tryz.prog 93 #[.slice (some ⟨g, off, none⟩) 2 cap] w fun e w' => e = .returned (.int .i64 (errsF [x, y])) ∧ w' = w := by
 go_enter Tryz.func93, Tryz.ntmps93
 by_cases hx : x = 0
 ·subst hx
  by_cases hy : y = 0
  ·subst hy
   go_wp2_with fail
   refine wp_loop_rounds 3 ?_
   rw [rounds_succ]
   go_wp2_with fail
   rw [rounds_succ]
   go_wp2_with fail
   rw [rounds_succ]
   go_wp2_with fail
   go_ret
   exact ⟨rfl, rfl⟩
  ·go_wp2_with fail
   refine wp_loop_rounds 2 ?_
   rw [rounds_succ]
   go_wp2_with fail
   rw [rounds_succ]
   go_wp2_with fail
   go_ret
   exact ⟨ret_int (by simp [errsF, hy]), rfl⟩
 ·go_wp2_with fail
  refine wp_loop_rounds 1 ?_
  rw [rounds_succ]
  go_wp2_with fail
  go_ret
  exact ⟨ret_int (by simp [errsF, hx]), rfl⟩
end Go.Proofs.YtcploodfholkkaaGreatDoor
namespace Go.Proofs.YtcploodfholkkaaGreatDoor
open Go.RowKit
set_option maxRecDepth 100000
section
open Go.RowKit Go.Sort
theorem cmpOr_argsE {x y : Int} {w : World} {A : Nat → Prop} {us : Array Value} (h : Args w A [avInts [x, y]] us) : Calls Tryz.prog 93 us w fun e w' => e = .returned (.int .i64 (errsF [x, y])) ∧ w' = w := by
 obtain ⟨h1, h2⟩ := h
 have h3 := h2 0 (by simp)
 have hu : us = #[us.getD 0 undef] := by
  apply Array.ext (by simpa using h1)
  intro i hi1 hi2
  obtain rfl : i = 0 := by simpa using hi2
  simp [Array.getD_eq_getD_getElem?, Array.getElem?_eq_getElem hi1]
 rw [hu]
 generalize us.getD 0 undef = v at h3
 have h4 : Rep w (fun b => b < w.heap.size ∧ A b) (.im 2 1 fun j => avI ([x, y].getD j 0)) v := h3
 cases h4 with
 | im n sz f b off cap c e u hZ k1 k2 hb hc hr =>
  have c0 := hc 0 (by decide)
  have c1 := hc 1 (by decide)
  have r0 : u 0 = .int .i64 x := (hr 0 (by decide)).eq_v
  have r1 : u 1 = .int .i64 y := (hr 1 (by decide)).eq_v
  rw [r0] at c0
  rw [r1] at c1
  exact cmpOr_x x y b off cap w (by simpa [World.cell?, hb] using c0) (by simpa [World.cell?, hb] using c1)
theorem inspect_Escapes1_d {x y : PairS}  (w : World) (A : Nat → Prop) (us : Array Value) (hA : Args w A [avPr x, avPr y] us) :
  Calls Tryz.prog 152 us w fun e w' => e = .returned (.int .i64 (cPr x y)) ∧ Chg NoB w w' ∧ w.drawn ≤ w'.drawn := by
 refine calls_of_VCD Tryz.func152 rfl Tryz.ntmps152 (Nle rfl) (fun w A hB => ?_) w A us hA
 refine VCD.seq ?_
 refine VCD.region ?_
 refine VOD.op rfl (OpED.box rfl hB rfl rfl rfl ?_)
 intro g2
 refine VOD.op rfl (OpED.box rfl hB rfl rfl rfl ?_)
 intro g3
 refine VOD.val rfl rfl (OpV.move (.inr rfl) rfl) ?_
 refine VOD.nil ?_
 show VCD _ _ _ _ _
 refine VCD.seq ?_
 refine VCD.draw (fun _ => NoB) hB (by kernel_rfl) ?_
 refine VAD.take (i := 0) rfl (by kernel_rfl) (by kernel_rfl) (by kernel_rfl) rfl rfl (OpV.fieldAddrO 0 rfl Tryz.underlying58 rfl rfl Tryz.sizeOf9 rfl) ?_
 refine VAD.take (i := 1) rfl (by kernel_rfl) (by kernel_rfl) (by kernel_rfl) rfl rfl (OpV.load_own (i := 0) rfl hB Tryz.isAgg9 rfl rfl rfl Wi.not0) ?_
 refine VAD.take (i := 2) rfl (by kernel_rfl) (by kernel_rfl) (by kernel_rfl) rfl rfl (OpV.fieldAddrO 0 rfl Tryz.underlying58 rfl rfl Tryz.sizeOf9 rfl) ?_
 refine VAD.take (i := 3) rfl (by kernel_rfl) (by kernel_rfl) (by kernel_rfl) rfl rfl (OpV.load_own (i := 1) rfl hB Tryz.isAgg9 rfl rfl rfl Wi.not0) ?_
 refine VAD.take (i := 5) rfl (by kernel_rfl) (by kernel_rfl) (by kernel_rfl) rfl rfl (OpV.fieldAddrO 1 rfl Tryz.underlying58 rfl rfl Tryz.sizeOf9 rfl) ?_
 refine VAD.take (i := 6) rfl (by kernel_rfl) (by kernel_rfl) (by kernel_rfl) rfl rfl (OpV.load_own (i := 0) rfl hB Tryz.isAgg9 rfl rfl rfl Wi.not0) ?_
 refine VAD.take (i := 7) rfl (by kernel_rfl) (by kernel_rfl) (by kernel_rfl) rfl rfl (OpV.fieldAddrO 1 rfl Tryz.underlying58 rfl rfl Tryz.sizeOf9 rfl) ?_
 refine VAD.take (i := 8) rfl (by kernel_rfl) (by kernel_rfl) (by kernel_rfl) rfl rfl (OpV.load_own (i := 1) rfl hB Tryz.isAgg9 rfl rfl rfl Wi.not0) ?_
 refine VAD.one (i := 4) (by kernel_rfl) rfl rfl ?_
 refine OpED.call (v := .int .i64 (cmpB x.name y.name)) rfl rfl Tryz.call95 rfl (fun w A us h => by rw [argsV2 h]; exact strCmp_x _ _ w) ?_
 refine VAD.one (i := 9) (by kernel_rfl) rfl rfl ?_
 refine OpED.call (v := .int .i64 (cmpB x.value y.value)) rfl rfl Tryz.call95 rfl (fun w A us h => by rw [argsV2 h]; exact strCmp_x _ _ w) ?_
 refine VAD.one (i := 10) (by kernel_rfl) rfl rfl ?_
 refine OpED.buildSlice (zc := #[.int .i64 0, .int .i64 0]) rfl hB rfl Tryz.underlying22 Tryz.sizeOf3 Tryz.zeroValue3 (by decide) (by decide) (by kernel_rfl) rfl rfl ?_
 refine VAD.le _ (Le.lits (t := 15) (xs := [cmpB x.name y.name, cmpB x.value y.value]) rfl rfl) ?_
 refine VAD.one (i := 11) (by kernel_rfl) rfl rfl ?_
 refine OpED.call (v := .int .i64 (cPr x y)) rfl rfl Tryz.call93 rfl (fun w A us h => cmpOr_argsE h) ?_
 refine VAD.take (i := 12) rfl (by kernel_rfl) (by kernel_rfl) (by kernel_rfl) rfl rfl (OpV.move (.inr rfl) rfl) ?_
 refine VAD.done (by kernel_rfl) ?_
 show VCD _ _ _ _ _
 refine VCD.ret ?_
 exact Exists.intro _ (And.intro (RetV.one Tryz.results152 (ResV.tmp rfl)) (rfl))
set_option maxHeartbeats 8000000 in
theorem inspect_Escapes {l : List LookS} (hs : SmLk l) :
  SpecN Tryz.prog 64 [avL l] (fun y => y = .tup [avL (if lookF l = 0 then escS l else []), avI (lookF l)]) := by
 refine SpecN.of_VCN Tryz.func64 rfl Tryz.ntmps64 (Nle rfl) fun w A hB => ?_
 refine VC.seq ?_
 have hl := hs.len
 refine VC.region ?_
 refine VO.ma rfl rfl rfl rfl ?_
 refine VO.ma rfl rfl rfl rfl ?_
 refine VO.nil ?_
 refine VC.seq ?_
 refine VC.sr ?_
 refine VO.mv rfl rfl rfl rfl ?_
 refine VO.op rfl (OpE.call rfl hB rfl Tryz.call128 rfl (SpecN.spec (inspect_CheckLooks hs)) ?_)
 rintro _ rfl
 refine VO.ma rfl rfl rfl rfl ?_
 refine VO.nil ?_
 refine VC.sr ?_
 refine VO.mv rfl rfl rfl rfl ?_
 refine VO.val rfl rfl (OpV.neq rfl rfl rfl) ?_
 refine VO.nil ?_
 refine VC.cond rfl (fun h0b => ?_) (fun h0b => ?_)
 ·have h0 := h0b
  try simp only [qq] at h0
  refine VC.sr ?_
  refine VO.mv rfl rfl rfl rfl ?_
  refine VO.ma rfl rfl rfl rfl ?_
  refine VO.ma rfl rfl rfl rfl ?_
  refine VO.nil ?_
  refine VC.ret ?_
  exact Exists.intro _ (And.intro (RetN.two Tryz.results64 (ResN.nilE rfl) (ResN.v rfl)) (by rw [if_neg h0]; rfl))
 ·have h0 := h0b
  try simp only [qq] at h0
  refine VC.skip ?_
  refine VC.sr ?_
  refine VO.ma rfl rfl rfl rfl ?_
  refine VO.nil ?_
  refine VC.seq ?_
  refine VC.sr ?_
  refine VO.mv rfl rfl rfl rfl ?_
  refine VO.val rfl rfl (OpV.len_im rfl Tryz.underlying118 rfl) ?_
  refine VO.mv rfl rfl rfl rfl ?_
  refine VO.nil ?_
  refine VC.block ?_
  refine VC.le _ (Le.nilRow 2 58) ?_
  refine VC.loopK [(13, _), (14, _)] ⟨rfl, rfl, trivial⟩ ({z : Value × Nat // z.2 ≤ l.length}) (fun (iZ : {z : Value × Nat // z.2 ≤ l.length}) => match iZ with | ⟨⟨u, q⟩, hq⟩ => [(5, .v u), (15, avI (q : Int))]) (fun (iZ : {z : Value × Nat // z.2 ≤ l.length}) => match iZ with | ⟨⟨u, q⟩, hq⟩ => [.row u (escL (l.take q)).length 2 (rowL (escL (l.take q))) 58]) (fun (iZ : {z : Value × Nat // z.2 ≤ l.length}) => match iZ with | ⟨⟨u, q⟩, hq⟩ => 0) (fun (iZ : {z : Value × Nat // z.2 ≤ l.length}) => match iZ with | ⟨⟨u, q⟩, hq⟩ => l.length - q) ⟨(.slice none 0 0, 0), Nat.zero_le _⟩ (Le.mk hB [0] ⟨rfl, rfl, rfl, rfl, trivial⟩ rfl rfl (Nat.le_refl _)) ?_
  rintro ⟨⟨u, q⟩, hq⟩
  show VC _ _ _ _ ⟨[(5, .v u), (15, avI (q : Int))] ++ [(13, _), (14, _)], [.row u (escL (l.take q)).length 2 (rowL (escL (l.take q))) 58], 0⟩
  simp only at hq
  have hel := escL_len (l.take q)
  rw [List.length_take] at hel
  refine VC.sr ?_
  refine VO.val rfl rfl (OpV.lss rfl rfl rfl) ?_
  refine VO.nil ?_
  refine VC.seq ?_
  refine VC.cond rfl (fun aH1b => ?_) (fun aH1b => ?_)
  ·have aH1 := aH1b
   try simp only [qq] at aH1
   refine VC.skip ?_
   refine VC.seq ?_
   refine VC.block ?_
   refine VC.sr ?_
   refine VO.val rfl rfl (OpV.indexAddr_E rfl Tryz.underlying118 Tryz.sizeOf124 rfl rfl rfl (by omega)) ?_
   refine VO.val rfl rfl (OpV.loadK_at rfl hB OutW.no Tryz.isAgg124 Tryz.sizeOf124 rfl rfl) ?_
   refine VO.op rfl (OpE.alloc rfl hB rfl Tryz.zeroValue124 rfl ?_)
   intro g7
   refine VO.op rfl (OpE.store (i := 1) rfl hB rfl Tryz.sizeOf124 rfl rfl rfl rfl rfl rfl (Nle rfl) trivial ?_)
   refine VO.nil ?_
   refine VC.sr ?_
   refine VO.val rfl rfl (OpV.fieldAddrO 4 rfl Tryz.underlying124 rfl rfl Tryz.sizeOf4 rfl) ?_
   refine VO.val rfl rfl (OpV.load_own (i := 1) rfl hB Tryz.isAgg4 rfl rfl rfl (fun h => h)) ?_
   refine VO.mv rfl rfl rfl rfl ?_
   refine VO.opG rfl rfl rfl rfl (fun aK2b => ?_) (fun aK2b => ?_)
   ·replace aK2b : _ = true := aK2b
    have aK2 := aK2b
    try simp only [qq] at aK2
    refine OpE.val (W := NoB) (OpV.loadK_own (i := 1) rfl hB Tryz.isAgg124 Tryz.sizeOf124 rfl rfl rfl (fun h => h)) rfl ?_
    refine VO.opY rfl rfl rfl rfl aK2b ?_
    refine OpE.call rfl hB rfl Tryz.call149 rfl (SpecN.spec (inspect_isCalled)) ?_
    rintro _ rfl
    refine VO.opY rfl rfl rfl rfl aK2b ?_
    refine OpE.val (W := NoB) (OpV.not rfl rfl) rfl ?_
    refine VO.val rfl rfl (OpV.pickT rfl rfl rfl rfl aK2b) ?_
    refine VO.nil ?_
    refine VC.cond rfl (fun aH3b => ?_) (fun aH3b => ?_)
    ·have aH3 := aH3b
     try simp only [qq] at aH3
     have hyes : isEs (l.getD q default) = true := by simp_all [isEs, isC]
     refine VC.region ?_
     refine VO.mv rfl rfl rfl rfl ?_
     refine VO.val rfl rfl (OpV.fieldAddrO 0 rfl Tryz.underlying124 rfl rfl Tryz.sizeOf9 rfl) ?_
     refine VO.val rfl rfl (OpV.load_own (i := 1) rfl hB Tryz.isAgg9 rfl rfl rfl (fun h => h)) ?_
     refine VO.val rfl rfl (OpV.fieldAddrO 1 rfl Tryz.underlying124 rfl rfl Tryz.sizeOf9 rfl) ?_
     refine VO.val rfl rfl (OpV.load_own (i := 1) rfl hB Tryz.isAgg9 rfl rfl rfl (fun h => h)) ?_
     refine VO.val rfl rfl (OpV.build (pls := #[(0, 1), (1, 1)]) rfl Tryz.zeroValue58 Tryz.underlying58 (fun w => by kernel_rfl) rfl rfl) ?_
     refine VO.op rfl (OpE.buildSlice (zc := #[.string ⟨#[]⟩, .string ⟨#[]⟩]) rfl hB rfl Tryz.underlying53 Tryz.sizeOf58 Tryz.zeroValue58 (by decide) (by decide) (by kernel_rfl) rfl rfl ?_)
     refine VO.op rfl (OpE.append1 (i := 0) rfl hB rfl Tryz.underlying53 (infoOf Tryz.t58 2 (by kernel_rfl) rfl rfl) rfl (by decide) (by decide) rfl rfl rfl rfl (rowL_snoc _ (esOf (l.getD q default))) (by omega) (fun _ _ => trivial) ?_)
     intro u33
     refine VO.ma rfl rfl rfl rfl ?_
     refine VO.nil ?_
     refine VC.region ?_
     refine VO.val rfl rfl (OpV.add rfl rfl rfl (by unfold fits; omega)) ?_
     refine VO.mv rfl rfl rfl rfl ?_
     refine VO.nil ?_
     exact Exists.intro (⟨(u33, q + 1), by show q + 1 ≤ _; omega⟩) (And.intro (Le.mk hB [0] ⟨rfl, rfl, rfl, rfl, trivial⟩ rfl (by dsimp only; first | (rw [escL_yes (by omega) hyes, List.length_append]; rfl) | (rw [escL_no (by omega) hno]; rfl)) (Nat.le_refl _)) (by first | omega | (show _ < _; omega) | (simp only []; omega)))
    ·have aH3 := aH3b
     try simp only [qq] at aH3
     have hno : isEs (l.getD q default) = false := by simp_all [isEs, isC]
     refine VC.skip ?_
     refine VC.region ?_
     refine VO.val rfl rfl (OpV.add rfl rfl rfl (by unfold fits; omega)) ?_
     refine VO.mv rfl rfl rfl rfl ?_
     refine VO.nil ?_
     exact Exists.intro (⟨(u, q + 1), by show q + 1 ≤ _; omega⟩) (And.intro (Le.mk hB [0] ⟨rfl, rfl, rfl, rfl, trivial⟩ rfl (by dsimp only; first | (rw [escL_yes (by omega) hyes, List.length_append]; rfl) | (rw [escL_no (by omega) hno]; rfl)) (Nat.le_refl _)) (by first | omega | (show _ < _; omega) | (simp only []; omega)))
   ·replace aK2b : _ = false := aK2b
    have aK2 := aK2b
    try simp only [qq] at aK2
    refine VO.opX rfl rfl rfl rfl aK2b ?_
    refine VO.opX rfl rfl rfl rfl aK2b ?_
    refine VO.val rfl rfl (OpV.pickF rfl rfl rfl rfl aK2b) ?_
    refine VO.nil ?_
    refine VC.condF rfl rfl ?_
    have hno : isEs (l.getD q default) = false := by simp_all [isEs, isC]
    refine VC.skip ?_
    refine VC.region ?_
    refine VO.val rfl rfl (OpV.add rfl rfl rfl (by unfold fits; omega)) ?_
    refine VO.mv rfl rfl rfl rfl ?_
    refine VO.nil ?_
    exact Exists.intro (⟨(u, q + 1), by show q + 1 ≤ _; omega⟩) (And.intro (Le.mk hB [0] ⟨rfl, rfl, rfl, rfl, trivial⟩ rfl (by dsimp only; first | (rw [escL_yes (by omega) hyes, List.length_append]; rfl) | (rw [escL_no (by omega) hno]; rfl)) (Nat.le_refl _)) (by first | omega | (show _ < _; omega) | (simp only []; omega)))
  ·have aH1 := aH1b
   try simp only [qq] at aH1
   obtain rfl : q = l.length := by omega
   rw [List.take_length]
   refine VC.exit ?_
   refine VC.sr ?_
   refine VO.mv rfl rfl rfl rfl ?_
   refine VO.op rfl (OpE.callH0 rfl hB rfl Tryz.call151 rfl rfl (sortFunc_pr (l := escL l) (F := 152) (by have := escL_len l; omega) Tryz.call152 (fun x y w A us h => inspect_Escapes1_d w A us h)) (List.Perm.refl _) (fun _ _ => trivial) ?_)
   rintro _ _ ⟨rfl, rfl⟩
   refine VO.nil ?_
   refine VC.sr ?_
   refine VO.mv rfl rfl rfl rfl ?_
   refine VO.ma rfl rfl rfl rfl ?_
   refine VO.ma rfl rfl rfl rfl ?_
   refine VO.nil ?_
   refine VC.ret ?_
   exact Exists.intro _ (And.intro (RetN.two Tryz.results64 (ResN.rowT (i := 0) (xs := escS l) rfl rfl (sortPr_len _).symm (flat_pairs _)) (ResN.v rfl)) (by rw [if_pos (by omega), show lookF l = 0 by omega]))
end
section
def smF (f : Nat → Int) : Nat → Int
 | 0 => 0
 | q + 1 => smF f q + f q
theorem smF_b {f : Nat → Int} (h : ∀ q, 0 ≤ f q ∧ f q ≤ 12) : ∀ q : Nat, 0 ≤ smF f q ∧ smF f q ≤ 12 * (q : Int)
 | 0 => ⟨Int.le_refl _, Int.le_refl _⟩
 | q + 1 => by
  have ih := smF_b h q
  have h1 := h q
  refine ⟨?_, ?_⟩ <;> (simp only [smF]; omega)
theorem smF_take {ks : List ByteArray} {g : ByteArray → Nat} {d : ByteArray} : ∀ q, q ≤ ks.length → smF (fun i => (g (ks.getD i d) : Int)) q = (((ks.take q).map g).sum : Nat)
 | 0, _ => rfl
 | q + 1, h => by
  have ih := smF_take (ks := ks) (g := g) (d := d) q (by omega)
  have e : ks.take (q + 1) = ks.take q ++ [ks.getD q d] := by
   rw [List.take_add_one, List.getElem?_eq_getElem (show q < ks.length by omega), List.getD_eq_getElem?_getD, List.getElem?_eq_getElem (show q < ks.length by omega)]; rfl
  rw [smF, ih, e, List.map_append, List.sum_append]
  simp only [List.map_cons, List.map_nil, List.sum_cons, List.sum_nil, Nat.add_zero, Int.natCast_add]
theorem smF_all {ks : List ByteArray} {g : ByteArray → Nat} {d : ByteArray} : smF (fun i => (g (ks.getD i d) : Int)) ks.length = ((ks.map g).sum : Nat) := by
 rw [smF_take _ (Nat.le_refl _), List.take_length]
def nI (L : List Int) (q : Nat) : List Int := L.take q ++ List.replicate (4 - q) 0
theorem nI_len {L : List Int} {q : Nat} (h : L.length = 4) (hq : q ≤ 4) : (nI L q).length = 4 := by simp [nI]; omega
theorem nI_set {L : List Int} {q : Nat} (h : L.length = 4) (hq : q < 4) : (nI L q).set q (L.getD q 0) = nI L (q + 1) := by
 match L, h with
 | [a, b, c, d], _ =>
  match q, hq with
  | 0, _ => rfl
  | 1, _ => rfl
  | 2, _ => rfl
  | 3, _ => rfl
theorem nI_get {L : List Int} {q : Nat} (h : L.length = 4) (hq : q < 4) : (nI L (q + 1)).getD q 0 = L.getD q 0 := by
 match L, h with
 | [a, b, c, d], _ =>
  match q, hq with
  | 0, _ => rfl
  | 1, _ => rfl
  | 2, _ => rfl
  | 3, _ => rfl
theorem c4i_len (a : List LookS) : (c4i a).length = 4 := rfl
structure AddF (a : List LookS) (tx : ByteArray) (cp bm es : List PairS) (B W : Nat → Int) : Prop where
 etx : (if lookF a = 0 then txt a else ⟨#[]⟩) = tx
 size : tx.size ≤ 900000
 back : lkRead tx = (a, 0, 0)
 ecp : (if lookF a = 0 then ctPairs a else []) = cp
 cpl : cp.length = 4
 cv : ∀ q, q < 4 → (cp.getD q default).value.size ≤ 18 ∧ Lib.atoi (byL (cp.getD q default).value) = some ((c4i a).getD q 0)
 ebm : (if lookF a = 0 then byM a else []) = bm
 bml : bm.length ≤ 12
 bv : ∀ q, q < bm.length → (bm.getD q default).value.size ≤ 100 ∧ ((cutA 47 (bm.getD q default).value).size ≤ 18 ∧ Lib.atoi (byL (cutA 47 (bm.getD q default).value)) = some (B q)) ∧ ((cutB 47 (bm.getD q default).value).size ≤ 18 ∧ Lib.atoi (byL (cutB 47 (bm.getD q default).value)) = some (W q))
 ees : (if lookF a = 0 then escS a else []) = es
 esl : es.length = cntL fE a
 Cb : ∀ q, 0 ≤ (c4i a).getD q 0 ∧ (c4i a).getD q 0 ≤ 12
 Bb : ∀ q, 0 ≤ B q ∧ B q ≤ 12
 Wb : ∀ q, 0 ≤ W q ∧ W q ≤ 12
 Cs : smF (fun q => (c4i a).getD q 0) 4 = a.length
 Bs : smF B bm.length = (cntL fD a : Int) + (cntL fE a : Int)
 Ws : smF W bm.length = a.length
theorem AddF.of {a : List LookS} (h0 : lookF a = 0) (hk : ∀ x ∈ a, LkG 4 x) (hl : a.length ≤ 12) : ∃ tx cp bm es B W, AddF a tx cp bm es B W := by
 have hts := txt_size (l := a) (fun j hj => LkT.of (m := 4) (by omega) hk h0 hj) a.length (Nat.le_refl _)
 rw [List.take_length] at hts
 have hf : ∀ k, (mcF k a).length ≤ 12 := fun k => Nat.le_trans (List.length_filter_le _ _) hl
 have hb : ∀ k, badN (mcF k a) ≤ 12 := fun k => Nat.le_trans (List.length_filter_le _ _) (hf k)
 obtain ⟨s1, s2⟩ := c4_sum a
 obtain ⟨m1, m2⟩ := mcK_sums a
 have hmk := mcK_len a
 refine ⟨_, _, _, _, fun q => (badN (mcF ((mcK a).getD q ByteArray.empty) a) : Int), fun q => ((mcF ((mcK a).getD q ByteArray.empty) a).length : Int), ⟨if_pos h0, by omega, lk_back (m := 4) (by omega) hk h0 (by omega), if_pos h0, ctPairs_len a, fun q hq => ?_, if_pos h0, by rw [byM_len]; omega, fun q hq => ?_, if_pos h0, esc_count a, fun q => ?_, fun q => ⟨by omega, by have := hb ((mcK a).getD q ByteArray.empty); show (badN _ : Int) ≤ 12; omega⟩, fun q => ⟨by show (0 : Int) ≤ ((mcF _ a).length : Int); omega, by have := hf ((mcK a).getD q ByteArray.empty); show ((mcF _ a).length : Int) ≤ 12; omega⟩, ?_, ?_, ?_⟩⟩
 ·have hc := c4_le a q
  have e : ((ctPairs a).getD q default).value = decB ((c4 a).getD q 0) := by
   rw [List.getD_eq_getElem?_getD, List.getElem?_eq_getElem (by rw [ctPairs_len]; exact hq)]
   simp [ctPairs]
  have h := atoi_back (n := (c4 a).getD q 0) (by omega)
  rw [e, c4_get]
  exact ⟨h.2, h.1⟩
 ·rw [byM_len] at hq
  have e : ((byM a).getD q default).value = decB (badN (mcF ((mcK a).getD q ByteArray.empty) a)) ++ slW ++ decB (mcF ((mcK a).getD q ByteArray.empty) a).length := by
   rw [List.getD_eq_getElem?_getD, List.getElem?_eq_getElem (by rw [byM_len]; exact hq)]
   simp [byM, byP, List.getD_eq_getElem?_getD, List.getElem?_eq_getElem hq]
  have k1 := hb ((mcK a).getD q ByteArray.empty)
  have k2 := hf ((mcK a).getD q ByteArray.empty)
  have a1 := atoi_back (n := badN (mcF ((mcK a).getD q ByteArray.empty) a)) (by omega)
  have a2 := atoi_back (n := (mcF ((mcK a).getD q ByteArray.empty) a).length) (by omega)
  obtain ⟨c1, c2, c3⟩ := cut_back (badN (mcF ((mcK a).getD q ByteArray.empty) a)) (mcF ((mcK a).getD q ByteArray.empty) a).length
  rw [e, c2, c3]
  refine ⟨?_, ⟨a1.2, a1.1⟩, ⟨a2.2, a2.1⟩⟩
  rw [ByteArray.size_append, ByteArray.size_append]
  have : slW.size = 1 := rfl
  have := a1.2
  have := a2.2
  omega
 ·have hc := c4_le a q
  rw [c4_get]; omega
 ·show 0 + (cntL fD a : Int) + (cntL fW a : Int) + (cntL fE a : Int) + (cntL fG a : Int) = _
  omega
 ·rw [byM_len]; refine (smF_all (ks := mcK a) (g := fun k => badN (mcF k a)) (d := ByteArray.empty)).trans ?_; rw [m2]; omega
 ·rw [byM_len]; refine (smF_all (ks := mcK a) (g := fun k => (mcF k a).length) (d := ByteArray.empty)).trans ?_; rw [m1]
set_option maxHeartbeats 40000000 in
theorem addUp_any (a0 : Option Addr) (cap0 : Nat) (L : List Int) (w : World) (hin : Inp w a0 L) :
  Calls Tryz.prog 7 #[.slice a0 L.length cap0] w fun e w' => e = .returned (.bool true) ∧ Chg NoB w w' := by
 refine law_calls Tryz.func7 rfl Tryz.ntmps7 (Nle rfl) Tryz.results7 ?_
 have hB := B0.ok w (fun _ => True) 201
 have hnew : True := trivial
 refine VC.sr ?_
 refine VO.ma rfl rfl rfl rfl ?_
 refine VO.nil ?_
 refine VC.sr ?_
 refine VO.mv rfl rfl rfl rfl ?_
 refine VO.val rfl rfl (OpV.build (pls := #[(0, 1), (1, 1)]) rfl Tryz.zeroValue25 Tryz.underlying25 (fun w => by kernel_rfl) rfl rfl) ?_
 refine VO.op rfl (OpE.box rfl hB rfl rfl rfl ?_)
 intro g
 refine VO.ma rfl rfl rfl rfl ?_
 refine VO.nil ?_
 refine VC.stream (i := 0) (sl := [(3, sp g)]) (by exact rfl) (by exact rfl) hin (by exact ⟨rfl, trivial⟩) (fun p hp => by simp at hp; subst hp; exact ⟨_, rfl⟩) (fun w1 hge hB => ?_)
 refine VC.sr ?_
 refine VO.mv rfl rfl rfl rfl ?_
 refine VO.mv rfl rfl rfl rfl ?_
 refine VO.op rfl (OpE.callT' (0) rfl rfl hB rfl Tryz.call58 rfl ((range_T (by omega) (by omega) (by omega))) (by omega) ?_)
 rintro _ ⟨r42, hr42, rfl⟩
 obtain ⟨na, rfl⟩ : ∃ na : Nat, r42 = na := ⟨r42.toNat, by omega⟩
 refine VO.op rfl (OpE.callTO (0 + 1) rfl rfl hB rfl Tryz.call51 rfl (rightLooks_O (by omega)) (by omega) ?_)
 rintro _ _ ⟨a, ua, hal, rfl, rfl⟩
 refine VO.le _ (Le.rowT (t := 43) (i := 0) (xs := a) hB hnew rfl rfl rfl) ?_
 refine VO.ma rfl rfl rfl rfl ?_
 refine VO.nil ?_
 refine VC.sr ?_
 refine VO.mv rfl rfl rfl rfl ?_
 refine VO.mv rfl rfl rfl rfl ?_
 refine VO.op rfl (OpE.callT' (0 + 1 + 1300) rfl rfl hB rfl Tryz.call59 rfl (parts_lk (by omega)) (by omega) ?_)
 rintro _ ⟨p, q1, hpq, rfl⟩
 refine VO.mv rfl rfl rfl rfl ?_
 refine VO.val rfl rfl (OpV.extract rfl rfl rfl) ?_
 refine VO.val rfl rfl (OpV.extract rfl rfl rfl) ?_
 refine VO.ma rfl rfl rfl rfl ?_
 refine VO.ma rfl rfl rfl rfl ?_
 refine VO.nil ?_
 refine VC.seq ?_
 have hak : ∀ x ∈ a, LkG 4 x := fun x hx => (hal.2.1 x hx).mono (by omega)
 have h0 := hal.2.2
 have ha12 : a.length ≤ 12 := by omega
 have hpk : ∀ x ∈ p, LkG 4 x := fun x hx => hak x (hpq.1.subset hx)
 have hqk : ∀ x ∈ q1, LkG 4 x := fun x hx => hak x (hpq.2.1.subset hx)
 have hpl := hpq.1.length_le
 have hql := hpq.2.1.length_le
 have hs := LkG.sm hak (by omega)
 have hsp := LkG.sm hpk (by omega)
 have hsq := LkG.sm hqk (by omega)
 obtain ⟨tx, cp, bm, es, B, W, hF⟩ := AddF.of h0 hak ha12
 have hts := hF.size
 have hbl := hF.bml
 have hcl := hF.cpl
 refine VC.region ?_
 refine VO.mv rfl rfl rfl rfl ?_
 refine VO.mv rfl rfl rfl rfl ?_
 refine VO.op rfl (OpE.call rfl hB rfl Tryz.call52 rfl (SpecN.spec (inspect_Merge hsp hsq (fun o h1 h2 h3 => mg_small hpk hqk h1 h2 h3))) ?_)
 rintro _ ⟨l1, hl1, rfl⟩
 obtain ⟨e1, e2⟩ := merge_back h0 hpq.1 hpq.2.1 hpq.2.2 hl1
 refine VO.le _ (Le.recast (t := 53) (y := .tup [avL a, avI 0]) rfl (fun w Z u h => by rw [e1, e2] at h; exact h)) ?_
 refine VO.mv rfl rfl rfl rfl ?_
 refine VO.val rfl rfl (OpV.extract rfl rfl rfl) ?_
 refine VO.val rfl rfl (OpV.extract rfl rfl rfl) ?_
 refine VO.ma rfl rfl rfl rfl ?_
 refine VO.ma rfl rfl rfl rfl ?_
 refine VO.nil ?_
 refine VC.sr ?_
 refine VO.mv rfl rfl rfl rfl ?_
 refine VO.mv rfl rfl rfl rfl ?_
 refine VO.op rfl (OpE.call rfl hB rfl Tryz.call52 rfl (SpecN.spec (inspect_Merge hsq hsp (fun o h1 h2 h3 => mg_small hqk hpk h1 h2 h3))) ?_)
 rintro _ ⟨l2, hl2, rfl⟩
 obtain ⟨e3, e4⟩ := merge_back h0 hpq.2.1 hpq.1 (fun x hx => (hpq.2.2 x hx).symm) hl2
 refine VO.le _ (Le.recast (t := 59) (y := .tup [avL a, avI 0]) rfl (fun w Z u h => by rw [e3, e4] at h; exact h)) ?_
 refine VO.mv rfl rfl rfl rfl ?_
 refine VO.val rfl rfl (OpV.extract rfl rfl rfl) ?_
 refine VO.val rfl rfl (OpV.extract rfl rfl rfl) ?_
 refine VO.ma rfl rfl rfl rfl ?_
 refine VO.ma rfl rfl rfl rfl ?_
 refine VO.nil ?_
 refine VC.sr ?_
 refine VO.mv rfl rfl rfl rfl ?_
 refine VO.op rfl (OpE.call rfl hB rfl Tryz.call60 rfl (SpecN.spec (inspect_TextL hak (by omega) (by omega))) ?_)
 rintro _ rfl
 refine VO.le _ (Le.recast (t := 64) (y := .tup [avS tx, avI 0]) rfl (fun w Z u h => by rw [hF.etx, h0] at h; exact h)) ?_
 refine VO.mv rfl rfl rfl rfl ?_
 refine VO.val rfl rfl (OpV.extract rfl rfl rfl) ?_
 refine VO.val rfl rfl (OpV.extract rfl rfl rfl) ?_
 refine VO.ma rfl rfl rfl rfl ?_
 refine VO.ma rfl rfl rfl rfl ?_
 refine VO.nil ?_
 refine VC.sr ?_
 refine VO.mv rfl rfl rfl rfl ?_
 refine VO.op rfl (OpE.call rfl hB rfl Tryz.call61 rfl (SpecN.spec (inspect_ReadL (by omega))) ?_)
 rintro _ rfl
 refine VO.le _ (Le.recast (t := 69) (y := .tup [avL a, avI 0, avI 0]) rfl (fun w Z u h => by rw [hF.back] at h; exact h)) ?_
 refine VO.mv rfl rfl rfl rfl ?_
 refine VO.val rfl rfl (OpV.extract rfl rfl rfl) ?_
 refine VO.val rfl rfl (OpV.extract rfl rfl rfl) ?_
 refine VO.val rfl rfl (OpV.extract rfl rfl rfl) ?_
 refine VO.ma rfl rfl rfl rfl ?_
 refine VO.ma rfl rfl rfl rfl ?_
 refine VO.ma rfl rfl rfl rfl ?_
 refine VO.nil ?_
 refine VC.sr ?_
 refine VO.mv rfl rfl rfl rfl ?_
 refine VO.op rfl (OpE.call rfl hB rfl Tryz.call62 rfl (SpecN.spec (inspect_Counts hs (by omega))) ?_)
 rintro _ rfl
 refine VO.le _ (Le.recast (t := 75) (y := .tup [avL cp, avI 0]) rfl (fun w Z u h => by rw [hF.ecp, h0] at h; exact h)) ?_
 refine VO.mv rfl rfl rfl rfl ?_
 refine VO.val rfl rfl (OpV.extract rfl rfl rfl) ?_
 refine VO.val rfl rfl (OpV.extract rfl rfl rfl) ?_
 refine VO.ma rfl rfl rfl rfl ?_
 refine VO.ma rfl rfl rfl rfl ?_
 refine VO.nil ?_
 refine VC.sr ?_
 refine VO.mv rfl rfl rfl rfl ?_
 refine VO.op rfl (OpE.call rfl hB rfl Tryz.call63 rfl (SpecN.spec (inspect_ByMachine hs (by omega))) ?_)
 rintro _ rfl
 refine VO.le _ (Le.recast (t := 80) (y := .tup [avL bm, avI 0]) rfl (fun w Z u h => by rw [hF.ebm, h0] at h; exact h)) ?_
 refine VO.mv rfl rfl rfl rfl ?_
 refine VO.val rfl rfl (OpV.extract rfl rfl rfl) ?_
 refine VO.val rfl rfl (OpV.extract rfl rfl rfl) ?_
 refine VO.ma rfl rfl rfl rfl ?_
 refine VO.ma rfl rfl rfl rfl ?_
 refine VO.nil ?_
 refine VC.sr ?_
 refine VO.mv rfl rfl rfl rfl ?_
 refine VO.op rfl (OpE.call rfl hB rfl Tryz.call64 rfl (SpecN.spec (inspect_Escapes hs)) ?_)
 rintro _ rfl
 refine VO.le _ (Le.recast (t := 85) (y := .tup [avL es, avI 0]) rfl (fun w Z u h => by rw [hF.ees, h0] at h; exact h)) ?_
 refine VO.mv rfl rfl rfl rfl ?_
 refine VO.val rfl rfl (OpV.extract rfl rfl rfl) ?_
 refine VO.val rfl rfl (OpV.extract rfl rfl rfl) ?_
 refine VO.ma rfl rfl rfl rfl ?_
 refine VO.ma rfl rfl rfl rfl ?_
 refine VO.nil ?_
 refine VC.seq ?_
 refine VC.sr ?_
 refine VO.mv rfl rfl rfl rfl ?_
 refine VO.mv rfl rfl rfl rfl ?_
 refine VO.mv rfl rfl rfl rfl ?_
 refine VO.mv rfl rfl rfl rfl ?_
 refine VO.mv rfl rfl rfl rfl ?_
 refine VO.mv rfl rfl rfl rfl ?_
 refine VO.mv rfl rfl rfl rfl ?_
 refine VO.op rfl (OpE.buildSlice (zc := #[.int .i64 0, .int .i64 0, .int .i64 0, .int .i64 0, .int .i64 0, .int .i64 0, .int .i64 0]) rfl hB rfl Tryz.underlying262 Tryz.sizeOf34 Tryz.zeroValue34 (by decide) (by decide) (by kernel_rfl) rfl rfl ?_)
 refine VO.le _ (Le.lits (t := 95) (xs := [0, 0, 0, 0, 0, 0, 0]) rfl rfl) ?_
 refine VO.op rfl (OpE.call rfl hB rfl Tryz.call65 rfl (SpecN.spec (rk_errs (xs := [0, 0, 0, 0, 0, 0, 0]) (by simp))) ?_)
 rintro _ rfl
 refine VO.le _ (Le.recast (t := 96) (y := avI 0) rfl (fun w Z u h => h)) ?_
 refine VO.val rfl rfl (OpV.neq rfl rfl rfl) ?_
 refine VO.le _ (Le.boolF (t := 97) rfl rfl) ?_
 refine VO.mv rfl rfl rfl rfl ?_
 refine VO.opY rfl rfl rfl rfl rfl ?_
 refine OpE.val (W := NoB) (OpV.move (.inl rfl) rfl) rfl ?_
 refine VO.opY rfl rfl rfl rfl rfl ?_
 refine OpE.val (W := NoB) (OpV.move (.inl rfl) rfl) rfl ?_
 refine VO.opY rfl rfl rfl rfl rfl ?_
 refine OpE.call rfl hB rfl Tryz.call57 rfl (SpecN.spec (slices_Equal_lk (by omega) (by omega))) ?_
 rintro _ rfl
 refine VO.le _ (Le.boolT (t := 101) rfl (eqLs_self eqLk_self _)) ?_
 refine VO.opY rfl rfl rfl rfl rfl ?_
 refine OpE.val (W := NoB) (OpV.not rfl rfl) rfl ?_
 refine VO.val rfl rfl (OpV.pickF rfl rfl rfl rfl rfl) ?_
 refine VO.mv rfl rfl rfl rfl ?_
 refine VO.opY rfl rfl rfl rfl rfl ?_
 refine OpE.val (W := NoB) (OpV.move (.inl rfl) rfl) rfl ?_
 refine VO.opY rfl rfl rfl rfl rfl ?_
 refine OpE.val (W := NoB) (OpV.move (.inl rfl) rfl) rfl ?_
 refine VO.opY rfl rfl rfl rfl rfl ?_
 refine OpE.call rfl hB rfl Tryz.call57 rfl (SpecN.spec (slices_Equal_lk (by omega) (by omega))) ?_
 rintro _ rfl
 refine VO.le _ (Le.boolT (t := 107) rfl (eqLs_self eqLk_self _)) ?_
 refine VO.opY rfl rfl rfl rfl rfl ?_
 refine OpE.val (W := NoB) (OpV.not rfl rfl) rfl ?_
 refine VO.val rfl rfl (OpV.pickF rfl rfl rfl rfl rfl) ?_
 refine VO.mv rfl rfl rfl rfl ?_
 refine VO.opY rfl rfl rfl rfl rfl ?_
 refine OpE.val (W := NoB) (OpV.move (.inl rfl) rfl) rfl ?_
 refine VO.opY rfl rfl rfl rfl rfl ?_
 refine OpE.val (W := NoB) (OpV.move (.inl rfl) rfl) rfl ?_
 refine VO.opY rfl rfl rfl rfl rfl ?_
 refine OpE.call rfl hB rfl Tryz.call57 rfl (SpecN.spec (slices_Equal_lk (by omega) (by omega))) ?_
 rintro _ rfl
 refine VO.le _ (Le.boolT (t := 113) rfl (eqLs_self eqLk_self _)) ?_
 refine VO.opY rfl rfl rfl rfl rfl ?_
 refine OpE.val (W := NoB) (OpV.not rfl rfl) rfl ?_
 refine VO.val rfl rfl (OpV.pickF rfl rfl rfl rfl rfl) ?_
 refine VO.mv rfl rfl rfl rfl ?_
 refine VO.opY rfl rfl rfl rfl rfl ?_
 refine OpE.val (W := NoB) (OpV.move (.inl rfl) rfl) rfl ?_
 refine VO.opY rfl rfl rfl rfl rfl ?_
 refine OpE.val (W := NoB) (OpV.len_im rfl Tryz.underlying53 rfl) rfl ?_
 refine VO.opY rfl rfl rfl rfl rfl ?_
 refine OpE.val (W := NoB) (OpV.neq rfl rfl rfl) rfl ?_
 refine VO.le _ (Le.boolF (t := 119) rfl (decide_eq_false (by omega))) ?_
 refine VO.val rfl rfl (OpV.pickF rfl rfl rfl rfl rfl) ?_
 refine VO.nil ?_
 refine VC.condF rfl rfl ?_
 refine VC.skip ?_
 refine VC.sr ?_
 refine VO.op rfl (OpE.alloc rfl hB rfl Tryz.zeroValue139 rfl ?_)
 intro g22
 refine VO.nil ?_
 refine VC.sr ?_
 refine VO.ma rfl rfl rfl rfl ?_
 refine VO.nil ?_
 refine VC.seq ?_
 refine VC.sr ?_
 refine VO.mv rfl rfl rfl rfl ?_
 refine VO.val rfl rfl (OpV.len_im rfl Tryz.underlying53 rfl) ?_
 refine VO.mv rfl rfl rfl rfl ?_
 refine VO.nil ?_
 refine VC.block ?_
 refine VC.loopK [(4, _), (18, _), (20, _), (22, _), (121, _), (122, _)] ⟨rfl, rfl, rfl, rfl, rfl, rfl, trivial⟩ ({q : Nat // q ≤ 4}) (fun (iZ : {q : Nat // q ≤ 4}) => match iZ with | ⟨q, hq⟩ => [(23, avI (smF (fun i => (c4i a).getD i 0) q)), (123, avI (q : Int))]) (fun (iZ : {q : Nat // q ≤ 4}) => match iZ with | ⟨q, hq⟩ => [.box g22 ⟨intsL (nI (c4i a) q), 139, 4⟩]) (fun (iZ : {q : Nat // q ≤ 4}) => match iZ with | ⟨q, hq⟩ => 100000) (fun (iZ : {q : Nat // q ≤ 4}) => match iZ with | ⟨q, hq⟩ => 4 - q) ⟨0, by decide⟩ (Le.mk hB [0] ⟨rfl, rfl, rfl, rfl, rfl, rfl, rfl, rfl, trivial⟩ rfl rfl (Nle rfl)) ?_
 rintro ⟨q, hq⟩
 show VC _ _ _ _ ⟨[(23, avI (smF (fun i => (c4i a).getD i 0) q)), (123, avI (q : Int))] ++ [(4, _), (18, _), (20, _), (22, _), (121, _), (122, _)], [.box g22 ⟨intsL (nI (c4i a) q), 139, 4⟩], 100000⟩
 have hb1 := smF_b hF.Cb q
 have hb2 := hF.Cb q
 have hnl := nI_len (c4i_len a) (q := q) hq
 refine VC.sr ?_
 refine VO.val rfl rfl (OpV.lss rfl rfl rfl) ?_
 refine VO.nil ?_
 refine VC.seq ?_
 refine VC.cond rfl (fun aH1b => ?_) (fun aH1b => ?_)
 ·have aH1 := aH1b
  try simp only [qq] at aH1
  refine VC.skip ?_
  refine VC.seq ?_
  refine VC.block ?_
  refine VC.sr ?_
  refine VO.mv rfl rfl rfl rfl ?_
  refine VO.val rfl rfl (OpV.indexAddr_E rfl Tryz.underlying53 Tryz.sizeOf58 rfl rfl rfl (by omega)) ?_
  refine VO.val rfl rfl (OpV.loadK_at rfl hB OutW.no Tryz.isAgg58 Tryz.sizeOf58 rfl rfl) ?_
  refine VO.op rfl (OpE.alloc rfl hB rfl Tryz.zeroValue58 rfl ?_)
  intro g25
  refine VO.ma rfl rfl rfl rfl ?_
  refine VO.op rfl (OpE.store (i := 1) rfl hB rfl Tryz.sizeOf58 rfl rfl rfl rfl rfl rfl (Nle rfl) trivial ?_)
  refine VO.nil ?_
  refine VC.sr ?_
  refine VO.mv rfl rfl rfl rfl ?_
  refine VO.val rfl rfl (OpV.fieldAddrO 1 rfl Tryz.underlying58 rfl rfl Tryz.sizeOf9 rfl) ?_
  refine VO.val rfl rfl (OpV.load_own (i := 1) rfl hB Tryz.isAgg9 rfl rfl rfl (fun h => h)) ?_
  refine VO.op rfl (OpE.call rfl hB rfl Tryz.call66 rfl (SpecN.spec (strconv_Atoi_S (n := (c4i a).getD q 0) (hF.cv q (by omega)).1 (hF.cv q (by omega)).2)) ?_)
  rintro _ rfl
  refine VO.mv rfl rfl rfl rfl ?_
  refine VO.val rfl rfl (OpV.extract rfl rfl rfl) ?_
  refine VO.val rfl rfl (OpV.extract rfl rfl rfl) ?_
  refine VO.val rfl rfl (OpV.indexAddr_arr rfl Tryz.underlying139 Tryz.sizeOf3 rfl rfl (by omega) (by omega)) ?_
  refine VO.op rfl (OpE.store1 (i := 0) rfl hB rfl Tryz.sizeOf3 rfl rfl rfl rfl rfl rfl (by have e : 0 + ((q : Nat) : Int).toNat * 1 = q := by { omega }; rw [e, intsL_len, hnl]; omega) ((congrArg (fun i => (intsL (nI (c4i a) q)).set i (avI ((c4i a).getD q 0))) (show 0 + ((q : Nat) : Int).toNat * 1 = q by omega)).trans ((intsL_set _ _ _).trans (congrArg intsL (nI_set (c4i_len a) (by omega))))) trivial ?_)
  refine VO.nil ?_
  refine VC.region ?_
  refine VO.mv rfl rfl rfl rfl ?_
  refine VO.mv rfl rfl rfl rfl ?_
  refine VO.val rfl rfl (OpV.indexAddr_arr rfl Tryz.underlying139 Tryz.sizeOf3 rfl rfl (by omega) (by omega)) ?_
  refine VO.val rfl rfl (OpV.load_own (i := 0) rfl hB Tryz.isAgg3 rfl rfl (by have h := intsL_get (xs := nI (c4i a) (q + 1)) (j := q) (by rw [nI_len (c4i_len a) (by omega)]; omega); have e : 0 + ((q : Nat) : Int).toNat * 1 = q := by { omega }; first | exact (congrArg (fun i => (intsL (nI (c4i a) (q + 1)))[i]?) e).trans h | (rw [e]; exact h) | exact h) (fun h => h)) ?_
  refine VO.le _ (Le.recast (t := 139) (y := avI ((c4i a).getD q 0)) rfl (fun w Z u h => by rw [nI_get (c4i_len a) (by omega)] at h; exact h)) ?_
  refine VO.val rfl rfl (OpV.add rfl rfl rfl (by unfold fits; omega)) ?_
  refine VO.ma rfl rfl rfl rfl ?_
  refine VO.nil ?_
  refine VC.region ?_
  refine VO.val rfl rfl (OpV.add rfl rfl rfl (by unfold fits; omega)) ?_
  refine VO.mv rfl rfl rfl rfl ?_
  refine VO.nil ?_
  exact Exists.intro (⟨q + 1, by show q + 1 ≤ 4; omega⟩) (And.intro (Le.mk hB [0] ⟨rfl, rfl, rfl, rfl, rfl, rfl, rfl, rfl, trivial⟩ rfl rfl (Nle rfl)) (by first | omega | (show _ < _; omega) | (simp only []; omega)))
 ·have aH1 := aH1b
  try simp only [qq] at aH1
  obtain rfl : q = 4 := by omega
  have hs4 := hF.Cs
  have hn4 : nI (c4i a) 4 = c4i a := rfl
  rw [hn4]
  refine VC.exit ?_
  refine VC.sr ?_
  refine VO.ma rfl rfl rfl rfl ?_
  refine VO.ma rfl rfl rfl rfl ?_
  refine VO.nil ?_
  refine VC.seq ?_
  refine VC.sr ?_
  refine VO.mv rfl rfl rfl rfl ?_
  refine VO.val rfl rfl (OpV.len_im rfl Tryz.underlying53 rfl) ?_
  refine VO.mv rfl rfl rfl rfl ?_
  refine VO.nil ?_
  refine VC.block ?_
  refine VC.loopK [(4, _), (20, _), (22, _), (23, _), (142, _), (143, _)] ⟨rfl, rfl, rfl, rfl, rfl, rfl, trivial⟩ ({r : Nat // r ≤ bm.length}) (fun (iZ : {r : Nat // r ≤ bm.length}) => match iZ with | ⟨r, hr⟩ => [(26, avI (smF B r)), (27, avI (smF W r)), (144, avI (r : Int))]) (fun (iZ : {r : Nat // r ≤ bm.length}) => match iZ with | ⟨r, hr⟩ => [.box g22 ⟨intsL (c4i a), 139, 4⟩]) (fun (iZ : {r : Nat // r ≤ bm.length}) => match iZ with | ⟨r, hr⟩ => 100000) (fun (iZ : {r : Nat // r ≤ bm.length}) => match iZ with | ⟨r, hr⟩ => bm.length - r) ⟨0, Nat.zero_le _⟩ (Le.mk hB [0] ⟨rfl, rfl, rfl, rfl, rfl, rfl, rfl, rfl, rfl, trivial⟩ rfl rfl (Nle rfl)) ?_
  rintro ⟨r, hr⟩
  show VC _ _ _ _ ⟨[(26, avI (smF B r)), (27, avI (smF W r)), (144, avI (r : Int))] ++ [(4, _), (20, _), (22, _), (23, _), (142, _), (143, _)], [.box g22 ⟨intsL (c4i a), 139, 4⟩], 100000⟩
  have hb1 := smF_b hF.Bb r
  have hb2 := hF.Bb r
  have hw1 := smF_b hF.Wb r
  have hw2 := hF.Wb r
  refine VC.sr ?_
  refine VO.val rfl rfl (OpV.lss rfl rfl rfl) ?_
  refine VO.nil ?_
  refine VC.seq ?_
  refine VC.cond rfl (fun aH2b => ?_) (fun aH2b => ?_)
  ·have aH2 := aH2b
   try simp only [qq] at aH2
   refine VC.skip ?_
   refine VC.seq ?_
   refine VC.block ?_
   refine VC.sr ?_
   refine VO.val rfl rfl (OpV.indexAddr_E rfl Tryz.underlying53 Tryz.sizeOf58 rfl rfl rfl (by omega)) ?_
   refine VO.val rfl rfl (OpV.loadK_at rfl hB OutW.no Tryz.isAgg58 Tryz.sizeOf58 rfl rfl) ?_
   refine VO.op rfl (OpE.alloc rfl hB rfl Tryz.zeroValue58 rfl ?_)
   intro g29
   refine VO.op rfl (OpE.store (i := 1) rfl hB rfl Tryz.sizeOf58 rfl rfl rfl rfl rfl rfl (Nle rfl) trivial ?_)
   refine VO.nil ?_
   refine VC.sr ?_
   refine VO.val rfl rfl (OpV.fieldAddrO 1 rfl Tryz.underlying58 rfl rfl Tryz.sizeOf9 rfl) ?_
   refine VO.val rfl rfl (OpV.load_own (i := 1) rfl hB Tryz.isAgg9 rfl rfl rfl (fun h => h)) ?_
   refine VO.op rfl (OpE.call rfl hB rfl Tryz.call67 rfl (SpecN.spec (strings_CutB (c := 47) (by have := (hF.bv r (by omega)).1; omega))) ?_)
   rintro _ rfl
   refine VO.mv rfl rfl rfl rfl ?_
   refine VO.val rfl rfl (OpV.extract rfl rfl rfl) ?_
   refine VO.val rfl rfl (OpV.extract rfl rfl rfl) ?_
   refine VO.val rfl rfl (OpV.extract rfl rfl rfl) ?_
   refine VO.ma rfl rfl rfl rfl ?_
   refine VO.ma rfl rfl rfl rfl ?_
   refine VO.ma rfl rfl rfl rfl ?_
   refine VO.nil ?_
   refine VC.sr ?_
   refine VO.mv rfl rfl rfl rfl ?_
   refine VO.op rfl (OpE.call rfl hB rfl Tryz.call66 rfl (SpecN.spec (strconv_Atoi_S (n := B r) (hF.bv r (by omega)).2.1.1 (hF.bv r (by omega)).2.1.2)) ?_)
   rintro _ rfl
   refine VO.mv rfl rfl rfl rfl ?_
   refine VO.val rfl rfl (OpV.extract rfl rfl rfl) ?_
   refine VO.val rfl rfl (OpV.extract rfl rfl rfl) ?_
   refine VO.ma rfl rfl rfl rfl ?_
   refine VO.ma rfl rfl rfl rfl ?_
   refine VO.nil ?_
   refine VC.sr ?_
   refine VO.mv rfl rfl rfl rfl ?_
   refine VO.op rfl (OpE.call rfl hB rfl Tryz.call66 rfl (SpecN.spec (strconv_Atoi_S (n := W r) (hF.bv r (by omega)).2.2.1 (hF.bv r (by omega)).2.2.2)) ?_)
   rintro _ rfl
   refine VO.mv rfl rfl rfl rfl ?_
   refine VO.val rfl rfl (OpV.extract rfl rfl rfl) ?_
   refine VO.val rfl rfl (OpV.extract rfl rfl rfl) ?_
   refine VO.ma rfl rfl rfl rfl ?_
   refine VO.ma rfl rfl rfl rfl ?_
   refine VO.nil ?_
   refine VC.region ?_
   refine VO.mv rfl rfl rfl rfl ?_
   refine VO.mv rfl rfl rfl rfl ?_
   refine VO.val rfl rfl (OpV.add rfl rfl rfl (by unfold fits; omega)) ?_
   refine VO.mv rfl rfl rfl rfl ?_
   refine VO.mv rfl rfl rfl rfl ?_
   refine VO.val rfl rfl (OpV.add rfl rfl rfl (by unfold fits; omega)) ?_
   refine VO.ma rfl rfl rfl rfl ?_
   refine VO.ma rfl rfl rfl rfl ?_
   refine VO.nil ?_
   refine VC.region ?_
   refine VO.val rfl rfl (OpV.add rfl rfl rfl (by unfold fits; omega)) ?_
   refine VO.mv rfl rfl rfl rfl ?_
   refine VO.nil ?_
   exact Exists.intro (⟨r + 1, by omega⟩) (And.intro (Le.mk hB [0] ⟨rfl, rfl, rfl, rfl, rfl, rfl, rfl, rfl, rfl, trivial⟩ rfl rfl (Nle rfl)) (by first | omega | (show _ < _; omega) | (simp only []; omega)))
  ·have aH2 := aH2b
   try simp only [qq] at aH2
   obtain rfl : r = bm.length := by omega
   have hBs := hF.Bs
   have hWs := hF.Ws
   have hEs := hF.esl
   have hd1 := cntL_le fD a
   have hd2 := cntL_le fE a
   refine VC.exit ?_
   refine VC.sr ?_
   refine VO.mv rfl rfl rfl rfl ?_
   refine VO.mv rfl rfl rfl rfl ?_
   refine VO.val rfl rfl (OpV.len_im rfl Tryz.underlying118 rfl) ?_
   refine VO.val rfl rfl (OpV.eql rfl rfl rfl) ?_
   refine VO.le _ (Le.boolT (t := 175) rfl (decide_eq_true hs4)) ?_
   refine VO.mv rfl rfl rfl rfl ?_
   refine VO.opY rfl rfl rfl rfl rfl ?_
   refine OpE.val (W := NoB) (OpV.move (.inl rfl) rfl) rfl ?_
   refine VO.opY rfl rfl rfl rfl rfl ?_
   refine OpE.val (W := NoB) (OpV.indexAddr_arr rfl Tryz.underlying139 Tryz.sizeOf3 rfl rfl (by omega) (by omega)) rfl ?_
   refine VO.opY rfl rfl rfl rfl rfl ?_
   refine OpE.val (W := NoB) (OpV.load_own (i := 0) rfl hB Tryz.isAgg3 rfl rfl rfl (fun h => h)) rfl ?_
   refine VO.opY rfl rfl rfl rfl rfl ?_
   refine OpE.val (W := NoB) (OpV.indexAddr_arr rfl Tryz.underlying139 Tryz.sizeOf3 rfl rfl (by omega) (by omega)) rfl ?_
   refine VO.opY rfl rfl rfl rfl rfl ?_
   refine OpE.val (W := NoB) (OpV.load_own (i := 0) rfl hB Tryz.isAgg3 rfl rfl rfl (fun h => h)) rfl ?_
   refine VO.opY rfl rfl rfl rfl rfl ?_
   refine OpE.val (W := NoB) (OpV.add rfl rfl rfl (by unfold fits; omega)) rfl ?_
   refine VO.opY rfl rfl rfl rfl rfl ?_
   refine OpE.val (W := NoB) (OpV.eql rfl rfl rfl) rfl ?_
   refine VO.le _ (Le.boolT (t := 183) rfl (decide_eq_true hBs)) ?_
   refine VO.val rfl rfl (OpV.pickT rfl rfl rfl rfl rfl) ?_
   refine VO.mv rfl rfl rfl rfl ?_
   refine VO.opY rfl rfl rfl rfl rfl ?_
   refine OpE.val (W := NoB) (OpV.move (.inl rfl) rfl) rfl ?_
   refine VO.opY rfl rfl rfl rfl rfl ?_
   refine OpE.val (W := NoB) (OpV.move (.inl rfl) rfl) rfl ?_
   refine VO.opY rfl rfl rfl rfl rfl ?_
   refine OpE.val (W := NoB) (OpV.len_im rfl Tryz.underlying118 rfl) rfl ?_
   refine VO.opY rfl rfl rfl rfl rfl ?_
   refine OpE.val (W := NoB) (OpV.eql rfl rfl rfl) rfl ?_
   refine VO.le _ (Le.boolT (t := 189) rfl (decide_eq_true hWs)) ?_
   refine VO.val rfl rfl (OpV.pickT rfl rfl rfl rfl rfl) ?_
   refine VO.mv rfl rfl rfl rfl ?_
   refine VO.opY rfl rfl rfl rfl rfl ?_
   refine OpE.val (W := NoB) (OpV.move (.inl rfl) rfl) rfl ?_
   refine VO.opY rfl rfl rfl rfl rfl ?_
   refine OpE.val (W := NoB) (OpV.len_im rfl Tryz.underlying53 rfl) rfl ?_
   refine VO.opY rfl rfl rfl rfl rfl ?_
   refine OpE.val (W := NoB) (OpV.indexAddr_arr rfl Tryz.underlying139 Tryz.sizeOf3 rfl rfl (by omega) (by omega)) rfl ?_
   refine VO.opY rfl rfl rfl rfl rfl ?_
   refine OpE.val (W := NoB) (OpV.load_own (i := 0) rfl hB Tryz.isAgg3 rfl rfl rfl (fun h => h)) rfl ?_
   refine VO.opY rfl rfl rfl rfl rfl ?_
   refine OpE.val (W := NoB) (OpV.eql rfl rfl rfl) rfl ?_
   refine VO.le _ (Le.boolT (t := 196) rfl (decide_eq_true (by omega))) ?_
   refine VO.val rfl rfl (OpV.pickT rfl rfl rfl rfl rfl) ?_
   refine VO.mv rfl rfl rfl rfl ?_
   refine VO.opY rfl rfl rfl rfl rfl ?_
   refine OpE.call rfl hB rfl Tryz.call22 rfl (SpecN.spec (rk_ready)) ?_
   rintro _ rfl
   refine VO.val rfl rfl (OpV.pickT rfl rfl rfl rfl rfl) ?_
   refine VO.ma rfl rfl rfl rfl ?_
   refine VO.nil ?_
   refine VC.ret ?_
   exact And.intro rfl rfl
end
end Go.Proofs.YtcploodfholkkaaGreatDoor
