/- Part 5 of a proof: the walks and laws that it needs. -/
import Derived.Test.YtmahammdnmmmoaaGreatDoorZO4
namespace Go.Proofs.YtmahammdnmmmoaaGreatDoor
open Go.RowKit
set_option linter.unusedVariables false
set_option linter.unusedSimpArgs false

theorem any_false {lo hi : Int} {xs : List Int} (h : xs.any (outB lo hi) = false) : ∀ k, k < xs.length → lo ≤ at' xs k ∧ at' xs k ≤ hi := by
 intro k hk
 rw [List.any_eq_false] at h
 have := h xs[k] (List.getElem_mem _)
 simp only [outB, Bool.or_eq_true, decide_eq_true_eq, not_or] at this
 simp only [at', List.getD, List.getElem?_eq_getElem hk, Option.getD_some]
 omega

theorem flowF_right {c b : List Int} {n : Int} (h : flowF c b n = 0) : RightLine c b ∧ 1 ≤ n ∧ n ≤ 2000 := by
 unfold flowF at h
 by_cases hc : cycF c ≠ 0
 ·rw [if_pos hc] at h; exact absurd h hc
 ·rw [if_neg hc] at h
  have hc' : cycF c = 0 := by simpa using hc
  unfold cycF at hc'
  by_cases h0 : c.length = 0
  ·rw [if_pos h0] at hc'; omega
  ·rw [if_neg h0] at hc'
   by_cases h6 : 6 < c.length
   ·rw [if_pos h6] at hc'; omega
   ·rw [if_neg h6] at hc'
    cases ha : c.any (outB 1 10000000) with
    | true => rw [ha] at hc'; simp at hc'
    | false =>
     by_cases hl : (b.length : Int) ≠ c.length - 1
     ·rw [if_pos hl] at h; omega
     ·rw [if_neg hl] at h
      cases hb : b.any (outB 0 2000) with
      | true => rw [hb] at h; simp at h
      | false =>
       cases hn : outB 1 2000 n with
       | true => rw [hn] at h; simp at h
       | false =>
        simp only [outB, Bool.or_eq_false_iff, decide_eq_false_iff_not] at hn
        refine ⟨⟨by omega, by omega, any_false ha, fun k => ?_, by omega⟩, by omega, by omega⟩
        by_cases hk : k < b.length
        ·exact (any_false hb k hk).1
        ·simp [at', List.getD, List.getElem?_eq_none (show b.length ≤ k by omega)]

theorem IsSl.rows {α : Type} [Enc α] {w : World} {A : Nat → Prop} {a : Option Addr} {n cap : Nat} {xs : List (List α)} (h : IsSl w A (.slice a n cap) xs) (hp : 0 < xs.length) :
  ∃ b off, a = some ⟨b, off, none⟩ ∧ A b ∧ ∀ i, (hi : i < xs.length) → ∃ v, w.cell? ⟨b, off + i, none⟩ = some v ∧ IsSl w A v xs[i] := by
 obtain ⟨b, off, ha, hb, hc⟩ := h.cells.2 hp
 refine ⟨b, off, ha, hb, fun i hi => ?_⟩
 have := hc i hi
 simpa [Enc.Is, Enc.sz] using this
theorem IsSl.passes {w : World} {A : Nat → Prop} {a : Option Addr} {n cap : Nat} {xs : List Pass} (h : IsSl w A (.slice a n cap) xs) (hp : 0 < xs.length) :
  ∃ b off, a = some ⟨b, off, none⟩ ∧ A b ∧ ∀ i, (hi : i < xs.length) → w.cell? ⟨b, off + i * 2, none⟩ = some (.int .i64 xs[i].taken) ∧ w.cell? ⟨b, off + i * 2 + 1, none⟩ = some (.int .i64 xs[i].left) := by
 obtain ⟨b, off, ha, hb, hc⟩ := h.cells.2 hp
 refine ⟨b, off, ha, hb, fun i hi => ?_⟩
 have := hc i hi
 simpa [Enc.Is, Enc.sz] using this

def leaves (c bf : List Int) (n : Nat) : List Int := (List.range n).map fun q => (pas c bf q (c.length - 1)).left
def leavesF (c bf : List Int) (n : Int) : List Int := if flowF c bf n = 0 then leaves c bf n.toNat else []

set_option maxHeartbeats 1000000 in
theorem leave_any (v1 v2 : Value) (c bf : List Int) (n : Int) (A1 A2 : Nat → Prop) (w : World) (h1 : IsSl w A1 v1 c) (h2 : IsSl w A2 v2 bf) :
  Calls Tryz.prog 184 #[v1, v2, .int .i64 n] w fun e w' => ∃ v, e = .returned (.tuple #[v, .int .i64 (flowF c bf n)]) ∧ IsSl w' (fun k => w.heap.size ≤ k) v (leavesF c bf n) ∧ Chg NoB w w' := by
 have HF := hid (flowFault_any v1 v2 c bf n A1 A2 w h1 h2)
 by_cases hf : flowF c bf n = 0
 ·obtain ⟨hr, hn1, hn2⟩ := flowF_right hf
  obtain ⟨m, rfl⟩ : ∃ m : Nat, n = m := ⟨n.toNat, by omega⟩
  have HL : Hid (leavesF c bf m = leaves c bf m) := by unfold Hid; rw [leavesF, if_pos hf]; simp
  have HFL : Hid (∀ w1, Chg NoB w w1 → _) := hid fun w1 (hc : Chg NoB w w1) => flow_any v1 v2 c bf m A1 A2 w1 (h1.keepN hc) (h2.keepN hc) hr (by omega)
  have hpos := hr.pos
  have hlen := hr.len
  rw [hf] at HF ⊢
  have HR := hid hr; clear hr hf
  go_enter Tryz.func184, Tryz.ntmps184
  go_wp2_with fail
  refine HF.out.mono ?_
  rintro e w1 ⟨rfl, hc1⟩
  go_wp2_with fail
  refine (HFL.out w1 hc1).mono ?_
  rintro e w2 ⟨v, rfl, hv, hc2⟩
  obtain ⟨a, cap, rfl, g1, g2⟩ := hv.shape
  obtain ⟨b, off, rfl, hb, hrows⟩ := hv.rows (by simp; omega)
  obtain ⟨vr, hcell, hrow⟩ := hrows (c.length - 1) (by simp; omega)
  obtain ⟨ar, capr, rfl, g3, g4⟩ := hrow.shape
  simp only [List.getElem_map, List.getElem_range, List.length_map, List.length_range] at hcell hrow g1 g3 ⊢
  have hc12 := hc1.trans hc2
  have hsz2 := hc12.size
  go_wp2_with fail
  go_loopw [10, 12, 31] (fun v _ i wr => ∃ (j : Nat), j ≤ m ∧ i = .int .i64 j ∧ Own wr w2.heap.size 3 v ((List.range j).map fun q => (pas c bf q (c.length - 1)).left) ∧ Chg (NewB w2.heap.size) w2 wr)
   (fun _ _ i _ => m - (intOf i).toNat)
  case atStart => exact ⟨0, by omega, rfl, Own.nil _ _ _, Chg.refl _ _⟩
  case round =>
   obtain ⟨j, hj, rfl, hown, hch⟩ := hrel
   have hszr := hch.size
   by_cases hjm : j < m
   ·obtain ⟨br, offr, rfl, _, hps⟩ := hrow.passes (by simp; omega)
    obtain ⟨p0, p1⟩ := hps j (by simp; omega)
    simp only [List.getElem_map, List.getElem_range] at p0 p1
    have p0' := hch.cellNew (Nat.le_refl _) p0
    have p1' := hch.cellNew (Nat.le_refl _) p1
    clear hps p0 p1
    obtain ⟨X, hX⟩ : ∃ X, X = (pas c bf j (c.length - 1)).left := ⟨_, rfl⟩
    obtain ⟨Y, hY⟩ : ∃ Y, Y = (pas c bf j (c.length - 1)).taken := ⟨_, rfl⟩
    rw [← hX] at p1'
    rw [← hY] at p0'
    have HX := hid hX; clear hX hY
    obtain ⟨av, capv, hv', _, _⟩ := hown.shape
    simp only [List.length_map, List.length_range] at hv'
    subst hv'
    have hal := hown.keep (S := NoB) ((Chg.refl NoB wr).alloc (.cells #[.int .i64 Y, .int .i64 X] 282)) (fun _ _ _ x => x)
    go_wp2_with (at_builtin; refine wpl_append_intB (wr.alloc (.cells #[.int .i64 Y, .int .i64 X] 282)) rfl _ _ 22 3 rfl Tryz.underlying22 infoInt w2.heap.size _ _ _ hal (by simp; omega) (by simp; omega) _ (by simp) j (by simp) rfl rfl ?_; intro g cap' w3 hown3 hc3 hg3 hlg)
    have hc23 : Chg (NewB w2.heap.size) w2 w3 := (hch.trans ((Chg.refl _ wr).alloc _)).trans (hc3.mono fun q hq x => (hal.lt q x).1)
    go_roundw
    case rel => exact ⟨j + 1, by omega, by go_num, by rw [List.range_succ, List.map_append]; simpa [HX.out] using hown3, hc23⟩
    case measure => simp [intOf]; omega
   ·obtain rfl : j = m := by omega
    go_wp2_with fail
    go_ret2
    exact ⟨_, rfl, by rw [HL.out]; exact hown.isSl.low fun q hq _ => by omega, hc12.trans (hch.mono fun q h1 h2 => by unfold NewB at h2; omega)⟩
 ·have hb : (flowF c bf n != 0) = true := by simp [hf]
  have HL : Hid (leavesF c bf n = []) := by unfold Hid; rw [leavesF, if_neg hf]
  clear hf
  go_enter Tryz.func184, Tryz.ntmps184
  go_wp2_with fail
  refine HF.out.mono ?_
  rintro e w1 ⟨rfl, hc1⟩
  go_wp2_with fail
  go_ret2
  exact ⟨_, rfl, by rw [HL.out]; exact IsSl.nil _ _, hc1⟩
end Go.Proofs.YtmahammdnmmmoaaGreatDoor
namespace Go.Proofs.YtmahammdnmmmoaaGreatDoor
open Go.RowKit
set_option linter.unusedVariables false
set_option linter.unusedSimpArgs false

theorem lined_flow : flowF [10, 30] [0] 2 = 0 := by decide +kernel
theorem lined_leaves : leavesF [10, 30] [0] 2 = [40, 70] := by
 rw [leavesF, if_pos lined_flow]
 have a00 : (pas [10, 30] [0] 0 0).taken = 0 := by rw [pas_taken]; simp [here]
 have b00 : (pas [10, 30] [0] 0 0).left = 10 := by rw [pas_left, a00]; simp [at']
 have a01 : (pas [10, 30] [0] 0 1).taken = 10 := by rw [pas_taken]; simp [here, b00]
 have b01 : (pas [10, 30] [0] 0 1).left = 40 := by rw [pas_left, a01]; simp [at']
 have a10 : (pas [10, 30] [0] 1 0).taken = 10 := by rw [pas_taken]; simp [here, b00]; decide
 have b10 : (pas [10, 30] [0] 1 0).left = 40 := by rw [pas_left, a10]; simp [at', b01]; decide
 have a11 : (pas [10, 30] [0] 1 1).taken = 40 := by rw [pas_taken]; simp [here, b10, b01]
 have b11 : (pas [10, 30] [0] 1 1).left = 70 := by rw [pas_left, a11]; simp [at']
 simp [leaves, List.range_succ, b01, b11]

end Go.Proofs.YtmahammdnmmmoaaGreatDoor
namespace Go.Proofs.YtmahammdnmmmoaaGreatDoor
open Go.RowKit
set_option linter.unusedVariables false
set_option linter.unusedSimpArgs false

theorem isSl_of_rep {w : World} {Z : Nat → Prop} {xs : List Int} {v : Value} (h : Rep w Z (avInts xs) v) : IsSl w Z v xs := by
 change Rep w Z (.im xs.length 1 fun j => avI (xs.getD j 0)) v at h
 generalize hn : xs.length = n at h
 cases h with
 | nil => exact .inl ⟨rfl, List.eq_nil_of_length_eq_zero hn⟩
 | im n sz f b off cap c e u hZ h1 h2 hb hc hr =>
  refine .inr ⟨b, off, cap, c, e, by rw [hn], hZ, by omega, h2, hb, fun i hi => ?_⟩
  show c[off + i * 1 + 0]? = some (.int .i64 xs[i])
  have k1 := hc i (by omega)
  have k2 := (hr i (by omega)).eq_v
  rw [k2] at k1
  simpa [hi] using k1
theorem rep_of_isSl {w : World} {A : Nat → Prop} {v : Value} {xs : List Int} (h : IsSl w A v xs) : Rep w A (avInts xs) v := by
 rcases h with ⟨rfl, rfl⟩ | ⟨b, off, cap, c, e, rfl, hb, hl, hm, hh, hi⟩
 ·exact .nil _ _
 ·refine .im _ 1 _ b off cap c e (fun j => .int .i64 (xs.getD j 0)) hb hl hm hh (fun j hj => ?_) fun j hj => .v _
  have : c[off + j * 1 + 0]? = some (.int .i64 (xs[j]'(by omega))) := hi j (by omega)
  have hj' : j < xs.length := by omega
  simpa [hj'] using this
theorem argsLLv {x y : AV} {u : Value} {w : World} {A : Nat → Prop} {us : Array Value} (h : Args w A [x, y, .v u] us) : ∃ v1 v2, us = #[v1, v2, u] ∧ Rep w (fun b => b < w.heap.size ∧ A b) x v1 ∧ Rep w (fun b => b < w.heap.size ∧ A b) y v2 := by
 obtain ⟨h1, h2⟩ := h
 have e2 := (h2 2 (by simp)).eq_v
 refine ⟨us.getD 0 undef, us.getD 1 undef, ?_, h2 0 (by simp), h2 1 (by simp)⟩
 apply Array.ext (by simpa using h1)
 intro i hi hi'
 simp at hi'
 rw [h1] at hi
 match i, hi' with
 | 0, _ => simp [Array.getD_eq_getD_getElem?, h1]
 | 1, _ => simp [Array.getD_eq_getD_getElem?, h1]
 | 2, _ => simpa [Array.getD_eq_getD_getElem?, h1] using e2
theorem line_Leave_S {c b : List Int} {n : Int} : SpecN Tryz.prog 184 [avInts c, avInts b, avI n] (fun y => y = .tup [avInts (leavesF c b n), avI (flowF c b n)]) := by
 intro w us ha
 obtain ⟨v1, v2, rfl, q1, q2⟩ := argsLLv ha
 refine (leave_any v1 v2 c b n _ _ w (isSl_of_rep q1) (isSl_of_rep q2)).mono ?_
 rintro e w' ⟨v, rfl, hv, hc⟩
 refine ⟨_, _, rfl, rfl, .tup _ _ rfl fun j hj => ?_, hc, trivial⟩
 match j, hj with
 | 0, _ => exact (rep_of_isSl hv).keep fun b hb hl => ⟨rfl, hl, fun h => absurd h (Nat.not_lt.2 hb)⟩
 | 1, _ => exact .v _
end Go.Proofs.YtmahammdnmmmoaaGreatDoor
namespace Go.Proofs.YtmahammdnmmmoaaGreatDoor
open Go.RowKit
set_option linter.unusedVariables false
set_option linter.unusedSimpArgs false
set_option maxRecDepth 100000 in
theorem rk_errs {xs : List Int} (hl : xs.length ≤ 1000000000) :
  SpecN Tryz.prog 71 [avInts xs] (fun y => y = avI (errsF xs)) := by
 refine SpecN.of_VCN Tryz.func71 rfl Tryz.ntmps71 (Nle rfl) fun w A hB => ?_
 have hnew : True := trivial
 refine VC.sr ?_
 refine VO.ma rfl rfl rfl rfl ?_
 refine VO.nil ?_
 refine VC.seq ?_
 refine VC.sr ?_
 refine VO.mv rfl rfl rfl rfl ?_
 refine VO.val rfl rfl (OpV.len_im rfl Tryz.underlying155 rfl) ?_
 refine VO.mv rfl rfl rfl rfl ?_
 refine VO.nil ?_
 refine VC.block ?_
 refine VC.loopK [(5, _), (6, _)] ⟨rfl, rfl, trivial⟩ ({q : Nat // q ≤ xs.length ∧ ∀ j, j < q → xs.getD j 0 = 0}) (fun (iZ : {q : Nat // q ≤ xs.length ∧ ∀ j, j < q → xs.getD j 0 = 0}) => match iZ with | ⟨q, hq, hn⟩ => [(7, avI (q : Int))]) (fun (iZ : {q : Nat // q ≤ xs.length ∧ ∀ j, j < q → xs.getD j 0 = 0}) => match iZ with | ⟨q, hq, hn⟩ => []) (fun (iZ : {q : Nat // q ≤ xs.length ∧ ∀ j, j < q → xs.getD j 0 = 0}) => match iZ with | ⟨q, hq, hn⟩ => 0) (fun (iZ : {q : Nat // q ≤ xs.length ∧ ∀ j, j < q → xs.getD j 0 = 0}) => match iZ with | ⟨q, hq, hn⟩ => xs.length - q) ⟨0, Nat.zero_le _, fun j hj => absurd hj (Nat.not_lt_zero j)⟩ (Le.mk hB [] ⟨rfl, rfl, rfl, trivial⟩ rfl rfl (Nat.le_refl _)) ?_
 rintro ⟨q, hq, hn⟩
 show VC _ _ _ _ ⟨[(7, avI (q : Int))] ++ [(5, _), (6, _)], [], 0⟩
 refine VC.sr ?_
 refine VO.val rfl rfl (OpV.lss rfl rfl rfl) ?_
 refine VO.nil ?_
 refine VC.seq ?_
 refine VC.cond rfl (fun aH1b => ?_) (fun aH1b => ?_)
 ·have aH1 := aH1b
  try simp only [qqT, qqF, qqN, qqM, qqL, qqE] at aH1
  refine VC.skip ?_
  refine VC.seq ?_
  refine VC.block ?_
  refine VC.sr ?_
  refine VO.val rfl rfl (OpV.indexAddr_1 rfl Tryz.underlying155 Tryz.sizeOf38 rfl rfl rfl (by omega)) ?_
  refine VO.val rfl rfl (OpV.load_at rfl hB OutW.no Tryz.isAgg38 rfl rfl) ?_
  refine VO.ma rfl rfl rfl rfl ?_
  refine VO.nil ?_
  refine VC.sr ?_
  refine VO.mv rfl rfl rfl rfl ?_
  refine VO.val rfl rfl (OpV.neq rfl rfl rfl) ?_
  refine VO.nil ?_
  refine VC.cond rfl (fun h1b => ?_) (fun h1b => ?_)
  ·have h1 := h1b
   try simp only [qqT, qqF, qqN, qqM, qqL, qqE] at h1
   refine VC.sr ?_
   refine VO.mv rfl rfl rfl rfl ?_
   refine VO.ma rfl rfl rfl rfl ?_
   refine VO.nil ?_
   refine VC.ret ?_
   exact Exists.intro _ (And.intro (RetN.one Tryz.results71 (ResN.v rfl)) (by rw [errsF_at (q := q) (by omega) hn h1]))
  ·have h1 := h1b
   try simp only [qqT, qqF, qqN, qqM, qqL, qqE] at h1
   refine VC.skip ?_
   refine VC.region ?_
   refine VO.val rfl rfl (OpV.add rfl rfl rfl (by unfold fits; omega)) ?_
   refine VO.mv rfl rfl rfl rfl ?_
   refine VO.nil ?_
   exact Exists.intro (⟨q + 1, by omega, lt_succ_cases hn ((by omega))⟩) (And.intro (Le.mk hB [] ⟨rfl, rfl, rfl, trivial⟩ rfl rfl (Nat.le_refl _)) (by first | omega | (show _ < _; omega) | (simp only []; omega)))
 ·have aH1 := aH1b
  try simp only [qqT, qqF, qqN, qqM, qqL, qqE] at aH1
  refine VC.exit ?_
  refine VC.sr ?_
  refine VO.ma rfl rfl rfl rfl ?_
  refine VO.nil ?_
  refine VC.ret ?_
  exact Exists.intro _ (And.intro (RetN.one Tryz.results71 (ResN.v rfl)) (by rw [errsF_none (fun j hj => hn j (by omega))]))
def rdL : List LookS := [⟨⟨#[98]⟩, ⟨#[99]⟩, 0, 1, true, ⟨#[109]⟩, ⟨#[110]⟩, ⟨#[114]⟩⟩]
theorem one_sz {α : Type} [Inhabited α] {f : α → ByteArray} {x : α} (h : (f x).size ≤ 1000000) (h0 : (f default).size ≤ 1000000) (i : Nat) : (f ([x].getD i default)).size ≤ 1000000 := by
 match i with
 | 0 => exact h
 | i + 1 => exact h0
theorem rdL_sm : SmLk rdL := ⟨by decide, one_sz (f := LookS.board) (by decide) (by decide), one_sz (f := LookS.name) (by decide) (by decide), one_sz (f := LookS.machine) (by decide) (by decide), one_sz (f := LookS.nozzle) (by decide) (by decide), one_sz (f := LookS.reel) (by decide) (by decide)⟩
theorem rdL_ok : millE rdL = 0 := by decide +kernel
theorem rdL_n : (millN rdL).1 = 1000000 := by decide +kernel
def rdP : List PaceS := [⟨⟨#[112]⟩, 10, []⟩]
def rdO : List OrdrS := [⟨⟨#[111]⟩, ⟨#[112]⟩, 3, 0, 5⟩]
theorem rdP_sm : SmPc rdP := ⟨by decide, one_sz (f := PaceS.product) (by decide) (by decide), fun i => by
 match i with
 | 0 => decide
 | i + 1 => show ([] : List NeedS).length ≤ _; decide, fun i j => by
 match i with
 | 0 => show (([] : List NeedS).getD j default).key.size ≤ _; simp; decide
 | i + 1 => show (([] : List NeedS).getD j default).key.size ≤ _; simp; decide⟩
theorem rdO_sm : SmOr rdO := ⟨by decide, one_sz (f := OrdrS.key) (by decide) (by decide), one_sz (f := OrdrS.product) (by decide) (by decide)⟩
theorem rd_sch : scheF rdP rdO [0] 1 0 = 0 := by decide +kernel
theorem rd_from : fromP rdP rdO [0] 1 0 0 = 1 := by decide +kernel
theorem rd_end : endP rdP rdO [0] 1 0 0 = 31 := by decide +kernel
theorem rd_times : timesR rdP rdO [0] 1 0 = [⟨1, 31⟩] := by
 rw [timesR, if_pos rd_sch]
 show [winP rdP rdO [0] 1 0 0] = _
 rw [winP, rd_from, rd_end]
theorem pace_nil {w : World} {Z : Nat → Prop} {u : Value} {a : ByteArray} {b : Int} (h : Rep w Z (.agg [avS a, avI b, .v (.slice none 0 0)]) u) : Rep w Z (avPc ⟨a, b, []⟩) u := by
 cases h with
 | agg cs us hl hr =>
  refine .agg _ us hl fun j hj => ?_
  match j, hj with
  | 0, _ => exact hr 0 (by simp)
  | 1, _ => exact hr 1 (by simp)
  | 2, _ =>
   have := hr 2 (by simp)
   show Rep w Z (.im 0 2 _) _
   rw [this.eq_v]; exact .nil _ _
set_option maxRecDepth 100000 in
set_option maxHeartbeats 4000000 in
theorem rk_ready   :
  SpecN Tryz.prog 72 [] (fun y => y = avB true) := by
 refine SpecN.of_VCN Tryz.func72 rfl Tryz.ntmps72 (Nle rfl) fun w A hB => ?_
 have hnew : True := trivial
 refine VC.sr ?_
 refine VO.ma rfl rfl rfl rfl ?_
 refine VO.nil ?_
 refine VC.sr ?_
 refine VO.val rfl rfl (OpV.build (pls := #[(0, 1), (1, 1), (2, 1), (3, 1), (4, 1)]) rfl Tryz.zeroValue211 Tryz.underlying211 (fun w => by kernel_rfl) rfl rfl) ?_
 refine VO.op rfl (OpE.buildSlice (zc := #[.string ⟨#[]⟩, .string ⟨#[]⟩, .int .i64 0, .int .i64 0, .int .i64 0]) rfl hB rfl Tryz.underlying212 Tryz.sizeOf211 Tryz.zeroValue211 (by decide) (by decide) (by kernel_rfl) rfl rfl ?_)
 refine VO.le _ (Le.recast (t := 13) (y := avL panL) rfl (fun w Z u h => Rep.rowL (xs := panL) rfl h)) ?_
 refine VO.val rfl rfl (OpV.build (pls := #[(0, 1), (1, 1), (2, 1), (3, 1)]) rfl Tryz.zeroValue214 Tryz.underlying214 (fun w => by kernel_rfl) rfl rfl) ?_
 refine VO.op rfl (OpE.call rfl hB rfl Tryz.call182 rfl (SpecN.spec (panel_Needs (p := panP) panP_sm)) ?_)
 rintro _ rfl
 refine VO.le _ (Le.recast (t := 15) (y := .tup [avL ([⟨⟨#[99, 97, 112]⟩, 1⟩] : List NeedS), avI 0]) rfl (fun w Z u h => by rw [← panP_needs, ← panP_ok]; exact h)) ?_
 refine VO.mv rfl rfl rfl rfl ?_
 refine VO.val rfl rfl (OpV.extract rfl rfl rfl) ?_
 refine VO.val rfl rfl (OpV.extract rfl rfl rfl) ?_
 refine VO.ma rfl rfl rfl rfl ?_
 refine VO.ma rfl rfl rfl rfl ?_
 refine VO.nil ?_
 refine VC.sr ?_
 refine VO.op rfl (OpE.buildSlice (zc := #[.string ⟨#[]⟩]) rfl hB rfl Tryz.underlying95 Tryz.sizeOf9 Tryz.zeroValue9 (by decide) (by decide) (by kernel_rfl) rfl rfl ?_)
 refine VO.le _ (Le.recast (t := 19) (y := avStrs loadS) rfl (fun w Z u h => Rep.strs (xs := loadS) rfl h)) ?_
 refine VO.op rfl (OpE.buildSlice (zc := #[.string ⟨#[]⟩]) rfl hB rfl Tryz.underlying95 Tryz.sizeOf9 Tryz.zeroValue9 (by decide) (by decide) (by kernel_rfl) rfl rfl ?_)
 refine VO.le _ (Le.recast (t := 20) (y := avStrs [⟨#[97]⟩]) rfl (fun w Z u h => Rep.strs (xs := [⟨#[97]⟩]) rfl h)) ?_
 refine VO.op rfl (OpE.buildSlice (zc := #[.string ⟨#[]⟩]) rfl hB rfl Tryz.underlying95 Tryz.sizeOf9 Tryz.zeroValue9 (by decide) (by decide) (by kernel_rfl) rfl rfl ?_)
 refine VO.le _ (Le.recast (t := 21) (y := avStrs [⟨#[98]⟩]) rfl (fun w Z u h => Rep.strs (xs := [⟨#[98]⟩]) rfl h)) ?_
 refine VO.op rfl (OpE.buildSlice (zc := #[.slice none 0 0, .slice none 0 0]) rfl hB rfl Tryz.underlying97 Tryz.sizeOf95 Tryz.zeroValue95 (by decide) (by decide) (by kernel_rfl) rfl rfl ?_)
 refine VO.le _ (Le.recast (t := 22) (y := avM loadP) rfl (fun w Z u h => Rep.listM (xs := loadP) rfl h)) ?_
 refine VO.op rfl (OpE.call rfl hB rfl Tryz.call183 rfl (SpecN.spec (setup_Total load_sms load_smss)) ?_)
 rintro _ rfl
 refine VO.le _ (Le.recast (t := 23) (y := .tup [avI 2, avI 0]) rfl (fun w Z u h => by rw [load_two, load_ok] at h; exact h)) ?_
 refine VO.mv rfl rfl rfl rfl ?_
 refine VO.val rfl rfl (OpV.extract rfl rfl rfl) ?_
 refine VO.val rfl rfl (OpV.extract rfl rfl rfl) ?_
 refine VO.ma rfl rfl rfl rfl ?_
 refine VO.ma rfl rfl rfl rfl ?_
 refine VO.nil ?_
 refine VC.sr ?_
 refine VO.op rfl (OpE.buildSlice (zc := #[.int .i64 0, .int .i64 0]) rfl hB rfl Tryz.underlying22 Tryz.sizeOf3 Tryz.zeroValue3 (by decide) (by decide) (by kernel_rfl) rfl rfl ?_)
 refine VO.le _ (Le.lits (t := 27) (xs := [10, 30]) rfl rfl) ?_
 refine VO.op rfl (OpE.buildSlice (zc := #[.int .i64 0]) rfl hB rfl Tryz.underlying22 Tryz.sizeOf3 Tryz.zeroValue3 (by decide) (by decide) (by kernel_rfl) rfl rfl ?_)
 refine VO.le _ (Le.lits (t := 28) (xs := [0]) rfl rfl) ?_
 refine VO.op rfl (OpE.call rfl hB rfl Tryz.call184 rfl (SpecN.spec (line_Leave_S)) ?_)
 rintro _ rfl
 refine VO.le _ (Le.recast (t := 29) (y := .tup [avInts [40, 70], avI 0]) rfl (fun w Z u h => by rw [lined_leaves, lined_flow] at h; exact h)) ?_
 refine VO.mv rfl rfl rfl rfl ?_
 refine VO.val rfl rfl (OpV.extract rfl rfl rfl) ?_
 refine VO.val rfl rfl (OpV.extract rfl rfl rfl) ?_
 refine VO.ma rfl rfl rfl rfl ?_
 refine VO.ma rfl rfl rfl rfl ?_
 refine VO.nil ?_
 refine VC.sr ?_
 refine VO.val rfl rfl (OpV.build (pls := #[(0, 1), (1, 1), (2, 1), (3, 1), (4, 1), (5, 1), (6, 1), (7, 1)]) rfl Tryz.zeroValue66 Tryz.underlying66 (fun w => by kernel_rfl) rfl rfl) ?_
 refine VO.op rfl (OpE.buildSlice (zc := #[.string ⟨#[]⟩, .string ⟨#[]⟩, .int .i64 0, .int .i64 0, .bool false, .string ⟨#[]⟩, .string ⟨#[]⟩, .string ⟨#[]⟩]) rfl hB rfl Tryz.underlying61 Tryz.sizeOf66 Tryz.zeroValue66 (by decide) (by decide) (by kernel_rfl) rfl rfl ?_)
 refine VO.le _ (Le.recast (t := 34) (y := avL rdL) rfl (fun w Z u h => Rep.rowL (xs := rdL) rfl h)) ?_
 refine VO.op rfl (OpE.call rfl hB rfl Tryz.call45 rfl (SpecN.spec (inspect_Million rdL_sm)) ?_)
 rintro _ rfl
 refine VO.le _ (Le.recast (t := 35) (y := .tup [.agg [avI 1000000, avI ((millN rdL).2 : Int)], avI 0]) rfl (fun w Z u h => by rw [rdL_n, rdL_ok] at h; exact h)) ?_
 refine VO.mv rfl rfl rfl rfl ?_
 refine VO.val rfl rfl (OpV.extract rfl rfl rfl) ?_
 refine VO.val rfl rfl (OpV.extract rfl rfl rfl) ?_
 refine VO.op rfl (OpE.alloc rfl hB rfl Tryz.zeroValue74 rfl ?_)
 intro g7
 refine VO.op rfl (OpE.store (i := 0) rfl hB rfl Tryz.sizeOf74 rfl rfl rfl rfl rfl rfl (Nle rfl) trivial ?_)
 refine VO.ma rfl rfl rfl rfl ?_
 refine VO.nil ?_
 refine VC.sr ?_
 refine VO.val rfl rfl (OpV.build (pls := #[(0, 1), (1, 1), (2, 1)]) rfl Tryz.zeroValue142 Tryz.underlying142 (fun w => by kernel_rfl) rfl rfl) ?_
 refine VO.le _ (Le.recast (t := 39) (y := avPc ⟨⟨#[112]⟩, 10, []⟩) rfl (fun w Z u h => pace_nil h)) ?_
 refine VO.op rfl (OpE.buildSlice (zc := #[.string ⟨#[]⟩, .int .i64 0, .slice none 0 0]) rfl hB rfl Tryz.underlying26 Tryz.sizeOf142 Tryz.zeroValue142 (by decide) (by decide) (by kernel_rfl) rfl rfl ?_)
 refine VO.le _ (Le.recast (t := 40) (y := avL rdP) rfl (fun w Z u h => Rep.rowL (xs := rdP) rfl h)) ?_
 refine VO.val rfl rfl (OpV.build (pls := #[(0, 1), (1, 1), (2, 1), (3, 1), (4, 1)]) rfl Tryz.zeroValue35 Tryz.underlying35 (fun w => by kernel_rfl) rfl rfl) ?_
 refine VO.op rfl (OpE.buildSlice (zc := #[.string ⟨#[]⟩, .string ⟨#[]⟩, .int .i64 0, .int .i64 0, .int .i64 0]) rfl hB rfl Tryz.underlying28 Tryz.sizeOf35 Tryz.zeroValue35 (by decide) (by decide) (by kernel_rfl) rfl rfl ?_)
 refine VO.le _ (Le.recast (t := 42) (y := avL rdO) rfl (fun w Z u h => Rep.rowL (xs := rdO) rfl h)) ?_
 refine VO.op rfl (OpE.buildSlice (zc := #[.int .i64 0]) rfl hB rfl Tryz.underlying22 Tryz.sizeOf3 Tryz.zeroValue3 (by decide) (by decide) (by kernel_rfl) rfl rfl ?_)
 refine VO.le _ (Le.lits (t := 43) (xs := [0]) rfl rfl) ?_
 refine VO.op rfl (OpE.call rfl hB rfl Tryz.call129 rfl (SpecN.spec (plan_Times rdP_sm rdO_sm (by decide))) ?_)
 rintro _ rfl
 refine VO.le _ (Le.recast (t := 44) (y := .tup [avL ([⟨1, 31⟩] : List WinS), avI 0]) rfl (fun w Z u h => by rw [rd_times, rd_sch] at h; exact h)) ?_
 refine VO.mv rfl rfl rfl rfl ?_
 refine VO.val rfl rfl (OpV.extract rfl rfl rfl) ?_
 refine VO.val rfl rfl (OpV.extract rfl rfl rfl) ?_
 refine VO.ma rfl rfl rfl rfl ?_
 refine VO.ma rfl rfl rfl rfl ?_
 refine VO.nil ?_
 refine VC.sr ?_
 refine VO.mv rfl rfl rfl rfl ?_
 refine VO.mv rfl rfl rfl rfl ?_
 refine VO.mv rfl rfl rfl rfl ?_
 refine VO.mv rfl rfl rfl rfl ?_
 refine VO.mv rfl rfl rfl rfl ?_
 refine VO.op rfl (OpE.buildSlice (zc := #[.int .i64 0, .int .i64 0, .int .i64 0, .int .i64 0, .int .i64 0]) rfl hB rfl Tryz.underlying155 Tryz.sizeOf38 Tryz.zeroValue38 (by decide) (by decide) (by kernel_rfl) rfl rfl ?_)
 refine VO.le _ (Le.lits (t := 52) (xs := [0, 0, 0, 0, 0]) rfl rfl) ?_
 refine VO.op rfl (OpE.call rfl hB rfl Tryz.call71 rfl (SpecN.spec (rk_errs (by decide))) ?_)
 rintro _ rfl
 refine VO.val rfl rfl (OpV.eql rfl rfl rfl) ?_
 refine VO.le _ (Le.boolT (t := 54) rfl (decide_eq_true rfl)) ?_
 refine VO.mv rfl rfl rfl rfl ?_
 refine VO.opY rfl rfl rfl rfl rfl ?_
 refine OpE.val (W := NoB) (OpV.move (.inl rfl) rfl) rfl ?_
 refine VO.opY rfl rfl rfl rfl rfl ?_
 refine OpE.val (W := NoB) (OpV.len_im rfl Tryz.underlying109 rfl) rfl ?_
 refine VO.opY rfl rfl rfl rfl rfl ?_
 refine OpE.val (W := NoB) (OpV.eql rfl rfl rfl) rfl ?_
 refine VO.le _ (Le.boolT (t := 58) rfl (decide_eq_true rfl)) ?_
 refine VO.val rfl rfl (OpV.pickT rfl rfl rfl rfl rfl) ?_
 refine VO.mv rfl rfl rfl rfl ?_
 refine VO.opY rfl rfl rfl rfl rfl ?_
 refine OpE.val (W := NoB) (OpV.move (.inl rfl) rfl) rfl ?_
 refine VO.opY rfl rfl rfl rfl rfl ?_
 refine OpE.val (W := NoB) (OpV.eql rfl rfl rfl) rfl ?_
 refine VO.le _ (Le.boolT (t := 62) rfl (decide_eq_true rfl)) ?_
 refine VO.val rfl rfl (OpV.pickT rfl rfl rfl rfl rfl) ?_
 refine VO.mv rfl rfl rfl rfl ?_
 refine VO.opY rfl rfl rfl rfl rfl ?_
 refine OpE.val (W := NoB) (OpV.move (.inl rfl) rfl) rfl ?_
 refine VO.opY rfl rfl rfl rfl rfl ?_
 refine OpE.val (W := NoB) (OpV.len_im rfl Tryz.underlying22 rfl) rfl ?_
 refine VO.opY rfl rfl rfl rfl rfl ?_
 refine OpE.val (W := NoB) (OpV.eql rfl rfl rfl) rfl ?_
 refine VO.le _ (Le.boolT (t := 67) rfl (decide_eq_true rfl)) ?_
 refine VO.val rfl rfl (OpV.pickT rfl rfl rfl rfl rfl) ?_
 refine VO.mv rfl rfl rfl rfl ?_
 refine VO.opY rfl rfl rfl rfl rfl ?_
 refine OpE.val (W := NoB) (OpV.fieldAddrO 0 rfl Tryz.underlying74 rfl rfl Tryz.sizeOf3 rfl) rfl ?_
 refine VO.opY rfl rfl rfl rfl rfl ?_
 refine OpE.val (W := NoB) (OpV.load_own (i := 0) rfl hB Tryz.isAgg3 rfl rfl rfl (fun h => h)) rfl ?_
 refine VO.opY rfl rfl rfl rfl rfl ?_
 refine OpE.val (W := NoB) (OpV.eql rfl rfl rfl) rfl ?_
 refine VO.le _ (Le.boolT (t := 72) rfl (decide_eq_true rfl)) ?_
 refine VO.val rfl rfl (OpV.pickT rfl rfl rfl rfl rfl) ?_
 refine VO.mv rfl rfl rfl rfl ?_
 refine VO.opY rfl rfl rfl rfl rfl ?_
 refine OpE.val (W := NoB) (OpV.move (.inl rfl) rfl) rfl ?_
 refine VO.opY rfl rfl rfl rfl rfl ?_
 refine OpE.val (W := NoB) (OpV.len_im rfl Tryz.underlying161 rfl) rfl ?_
 refine VO.opY rfl rfl rfl rfl rfl ?_
 refine OpE.val (W := NoB) (OpV.eql rfl rfl rfl) rfl ?_
 refine VO.le _ (Le.boolT (t := 77) rfl (decide_eq_true rfl)) ?_
 refine VO.val rfl rfl (OpV.pickT rfl rfl rfl rfl rfl) ?_
 refine VO.mv rfl rfl rfl rfl ?_
 refine VO.opY rfl rfl rfl rfl rfl ?_
 refine OpE.val (W := NoB) (OpV.move (.inl rfl) rfl) rfl ?_
 refine VO.opY rfl rfl rfl rfl rfl ?_
 refine OpE.val (W := NoB) (OpV.indexAddr_E rfl Tryz.underlying161 Tryz.sizeOf165 rfl rfl rfl (by show 0 < 1; decide)) rfl ?_
 refine VO.opY rfl rfl rfl rfl rfl ?_
 refine OpE.val (W := NoB) (OpV.fieldAddr_atO 1 rfl Tryz.underlying165 rfl rfl Tryz.sizeOf3 rfl rfl) rfl ?_
 refine VO.opY rfl rfl rfl rfl rfl ?_
 refine OpE.val (W := NoB) (OpV.load_at rfl hB OutW.no Tryz.isAgg3 rfl rfl) rfl ?_
 refine VO.opY rfl rfl rfl rfl rfl ?_
 refine OpE.val (W := NoB) (OpV.eql rfl rfl rfl) rfl ?_
 refine VO.le _ (Le.boolT (t := 84) rfl (decide_eq_true rfl)) ?_
 refine VO.val rfl rfl (OpV.pickT rfl rfl rfl rfl rfl) ?_
 refine VO.ma rfl rfl rfl rfl ?_
 refine VO.nil ?_
 refine VC.ret ?_
 exact Exists.intro _ (And.intro (RetN.one Tryz.results72 (ResN.v rfl)) (rfl))
end Go.Proofs.YtmahammdnmmmoaaGreatDoor
namespace Go.Proofs.YtmahammdnmmmoaaGreatDoor
open Go.RowKit
set_option linter.unusedVariables false
set_option linter.unusedSimpArgs false
theorem Le.boolF {B : Bs} {s : St'} {t : Nat} {b : Bool} (ht : look s.sl t = some (avB b)) (hb : b = false) : Le B s ⟨(t, avB false) :: s.sl, s.hp, s.k⟩ := Le.recast ht fun w Z u h => by subst hb; exact h
end Go.Proofs.YtmahammdnmmmoaaGreatDoor
namespace Go.Proofs.YtmahammdnmmmoaaGreatDoor
open Go.RowKit
set_option linter.unusedVariables false
set_option linter.unusedSimpArgs false
theorem outR_no2 {n a b : Int} (h : a ≤ n ∧ n ≤ b) : outR n a b = false := by unfold outR; simp; omega
theorem sumL_bd0 (m : Int) (hm : 0 ≤ m) : ∀ p : List Int, (∀ x ∈ p, 0 ≤ x ∧ x ≤ m) → 0 ≤ sumL p ∧ sumL p ≤ p.length * m
 | [], _ => by simp [sumL]
 | a :: p, h => by
  have h1 := sumL_bd0 m hm p (fun x hx => h x (List.mem_cons_of_mem _ hx))
  have h2 := h a (List.mem_cons_self ..)
  have e : ((a :: p).length : Int) * m = p.length * m + m := by rw [List.length_cons, Int.natCast_add, Int.add_mul]; simp
  rw [e]
  simp [sumL]; omega
theorem trL_len {l : List LookS} {s : Int} : (trL l s).length ≤ (trM l s).toNat := by
 unfold trL; split
 ·rw [trQ_len]; exact Nat.le_refl _
 ·exact Nat.zero_le _
theorem trL_el {l : List LookS} {s : Int} (h : l.length ≤ 18) : ∀ x ∈ trL l s, 0 ≤ x ∧ x ≤ 18 := fun x hx => by
 unfold trL at hx
 split at hx
 ·unfold trQ at hx
  obtain ⟨i, _, rfl⟩ := List.mem_map.1 hx
  have h1 := cntL_le (fun x => x.bad && decide (qat s x = trF l s + (i : Int))) (l.take l.length)
  rw [List.take_length] at h1 ⊢
  omega
 ·cases hx
theorem sum_take {p : List Int} {q : Nat} (h : q < p.length) : sumL (p.take (q + 1)) = sumL (p.take q) + p.getD q 0 := by
 rw [List.take_succ_eq_append_getElem h, sumL_append]; simp [sumL, h]
theorem tr_small {l : List LookS} {s : Int} {m : Nat} (h0 : lookF l = 0) (hk : ∀ x ∈ l, LkG m x) (hs : 1 ≤ s) : trM l s ≤ 10 * (m : Int) + 1 := by
 by_cases hl : l.length = 0
 ·have : l = [] := List.eq_nil_of_length_eq_zero hl
  subst this
  unfold trM trF; simp only [List.length_nil, Nat.zero_sub]; omega
 ·have h1 := (lookE_zero ((lookOk h0).all (l.length - 1) (by omega))).at_
  have h2 := qat_bd hs h1.1
  have h3 := (LkG.getD hk (l.length - 1)).at_.2 h1.1 h1.2
  have h4 := (lookE_zero ((lookOk h0).all 0 (by omega))).at_
  have h5 := qat_bd hs h4.1
  unfold trM trF
  omega
theorem tr_total {l : List LookS} {s : Int} (h0 : lookF l = 0) (hs : 1 ≤ s) (hE : trE l s = 0) : (badN l : Int) - sumL (trL l s) = 0 := by
 by_cases hl : l.length = 0
 ·have : l = [] := List.eq_nil_of_length_eq_zero hl
  subst this
  rw [trL, if_neg (fun h => h.2 rfl)]; rfl
 ·rw [trL, if_pos ⟨hE, hl⟩, trQ_sum h0 hs (by have := trM_pos h0 hs hl; omega) l.length (Nat.le_refl _), List.take_length]
  omega
theorem prodC {a b A B : Int} (ha : 0 ≤ a) (hA : a ≤ A) (hb : 0 ≤ b) (hB : b ≤ B) : 0 ≤ a * b ∧ a * b ≤ A * B := ⟨Int.mul_nonneg ha hb, Int.mul_le_mul hA hB hb (by omega)⟩
set_option maxRecDepth 100000 in
set_option maxHeartbeats 40000000 in
theorem standsOut_any (a0 : Option Addr) (cap0 : Nat) (L : List Int) (w : World) (hin : Inp w a0 L) :
    Calls Tryz.prog 8 #[.slice a0 L.length cap0] w fun e w' => e = .returned (.bool true) ∧ Chg NoB w w' := by
  refine law_calls Tryz.func8 rfl Tryz.ntmps8 (Nle rfl) Tryz.results8 ?_
  have hB := B0.ok w (fun _ => True) 214
  have hnew : True := trivial
  refine VC.sr ?_
  refine VO.ma rfl rfl rfl rfl ?_
  refine VO.nil ?_
  refine VC.sr ?_
  refine VO.mv rfl rfl rfl rfl ?_
  refine VO.val rfl rfl (OpV.build (pls := #[(0, 1), (1, 1)]) rfl Tryz.zeroValue25 Tryz.underlying25 (fun w => by kernel_rfl) rfl rfl) ?_
  refine VO.op rfl (OpE.box rfl hB rfl rfl rfl ?_)
  intro g
  refine VO.ma rfl rfl rfl rfl ?_
  refine VO.nil ?_
  refine VC.stream (i := 0) (sl := [(3, sp g)]) (by exact rfl) (by exact rfl) hin (by exact ⟨rfl, trivial⟩) (fun p hp => by simp at hp; subst hp; exact ⟨_, rfl⟩) (fun w1 hge hB => ?_)
  refine VC.sr ?_
  refine VO.mv rfl rfl rfl rfl ?_
  refine VO.mv rfl rfl rfl rfl ?_
  refine VO.op rfl (OpE.callT' (0) rfl rfl hB rfl Tryz.call40 rfl ((range_T (by omega) (by omega) (by omega))) (by omega) ?_)
  rintro _ ⟨r32, hr32, rfl⟩
  obtain ⟨nb, rfl⟩ : ∃ nb : Nat, r32 = nb := ⟨r32.toNat, by omega⟩
  refine VO.op rfl (OpE.callTO (0 + 1) rfl rfl hB rfl Tryz.call70 rfl (rightLooks_O (by omega)) (by omega) ?_)
  rintro _ _ ⟨a, ua, ⟨hal, hak, ha0⟩, rfl, rfl⟩
  refine VO.le _ (Le.rowT (t := 33) (i := 0) (xs := a) hB hnew rfl rfl rfl) ?_
  refine VO.mv rfl rfl rfl rfl ?_
  refine VO.op rfl (OpE.callT' (0 + 1 + 1300) rfl rfl hB rfl Tryz.call40 rfl ((range_T (by omega) (by omega) (by omega))) (by omega) ?_)
  rintro _ ⟨r35, hr35, rfl⟩
  refine VO.ma rfl rfl rfl rfl ?_
  refine VO.ma rfl rfl rfl rfl ?_
  refine VO.nil ?_
  refine VC.seq ?_
  have ha18 : a.length ≤ 18 := by omega
  have hs := LkG.sm hak (by omega)
  have hle : leastE a r35 = 0 := leastE_3 ha0 (outR_no2 (by omega))
  obtain ⟨K, fa, fb, ok, hsu⟩ : ∃ K fa fb ok, susR a r35 = (K, (fa, fb), ok) := ⟨_, _, _, _, rfl⟩
  obtain ⟨ma, mb, hmi⟩ : ∃ ma mb, millN a = (ma, mb) := ⟨_, _, rfl⟩
  obtain ⟨mE, hmE⟩ : ∃ mE, millE a = mE := ⟨_, rfl⟩
  refine VC.region ?_
  refine VO.mv rfl rfl rfl rfl ?_
  refine VO.mv rfl rfl rfl rfl ?_
  refine VO.op rfl (OpE.call rfl hB rfl Tryz.call57 rfl (SpecN.spec (inspect_Suspect hs)) ?_)
  rintro _ rfl
  refine VO.le _ (Le.recast (t := 39) (y := .tup [avS K, .agg [avI (fa : Int), avI (fb : Int)], avB ok, avI 0]) rfl (fun w Z u h => by rw [hsu, hle] at h; exact h)) ?_
  refine VO.mv rfl rfl rfl rfl ?_
  refine VO.val rfl rfl (OpV.extract rfl rfl rfl) ?_
  refine VO.val rfl rfl (OpV.extract rfl rfl rfl) ?_
  refine VO.val rfl rfl (OpV.extract rfl rfl rfl) ?_
  refine VO.val rfl rfl (OpV.extract rfl rfl rfl) ?_
  refine VO.op rfl (OpE.alloc rfl hB rfl Tryz.zeroValue74 rfl ?_)
  intro g7
  refine VO.ma rfl rfl rfl rfl ?_
  refine VO.op rfl (OpE.store (i := 0) rfl hB rfl Tryz.sizeOf74 rfl rfl rfl rfl rfl rfl (Nle rfl) trivial ?_)
  refine VO.ma rfl rfl rfl rfl ?_
  refine VO.ma rfl rfl rfl rfl ?_
  refine VO.nil ?_
  refine VC.sr ?_
  refine VO.mv rfl rfl rfl rfl ?_
  refine VO.mv rfl rfl rfl rfl ?_
  refine VO.op rfl (OpE.buildSlice (zc := #[.int .i64 0, .int .i64 0, .int .i64 0]) rfl hB rfl Tryz.underlying22 Tryz.sizeOf3 Tryz.zeroValue3 (by decide) (by decide) (by kernel_rfl) rfl rfl ?_)
  refine VO.op rfl (OpE.callT' (0 + 1 + 1300 + 1) rfl rfl hB rfl Tryz.call21 rfl ((pick_T 1 100 (by rfl) (by decide) (by decide) (by repeat (first | exact AllI.nil | refine AllI.cons (by omega) ?_)))) (by omega) ?_)
  rintro _ ⟨r48, hr48, rfl⟩
  refine VO.op rfl (OpE.call rfl hB rfl Tryz.call59 rfl (SpecN.spec (inspect_Trend hs)) ?_)
  rintro _ rfl
  have htm := tr_small ha0 hak hr48.1
  have htr : trE a r48 = 0 := by
    by_cases h : a.length = 0
    · exact trE_3 ha0 (outR_no2 (by omega)) h
    · exact trE_5 ha0 (outR_no2 (by omega)) h (by omega)
  refine VO.le _ (Le.recast (t := 49) (y := .tup [avInts (trL a r48), avI 0]) rfl (fun w Z u h => by rw [htr] at h; exact h)) ?_
  refine VO.mv rfl rfl rfl rfl ?_
  refine VO.val rfl rfl (OpV.extract rfl rfl rfl) ?_
  refine VO.val rfl rfl (OpV.extract rfl rfl rfl) ?_
  refine VO.ma rfl rfl rfl rfl ?_
  refine VO.ma rfl rfl rfl rfl ?_
  refine VO.nil ?_
  refine VC.sr ?_
  refine VO.mv rfl rfl rfl rfl ?_
  refine VO.op rfl (OpE.call rfl hB rfl Tryz.call45 rfl (SpecN.spec (inspect_Million hs)) ?_)
  rintro _ rfl
  refine VO.le _ (Le.recast (t := 54) (y := .tup [.agg [avI (ma : Int), avI (mb : Int)], avI mE]) rfl (fun w Z u h => by rw [hmi, hmE] at h; exact h)) ?_
  refine VO.mv rfl rfl rfl rfl ?_
  refine VO.val rfl rfl (OpV.extract rfl rfl rfl) ?_
  refine VO.val rfl rfl (OpV.extract rfl rfl rfl) ?_
  refine VO.op rfl (OpE.alloc rfl hB rfl Tryz.zeroValue74 rfl ?_)
  intro g12
  refine VO.op rfl (OpE.store (i := 1) rfl hB rfl Tryz.sizeOf74 rfl rfl rfl rfl rfl rfl (Nle rfl) trivial ?_)
  refine VO.ma rfl rfl rfl rfl ?_
  refine VO.nil ?_
  refine VC.seq ?_
  refine VC.sr ?_
  refine VO.mv rfl rfl rfl rfl ?_
  refine VO.mv rfl rfl rfl rfl ?_
  refine VO.op rfl (OpE.buildSlice (zc := #[.int .i64 0, .int .i64 0]) rfl hB rfl Tryz.underlying155 Tryz.sizeOf38 Tryz.zeroValue38 (by decide) (by decide) (by kernel_rfl) rfl rfl ?_)
  refine VO.le _ (Le.lits (t := 59) (xs := [0, 0]) rfl rfl) ?_
  refine VO.op rfl (OpE.call rfl hB rfl Tryz.call71 rfl (SpecN.spec (rk_errs (by simp))) ?_)
  rintro _ rfl
  refine VO.val rfl rfl (OpV.neq rfl rfl rfl) ?_
  refine VO.le _ (Le.boolF (t := 61) rfl (decide_eq_false (by decide))) ?_
  refine VO.nil ?_
  refine VC.condF rfl rfl ?_
  refine VC.skip ?_
  refine VC.sr ?_
  refine VO.ma rfl rfl rfl rfl ?_
  refine VO.nil ?_
  refine VC.seq ?_
  refine VC.sr ?_
  refine VO.mv rfl rfl rfl rfl ?_
  refine VO.val rfl rfl (OpV.len_im rfl Tryz.underlying61 rfl) ?_
  refine VO.mv rfl rfl rfl rfl ?_
  refine VO.nil ?_
  refine VC.block ?_
  refine VC.loopK [(4, _), (5, _), (6, _), (7, _), (8, _), (10, _), (12, _), (13, _), (62, _), (63, _)] ⟨rfl, rfl, rfl, rfl, rfl, rfl, rfl, rfl, rfl, rfl, trivial⟩ ({q : Nat // q ≤ a.length}) (fun (iZ : {q : Nat // q ≤ a.length}) => match iZ with | ⟨q, hq⟩ => [(14, avI (badN (a.take q) : Int)), (64, avI (q : Int))]) (fun (iZ : {q : Nat // q ≤ a.length}) => match iZ with | ⟨q, hq⟩ => [.box g7 ⟨[avI (fa : Int), avI (fb : Int)], 74, 2⟩, .box g12 ⟨[avI (ma : Int), avI (mb : Int)], 74, 2⟩]) (fun (iZ : {q : Nat // q ≤ a.length}) => match iZ with | ⟨q, hq⟩ => 100000) (fun (iZ : {q : Nat // q ≤ a.length}) => match iZ with | ⟨q, hq⟩ => a.length - q) ⟨0, Nat.zero_le _⟩ (Le.mk hB [0, 1] ⟨rfl, rfl, rfl, rfl, rfl, rfl, rfl, rfl, rfl, rfl, rfl, rfl, trivial⟩ rfl rfl (Nle rfl)) ?_
  rintro ⟨q, hq⟩
  show VC _ _ _ _ ⟨[(14, avI (badN (a.take q) : Int)), (64, avI (q : Int))] ++ [(4, _), (5, _), (6, _), (7, _), (8, _), (10, _), (12, _), (13, _), (62, _), (63, _)], [.box g7 ⟨[avI (fa : Int), avI (fb : Int)], 74, 2⟩, .box g12 ⟨[avI (ma : Int), avI (mb : Int)], 74, 2⟩], 100000⟩
  have hbq : badN (a.take q) ≤ 18 := by { have h := badN_le (a.take q); rw [List.length_take] at h; omega }
  refine VC.sr ?_
  refine VO.val rfl rfl (OpV.lss rfl rfl rfl) ?_
  refine VO.nil ?_
  refine VC.seq ?_
  refine VC.cond rfl (fun aH1b => ?_) (fun aH1b => ?_)
  · have aH1 := aH1b
    try simp only [qqT, qqF, qqN, qqM, qqL, qqE] at aH1
    refine VC.skip ?_
    refine VC.seq ?_
    refine VC.block ?_
    refine VC.sr ?_
    refine VO.val rfl rfl (OpV.indexAddr_E rfl Tryz.underlying61 Tryz.sizeOf66 rfl rfl rfl (by omega)) ?_
    refine VO.val rfl rfl (OpV.loadK_at rfl hB OutW.no Tryz.isAgg66 Tryz.sizeOf66 rfl rfl) ?_
    refine VO.op rfl (OpE.alloc rfl hB rfl Tryz.zeroValue66 rfl ?_)
    intro g16
    refine VO.op rfl (OpE.store (i := 2) rfl hB rfl Tryz.sizeOf66 rfl rfl rfl rfl rfl rfl (Nle rfl) trivial ?_)
    refine VO.nil ?_
    refine VC.sr ?_
    refine VO.val rfl rfl (OpV.fieldAddrO 4 rfl Tryz.underlying66 rfl rfl Tryz.sizeOf4 rfl) ?_
    refine VO.val rfl rfl (OpV.load_own (i := 2) rfl hB Tryz.isAgg4 rfl rfl rfl (fun h => h)) ?_
    refine VO.nil ?_
    refine VC.cond rfl (fun h2b => ?_) (fun h2b => ?_)
    · have h2 := h2b
      try simp only [qqT, qqF, qqN, qqM, qqL, qqE] at h2
      refine VC.region ?_
      refine VO.mv rfl rfl rfl rfl ?_
      refine VO.val rfl rfl (OpV.add rfl rfl rfl (by unfold fits; omega)) ?_
      refine VO.ma rfl rfl rfl rfl ?_
      refine VO.nil ?_
      refine VC.region ?_
      refine VO.val rfl rfl (OpV.add rfl rfl rfl (by unfold fits; omega)) ?_
      refine VO.mv rfl rfl rfl rfl ?_
      refine VO.nil ?_
      exact Exists.intro (⟨q + 1, by omega⟩) (And.intro (Le.mk hB [0, 1] ⟨(by dsimp only; first | (rw [badN_take (by omega), if_pos h2b]; rfl) | (rw [badN_take (by omega), if_neg (by rw [h2b]; simp)]; rfl)), rfl, rfl, rfl, rfl, rfl, rfl, rfl, rfl, rfl, rfl, rfl, trivial⟩ rfl rfl (Nle rfl)) (by first | omega | (show _ < _; omega) | (simp only []; omega)))
    · have h2 := h2b
      try simp only [qqT, qqF, qqN, qqM, qqL, qqE] at h2
      refine VC.skip ?_
      refine VC.region ?_
      refine VO.val rfl rfl (OpV.add rfl rfl rfl (by unfold fits; omega)) ?_
      refine VO.mv rfl rfl rfl rfl ?_
      refine VO.nil ?_
      exact Exists.intro (⟨q + 1, by omega⟩) (And.intro (Le.mk hB [0, 1] ⟨(by dsimp only; first | (rw [badN_take (by omega), if_pos h2b]; rfl) | (rw [badN_take (by omega), if_neg (by rw [h2b]; simp)]; rfl)), rfl, rfl, rfl, rfl, rfl, rfl, rfl, rfl, rfl, rfl, rfl, trivial⟩ rfl rfl (Nle rfl)) (by first | omega | (show _ < _; omega) | (simp only []; omega)))
  · have aH1 := aH1b
    try simp only [qqT, qqF, qqN, qqM, qqL, qqE] at aH1
    obtain rfl : q = a.length := by omega
    rw [List.take_length] at hbq ⊢
    have htl := trL_len (l := a) (s := r48)
    have htot := tr_total ha0 hr48.1 htr
    refine VC.exit ?_
    refine VC.seq ?_
    refine VC.sr ?_
    refine VO.mv rfl rfl rfl rfl ?_
    refine VO.val rfl rfl (OpV.len_im rfl Tryz.underlying22 rfl) ?_
    refine VO.mv rfl rfl rfl rfl ?_
    refine VO.nil ?_
    refine VC.block ?_
    refine VC.loopK [(4, _), (5, _), (6, _), (7, _), (8, _), (12, _), (13, _), (73, _), (74, _)] ⟨rfl, rfl, rfl, rfl, rfl, rfl, rfl, rfl, rfl, trivial⟩ ({q1 : Nat // q1 ≤ (trL a r48).length}) (fun (iZ : {q1 : Nat // q1 ≤ (trL a r48).length}) => match iZ with | ⟨q1, hq1⟩ => [(14, avI ((badN a : Int) - sumL ((trL a r48).take q1))), (75, avI (q1 : Int))]) (fun (iZ : {q1 : Nat // q1 ≤ (trL a r48).length}) => match iZ with | ⟨q1, hq1⟩ => [.box g7 ⟨[avI (fa : Int), avI (fb : Int)], 74, 2⟩, .box g12 ⟨[avI (ma : Int), avI (mb : Int)], 74, 2⟩]) (fun (iZ : {q1 : Nat // q1 ≤ (trL a r48).length}) => match iZ with | ⟨q1, hq1⟩ => 100000) (fun (iZ : {q1 : Nat // q1 ≤ (trL a r48).length}) => match iZ with | ⟨q1, hq1⟩ => (trL a r48).length - q1) ⟨0, Nat.zero_le _⟩ (Le.mk hB [0, 1] ⟨(by dsimp only; rw [List.take_zero, show ((badN a : Int) - sumL []) = (badN a : Int) by simp [sumL]]; rfl), rfl, rfl, rfl, rfl, rfl, rfl, rfl, rfl, rfl, rfl, trivial⟩ rfl rfl (Nle rfl)) ?_
    rintro ⟨q1, hq1⟩
    show VC _ _ _ _ ⟨[(14, avI ((badN a : Int) - sumL ((trL a r48).take q1))), (75, avI (q1 : Int))] ++ [(4, _), (5, _), (6, _), (7, _), (8, _), (12, _), (13, _), (73, _), (74, _)], [.box g7 ⟨[avI (fa : Int), avI (fb : Int)], 74, 2⟩, .box g12 ⟨[avI (ma : Int), avI (mb : Int)], 74, 2⟩], 100000⟩
    have hsb := sumL_bd0 18 (by omega) ((trL a r48).take q1) (fun x hx => trL_el ha18 x (List.mem_of_mem_take hx))
    have hsl : ((trL a r48).take q1).length ≤ 61 := by { rw [List.length_take]; omega }
    refine VC.sr ?_
    refine VO.val rfl rfl (OpV.lss rfl rfl rfl) ?_
    refine VO.nil ?_
    refine VC.seq ?_
    refine VC.cond rfl (fun aH2b => ?_) (fun aH2b => ?_)
    · have aH2 := aH2b
      try simp only [qqT, qqF, qqN, qqM, qqL, qqE] at aH2
      refine VC.skip ?_
      refine VC.seq ?_
      refine VC.block ?_
      refine VC.sr ?_
      refine VO.val rfl rfl (OpV.indexAddr_1 rfl Tryz.underlying22 Tryz.sizeOf3 rfl rfl rfl (by omega)) ?_
      refine VO.val rfl rfl (OpV.load_at rfl hB OutW.no Tryz.isAgg3 rfl rfl) ?_
      refine VO.ma rfl rfl rfl rfl ?_
      refine VO.nil ?_
      have hel := trL_el (s := r48) ha18 ((trL a r48).getD q1 0) (by rw [List.getD_eq_getElem?_getD, List.getElem?_eq_getElem (by omega)]; exact List.getElem_mem _)
      refine VC.region ?_
      refine VO.mv rfl rfl rfl rfl ?_
      refine VO.mv rfl rfl rfl rfl ?_
      refine VO.val rfl rfl (OpV.sub rfl rfl rfl (by unfold fits; omega)) ?_
      refine VO.ma rfl rfl rfl rfl ?_
      refine VO.nil ?_
      refine VC.region ?_
      refine VO.val rfl rfl (OpV.add rfl rfl rfl (by unfold fits; omega)) ?_
      refine VO.mv rfl rfl rfl rfl ?_
      refine VO.nil ?_
      exact Exists.intro (⟨q1 + 1, by omega⟩) (And.intro (Le.mk hB [0, 1] ⟨(by dsimp only; rw [sum_take (by omega), ← Int.sub_sub]; rfl), rfl, rfl, rfl, rfl, rfl, rfl, rfl, rfl, rfl, rfl, trivial⟩ rfl rfl (Nle rfl)) (by first | omega | (show _ < _; omega) | (simp only []; omega)))
    · have aH2 := aH2b
      try simp only [qqT, qqF, qqN, qqM, qqL, qqE] at aH2
      obtain rfl : q1 = (trL a r48).length := by omega
      rw [List.take_length] at hsb ⊢
      refine VC.exit ?_
      refine VC.seq ?_
      refine VC.sr ?_
      refine VO.mv rfl rfl rfl rfl ?_
      refine VO.val rfl rfl (OpV.neq rfl rfl rfl) ?_
      refine VO.le _ (Le.boolF (t := 84) rfl (decide_eq_false (by omega))) ?_
      refine VO.nil ?_
      refine VC.condF rfl rfl ?_
      refine VC.skip ?_
      refine VC.seq ?_
      refine VC.sr ?_
      refine VO.mv rfl rfl rfl rfl ?_
      refine VO.val rfl rfl (OpV.len_im rfl Tryz.underlying61 rfl) ?_
      refine VO.val rfl rfl (OpV.eql rfl rfl rfl) ?_
      refine VO.nil ?_
      refine VC.cond rfl (fun h5b => ?_) (fun h5b => ?_)
      · have h5 := h5b
        try simp only [qqT, qqF, qqN, qqM, qqL, qqE] at h5
        have hE8 : mE = 8 := by rw [← hmE]; exact millE_8 ha0 (by omega)
        have hok0 : ok = false := by
          have e : a = [] := List.eq_nil_of_length_eq_zero (by omega)
          have h := congrArg (fun z => z.2.2) hsu
          simp only at h
          rw [← h, susR, if_neg]
          rintro ⟨_, h2⟩
          rw [e] at h2
          unfold susOk at h2
          rw [susL_nil, sEq_eq.2 rfl] at h2
          cases h2
        refine VC.sr ?_
        refine VO.mv rfl rfl rfl rfl ?_
        refine VO.val rfl rfl (OpV.eql rfl rfl rfl) ?_
        refine VO.le _ (Le.boolT (t := 89) rfl (decide_eq_true hE8)) ?_
        refine VO.mv rfl rfl rfl rfl ?_
        refine VO.opY rfl rfl rfl rfl rfl ?_
        refine OpE.val (W := NoB) (OpV.move (.inl rfl) rfl) rfl ?_
        refine VO.opY rfl rfl rfl rfl rfl ?_
        refine OpE.val (W := NoB) (OpV.not rfl rfl) rfl ?_
        refine VO.le _ (Le.boolT (t := 92) rfl (by rw [hok0]; rfl)) ?_
        refine VO.val rfl rfl (OpV.pickT rfl rfl rfl rfl rfl) ?_
        refine VO.mv rfl rfl rfl rfl ?_
        refine VO.opY rfl rfl rfl rfl rfl ?_
        refine OpE.call rfl hB rfl Tryz.call72 rfl (SpecN.spec (rk_ready)) ?_
        rintro _ rfl
        refine VO.val rfl rfl (OpV.pickT rfl rfl rfl rfl rfl) ?_
        refine VO.ma rfl rfl rfl rfl ?_
        refine VO.nil ?_
        refine VC.ret ?_
        exact And.intro rfl rfl
      · have h5 := h5b
        try simp only [qqT, qqF, qqN, qqM, qqL, qqE] at h5
        have hm0 : mE = 0 := by rw [← hmE]; exact millE_0 ha0 (by omega)
        have hO : OutR a r35 K fa fb ma mb ok := by
          have h := outAll hle (by omega) ha18
          rw [hsu, hmi] at h
          exact h
        have hbd := hO.bd
        refine VC.skip ?_
        refine VC.seq ?_
        refine VC.sr ?_
        refine VO.mv rfl rfl rfl rfl ?_
        refine VO.val rfl rfl (OpV.neq rfl rfl rfl) ?_
        refine VO.le _ (Le.boolF (t := 98) rfl (decide_eq_false (by omega))) ?_
        refine VO.mv rfl rfl rfl rfl ?_
        refine VO.opY rfl rfl rfl rfl rfl ?_
        refine OpE.val (W := NoB) (OpV.move (.inl rfl) rfl) rfl ?_
        refine VO.opY rfl rfl rfl rfl rfl ?_
        refine OpE.val (W := NoB) (OpV.move (.inl rfl) rfl) rfl ?_
        refine VO.opG rfl rfl rfl rfl (fun aK3b => ?_) (fun aK3b => ?_)
        · replace aK3b : _ = true := aK3b
          have aK3 := aK3b
          try simp only [qqT, qqF, qqN, qqM, qqL, qqE] at aK3
          refine OpE.val (W := NoB) (OpV.fieldAddrO 0 rfl Tryz.underlying74 rfl rfl Tryz.sizeOf3 rfl) rfl ?_
          refine VO.opY rfl rfl rfl rfl aK3b ?_
          refine OpE.val (W := NoB) (OpV.load_own (i := 0) rfl hB Tryz.isAgg3 rfl rfl rfl (fun h => h)) rfl ?_
          refine VO.opY rfl rfl rfl rfl aK3b ?_
          refine OpE.val (W := NoB) (OpV.mul rfl rfl rfl (by unfold fits; omega)) rfl ?_
          refine VO.opY rfl rfl rfl rfl aK3b ?_
          refine OpE.val (W := NoB) (OpV.fieldAddrO 1 rfl Tryz.underlying74 rfl rfl Tryz.sizeOf3 rfl) rfl ?_
          refine VO.opY rfl rfl rfl rfl aK3b ?_
          refine OpE.val (W := NoB) (OpV.load_own (i := 1) rfl hB Tryz.isAgg3 rfl rfl rfl (fun h => h)) rfl ?_
          refine VO.opY rfl rfl rfl rfl aK3b ?_
          refine OpE.val (W := NoB) (OpV.mul rfl rfl rfl (by have h := prodC (a := (fa : Int) * 1000000) (b := (mb : Int)) (A := 2000000000000) (B := 18) (by omega) (by omega) (by omega) (by omega); unfold fits; omega)) rfl ?_
          refine VO.opY rfl rfl rfl rfl aK3b ?_
          refine OpE.val (W := NoB) (OpV.fieldAddrO 0 rfl Tryz.underlying74 rfl rfl Tryz.sizeOf3 rfl) rfl ?_
          refine VO.opY rfl rfl rfl rfl aK3b ?_
          refine OpE.val (W := NoB) (OpV.load_own (i := 1) rfl hB Tryz.isAgg3 rfl rfl rfl (fun h => h)) rfl ?_
          refine VO.opY rfl rfl rfl rfl aK3b ?_
          refine OpE.val (W := NoB) (OpV.fieldAddrO 1 rfl Tryz.underlying74 rfl rfl Tryz.sizeOf3 rfl) rfl ?_
          refine VO.opY rfl rfl rfl rfl aK3b ?_
          refine OpE.val (W := NoB) (OpV.load_own (i := 0) rfl hB Tryz.isAgg3 rfl rfl rfl (fun h => h)) rfl ?_
          refine VO.opY rfl rfl rfl rfl aK3b ?_
          refine OpE.val (W := NoB) (OpV.mul rfl rfl rfl (by have h := prodC (a := (ma : Int)) (b := (fb : Int)) (A := 18000000) (B := 2000000) (by omega) (by omega) (by omega) (by omega); unfold fits; omega)) rfl ?_
          refine VO.opY rfl rfl rfl rfl aK3b ?_
          refine OpE.val (W := NoB) (OpV.leq rfl rfl rfl) rfl ?_
          refine VO.le _ (Le.boolF (t := 113) rfl (decide_eq_false (by have h := hO.some_ (by assumption); omega))) ?_
          refine VO.opY rfl rfl rfl rfl rfl ?_
          refine OpE.val (W := NoB) (OpV.pickT rfl rfl rfl rfl aK3b) rfl ?_
          refine VO.val rfl rfl (OpV.pickF rfl rfl rfl rfl rfl) ?_
          refine VO.nil ?_
          refine VC.condF rfl rfl ?_
          refine VC.skip ?_
          refine VC.seq ?_
          refine VC.sr ?_
          refine VO.mv rfl rfl rfl rfl ?_
          refine VO.val rfl rfl (OpV.len_im rfl Tryz.underlying61 rfl) ?_
          refine VO.mv rfl rfl rfl rfl ?_
          refine VO.nil ?_
          refine VC.block ?_
          refine VC.loopK [(4, _), (5, _), (6, _), (7, _), (8, _), (12, _), (116, _), (117, _)] ⟨rfl, rfl, rfl, rfl, rfl, rfl, rfl, rfl, trivial⟩ ({i : Nat // i ≤ a.length}) (fun (iZ : {i : Nat // i ≤ a.length}) => match iZ with | ⟨i, hq2⟩ => [(118, avI (i : Int))]) (fun (iZ : {i : Nat // i ≤ a.length}) => match iZ with | ⟨i, hq2⟩ => [.box g7 ⟨[avI (fa : Int), avI (fb : Int)], 74, 2⟩, .box g12 ⟨[avI (ma : Int), avI (mb : Int)], 74, 2⟩]) (fun (iZ : {i : Nat // i ≤ a.length}) => match iZ with | ⟨i, hq2⟩ => 100000) (fun (iZ : {i : Nat // i ≤ a.length}) => match iZ with | ⟨i, hq2⟩ => a.length - i) ⟨0, Nat.zero_le _⟩ (Le.mk hB [0, 1] ⟨rfl, rfl, rfl, rfl, rfl, rfl, rfl, rfl, rfl, trivial⟩ rfl rfl (Nle rfl)) ?_
          rintro ⟨i, hq2⟩
          show VC _ _ _ _ ⟨[(118, avI (i : Int))] ++ [(4, _), (5, _), (6, _), (7, _), (8, _), (12, _), (116, _), (117, _)], [.box g7 ⟨[avI (fa : Int), avI (fb : Int)], 74, 2⟩, .box g12 ⟨[avI (ma : Int), avI (mb : Int)], 74, 2⟩], 100000⟩
          refine VC.sr ?_
          refine VO.val rfl rfl (OpV.lss rfl rfl rfl) ?_
          refine VO.nil ?_
          refine VC.seq ?_
          refine VC.cond rfl (fun aH4b => ?_) (fun aH4b => ?_)
          · have aH4 := aH4b
            try simp only [qqT, qqF, qqN, qqM, qqL, qqE] at aH4
            refine VC.skip ?_
            refine VC.seq ?_
            refine VC.block ?_
            refine VC.sr ?_
            refine VO.val rfl rfl (OpV.indexAddr_E rfl Tryz.underlying61 Tryz.sizeOf66 rfl rfl rfl (by omega)) ?_
            refine VO.val rfl rfl (OpV.loadK_at rfl hB OutW.no Tryz.isAgg66 Tryz.sizeOf66 rfl rfl) ?_
            refine VO.op rfl (OpE.alloc rfl hB rfl Tryz.zeroValue66 rfl ?_)
            intro g20
            refine VO.op rfl (OpE.store (i := 2) rfl hB rfl Tryz.sizeOf66 rfl rfl rfl rfl rfl rfl (Nle rfl) trivial ?_)
            refine VO.nil ?_
            refine VC.seq ?_
            have hnz := hs.nozzle i
            have hre := hs.reel i
            refine VC.region ?_
            refine VO.val rfl rfl (OpV.fieldAddrO 6 rfl Tryz.underlying66 rfl rfl Tryz.sizeOf9 rfl) ?_
            refine VO.val rfl rfl (OpV.load_own (i := 2) rfl hB Tryz.isAgg9 rfl rfl rfl (fun h => h)) ?_
            refine VO.val rfl rfl (OpV.sadd rfl rfl rfl (by have h : (⟨#[110, 111, 122, 122, 108, 101, 32]⟩ : ByteArray).size = 7 := rfl; omega)) ?_
            refine VO.val rfl rfl (OpV.fieldAddrO 7 rfl Tryz.underlying66 rfl rfl Tryz.sizeOf9 rfl) ?_
            refine VO.val rfl rfl (OpV.load_own (i := 2) rfl hB Tryz.isAgg9 rfl rfl rfl (fun h => h)) ?_
            refine VO.val rfl rfl (OpV.sadd rfl rfl rfl (by have h : (⟨#[114, 101, 101, 108, 32]⟩ : ByteArray).size = 5 := rfl; omega)) ?_
            refine VO.op rfl (OpE.buildSlice (zc := #[.string ⟨#[]⟩, .string ⟨#[]⟩]) rfl hB rfl Tryz.underlying95 Tryz.sizeOf9 Tryz.zeroValue9 (by decide) (by decide) (by kernel_rfl) rfl rfl ?_)
            refine VO.le _ (Le.litsS (t := 128) (xs := kyY (a.getD i default)) rfl rfl) ?_
            refine VO.val rfl rfl (OpV.len_im rfl Tryz.underlying95 rfl) ?_
            refine VO.mv rfl rfl rfl rfl ?_
            refine VO.nil ?_
            refine VC.block ?_
            refine VC.loopK [(4, _), (5, _), (6, _), (7, _), (8, _), (12, _), (116, _), (117, _), (118, _), (128, _), (129, _)] ⟨rfl, rfl, rfl, rfl, rfl, rfl, rfl, rfl, rfl, rfl, rfl, trivial⟩ ({r : Nat // r ≤ 2}) (fun (iZ : {r : Nat // r ≤ 2}) => match iZ with | ⟨r, hq3⟩ => [(130, avI (r : Int))]) (fun (iZ : {r : Nat // r ≤ 2}) => match iZ with | ⟨r, hq3⟩ => [.box g7 ⟨[avI (fa : Int), avI (fb : Int)], 74, 2⟩, .box g12 ⟨[avI (ma : Int), avI (mb : Int)], 74, 2⟩]) (fun (iZ : {r : Nat // r ≤ 2}) => match iZ with | ⟨r, hq3⟩ => 100000) (fun (iZ : {r : Nat // r ≤ 2}) => match iZ with | ⟨r, hq3⟩ => 2 - r) ⟨0, Nat.zero_le _⟩ (Le.mk hB [0, 1] ⟨rfl, rfl, rfl, rfl, rfl, rfl, rfl, rfl, rfl, rfl, rfl, rfl, trivial⟩ rfl rfl (Nle rfl)) ?_
            rintro ⟨r, hq3⟩
            show VC _ _ _ _ ⟨[(130, avI (r : Int))] ++ [(4, _), (5, _), (6, _), (7, _), (8, _), (12, _), (116, _), (117, _), (118, _), (128, _), (129, _)], [.box g7 ⟨[avI (fa : Int), avI (fb : Int)], 74, 2⟩, .box g12 ⟨[avI (ma : Int), avI (mb : Int)], 74, 2⟩], 100000⟩
            have hk2 : (kyY (a.getD i default)).length = 2 := rfl
            refine VC.sr ?_
            refine VO.val rfl rfl (OpV.lss rfl rfl rfl) ?_
            refine VO.nil ?_
            refine VC.seq ?_
            refine VC.cond rfl (fun aH5b => ?_) (fun aH5b => ?_)
            · have aH5 := aH5b
              try simp only [qqT, qqF, qqN, qqM, qqL, qqE] at aH5
              refine VC.skip ?_
              refine VC.seq ?_
              refine VC.block ?_
              refine VC.seq ?_
              obtain ⟨y, hy⟩ : ∃ y, (kyY (a.getD i default)).getD r ByteArray.empty = y := ⟨_, rfl⟩
              refine VC.region ?_
              refine VO.val rfl rfl (OpV.indexAddr_1 rfl Tryz.underlying95 Tryz.sizeOf9 rfl rfl rfl (by omega)) ?_
              refine VO.val rfl rfl (OpV.load_at rfl hB OutW.no Tryz.isAgg9 rfl rfl) ?_
              refine VO.le _ (Le.recast (t := 133) (y := avS y) rfl (fun w Z u h => by rw [← hy]; exact h)) ?_
              refine VO.ma rfl rfl rfl rfl ?_
              refine VO.nil ?_
              refine VC.sr ?_
              refine VO.ma rfl rfl rfl rfl ?_
              refine VO.ma rfl rfl rfl rfl ?_
              refine VO.nil ?_
              refine VC.seq ?_
              refine VC.sr ?_
              refine VO.mv rfl rfl rfl rfl ?_
              refine VO.val rfl rfl (OpV.len_im rfl Tryz.underlying61 rfl) ?_
              refine VO.mv rfl rfl rfl rfl ?_
              refine VO.nil ?_
              refine VC.block ?_
              refine VC.loopK [(4, _), (5, _), (6, _), (7, _), (8, _), (12, _), (22, _), (116, _), (117, _), (118, _), (128, _), (129, _), (130, _), (134, _), (135, _)] ⟨rfl, rfl, rfl, rfl, rfl, rfl, rfl, rfl, rfl, rfl, rfl, rfl, rfl, rfl, rfl, trivial⟩ ({q4 : Nat // q4 ≤ a.length}) (fun (iZ : {q4 : Nat // q4 ≤ a.length}) => match iZ with | ⟨q4, hq4⟩ => [(23, avI (cntL (fun z => hasY y z && z.bad) (a.take q4) : Int)), (24, avI (cntL (hasY y) (a.take q4) : Int)), (136, avI (q4 : Int))]) (fun (iZ : {q4 : Nat // q4 ≤ a.length}) => match iZ with | ⟨q4, hq4⟩ => [.box g7 ⟨[avI (fa : Int), avI (fb : Int)], 74, 2⟩, .box g12 ⟨[avI (ma : Int), avI (mb : Int)], 74, 2⟩]) (fun (iZ : {q4 : Nat // q4 ≤ a.length}) => match iZ with | ⟨q4, hq4⟩ => 100000) (fun (iZ : {q4 : Nat // q4 ≤ a.length}) => match iZ with | ⟨q4, hq4⟩ => a.length - q4) ⟨0, Nat.zero_le _⟩ (Le.mk hB [0, 1] ⟨rfl, rfl, rfl, rfl, rfl, rfl, rfl, rfl, rfl, rfl, rfl, rfl, rfl, rfl, rfl, rfl, rfl, rfl, trivial⟩ rfl rfl (Nle rfl)) ?_
              rintro ⟨q4, hq4⟩
              show VC _ _ _ _ ⟨[(23, avI (cntL (fun z => hasY y z && z.bad) (a.take q4) : Int)), (24, avI (cntL (hasY y) (a.take q4) : Int)), (136, avI (q4 : Int))] ++ [(4, _), (5, _), (6, _), (7, _), (8, _), (12, _), (22, _), (116, _), (117, _), (118, _), (128, _), (129, _), (130, _), (134, _), (135, _)], [.box g7 ⟨[avI (fa : Int), avI (fb : Int)], 74, 2⟩, .box g12 ⟨[avI (ma : Int), avI (mb : Int)], 74, 2⟩], 100000⟩
              have hc1 : cntL (fun z => hasY y z && z.bad) (a.take q4) ≤ 18 := by { have h := cntL_le (fun z => hasY y z && z.bad) (a.take q4); rw [List.length_take] at h; omega }
              have hc2 : cntL (hasY y) (a.take q4) ≤ 18 := by { have h := cntL_le (hasY y) (a.take q4); rw [List.length_take] at h; omega }
              refine VC.sr ?_
              refine VO.val rfl rfl (OpV.lss rfl rfl rfl) ?_
              refine VO.nil ?_
              refine VC.seq ?_
              refine VC.cond rfl (fun aH6b => ?_) (fun aH6b => ?_)
              · have aH6 := aH6b
                try simp only [qqT, qqF, qqN, qqM, qqL, qqE] at aH6
                refine VC.skip ?_
                refine VC.seq ?_
                refine VC.block ?_
                refine VC.sr ?_
                refine VO.val rfl rfl (OpV.indexAddr_E rfl Tryz.underlying61 Tryz.sizeOf66 rfl rfl rfl (by omega)) ?_
                refine VO.val rfl rfl (OpV.loadK_at rfl hB OutW.no Tryz.isAgg66 Tryz.sizeOf66 rfl rfl) ?_
                refine VO.op rfl (OpE.alloc rfl hB rfl Tryz.zeroValue66 rfl ?_)
                intro g26
                refine VO.op rfl (OpE.store (i := 2) rfl hB rfl Tryz.sizeOf66 rfl rfl rfl rfl rfl rfl (Nle rfl) trivial ?_)
                refine VO.nil ?_
                refine VC.seq ?_
                have hnq := hs.nozzle q4
                have hrq := hs.reel q4
                refine VC.region ?_
                refine VO.val rfl rfl (OpV.fieldAddrO 6 rfl Tryz.underlying66 rfl rfl Tryz.sizeOf9 rfl) ?_
                refine VO.val rfl rfl (OpV.load_own (i := 2) rfl hB Tryz.isAgg9 rfl rfl rfl (fun h => h)) ?_
                refine VO.val rfl rfl (OpV.sadd rfl rfl rfl (by have h : (⟨#[110, 111, 122, 122, 108, 101, 32]⟩ : ByteArray).size = 7 := rfl; omega)) ?_
                refine VO.le _ (Le.recast (t := 142) (y := avS (noz (a.getD q4 default))) rfl (fun w Z u h => h)) ?_
                refine VO.mv rfl rfl rfl rfl ?_
                refine VO.val rfl rfl (OpV.seql rfl rfl rfl) ?_
                refine VO.mv rfl rfl rfl rfl ?_
                refine VO.opG rfl rfl rfl rfl (fun aK7b => ?_) (fun aK7b => ?_)
                · replace aK7b : _ = false := aK7b
                  have aK7 := aK7b
                  try simp only [qqT, qqF, qqN, qqM, qqL, qqE] at aK7
                  refine OpE.val (W := NoB) (OpV.fieldAddrO 7 rfl Tryz.underlying66 rfl rfl Tryz.sizeOf9 rfl) rfl ?_
                  refine VO.opY rfl rfl rfl rfl aK7b ?_
                  refine OpE.val (W := NoB) (OpV.load_own (i := 2) rfl hB Tryz.isAgg9 rfl rfl rfl (fun h => h)) rfl ?_
                  refine VO.opY rfl rfl rfl rfl aK7b ?_
                  refine OpE.val (W := NoB) (OpV.sadd rfl rfl rfl (by have h : (⟨#[114, 101, 101, 108, 32]⟩ : ByteArray).size = 5 := rfl; omega)) rfl ?_
                  refine VO.le _ (Le.recast (t := 148) (y := avS (ree (a.getD q4 default))) rfl (fun w Z u h => h)) ?_
                  refine VO.opY rfl rfl rfl rfl aK7b ?_
                  refine OpE.val (W := NoB) (OpV.move (.inl rfl) rfl) rfl ?_
                  refine VO.opY rfl rfl rfl rfl aK7b ?_
                  refine OpE.val (W := NoB) (OpV.seql rfl rfl rfl) rfl ?_
                  refine VO.val rfl rfl (OpV.pickF rfl rfl rfl rfl aK7b) ?_
                  refine VO.nil ?_
                  refine VC.cond rfl (fun aH8b => ?_) (fun aH8b => ?_)
                  · have aH8 := aH8b
                    try simp only [qqT, qqF, qqN, qqM, qqL, qqE] at aH8
                    have hyt : hasY y (a.getD q4 default) = true := by unfold hasY; rw [Bool.or_eq_true]; first | exact .inl (by assumption) | exact .inr (by assumption)
                    refine VC.sr ?_
                    refine VO.mv rfl rfl rfl rfl ?_
                    refine VO.val rfl rfl (OpV.add rfl rfl rfl (by unfold fits; omega)) ?_
                    refine VO.ma rfl rfl rfl rfl ?_
                    refine VO.nil ?_
                    refine VC.sr ?_
                    refine VO.val rfl rfl (OpV.fieldAddrO 4 rfl Tryz.underlying66 rfl rfl Tryz.sizeOf4 rfl) ?_
                    refine VO.val rfl rfl (OpV.load_own (i := 2) rfl hB Tryz.isAgg4 rfl rfl rfl (fun h => h)) ?_
                    refine VO.nil ?_
                    refine VC.cond rfl (fun hbb => ?_) (fun hbb => ?_)
                    · have hb := hbb
                      try simp only [qqT, qqF, qqN, qqM, qqL, qqE] at hb
                      refine VC.region ?_
                      refine VO.mv rfl rfl rfl rfl ?_
                      refine VO.val rfl rfl (OpV.add rfl rfl rfl (by unfold fits; omega)) ?_
                      refine VO.ma rfl rfl rfl rfl ?_
                      refine VO.nil ?_
                      refine VC.region ?_
                      refine VO.val rfl rfl (OpV.add rfl rfl rfl (by unfold fits; omega)) ?_
                      refine VO.mv rfl rfl rfl rfl ?_
                      refine VO.nil ?_
                      exact Exists.intro (⟨q4 + 1, by omega⟩) (And.intro (Le.mk hB [0, 1] ⟨(by dsimp only; first | (rw [cntL_take (by omega), if_pos (by show (hasY y _ && _) = true; rw [hyt, hbb]; rfl)]; rfl) | (rw [cntL_take (by omega), if_neg (by show ¬ (hasY y _ && _) = true; rw [hyt, hbb]; simp)]; rfl) | (rw [cntL_take (by omega), if_neg (by show ¬ (hasY y _ && _) = true; rw [hyf]; simp)]; rfl)), (by dsimp only; first | (rw [cntL_take (by omega), if_pos hyt]; rfl) | (rw [cntL_take (by omega), if_neg (by rw [hyf]; simp)]; rfl)), rfl, rfl, rfl, rfl, rfl, rfl, rfl, rfl, rfl, rfl, rfl, rfl, rfl, rfl, rfl, rfl, trivial⟩ rfl rfl (Nle rfl)) (by first | omega | (show _ < _; omega) | (simp only []; omega)))
                    · have hb := hbb
                      try simp only [qqT, qqF, qqN, qqM, qqL, qqE] at hb
                      refine VC.skip ?_
                      refine VC.region ?_
                      refine VO.val rfl rfl (OpV.add rfl rfl rfl (by unfold fits; omega)) ?_
                      refine VO.mv rfl rfl rfl rfl ?_
                      refine VO.nil ?_
                      exact Exists.intro (⟨q4 + 1, by omega⟩) (And.intro (Le.mk hB [0, 1] ⟨(by dsimp only; first | (rw [cntL_take (by omega), if_pos (by show (hasY y _ && _) = true; rw [hyt, hbb]; rfl)]; rfl) | (rw [cntL_take (by omega), if_neg (by show ¬ (hasY y _ && _) = true; rw [hyt, hbb]; simp)]; rfl) | (rw [cntL_take (by omega), if_neg (by show ¬ (hasY y _ && _) = true; rw [hyf]; simp)]; rfl)), (by dsimp only; first | (rw [cntL_take (by omega), if_pos hyt]; rfl) | (rw [cntL_take (by omega), if_neg (by rw [hyf]; simp)]; rfl)), rfl, rfl, rfl, rfl, rfl, rfl, rfl, rfl, rfl, rfl, rfl, rfl, rfl, rfl, rfl, rfl, trivial⟩ rfl rfl (Nle rfl)) (by first | omega | (show _ < _; omega) | (simp only []; omega)))
                  · have aH8 := aH8b
                    try simp only [qqT, qqF, qqN, qqM, qqL, qqE] at aH8
                    have hyf : hasY y (a.getD q4 default) = false := by unfold hasY; rw [Bool.or_eq_false_iff]; exact ⟨by assumption, by assumption⟩
                    refine VC.skip ?_
                    refine VC.region ?_
                    refine VO.val rfl rfl (OpV.add rfl rfl rfl (by unfold fits; omega)) ?_
                    refine VO.mv rfl rfl rfl rfl ?_
                    refine VO.nil ?_
                    exact Exists.intro (⟨q4 + 1, by omega⟩) (And.intro (Le.mk hB [0, 1] ⟨(by dsimp only; first | (rw [cntL_take (by omega), if_pos (by show (hasY y _ && _) = true; rw [hyt, hbb]; rfl)]; rfl) | (rw [cntL_take (by omega), if_neg (by show ¬ (hasY y _ && _) = true; rw [hyt, hbb]; simp)]; rfl) | (rw [cntL_take (by omega), if_neg (by show ¬ (hasY y _ && _) = true; rw [hyf]; simp)]; rfl)), (by dsimp only; first | (rw [cntL_take (by omega), if_pos hyt]; rfl) | (rw [cntL_take (by omega), if_neg (by rw [hyf]; simp)]; rfl)), rfl, rfl, rfl, rfl, rfl, rfl, rfl, rfl, rfl, rfl, rfl, rfl, rfl, rfl, rfl, rfl, trivial⟩ rfl rfl (Nle rfl)) (by first | omega | (show _ < _; omega) | (simp only []; omega)))
                · replace aK7b : _ = true := aK7b
                  have aK7 := aK7b
                  try simp only [qqT, qqF, qqN, qqM, qqL, qqE] at aK7
                  refine VO.opX rfl rfl rfl rfl aK7b ?_
                  refine VO.opX rfl rfl rfl rfl aK7b ?_
                  refine VO.opX rfl rfl rfl rfl aK7b ?_
                  refine VO.opX rfl rfl rfl rfl aK7b ?_
                  refine VO.val rfl rfl (OpV.pickT rfl rfl rfl rfl aK7b) ?_
                  refine VO.nil ?_
                  refine VC.condT rfl rfl ?_
                  have hyt : hasY y (a.getD q4 default) = true := by unfold hasY; rw [Bool.or_eq_true]; first | exact .inl (by assumption) | exact .inr (by assumption)
                  refine VC.sr ?_
                  refine VO.mv rfl rfl rfl rfl ?_
                  refine VO.val rfl rfl (OpV.add rfl rfl rfl (by unfold fits; omega)) ?_
                  refine VO.ma rfl rfl rfl rfl ?_
                  refine VO.nil ?_
                  refine VC.sr ?_
                  refine VO.val rfl rfl (OpV.fieldAddrO 4 rfl Tryz.underlying66 rfl rfl Tryz.sizeOf4 rfl) ?_
                  refine VO.val rfl rfl (OpV.load_own (i := 2) rfl hB Tryz.isAgg4 rfl rfl rfl (fun h => h)) ?_
                  refine VO.nil ?_
                  refine VC.cond rfl (fun hbb => ?_) (fun hbb => ?_)
                  · have hb := hbb
                    try simp only [qqT, qqF, qqN, qqM, qqL, qqE] at hb
                    refine VC.region ?_
                    refine VO.mv rfl rfl rfl rfl ?_
                    refine VO.val rfl rfl (OpV.add rfl rfl rfl (by unfold fits; omega)) ?_
                    refine VO.ma rfl rfl rfl rfl ?_
                    refine VO.nil ?_
                    refine VC.region ?_
                    refine VO.val rfl rfl (OpV.add rfl rfl rfl (by unfold fits; omega)) ?_
                    refine VO.mv rfl rfl rfl rfl ?_
                    refine VO.nil ?_
                    exact Exists.intro (⟨q4 + 1, by omega⟩) (And.intro (Le.mk hB [0, 1] ⟨(by dsimp only; first | (rw [cntL_take (by omega), if_pos (by show (hasY y _ && _) = true; rw [hyt, hbb]; rfl)]; rfl) | (rw [cntL_take (by omega), if_neg (by show ¬ (hasY y _ && _) = true; rw [hyt, hbb]; simp)]; rfl) | (rw [cntL_take (by omega), if_neg (by show ¬ (hasY y _ && _) = true; rw [hyf]; simp)]; rfl)), (by dsimp only; first | (rw [cntL_take (by omega), if_pos hyt]; rfl) | (rw [cntL_take (by omega), if_neg (by rw [hyf]; simp)]; rfl)), rfl, rfl, rfl, rfl, rfl, rfl, rfl, rfl, rfl, rfl, rfl, rfl, rfl, rfl, rfl, rfl, trivial⟩ rfl rfl (Nle rfl)) (by first | omega | (show _ < _; omega) | (simp only []; omega)))
                  · have hb := hbb
                    try simp only [qqT, qqF, qqN, qqM, qqL, qqE] at hb
                    refine VC.skip ?_
                    refine VC.region ?_
                    refine VO.val rfl rfl (OpV.add rfl rfl rfl (by unfold fits; omega)) ?_
                    refine VO.mv rfl rfl rfl rfl ?_
                    refine VO.nil ?_
                    exact Exists.intro (⟨q4 + 1, by omega⟩) (And.intro (Le.mk hB [0, 1] ⟨(by dsimp only; first | (rw [cntL_take (by omega), if_pos (by show (hasY y _ && _) = true; rw [hyt, hbb]; rfl)]; rfl) | (rw [cntL_take (by omega), if_neg (by show ¬ (hasY y _ && _) = true; rw [hyt, hbb]; simp)]; rfl) | (rw [cntL_take (by omega), if_neg (by show ¬ (hasY y _ && _) = true; rw [hyf]; simp)]; rfl)), (by dsimp only; first | (rw [cntL_take (by omega), if_pos hyt]; rfl) | (rw [cntL_take (by omega), if_neg (by rw [hyf]; simp)]; rfl)), rfl, rfl, rfl, rfl, rfl, rfl, rfl, rfl, rfl, rfl, rfl, rfl, rfl, rfl, rfl, rfl, trivial⟩ rfl rfl (Nle rfl)) (by first | omega | (show _ < _; omega) | (simp only []; omega)))
              · have aH6 := aH6b
                try simp only [qqT, qqF, qqN, qqM, qqL, qqE] at aH6
                obtain rfl : q4 = a.length := by omega
                rw [List.take_length] at hc1 hc2 ⊢
                have hO2 : ok = true → r35 ≤ (cntL (hasY y) a : Int) → (cntL (fun z => hasY y z && z.bad) a : Int) * (fb : Int) ≤ (fa : Int) * (cntL (hasY y) a : Int) ∧ ((cntL (fun z => hasY y z && z.bad) a : Int) * (fb : Int) = (fa : Int) * (cntL (hasY y) a : Int) → sLt y K = false) := by
                  rw [← hy]; exact fun h h2 => hO.best h i r (by omega) (by omega) h2
                have hO3 : ok = false → r35 ≤ (cntL (hasY y) a : Int) → (cntL (fun z => hasY y z && z.bad) a : Int) * 1000000 * (mb : Int) ≤ (ma : Int) * (cntL (hasY y) a : Int) := by
                  rw [← hy]; exact fun h h2 => hO.none_ h i r (by omega) (by omega) h2
                obtain ⟨na, hna⟩ : ∃ na, cntL (fun z => hasY y z && z.bad) a = na := ⟨_, rfl⟩
                obtain ⟨nd, hnd⟩ : ∃ nd, cntL (hasY y) a = nd := ⟨_, rfl⟩
                rw [hna] at hc1 hO2 hO3 ⊢
                rw [hnd] at hc2 hO2 hO3 ⊢
                refine VC.exit ?_
                refine VC.seq ?_
                refine VC.sr ?_
                refine VO.mv rfl rfl rfl rfl ?_
                refine VO.mv rfl rfl rfl rfl ?_
                refine VO.val rfl rfl (OpV.geq rfl rfl rfl) ?_
                refine VO.mv rfl rfl rfl rfl ?_
                refine VO.opG rfl rfl rfl rfl (fun aK9b => ?_) (fun aK9b => ?_)
                · replace aK9b : _ = true := aK9b
                  have aK9 := aK9b
                  try simp only [qqT, qqF, qqN, qqM, qqL, qqE] at aK9
                  refine OpE.val (W := NoB) (OpV.move (.inl rfl) rfl) rfl ?_
                  refine VO.val rfl rfl (OpV.pickT rfl rfl rfl rfl aK9b) ?_
                  refine VO.mv rfl rfl rfl rfl ?_
                  refine VO.opG rfl rfl rfl rfl (fun aK10b => ?_) (fun aK10b => ?_)
                  · replace aK10b : _ = true := aK10b
                    have aK10 := aK10b
                    try simp only [qqT, qqF, qqN, qqM, qqL, qqE] at aK10
                    refine OpE.val (W := NoB) (OpV.move (.inl rfl) rfl) rfl ?_
                    refine VO.opY rfl rfl rfl rfl aK10b ?_
                    refine OpE.val (W := NoB) (OpV.fieldAddrO 1 rfl Tryz.underlying74 rfl rfl Tryz.sizeOf3 rfl) rfl ?_
                    refine VO.opY rfl rfl rfl rfl aK10b ?_
                    refine OpE.val (W := NoB) (OpV.load_own (i := 0) rfl hB Tryz.isAgg3 rfl rfl rfl (fun h => h)) rfl ?_
                    refine VO.opY rfl rfl rfl rfl aK10b ?_
                    refine OpE.val (W := NoB) (OpV.mul rfl rfl rfl (by have h := prodC (a := (na : Int)) (b := (fb : Int)) (A := 18) (B := 2000000) (by omega) (by omega) (by omega) (by omega); unfold fits; omega)) rfl ?_
                    refine VO.opY rfl rfl rfl rfl aK10b ?_
                    refine OpE.val (W := NoB) (OpV.fieldAddrO 0 rfl Tryz.underlying74 rfl rfl Tryz.sizeOf3 rfl) rfl ?_
                    refine VO.opY rfl rfl rfl rfl aK10b ?_
                    refine OpE.val (W := NoB) (OpV.load_own (i := 0) rfl hB Tryz.isAgg3 rfl rfl rfl (fun h => h)) rfl ?_
                    refine VO.opY rfl rfl rfl rfl aK10b ?_
                    refine OpE.val (W := NoB) (OpV.move (.inl rfl) rfl) rfl ?_
                    refine VO.opY rfl rfl rfl rfl aK10b ?_
                    refine OpE.val (W := NoB) (OpV.mul rfl rfl rfl (by have h := prodC (a := (fa : Int)) (b := (nd : Int)) (A := 2000000) (B := 18) (by omega) (by omega) (by omega) (by omega); unfold fits; omega)) rfl ?_
                    refine VO.opY rfl rfl rfl rfl aK10b ?_
                    refine OpE.val (W := NoB) (OpV.gtr rfl rfl rfl) rfl ?_
                    refine VO.le _ (Le.boolF (t := 174) rfl (decide_eq_false (by have h := (hO2 (by assumption) (by omega)).1; omega))) ?_
                    refine VO.opY rfl rfl rfl rfl aK10b ?_
                    refine OpE.val (W := NoB) (OpV.move (.inl rfl) rfl) rfl ?_
                    refine VO.opY rfl rfl rfl rfl rfl ?_
                    refine OpE.val (W := NoB) (OpV.move (.inl rfl) rfl) rfl ?_
                    refine VO.opY rfl rfl rfl rfl rfl ?_
                    refine OpE.val (W := NoB) (OpV.fieldAddrO 1 rfl Tryz.underlying74 rfl rfl Tryz.sizeOf3 rfl) rfl ?_
                    refine VO.opY rfl rfl rfl rfl rfl ?_
                    refine OpE.val (W := NoB) (OpV.load_own (i := 0) rfl hB Tryz.isAgg3 rfl rfl rfl (fun h => h)) rfl ?_
                    refine VO.opY rfl rfl rfl rfl rfl ?_
                    refine OpE.val (W := NoB) (OpV.mul rfl rfl rfl (by have h := prodC (a := (na : Int)) (b := (fb : Int)) (A := 18) (B := 2000000) (by omega) (by omega) (by omega) (by omega); unfold fits; omega)) rfl ?_
                    refine VO.opY rfl rfl rfl rfl rfl ?_
                    refine OpE.val (W := NoB) (OpV.fieldAddrO 0 rfl Tryz.underlying74 rfl rfl Tryz.sizeOf3 rfl) rfl ?_
                    refine VO.opY rfl rfl rfl rfl rfl ?_
                    refine OpE.val (W := NoB) (OpV.load_own (i := 0) rfl hB Tryz.isAgg3 rfl rfl rfl (fun h => h)) rfl ?_
                    refine VO.opY rfl rfl rfl rfl rfl ?_
                    refine OpE.val (W := NoB) (OpV.move (.inl rfl) rfl) rfl ?_
                    refine VO.opY rfl rfl rfl rfl rfl ?_
                    refine OpE.val (W := NoB) (OpV.mul rfl rfl rfl (by have h := prodC (a := (fa : Int)) (b := (nd : Int)) (A := 2000000) (B := 18) (by omega) (by omega) (by omega) (by omega); unfold fits; omega)) rfl ?_
                    refine VO.opY rfl rfl rfl rfl rfl ?_
                    refine OpE.val (W := NoB) (OpV.eql rfl rfl rfl) rfl ?_
                    refine VO.opY rfl rfl rfl rfl rfl ?_
                    refine OpE.val (W := NoB) (OpV.move (.inl rfl) rfl) rfl ?_
                    refine VO.opG rfl rfl rfl rfl (fun aK11b => ?_) (fun aK11b => ?_)
                    · replace aK11b : _ = true := aK11b
                      have aK11 := aK11b
                      try simp only [qqT, qqF, qqN, qqM, qqL, qqE] at aK11
                      refine OpE.val (W := NoB) (OpV.move (.inl rfl) rfl) rfl ?_
                      refine VO.opY rfl rfl rfl rfl aK11b ?_
                      refine OpE.val (W := NoB) (OpV.move (.inl rfl) rfl) rfl ?_
                      refine VO.opY rfl rfl rfl rfl aK11b ?_
                      refine OpE.val (W := NoB) (OpV.slss rfl rfl rfl) rfl ?_
                      refine VO.le _ (Le.boolF (t := 188) rfl ((hO2 (by assumption) (by omega)).2 (by omega))) ?_
                      refine VO.opY rfl rfl rfl rfl rfl ?_
                      refine OpE.val (W := NoB) (OpV.pickT rfl rfl rfl rfl aK11b) rfl ?_
                      refine VO.opY rfl rfl rfl rfl aK10b ?_
                      refine OpE.val (W := NoB) (OpV.pickF rfl rfl rfl rfl rfl) rfl ?_
                      refine VO.val rfl rfl (OpV.pickT rfl rfl rfl rfl aK10b) ?_
                      refine VO.nil ?_
                      refine VC.condF rfl rfl ?_
                      refine VC.skip ?_
                      refine VC.sr ?_
                      refine VO.mv rfl rfl rfl rfl ?_
                      refine VO.mv rfl rfl rfl rfl ?_
                      refine VO.val rfl rfl (OpV.geq rfl rfl rfl) ?_
                      refine VO.mv rfl rfl rfl rfl ?_
                      refine VO.opG rfl rfl rfl rfl (fun aK12b => ?_) (fun aK12b => ?_)
                      · replace aK12b : _ = true := aK12b
                        have aK12 := aK12b
                        try simp only [qqT, qqF, qqN, qqM, qqL, qqE] at aK12
                        refine OpE.val (W := NoB) (OpV.move (.inl rfl) rfl) rfl ?_
                        refine VO.opY rfl rfl rfl rfl aK12b ?_
                        refine OpE.val (W := NoB) (OpV.not rfl rfl) rfl ?_
                        refine VO.val rfl rfl (OpV.pickT rfl rfl rfl rfl aK12b) ?_
                        refine VO.mv rfl rfl rfl rfl ?_
                        refine VO.opG rfl rfl rfl rfl (fun aK13b => ?_) (fun aK13b => ?_)
                        · replace aK13b : _ = true := aK13b
                          have aK13 := aK13b
                          try simp only [qqT, qqF, qqN, qqM, qqL, qqE] at aK13
                          refine OpE.val (W := NoB) (OpV.move (.inl rfl) rfl) rfl ?_
                          refine VO.opY rfl rfl rfl rfl aK13b ?_
                          refine OpE.val (W := NoB) (OpV.mul rfl rfl rfl (by unfold fits; omega)) rfl ?_
                          refine VO.opY rfl rfl rfl rfl aK13b ?_
                          refine OpE.val (W := NoB) (OpV.fieldAddrO 1 rfl Tryz.underlying74 rfl rfl Tryz.sizeOf3 rfl) rfl ?_
                          refine VO.opY rfl rfl rfl rfl aK13b ?_
                          refine OpE.val (W := NoB) (OpV.load_own (i := 1) rfl hB Tryz.isAgg3 rfl rfl rfl (fun h => h)) rfl ?_
                          refine VO.opY rfl rfl rfl rfl aK13b ?_
                          refine OpE.val (W := NoB) (OpV.mul rfl rfl rfl (by have h := prodC (a := (na : Int) * 1000000) (b := (mb : Int)) (A := 18000000) (B := 18) (by omega) (by omega) (by omega) (by omega); unfold fits; omega)) rfl ?_
                          refine VO.opY rfl rfl rfl rfl aK13b ?_
                          refine OpE.val (W := NoB) (OpV.fieldAddrO 0 rfl Tryz.underlying74 rfl rfl Tryz.sizeOf3 rfl) rfl ?_
                          refine VO.opY rfl rfl rfl rfl aK13b ?_
                          refine OpE.val (W := NoB) (OpV.load_own (i := 1) rfl hB Tryz.isAgg3 rfl rfl rfl (fun h => h)) rfl ?_
                          refine VO.opY rfl rfl rfl rfl aK13b ?_
                          refine OpE.val (W := NoB) (OpV.move (.inl rfl) rfl) rfl ?_
                          refine VO.opY rfl rfl rfl rfl aK13b ?_
                          refine OpE.val (W := NoB) (OpV.mul rfl rfl rfl (by have h := prodC (a := (ma : Int)) (b := (nd : Int)) (A := 18000000) (B := 18) (by omega) (by omega) (by omega) (by omega); unfold fits; omega)) rfl ?_
                          refine VO.opY rfl rfl rfl rfl aK13b ?_
                          refine OpE.val (W := NoB) (OpV.gtr rfl rfl rfl) rfl ?_
                          refine VO.le _ (Le.boolF (t := 209) rfl (decide_eq_false (by have h := hO3 (not_true_false (by assumption)) (by omega); omega))) ?_
                          refine VO.val rfl rfl (OpV.pickT rfl rfl rfl rfl aK13b) ?_
                          refine VO.nil ?_
                          refine VC.condF rfl rfl ?_
                          refine VC.skip ?_
                          refine VC.region ?_
                          refine VO.val rfl rfl (OpV.add rfl rfl rfl (by unfold fits; omega)) ?_
                          refine VO.mv rfl rfl rfl rfl ?_
                          refine VO.nil ?_
                          exact Exists.intro (⟨r + 1, by omega⟩) (And.intro (Le.mk hB [0, 1] ⟨rfl, rfl, rfl, rfl, rfl, rfl, rfl, rfl, rfl, rfl, rfl, rfl, trivial⟩ rfl rfl (Nle rfl)) (by first | omega | (show _ < _; omega) | (simp only []; omega)))
                        · replace aK13b : _ = false := aK13b
                          have aK13 := aK13b
                          try simp only [qqT, qqF, qqN, qqM, qqL, qqE] at aK13
                          refine VO.opX rfl rfl rfl rfl aK13b ?_
                          refine VO.opX rfl rfl rfl rfl aK13b ?_
                          refine VO.opX rfl rfl rfl rfl aK13b ?_
                          refine VO.opX rfl rfl rfl rfl aK13b ?_
                          refine VO.opX rfl rfl rfl rfl aK13b ?_
                          refine VO.opX rfl rfl rfl rfl aK13b ?_
                          refine VO.opX rfl rfl rfl rfl aK13b ?_
                          refine VO.opX rfl rfl rfl rfl aK13b ?_
                          refine VO.opX rfl rfl rfl rfl aK13b ?_
                          refine VO.val rfl rfl (OpV.pickF rfl rfl rfl rfl aK13b) ?_
                          refine VO.nil ?_
                          refine VC.condF rfl rfl ?_
                          refine VC.skip ?_
                          refine VC.region ?_
                          refine VO.val rfl rfl (OpV.add rfl rfl rfl (by unfold fits; omega)) ?_
                          refine VO.mv rfl rfl rfl rfl ?_
                          refine VO.nil ?_
                          exact Exists.intro (⟨r + 1, by omega⟩) (And.intro (Le.mk hB [0, 1] ⟨rfl, rfl, rfl, rfl, rfl, rfl, rfl, rfl, rfl, rfl, rfl, rfl, trivial⟩ rfl rfl (Nle rfl)) (by first | omega | (show _ < _; omega) | (simp only []; omega)))
                      · replace aK12b : _ = false := aK12b
                        have aK12 := aK12b
                        try simp only [qqT, qqF, qqN, qqM, qqL, qqE] at aK12
                        refine VO.opX rfl rfl rfl rfl aK12b ?_
                        refine VO.val rfl rfl (OpV.pickF rfl rfl rfl rfl aK12b) ?_
                        refine VO.mv rfl rfl rfl rfl ?_
                        refine VO.opX rfl rfl rfl rfl rfl ?_
                        refine VO.opX rfl rfl rfl rfl rfl ?_
                        refine VO.opX rfl rfl rfl rfl rfl ?_
                        refine VO.opX rfl rfl rfl rfl rfl ?_
                        refine VO.opX rfl rfl rfl rfl rfl ?_
                        refine VO.opX rfl rfl rfl rfl rfl ?_
                        refine VO.opX rfl rfl rfl rfl rfl ?_
                        refine VO.opX rfl rfl rfl rfl rfl ?_
                        refine VO.opX rfl rfl rfl rfl rfl ?_
                        refine VO.opX rfl rfl rfl rfl rfl ?_
                        refine VO.val rfl rfl (OpV.pickF rfl rfl rfl rfl rfl) ?_
                        refine VO.nil ?_
                        refine VC.condF rfl rfl ?_
                        refine VC.skip ?_
                        refine VC.region ?_
                        refine VO.val rfl rfl (OpV.add rfl rfl rfl (by unfold fits; omega)) ?_
                        refine VO.mv rfl rfl rfl rfl ?_
                        refine VO.nil ?_
                        exact Exists.intro (⟨r + 1, by omega⟩) (And.intro (Le.mk hB [0, 1] ⟨rfl, rfl, rfl, rfl, rfl, rfl, rfl, rfl, rfl, rfl, rfl, rfl, trivial⟩ rfl rfl (Nle rfl)) (by first | omega | (show _ < _; omega) | (simp only []; omega)))
                    · replace aK11b : _ = false := aK11b
                      have aK11 := aK11b
                      try simp only [qqT, qqF, qqN, qqM, qqL, qqE] at aK11
                      refine VO.opX rfl rfl rfl rfl aK11b ?_
                      refine VO.opX rfl rfl rfl rfl aK11b ?_
                      refine VO.opY rfl rfl rfl rfl rfl ?_
                      refine OpE.val (W := NoB) (OpV.pickF rfl rfl rfl rfl aK11b) rfl ?_
                      refine VO.opY rfl rfl rfl rfl aK10b ?_
                      refine OpE.val (W := NoB) (OpV.pickF rfl rfl rfl rfl rfl) rfl ?_
                      refine VO.val rfl rfl (OpV.pickT rfl rfl rfl rfl aK10b) ?_
                      refine VO.nil ?_
                      refine VC.condF rfl rfl ?_
                      refine VC.skip ?_
                      refine VC.sr ?_
                      refine VO.mv rfl rfl rfl rfl ?_
                      refine VO.mv rfl rfl rfl rfl ?_
                      refine VO.val rfl rfl (OpV.geq rfl rfl rfl) ?_
                      refine VO.mv rfl rfl rfl rfl ?_
                      refine VO.opG rfl rfl rfl rfl (fun aK14b => ?_) (fun aK14b => ?_)
                      · replace aK14b : _ = true := aK14b
                        have aK14 := aK14b
                        try simp only [qqT, qqF, qqN, qqM, qqL, qqE] at aK14
                        refine OpE.val (W := NoB) (OpV.move (.inl rfl) rfl) rfl ?_
                        refine VO.opY rfl rfl rfl rfl aK14b ?_
                        refine OpE.val (W := NoB) (OpV.not rfl rfl) rfl ?_
                        refine VO.val rfl rfl (OpV.pickT rfl rfl rfl rfl aK14b) ?_
                        refine VO.mv rfl rfl rfl rfl ?_
                        refine VO.opG rfl rfl rfl rfl (fun aK15b => ?_) (fun aK15b => ?_)
                        · replace aK15b : _ = true := aK15b
                          have aK15 := aK15b
                          try simp only [qqT, qqF, qqN, qqM, qqL, qqE] at aK15
                          refine OpE.val (W := NoB) (OpV.move (.inl rfl) rfl) rfl ?_
                          refine VO.opY rfl rfl rfl rfl aK15b ?_
                          refine OpE.val (W := NoB) (OpV.mul rfl rfl rfl (by unfold fits; omega)) rfl ?_
                          refine VO.opY rfl rfl rfl rfl aK15b ?_
                          refine OpE.val (W := NoB) (OpV.fieldAddrO 1 rfl Tryz.underlying74 rfl rfl Tryz.sizeOf3 rfl) rfl ?_
                          refine VO.opY rfl rfl rfl rfl aK15b ?_
                          refine OpE.val (W := NoB) (OpV.load_own (i := 1) rfl hB Tryz.isAgg3 rfl rfl rfl (fun h => h)) rfl ?_
                          refine VO.opY rfl rfl rfl rfl aK15b ?_
                          refine OpE.val (W := NoB) (OpV.mul rfl rfl rfl (by have h := prodC (a := (na : Int) * 1000000) (b := (mb : Int)) (A := 18000000) (B := 18) (by omega) (by omega) (by omega) (by omega); unfold fits; omega)) rfl ?_
                          refine VO.opY rfl rfl rfl rfl aK15b ?_
                          refine OpE.val (W := NoB) (OpV.fieldAddrO 0 rfl Tryz.underlying74 rfl rfl Tryz.sizeOf3 rfl) rfl ?_
                          refine VO.opY rfl rfl rfl rfl aK15b ?_
                          refine OpE.val (W := NoB) (OpV.load_own (i := 1) rfl hB Tryz.isAgg3 rfl rfl rfl (fun h => h)) rfl ?_
                          refine VO.opY rfl rfl rfl rfl aK15b ?_
                          refine OpE.val (W := NoB) (OpV.move (.inl rfl) rfl) rfl ?_
                          refine VO.opY rfl rfl rfl rfl aK15b ?_
                          refine OpE.val (W := NoB) (OpV.mul rfl rfl rfl (by have h := prodC (a := (ma : Int)) (b := (nd : Int)) (A := 18000000) (B := 18) (by omega) (by omega) (by omega) (by omega); unfold fits; omega)) rfl ?_
                          refine VO.opY rfl rfl rfl rfl aK15b ?_
                          refine OpE.val (W := NoB) (OpV.gtr rfl rfl rfl) rfl ?_
                          refine VO.le _ (Le.boolF (t := 209) rfl (decide_eq_false (by have h := hO3 (not_true_false (by assumption)) (by omega); omega))) ?_
                          refine VO.val rfl rfl (OpV.pickT rfl rfl rfl rfl aK15b) ?_
                          refine VO.nil ?_
                          refine VC.condF rfl rfl ?_
                          refine VC.skip ?_
                          refine VC.region ?_
                          refine VO.val rfl rfl (OpV.add rfl rfl rfl (by unfold fits; omega)) ?_
                          refine VO.mv rfl rfl rfl rfl ?_
                          refine VO.nil ?_
                          exact Exists.intro (⟨r + 1, by omega⟩) (And.intro (Le.mk hB [0, 1] ⟨rfl, rfl, rfl, rfl, rfl, rfl, rfl, rfl, rfl, rfl, rfl, rfl, trivial⟩ rfl rfl (Nle rfl)) (by first | omega | (show _ < _; omega) | (simp only []; omega)))
                        · replace aK15b : _ = false := aK15b
                          have aK15 := aK15b
                          try simp only [qqT, qqF, qqN, qqM, qqL, qqE] at aK15
                          refine VO.opX rfl rfl rfl rfl aK15b ?_
                          refine VO.opX rfl rfl rfl rfl aK15b ?_
                          refine VO.opX rfl rfl rfl rfl aK15b ?_
                          refine VO.opX rfl rfl rfl rfl aK15b ?_
                          refine VO.opX rfl rfl rfl rfl aK15b ?_
                          refine VO.opX rfl rfl rfl rfl aK15b ?_
                          refine VO.opX rfl rfl rfl rfl aK15b ?_
                          refine VO.opX rfl rfl rfl rfl aK15b ?_
                          refine VO.opX rfl rfl rfl rfl aK15b ?_
                          refine VO.val rfl rfl (OpV.pickF rfl rfl rfl rfl aK15b) ?_
                          refine VO.nil ?_
                          refine VC.condF rfl rfl ?_
                          refine VC.skip ?_
                          refine VC.region ?_
                          refine VO.val rfl rfl (OpV.add rfl rfl rfl (by unfold fits; omega)) ?_
                          refine VO.mv rfl rfl rfl rfl ?_
                          refine VO.nil ?_
                          exact Exists.intro (⟨r + 1, by omega⟩) (And.intro (Le.mk hB [0, 1] ⟨rfl, rfl, rfl, rfl, rfl, rfl, rfl, rfl, rfl, rfl, rfl, rfl, trivial⟩ rfl rfl (Nle rfl)) (by first | omega | (show _ < _; omega) | (simp only []; omega)))
                      · replace aK14b : _ = false := aK14b
                        have aK14 := aK14b
                        try simp only [qqT, qqF, qqN, qqM, qqL, qqE] at aK14
                        refine VO.opX rfl rfl rfl rfl aK14b ?_
                        refine VO.val rfl rfl (OpV.pickF rfl rfl rfl rfl aK14b) ?_
                        refine VO.mv rfl rfl rfl rfl ?_
                        refine VO.opX rfl rfl rfl rfl rfl ?_
                        refine VO.opX rfl rfl rfl rfl rfl ?_
                        refine VO.opX rfl rfl rfl rfl rfl ?_
                        refine VO.opX rfl rfl rfl rfl rfl ?_
                        refine VO.opX rfl rfl rfl rfl rfl ?_
                        refine VO.opX rfl rfl rfl rfl rfl ?_
                        refine VO.opX rfl rfl rfl rfl rfl ?_
                        refine VO.opX rfl rfl rfl rfl rfl ?_
                        refine VO.opX rfl rfl rfl rfl rfl ?_
                        refine VO.opX rfl rfl rfl rfl rfl ?_
                        refine VO.val rfl rfl (OpV.pickF rfl rfl rfl rfl rfl) ?_
                        refine VO.nil ?_
                        refine VC.condF rfl rfl ?_
                        refine VC.skip ?_
                        refine VC.region ?_
                        refine VO.val rfl rfl (OpV.add rfl rfl rfl (by unfold fits; omega)) ?_
                        refine VO.mv rfl rfl rfl rfl ?_
                        refine VO.nil ?_
                        exact Exists.intro (⟨r + 1, by omega⟩) (And.intro (Le.mk hB [0, 1] ⟨rfl, rfl, rfl, rfl, rfl, rfl, rfl, rfl, rfl, rfl, rfl, rfl, trivial⟩ rfl rfl (Nle rfl)) (by first | omega | (show _ < _; omega) | (simp only []; omega)))
                  · replace aK10b : _ = false := aK10b
                    have aK10 := aK10b
                    try simp only [qqT, qqF, qqN, qqM, qqL, qqE] at aK10
                    refine VO.opX rfl rfl rfl rfl aK10b ?_
                    refine VO.opX rfl rfl rfl rfl aK10b ?_
                    refine VO.opX rfl rfl rfl rfl aK10b ?_
                    refine VO.opX rfl rfl rfl rfl aK10b ?_
                    refine VO.opX rfl rfl rfl rfl aK10b ?_
                    refine VO.opX rfl rfl rfl rfl aK10b ?_
                    refine VO.opX rfl rfl rfl rfl aK10b ?_
                    refine VO.opX rfl rfl rfl rfl aK10b ?_
                    refine VO.opX rfl rfl rfl rfl aK10b ?_
                    refine VO.opU rfl rfl rfl rfl ?_
                    refine VO.opU rfl rfl rfl rfl ?_
                    refine VO.opU rfl rfl rfl rfl ?_
                    refine VO.opU rfl rfl rfl rfl ?_
                    refine VO.opU rfl rfl rfl rfl ?_
                    refine VO.opU rfl rfl rfl rfl ?_
                    refine VO.opU rfl rfl rfl rfl ?_
                    refine VO.opU rfl rfl rfl rfl ?_
                    refine VO.opU rfl rfl rfl rfl ?_
                    refine VO.opU rfl rfl rfl rfl ?_
                    refine VO.opU rfl rfl rfl rfl ?_
                    refine VO.opU rfl rfl rfl rfl ?_
                    refine VO.opU rfl rfl rfl rfl ?_
                    refine VO.opU rfl rfl rfl rfl ?_
                    refine VO.opX rfl rfl rfl rfl aK10b ?_
                    refine VO.val rfl rfl (OpV.pickF rfl rfl rfl rfl aK10b) ?_
                    refine VO.nil ?_
                    refine VC.condF rfl rfl ?_
                    refine VC.skip ?_
                    refine VC.sr ?_
                    refine VO.mv rfl rfl rfl rfl ?_
                    refine VO.mv rfl rfl rfl rfl ?_
                    refine VO.val rfl rfl (OpV.geq rfl rfl rfl) ?_
                    refine VO.mv rfl rfl rfl rfl ?_
                    refine VO.opG rfl rfl rfl rfl (fun aK16b => ?_) (fun aK16b => ?_)
                    · replace aK16b : _ = true := aK16b
                      have aK16 := aK16b
                      try simp only [qqT, qqF, qqN, qqM, qqL, qqE] at aK16
                      refine OpE.val (W := NoB) (OpV.move (.inl rfl) rfl) rfl ?_
                      refine VO.opY rfl rfl rfl rfl aK16b ?_
                      refine OpE.val (W := NoB) (OpV.not rfl rfl) rfl ?_
                      refine VO.val rfl rfl (OpV.pickT rfl rfl rfl rfl aK16b) ?_
                      refine VO.mv rfl rfl rfl rfl ?_
                      refine VO.opG rfl rfl rfl rfl (fun aK17b => ?_) (fun aK17b => ?_)
                      · replace aK17b : _ = true := aK17b
                        have aK17 := aK17b
                        try simp only [qqT, qqF, qqN, qqM, qqL, qqE] at aK17
                        refine OpE.val (W := NoB) (OpV.move (.inl rfl) rfl) rfl ?_
                        refine VO.opY rfl rfl rfl rfl aK17b ?_
                        refine OpE.val (W := NoB) (OpV.mul rfl rfl rfl (by unfold fits; omega)) rfl ?_
                        refine VO.opY rfl rfl rfl rfl aK17b ?_
                        refine OpE.val (W := NoB) (OpV.fieldAddrO 1 rfl Tryz.underlying74 rfl rfl Tryz.sizeOf3 rfl) rfl ?_
                        refine VO.opY rfl rfl rfl rfl aK17b ?_
                        refine OpE.val (W := NoB) (OpV.load_own (i := 1) rfl hB Tryz.isAgg3 rfl rfl rfl (fun h => h)) rfl ?_
                        refine VO.opY rfl rfl rfl rfl aK17b ?_
                        refine OpE.val (W := NoB) (OpV.mul rfl rfl rfl (by have h := prodC (a := (na : Int) * 1000000) (b := (mb : Int)) (A := 18000000) (B := 18) (by omega) (by omega) (by omega) (by omega); unfold fits; omega)) rfl ?_
                        refine VO.opY rfl rfl rfl rfl aK17b ?_
                        refine OpE.val (W := NoB) (OpV.fieldAddrO 0 rfl Tryz.underlying74 rfl rfl Tryz.sizeOf3 rfl) rfl ?_
                        refine VO.opY rfl rfl rfl rfl aK17b ?_
                        refine OpE.val (W := NoB) (OpV.load_own (i := 1) rfl hB Tryz.isAgg3 rfl rfl rfl (fun h => h)) rfl ?_
                        refine VO.opY rfl rfl rfl rfl aK17b ?_
                        refine OpE.val (W := NoB) (OpV.move (.inl rfl) rfl) rfl ?_
                        refine VO.opY rfl rfl rfl rfl aK17b ?_
                        refine OpE.val (W := NoB) (OpV.mul rfl rfl rfl (by have h := prodC (a := (ma : Int)) (b := (nd : Int)) (A := 18000000) (B := 18) (by omega) (by omega) (by omega) (by omega); unfold fits; omega)) rfl ?_
                        refine VO.opY rfl rfl rfl rfl aK17b ?_
                        refine OpE.val (W := NoB) (OpV.gtr rfl rfl rfl) rfl ?_
                        refine VO.le _ (Le.boolF (t := 209) rfl (decide_eq_false (by have h := hO3 (not_true_false (by assumption)) (by omega); omega))) ?_
                        refine VO.val rfl rfl (OpV.pickT rfl rfl rfl rfl aK17b) ?_
                        refine VO.nil ?_
                        refine VC.condF rfl rfl ?_
                        refine VC.skip ?_
                        refine VC.region ?_
                        refine VO.val rfl rfl (OpV.add rfl rfl rfl (by unfold fits; omega)) ?_
                        refine VO.mv rfl rfl rfl rfl ?_
                        refine VO.nil ?_
                        exact Exists.intro (⟨r + 1, by omega⟩) (And.intro (Le.mk hB [0, 1] ⟨rfl, rfl, rfl, rfl, rfl, rfl, rfl, rfl, rfl, rfl, rfl, rfl, trivial⟩ rfl rfl (Nle rfl)) (by first | omega | (show _ < _; omega) | (simp only []; omega)))
                      · replace aK17b : _ = false := aK17b
                        have aK17 := aK17b
                        try simp only [qqT, qqF, qqN, qqM, qqL, qqE] at aK17
                        refine VO.opX rfl rfl rfl rfl aK17b ?_
                        refine VO.opX rfl rfl rfl rfl aK17b ?_
                        refine VO.opX rfl rfl rfl rfl aK17b ?_
                        refine VO.opX rfl rfl rfl rfl aK17b ?_
                        refine VO.opX rfl rfl rfl rfl aK17b ?_
                        refine VO.opX rfl rfl rfl rfl aK17b ?_
                        refine VO.opX rfl rfl rfl rfl aK17b ?_
                        refine VO.opX rfl rfl rfl rfl aK17b ?_
                        refine VO.opX rfl rfl rfl rfl aK17b ?_
                        refine VO.val rfl rfl (OpV.pickF rfl rfl rfl rfl aK17b) ?_
                        refine VO.nil ?_
                        refine VC.condF rfl rfl ?_
                        refine VC.skip ?_
                        refine VC.region ?_
                        refine VO.val rfl rfl (OpV.add rfl rfl rfl (by unfold fits; omega)) ?_
                        refine VO.mv rfl rfl rfl rfl ?_
                        refine VO.nil ?_
                        exact Exists.intro (⟨r + 1, by omega⟩) (And.intro (Le.mk hB [0, 1] ⟨rfl, rfl, rfl, rfl, rfl, rfl, rfl, rfl, rfl, rfl, rfl, rfl, trivial⟩ rfl rfl (Nle rfl)) (by first | omega | (show _ < _; omega) | (simp only []; omega)))
                    · replace aK16b : _ = false := aK16b
                      have aK16 := aK16b
                      try simp only [qqT, qqF, qqN, qqM, qqL, qqE] at aK16
                      refine VO.opX rfl rfl rfl rfl aK16b ?_
                      refine VO.val rfl rfl (OpV.pickF rfl rfl rfl rfl aK16b) ?_
                      refine VO.mv rfl rfl rfl rfl ?_
                      refine VO.opX rfl rfl rfl rfl rfl ?_
                      refine VO.opX rfl rfl rfl rfl rfl ?_
                      refine VO.opX rfl rfl rfl rfl rfl ?_
                      refine VO.opX rfl rfl rfl rfl rfl ?_
                      refine VO.opX rfl rfl rfl rfl rfl ?_
                      refine VO.opX rfl rfl rfl rfl rfl ?_
                      refine VO.opX rfl rfl rfl rfl rfl ?_
                      refine VO.opX rfl rfl rfl rfl rfl ?_
                      refine VO.opX rfl rfl rfl rfl rfl ?_
                      refine VO.opX rfl rfl rfl rfl rfl ?_
                      refine VO.val rfl rfl (OpV.pickF rfl rfl rfl rfl rfl) ?_
                      refine VO.nil ?_
                      refine VC.condF rfl rfl ?_
                      refine VC.skip ?_
                      refine VC.region ?_
                      refine VO.val rfl rfl (OpV.add rfl rfl rfl (by unfold fits; omega)) ?_
                      refine VO.mv rfl rfl rfl rfl ?_
                      refine VO.nil ?_
                      exact Exists.intro (⟨r + 1, by omega⟩) (And.intro (Le.mk hB [0, 1] ⟨rfl, rfl, rfl, rfl, rfl, rfl, rfl, rfl, rfl, rfl, rfl, rfl, trivial⟩ rfl rfl (Nle rfl)) (by first | omega | (show _ < _; omega) | (simp only []; omega)))
                · replace aK9b : _ = false := aK9b
                  have aK9 := aK9b
                  try simp only [qqT, qqF, qqN, qqM, qqL, qqE] at aK9
                  refine VO.val rfl rfl (OpV.pickF rfl rfl rfl rfl aK9b) ?_
                  refine VO.mv rfl rfl rfl rfl ?_
                  refine VO.opX rfl rfl rfl rfl rfl ?_
                  refine VO.opX rfl rfl rfl rfl rfl ?_
                  refine VO.opX rfl rfl rfl rfl rfl ?_
                  refine VO.opX rfl rfl rfl rfl rfl ?_
                  refine VO.opX rfl rfl rfl rfl rfl ?_
                  refine VO.opX rfl rfl rfl rfl rfl ?_
                  refine VO.opX rfl rfl rfl rfl rfl ?_
                  refine VO.opX rfl rfl rfl rfl rfl ?_
                  refine VO.opX rfl rfl rfl rfl rfl ?_
                  refine VO.opX rfl rfl rfl rfl rfl ?_
                  refine VO.opU rfl rfl rfl rfl ?_
                  refine VO.opU rfl rfl rfl rfl ?_
                  refine VO.opU rfl rfl rfl rfl ?_
                  refine VO.opU rfl rfl rfl rfl ?_
                  refine VO.opU rfl rfl rfl rfl ?_
                  refine VO.opU rfl rfl rfl rfl ?_
                  refine VO.opU rfl rfl rfl rfl ?_
                  refine VO.opU rfl rfl rfl rfl ?_
                  refine VO.opU rfl rfl rfl rfl ?_
                  refine VO.opU rfl rfl rfl rfl ?_
                  refine VO.opU rfl rfl rfl rfl ?_
                  refine VO.opU rfl rfl rfl rfl ?_
                  refine VO.opU rfl rfl rfl rfl ?_
                  refine VO.opU rfl rfl rfl rfl ?_
                  refine VO.opX rfl rfl rfl rfl rfl ?_
                  refine VO.val rfl rfl (OpV.pickF rfl rfl rfl rfl rfl) ?_
                  refine VO.nil ?_
                  refine VC.condF rfl rfl ?_
                  refine VC.skip ?_
                  refine VC.sr ?_
                  refine VO.mv rfl rfl rfl rfl ?_
                  refine VO.mv rfl rfl rfl rfl ?_
                  refine VO.val rfl rfl (OpV.geq rfl rfl rfl) ?_
                  refine VO.mv rfl rfl rfl rfl ?_
                  refine VO.opG rfl rfl rfl rfl (fun aK18b => ?_) (fun aK18b => ?_)
                  · replace aK18b : _ = true := aK18b
                    have aK18 := aK18b
                    try simp only [qqT, qqF, qqN, qqM, qqL, qqE] at aK18
                    refine OpE.val (W := NoB) (OpV.move (.inl rfl) rfl) rfl ?_
                    refine VO.opY rfl rfl rfl rfl aK18b ?_
                    refine OpE.val (W := NoB) (OpV.not rfl rfl) rfl ?_
                    refine VO.val rfl rfl (OpV.pickT rfl rfl rfl rfl aK18b) ?_
                    refine VO.mv rfl rfl rfl rfl ?_
                    refine VO.opG rfl rfl rfl rfl (fun aK19b => ?_) (fun aK19b => ?_)
                    · replace aK19b : _ = true := aK19b
                      have aK19 := aK19b
                      try simp only [qqT, qqF, qqN, qqM, qqL, qqE] at aK19
                      refine OpE.val (W := NoB) (OpV.move (.inl rfl) rfl) rfl ?_
                      refine VO.opY rfl rfl rfl rfl aK19b ?_
                      refine OpE.val (W := NoB) (OpV.mul rfl rfl rfl (by unfold fits; omega)) rfl ?_
                      refine VO.opY rfl rfl rfl rfl aK19b ?_
                      refine OpE.val (W := NoB) (OpV.fieldAddrO 1 rfl Tryz.underlying74 rfl rfl Tryz.sizeOf3 rfl) rfl ?_
                      refine VO.opY rfl rfl rfl rfl aK19b ?_
                      refine OpE.val (W := NoB) (OpV.load_own (i := 1) rfl hB Tryz.isAgg3 rfl rfl rfl (fun h => h)) rfl ?_
                      refine VO.opY rfl rfl rfl rfl aK19b ?_
                      refine OpE.val (W := NoB) (OpV.mul rfl rfl rfl (by have h := prodC (a := (na : Int) * 1000000) (b := (mb : Int)) (A := 18000000) (B := 18) (by omega) (by omega) (by omega) (by omega); unfold fits; omega)) rfl ?_
                      refine VO.opY rfl rfl rfl rfl aK19b ?_
                      refine OpE.val (W := NoB) (OpV.fieldAddrO 0 rfl Tryz.underlying74 rfl rfl Tryz.sizeOf3 rfl) rfl ?_
                      refine VO.opY rfl rfl rfl rfl aK19b ?_
                      refine OpE.val (W := NoB) (OpV.load_own (i := 1) rfl hB Tryz.isAgg3 rfl rfl rfl (fun h => h)) rfl ?_
                      refine VO.opY rfl rfl rfl rfl aK19b ?_
                      refine OpE.val (W := NoB) (OpV.move (.inl rfl) rfl) rfl ?_
                      refine VO.opY rfl rfl rfl rfl aK19b ?_
                      refine OpE.val (W := NoB) (OpV.mul rfl rfl rfl (by have h := prodC (a := (ma : Int)) (b := (nd : Int)) (A := 18000000) (B := 18) (by omega) (by omega) (by omega) (by omega); unfold fits; omega)) rfl ?_
                      refine VO.opY rfl rfl rfl rfl aK19b ?_
                      refine OpE.val (W := NoB) (OpV.gtr rfl rfl rfl) rfl ?_
                      refine VO.le _ (Le.boolF (t := 209) rfl (decide_eq_false (by have h := hO3 (not_true_false (by assumption)) (by omega); omega))) ?_
                      refine VO.val rfl rfl (OpV.pickT rfl rfl rfl rfl aK19b) ?_
                      refine VO.nil ?_
                      refine VC.condF rfl rfl ?_
                      refine VC.skip ?_
                      refine VC.region ?_
                      refine VO.val rfl rfl (OpV.add rfl rfl rfl (by unfold fits; omega)) ?_
                      refine VO.mv rfl rfl rfl rfl ?_
                      refine VO.nil ?_
                      exact Exists.intro (⟨r + 1, by omega⟩) (And.intro (Le.mk hB [0, 1] ⟨rfl, rfl, rfl, rfl, rfl, rfl, rfl, rfl, rfl, rfl, rfl, rfl, trivial⟩ rfl rfl (Nle rfl)) (by first | omega | (show _ < _; omega) | (simp only []; omega)))
                    · replace aK19b : _ = false := aK19b
                      have aK19 := aK19b
                      try simp only [qqT, qqF, qqN, qqM, qqL, qqE] at aK19
                      refine VO.opX rfl rfl rfl rfl aK19b ?_
                      refine VO.opX rfl rfl rfl rfl aK19b ?_
                      refine VO.opX rfl rfl rfl rfl aK19b ?_
                      refine VO.opX rfl rfl rfl rfl aK19b ?_
                      refine VO.opX rfl rfl rfl rfl aK19b ?_
                      refine VO.opX rfl rfl rfl rfl aK19b ?_
                      refine VO.opX rfl rfl rfl rfl aK19b ?_
                      refine VO.opX rfl rfl rfl rfl aK19b ?_
                      refine VO.opX rfl rfl rfl rfl aK19b ?_
                      refine VO.val rfl rfl (OpV.pickF rfl rfl rfl rfl aK19b) ?_
                      refine VO.nil ?_
                      refine VC.condF rfl rfl ?_
                      refine VC.skip ?_
                      refine VC.region ?_
                      refine VO.val rfl rfl (OpV.add rfl rfl rfl (by unfold fits; omega)) ?_
                      refine VO.mv rfl rfl rfl rfl ?_
                      refine VO.nil ?_
                      exact Exists.intro (⟨r + 1, by omega⟩) (And.intro (Le.mk hB [0, 1] ⟨rfl, rfl, rfl, rfl, rfl, rfl, rfl, rfl, rfl, rfl, rfl, rfl, trivial⟩ rfl rfl (Nle rfl)) (by first | omega | (show _ < _; omega) | (simp only []; omega)))
                  · replace aK18b : _ = false := aK18b
                    have aK18 := aK18b
                    try simp only [qqT, qqF, qqN, qqM, qqL, qqE] at aK18
                    refine VO.opX rfl rfl rfl rfl aK18b ?_
                    refine VO.val rfl rfl (OpV.pickF rfl rfl rfl rfl aK18b) ?_
                    refine VO.mv rfl rfl rfl rfl ?_
                    refine VO.opX rfl rfl rfl rfl rfl ?_
                    refine VO.opX rfl rfl rfl rfl rfl ?_
                    refine VO.opX rfl rfl rfl rfl rfl ?_
                    refine VO.opX rfl rfl rfl rfl rfl ?_
                    refine VO.opX rfl rfl rfl rfl rfl ?_
                    refine VO.opX rfl rfl rfl rfl rfl ?_
                    refine VO.opX rfl rfl rfl rfl rfl ?_
                    refine VO.opX rfl rfl rfl rfl rfl ?_
                    refine VO.opX rfl rfl rfl rfl rfl ?_
                    refine VO.opX rfl rfl rfl rfl rfl ?_
                    refine VO.val rfl rfl (OpV.pickF rfl rfl rfl rfl rfl) ?_
                    refine VO.nil ?_
                    refine VC.condF rfl rfl ?_
                    refine VC.skip ?_
                    refine VC.region ?_
                    refine VO.val rfl rfl (OpV.add rfl rfl rfl (by unfold fits; omega)) ?_
                    refine VO.mv rfl rfl rfl rfl ?_
                    refine VO.nil ?_
                    exact Exists.intro (⟨r + 1, by omega⟩) (And.intro (Le.mk hB [0, 1] ⟨rfl, rfl, rfl, rfl, rfl, rfl, rfl, rfl, rfl, rfl, rfl, rfl, trivial⟩ rfl rfl (Nle rfl)) (by first | omega | (show _ < _; omega) | (simp only []; omega)))
            · have aH5 := aH5b
              try simp only [qqT, qqF, qqN, qqM, qqL, qqE] at aH5
              refine VC.exit ?_
              refine VC.region ?_
              refine VO.val rfl rfl (OpV.add rfl rfl rfl (by unfold fits; omega)) ?_
              refine VO.mv rfl rfl rfl rfl ?_
              refine VO.nil ?_
              exact Exists.intro (⟨i + 1, by omega⟩) (And.intro (Le.mk hB [0, 1] ⟨rfl, rfl, rfl, rfl, rfl, rfl, rfl, rfl, rfl, trivial⟩ rfl rfl (Nle rfl)) (by first | omega | (show _ < _; omega) | (simp only []; omega)))
          · have aH4 := aH4b
            try simp only [qqT, qqF, qqN, qqM, qqL, qqE] at aH4
            refine VC.exit ?_
            refine VC.sr ?_
            refine VO.op rfl (OpE.call rfl hB rfl Tryz.call72 rfl (SpecN.spec (rk_ready)) ?_)
            rintro _ rfl
            refine VO.ma rfl rfl rfl rfl ?_
            refine VO.nil ?_
            refine VC.ret ?_
            exact And.intro rfl rfl
        · replace aK3b : _ = false := aK3b
          have aK3 := aK3b
          try simp only [qqT, qqF, qqN, qqM, qqL, qqE] at aK3
          refine VO.opX rfl rfl rfl rfl aK3b ?_
          refine VO.opX rfl rfl rfl rfl aK3b ?_
          refine VO.opX rfl rfl rfl rfl aK3b ?_
          refine VO.opX rfl rfl rfl rfl aK3b ?_
          refine VO.opX rfl rfl rfl rfl aK3b ?_
          refine VO.opX rfl rfl rfl rfl aK3b ?_
          refine VO.opX rfl rfl rfl rfl aK3b ?_
          refine VO.opX rfl rfl rfl rfl aK3b ?_
          refine VO.opX rfl rfl rfl rfl aK3b ?_
          refine VO.opX rfl rfl rfl rfl aK3b ?_
          refine VO.opX rfl rfl rfl rfl aK3b ?_
          refine VO.opY rfl rfl rfl rfl rfl ?_
          refine OpE.val (W := NoB) (OpV.pickF rfl rfl rfl rfl aK3b) rfl ?_
          refine VO.val rfl rfl (OpV.pickF rfl rfl rfl rfl rfl) ?_
          refine VO.nil ?_
          refine VC.condF rfl rfl ?_
          refine VC.skip ?_
          refine VC.seq ?_
          refine VC.sr ?_
          refine VO.mv rfl rfl rfl rfl ?_
          refine VO.val rfl rfl (OpV.len_im rfl Tryz.underlying61 rfl) ?_
          refine VO.mv rfl rfl rfl rfl ?_
          refine VO.nil ?_
          refine VC.block ?_
          refine VC.loopK [(4, _), (5, _), (6, _), (7, _), (8, _), (12, _), (116, _), (117, _)] ⟨rfl, rfl, rfl, rfl, rfl, rfl, rfl, rfl, trivial⟩ ({i : Nat // i ≤ a.length}) (fun (iZ : {i : Nat // i ≤ a.length}) => match iZ with | ⟨i, hq2⟩ => [(118, avI (i : Int))]) (fun (iZ : {i : Nat // i ≤ a.length}) => match iZ with | ⟨i, hq2⟩ => [.box g7 ⟨[avI (fa : Int), avI (fb : Int)], 74, 2⟩, .box g12 ⟨[avI (ma : Int), avI (mb : Int)], 74, 2⟩]) (fun (iZ : {i : Nat // i ≤ a.length}) => match iZ with | ⟨i, hq2⟩ => 100000) (fun (iZ : {i : Nat // i ≤ a.length}) => match iZ with | ⟨i, hq2⟩ => a.length - i) ⟨0, Nat.zero_le _⟩ (Le.mk hB [0, 1] ⟨rfl, rfl, rfl, rfl, rfl, rfl, rfl, rfl, rfl, trivial⟩ rfl rfl (Nle rfl)) ?_
          rintro ⟨i, hq2⟩
          show VC _ _ _ _ ⟨[(118, avI (i : Int))] ++ [(4, _), (5, _), (6, _), (7, _), (8, _), (12, _), (116, _), (117, _)], [.box g7 ⟨[avI (fa : Int), avI (fb : Int)], 74, 2⟩, .box g12 ⟨[avI (ma : Int), avI (mb : Int)], 74, 2⟩], 100000⟩
          refine VC.sr ?_
          refine VO.val rfl rfl (OpV.lss rfl rfl rfl) ?_
          refine VO.nil ?_
          refine VC.seq ?_
          refine VC.cond rfl (fun aH20b => ?_) (fun aH20b => ?_)
          · have aH20 := aH20b
            try simp only [qqT, qqF, qqN, qqM, qqL, qqE] at aH20
            refine VC.skip ?_
            refine VC.seq ?_
            refine VC.block ?_
            refine VC.sr ?_
            refine VO.val rfl rfl (OpV.indexAddr_E rfl Tryz.underlying61 Tryz.sizeOf66 rfl rfl rfl (by omega)) ?_
            refine VO.val rfl rfl (OpV.loadK_at rfl hB OutW.no Tryz.isAgg66 Tryz.sizeOf66 rfl rfl) ?_
            refine VO.op rfl (OpE.alloc rfl hB rfl Tryz.zeroValue66 rfl ?_)
            intro g20
            refine VO.op rfl (OpE.store (i := 2) rfl hB rfl Tryz.sizeOf66 rfl rfl rfl rfl rfl rfl (Nle rfl) trivial ?_)
            refine VO.nil ?_
            refine VC.seq ?_
            have hnz := hs.nozzle i
            have hre := hs.reel i
            refine VC.region ?_
            refine VO.val rfl rfl (OpV.fieldAddrO 6 rfl Tryz.underlying66 rfl rfl Tryz.sizeOf9 rfl) ?_
            refine VO.val rfl rfl (OpV.load_own (i := 2) rfl hB Tryz.isAgg9 rfl rfl rfl (fun h => h)) ?_
            refine VO.val rfl rfl (OpV.sadd rfl rfl rfl (by have h : (⟨#[110, 111, 122, 122, 108, 101, 32]⟩ : ByteArray).size = 7 := rfl; omega)) ?_
            refine VO.val rfl rfl (OpV.fieldAddrO 7 rfl Tryz.underlying66 rfl rfl Tryz.sizeOf9 rfl) ?_
            refine VO.val rfl rfl (OpV.load_own (i := 2) rfl hB Tryz.isAgg9 rfl rfl rfl (fun h => h)) ?_
            refine VO.val rfl rfl (OpV.sadd rfl rfl rfl (by have h : (⟨#[114, 101, 101, 108, 32]⟩ : ByteArray).size = 5 := rfl; omega)) ?_
            refine VO.op rfl (OpE.buildSlice (zc := #[.string ⟨#[]⟩, .string ⟨#[]⟩]) rfl hB rfl Tryz.underlying95 Tryz.sizeOf9 Tryz.zeroValue9 (by decide) (by decide) (by kernel_rfl) rfl rfl ?_)
            refine VO.le _ (Le.litsS (t := 128) (xs := kyY (a.getD i default)) rfl rfl) ?_
            refine VO.val rfl rfl (OpV.len_im rfl Tryz.underlying95 rfl) ?_
            refine VO.mv rfl rfl rfl rfl ?_
            refine VO.nil ?_
            refine VC.block ?_
            refine VC.loopK [(4, _), (5, _), (6, _), (7, _), (8, _), (12, _), (116, _), (117, _), (118, _), (128, _), (129, _)] ⟨rfl, rfl, rfl, rfl, rfl, rfl, rfl, rfl, rfl, rfl, rfl, trivial⟩ ({r : Nat // r ≤ 2}) (fun (iZ : {r : Nat // r ≤ 2}) => match iZ with | ⟨r, hq3⟩ => [(130, avI (r : Int))]) (fun (iZ : {r : Nat // r ≤ 2}) => match iZ with | ⟨r, hq3⟩ => [.box g7 ⟨[avI (fa : Int), avI (fb : Int)], 74, 2⟩, .box g12 ⟨[avI (ma : Int), avI (mb : Int)], 74, 2⟩]) (fun (iZ : {r : Nat // r ≤ 2}) => match iZ with | ⟨r, hq3⟩ => 100000) (fun (iZ : {r : Nat // r ≤ 2}) => match iZ with | ⟨r, hq3⟩ => 2 - r) ⟨0, Nat.zero_le _⟩ (Le.mk hB [0, 1] ⟨rfl, rfl, rfl, rfl, rfl, rfl, rfl, rfl, rfl, rfl, rfl, rfl, trivial⟩ rfl rfl (Nle rfl)) ?_
            rintro ⟨r, hq3⟩
            show VC _ _ _ _ ⟨[(130, avI (r : Int))] ++ [(4, _), (5, _), (6, _), (7, _), (8, _), (12, _), (116, _), (117, _), (118, _), (128, _), (129, _)], [.box g7 ⟨[avI (fa : Int), avI (fb : Int)], 74, 2⟩, .box g12 ⟨[avI (ma : Int), avI (mb : Int)], 74, 2⟩], 100000⟩
            have hk2 : (kyY (a.getD i default)).length = 2 := rfl
            refine VC.sr ?_
            refine VO.val rfl rfl (OpV.lss rfl rfl rfl) ?_
            refine VO.nil ?_
            refine VC.seq ?_
            refine VC.cond rfl (fun aH21b => ?_) (fun aH21b => ?_)
            · have aH21 := aH21b
              try simp only [qqT, qqF, qqN, qqM, qqL, qqE] at aH21
              refine VC.skip ?_
              refine VC.seq ?_
              refine VC.block ?_
              refine VC.seq ?_
              obtain ⟨y, hy⟩ : ∃ y, (kyY (a.getD i default)).getD r ByteArray.empty = y := ⟨_, rfl⟩
              refine VC.region ?_
              refine VO.val rfl rfl (OpV.indexAddr_1 rfl Tryz.underlying95 Tryz.sizeOf9 rfl rfl rfl (by omega)) ?_
              refine VO.val rfl rfl (OpV.load_at rfl hB OutW.no Tryz.isAgg9 rfl rfl) ?_
              refine VO.le _ (Le.recast (t := 133) (y := avS y) rfl (fun w Z u h => by rw [← hy]; exact h)) ?_
              refine VO.ma rfl rfl rfl rfl ?_
              refine VO.nil ?_
              refine VC.sr ?_
              refine VO.ma rfl rfl rfl rfl ?_
              refine VO.ma rfl rfl rfl rfl ?_
              refine VO.nil ?_
              refine VC.seq ?_
              refine VC.sr ?_
              refine VO.mv rfl rfl rfl rfl ?_
              refine VO.val rfl rfl (OpV.len_im rfl Tryz.underlying61 rfl) ?_
              refine VO.mv rfl rfl rfl rfl ?_
              refine VO.nil ?_
              refine VC.block ?_
              refine VC.loopK [(4, _), (5, _), (6, _), (7, _), (8, _), (12, _), (22, _), (116, _), (117, _), (118, _), (128, _), (129, _), (130, _), (134, _), (135, _)] ⟨rfl, rfl, rfl, rfl, rfl, rfl, rfl, rfl, rfl, rfl, rfl, rfl, rfl, rfl, rfl, trivial⟩ ({q4 : Nat // q4 ≤ a.length}) (fun (iZ : {q4 : Nat // q4 ≤ a.length}) => match iZ with | ⟨q4, hq4⟩ => [(23, avI (cntL (fun z => hasY y z && z.bad) (a.take q4) : Int)), (24, avI (cntL (hasY y) (a.take q4) : Int)), (136, avI (q4 : Int))]) (fun (iZ : {q4 : Nat // q4 ≤ a.length}) => match iZ with | ⟨q4, hq4⟩ => [.box g7 ⟨[avI (fa : Int), avI (fb : Int)], 74, 2⟩, .box g12 ⟨[avI (ma : Int), avI (mb : Int)], 74, 2⟩]) (fun (iZ : {q4 : Nat // q4 ≤ a.length}) => match iZ with | ⟨q4, hq4⟩ => 100000) (fun (iZ : {q4 : Nat // q4 ≤ a.length}) => match iZ with | ⟨q4, hq4⟩ => a.length - q4) ⟨0, Nat.zero_le _⟩ (Le.mk hB [0, 1] ⟨rfl, rfl, rfl, rfl, rfl, rfl, rfl, rfl, rfl, rfl, rfl, rfl, rfl, rfl, rfl, rfl, rfl, rfl, trivial⟩ rfl rfl (Nle rfl)) ?_
              rintro ⟨q4, hq4⟩
              show VC _ _ _ _ ⟨[(23, avI (cntL (fun z => hasY y z && z.bad) (a.take q4) : Int)), (24, avI (cntL (hasY y) (a.take q4) : Int)), (136, avI (q4 : Int))] ++ [(4, _), (5, _), (6, _), (7, _), (8, _), (12, _), (22, _), (116, _), (117, _), (118, _), (128, _), (129, _), (130, _), (134, _), (135, _)], [.box g7 ⟨[avI (fa : Int), avI (fb : Int)], 74, 2⟩, .box g12 ⟨[avI (ma : Int), avI (mb : Int)], 74, 2⟩], 100000⟩
              have hc1 : cntL (fun z => hasY y z && z.bad) (a.take q4) ≤ 18 := by { have h := cntL_le (fun z => hasY y z && z.bad) (a.take q4); rw [List.length_take] at h; omega }
              have hc2 : cntL (hasY y) (a.take q4) ≤ 18 := by { have h := cntL_le (hasY y) (a.take q4); rw [List.length_take] at h; omega }
              refine VC.sr ?_
              refine VO.val rfl rfl (OpV.lss rfl rfl rfl) ?_
              refine VO.nil ?_
              refine VC.seq ?_
              refine VC.cond rfl (fun aH22b => ?_) (fun aH22b => ?_)
              · have aH22 := aH22b
                try simp only [qqT, qqF, qqN, qqM, qqL, qqE] at aH22
                refine VC.skip ?_
                refine VC.seq ?_
                refine VC.block ?_
                refine VC.sr ?_
                refine VO.val rfl rfl (OpV.indexAddr_E rfl Tryz.underlying61 Tryz.sizeOf66 rfl rfl rfl (by omega)) ?_
                refine VO.val rfl rfl (OpV.loadK_at rfl hB OutW.no Tryz.isAgg66 Tryz.sizeOf66 rfl rfl) ?_
                refine VO.op rfl (OpE.alloc rfl hB rfl Tryz.zeroValue66 rfl ?_)
                intro g26
                refine VO.op rfl (OpE.store (i := 2) rfl hB rfl Tryz.sizeOf66 rfl rfl rfl rfl rfl rfl (Nle rfl) trivial ?_)
                refine VO.nil ?_
                refine VC.seq ?_
                have hnq := hs.nozzle q4
                have hrq := hs.reel q4
                refine VC.region ?_
                refine VO.val rfl rfl (OpV.fieldAddrO 6 rfl Tryz.underlying66 rfl rfl Tryz.sizeOf9 rfl) ?_
                refine VO.val rfl rfl (OpV.load_own (i := 2) rfl hB Tryz.isAgg9 rfl rfl rfl (fun h => h)) ?_
                refine VO.val rfl rfl (OpV.sadd rfl rfl rfl (by have h : (⟨#[110, 111, 122, 122, 108, 101, 32]⟩ : ByteArray).size = 7 := rfl; omega)) ?_
                refine VO.le _ (Le.recast (t := 142) (y := avS (noz (a.getD q4 default))) rfl (fun w Z u h => h)) ?_
                refine VO.mv rfl rfl rfl rfl ?_
                refine VO.val rfl rfl (OpV.seql rfl rfl rfl) ?_
                refine VO.mv rfl rfl rfl rfl ?_
                refine VO.opG rfl rfl rfl rfl (fun aK23b => ?_) (fun aK23b => ?_)
                · replace aK23b : _ = false := aK23b
                  have aK23 := aK23b
                  try simp only [qqT, qqF, qqN, qqM, qqL, qqE] at aK23
                  refine OpE.val (W := NoB) (OpV.fieldAddrO 7 rfl Tryz.underlying66 rfl rfl Tryz.sizeOf9 rfl) rfl ?_
                  refine VO.opY rfl rfl rfl rfl aK23b ?_
                  refine OpE.val (W := NoB) (OpV.load_own (i := 2) rfl hB Tryz.isAgg9 rfl rfl rfl (fun h => h)) rfl ?_
                  refine VO.opY rfl rfl rfl rfl aK23b ?_
                  refine OpE.val (W := NoB) (OpV.sadd rfl rfl rfl (by have h : (⟨#[114, 101, 101, 108, 32]⟩ : ByteArray).size = 5 := rfl; omega)) rfl ?_
                  refine VO.le _ (Le.recast (t := 148) (y := avS (ree (a.getD q4 default))) rfl (fun w Z u h => h)) ?_
                  refine VO.opY rfl rfl rfl rfl aK23b ?_
                  refine OpE.val (W := NoB) (OpV.move (.inl rfl) rfl) rfl ?_
                  refine VO.opY rfl rfl rfl rfl aK23b ?_
                  refine OpE.val (W := NoB) (OpV.seql rfl rfl rfl) rfl ?_
                  refine VO.val rfl rfl (OpV.pickF rfl rfl rfl rfl aK23b) ?_
                  refine VO.nil ?_
                  refine VC.cond rfl (fun aH24b => ?_) (fun aH24b => ?_)
                  · have aH24 := aH24b
                    try simp only [qqT, qqF, qqN, qqM, qqL, qqE] at aH24
                    have hyt : hasY y (a.getD q4 default) = true := by unfold hasY; rw [Bool.or_eq_true]; first | exact .inl (by assumption) | exact .inr (by assumption)
                    refine VC.sr ?_
                    refine VO.mv rfl rfl rfl rfl ?_
                    refine VO.val rfl rfl (OpV.add rfl rfl rfl (by unfold fits; omega)) ?_
                    refine VO.ma rfl rfl rfl rfl ?_
                    refine VO.nil ?_
                    refine VC.sr ?_
                    refine VO.val rfl rfl (OpV.fieldAddrO 4 rfl Tryz.underlying66 rfl rfl Tryz.sizeOf4 rfl) ?_
                    refine VO.val rfl rfl (OpV.load_own (i := 2) rfl hB Tryz.isAgg4 rfl rfl rfl (fun h => h)) ?_
                    refine VO.nil ?_
                    refine VC.cond rfl (fun hbb => ?_) (fun hbb => ?_)
                    · have hb := hbb
                      try simp only [qqT, qqF, qqN, qqM, qqL, qqE] at hb
                      refine VC.region ?_
                      refine VO.mv rfl rfl rfl rfl ?_
                      refine VO.val rfl rfl (OpV.add rfl rfl rfl (by unfold fits; omega)) ?_
                      refine VO.ma rfl rfl rfl rfl ?_
                      refine VO.nil ?_
                      refine VC.region ?_
                      refine VO.val rfl rfl (OpV.add rfl rfl rfl (by unfold fits; omega)) ?_
                      refine VO.mv rfl rfl rfl rfl ?_
                      refine VO.nil ?_
                      exact Exists.intro (⟨q4 + 1, by omega⟩) (And.intro (Le.mk hB [0, 1] ⟨(by dsimp only; first | (rw [cntL_take (by omega), if_pos (by show (hasY y _ && _) = true; rw [hyt, hbb]; rfl)]; rfl) | (rw [cntL_take (by omega), if_neg (by show ¬ (hasY y _ && _) = true; rw [hyt, hbb]; simp)]; rfl) | (rw [cntL_take (by omega), if_neg (by show ¬ (hasY y _ && _) = true; rw [hyf]; simp)]; rfl)), (by dsimp only; first | (rw [cntL_take (by omega), if_pos hyt]; rfl) | (rw [cntL_take (by omega), if_neg (by rw [hyf]; simp)]; rfl)), rfl, rfl, rfl, rfl, rfl, rfl, rfl, rfl, rfl, rfl, rfl, rfl, rfl, rfl, rfl, rfl, trivial⟩ rfl rfl (Nle rfl)) (by first | omega | (show _ < _; omega) | (simp only []; omega)))
                    · have hb := hbb
                      try simp only [qqT, qqF, qqN, qqM, qqL, qqE] at hb
                      refine VC.skip ?_
                      refine VC.region ?_
                      refine VO.val rfl rfl (OpV.add rfl rfl rfl (by unfold fits; omega)) ?_
                      refine VO.mv rfl rfl rfl rfl ?_
                      refine VO.nil ?_
                      exact Exists.intro (⟨q4 + 1, by omega⟩) (And.intro (Le.mk hB [0, 1] ⟨(by dsimp only; first | (rw [cntL_take (by omega), if_pos (by show (hasY y _ && _) = true; rw [hyt, hbb]; rfl)]; rfl) | (rw [cntL_take (by omega), if_neg (by show ¬ (hasY y _ && _) = true; rw [hyt, hbb]; simp)]; rfl) | (rw [cntL_take (by omega), if_neg (by show ¬ (hasY y _ && _) = true; rw [hyf]; simp)]; rfl)), (by dsimp only; first | (rw [cntL_take (by omega), if_pos hyt]; rfl) | (rw [cntL_take (by omega), if_neg (by rw [hyf]; simp)]; rfl)), rfl, rfl, rfl, rfl, rfl, rfl, rfl, rfl, rfl, rfl, rfl, rfl, rfl, rfl, rfl, rfl, trivial⟩ rfl rfl (Nle rfl)) (by first | omega | (show _ < _; omega) | (simp only []; omega)))
                  · have aH24 := aH24b
                    try simp only [qqT, qqF, qqN, qqM, qqL, qqE] at aH24
                    have hyf : hasY y (a.getD q4 default) = false := by unfold hasY; rw [Bool.or_eq_false_iff]; exact ⟨by assumption, by assumption⟩
                    refine VC.skip ?_
                    refine VC.region ?_
                    refine VO.val rfl rfl (OpV.add rfl rfl rfl (by unfold fits; omega)) ?_
                    refine VO.mv rfl rfl rfl rfl ?_
                    refine VO.nil ?_
                    exact Exists.intro (⟨q4 + 1, by omega⟩) (And.intro (Le.mk hB [0, 1] ⟨(by dsimp only; first | (rw [cntL_take (by omega), if_pos (by show (hasY y _ && _) = true; rw [hyt, hbb]; rfl)]; rfl) | (rw [cntL_take (by omega), if_neg (by show ¬ (hasY y _ && _) = true; rw [hyt, hbb]; simp)]; rfl) | (rw [cntL_take (by omega), if_neg (by show ¬ (hasY y _ && _) = true; rw [hyf]; simp)]; rfl)), (by dsimp only; first | (rw [cntL_take (by omega), if_pos hyt]; rfl) | (rw [cntL_take (by omega), if_neg (by rw [hyf]; simp)]; rfl)), rfl, rfl, rfl, rfl, rfl, rfl, rfl, rfl, rfl, rfl, rfl, rfl, rfl, rfl, rfl, rfl, trivial⟩ rfl rfl (Nle rfl)) (by first | omega | (show _ < _; omega) | (simp only []; omega)))
                · replace aK23b : _ = true := aK23b
                  have aK23 := aK23b
                  try simp only [qqT, qqF, qqN, qqM, qqL, qqE] at aK23
                  refine VO.opX rfl rfl rfl rfl aK23b ?_
                  refine VO.opX rfl rfl rfl rfl aK23b ?_
                  refine VO.opX rfl rfl rfl rfl aK23b ?_
                  refine VO.opX rfl rfl rfl rfl aK23b ?_
                  refine VO.val rfl rfl (OpV.pickT rfl rfl rfl rfl aK23b) ?_
                  refine VO.nil ?_
                  refine VC.condT rfl rfl ?_
                  have hyt : hasY y (a.getD q4 default) = true := by unfold hasY; rw [Bool.or_eq_true]; first | exact .inl (by assumption) | exact .inr (by assumption)
                  refine VC.sr ?_
                  refine VO.mv rfl rfl rfl rfl ?_
                  refine VO.val rfl rfl (OpV.add rfl rfl rfl (by unfold fits; omega)) ?_
                  refine VO.ma rfl rfl rfl rfl ?_
                  refine VO.nil ?_
                  refine VC.sr ?_
                  refine VO.val rfl rfl (OpV.fieldAddrO 4 rfl Tryz.underlying66 rfl rfl Tryz.sizeOf4 rfl) ?_
                  refine VO.val rfl rfl (OpV.load_own (i := 2) rfl hB Tryz.isAgg4 rfl rfl rfl (fun h => h)) ?_
                  refine VO.nil ?_
                  refine VC.cond rfl (fun hbb => ?_) (fun hbb => ?_)
                  · have hb := hbb
                    try simp only [qqT, qqF, qqN, qqM, qqL, qqE] at hb
                    refine VC.region ?_
                    refine VO.mv rfl rfl rfl rfl ?_
                    refine VO.val rfl rfl (OpV.add rfl rfl rfl (by unfold fits; omega)) ?_
                    refine VO.ma rfl rfl rfl rfl ?_
                    refine VO.nil ?_
                    refine VC.region ?_
                    refine VO.val rfl rfl (OpV.add rfl rfl rfl (by unfold fits; omega)) ?_
                    refine VO.mv rfl rfl rfl rfl ?_
                    refine VO.nil ?_
                    exact Exists.intro (⟨q4 + 1, by omega⟩) (And.intro (Le.mk hB [0, 1] ⟨(by dsimp only; first | (rw [cntL_take (by omega), if_pos (by show (hasY y _ && _) = true; rw [hyt, hbb]; rfl)]; rfl) | (rw [cntL_take (by omega), if_neg (by show ¬ (hasY y _ && _) = true; rw [hyt, hbb]; simp)]; rfl) | (rw [cntL_take (by omega), if_neg (by show ¬ (hasY y _ && _) = true; rw [hyf]; simp)]; rfl)), (by dsimp only; first | (rw [cntL_take (by omega), if_pos hyt]; rfl) | (rw [cntL_take (by omega), if_neg (by rw [hyf]; simp)]; rfl)), rfl, rfl, rfl, rfl, rfl, rfl, rfl, rfl, rfl, rfl, rfl, rfl, rfl, rfl, rfl, rfl, trivial⟩ rfl rfl (Nle rfl)) (by first | omega | (show _ < _; omega) | (simp only []; omega)))
                  · have hb := hbb
                    try simp only [qqT, qqF, qqN, qqM, qqL, qqE] at hb
                    refine VC.skip ?_
                    refine VC.region ?_
                    refine VO.val rfl rfl (OpV.add rfl rfl rfl (by unfold fits; omega)) ?_
                    refine VO.mv rfl rfl rfl rfl ?_
                    refine VO.nil ?_
                    exact Exists.intro (⟨q4 + 1, by omega⟩) (And.intro (Le.mk hB [0, 1] ⟨(by dsimp only; first | (rw [cntL_take (by omega), if_pos (by show (hasY y _ && _) = true; rw [hyt, hbb]; rfl)]; rfl) | (rw [cntL_take (by omega), if_neg (by show ¬ (hasY y _ && _) = true; rw [hyt, hbb]; simp)]; rfl) | (rw [cntL_take (by omega), if_neg (by show ¬ (hasY y _ && _) = true; rw [hyf]; simp)]; rfl)), (by dsimp only; first | (rw [cntL_take (by omega), if_pos hyt]; rfl) | (rw [cntL_take (by omega), if_neg (by rw [hyf]; simp)]; rfl)), rfl, rfl, rfl, rfl, rfl, rfl, rfl, rfl, rfl, rfl, rfl, rfl, rfl, rfl, rfl, rfl, trivial⟩ rfl rfl (Nle rfl)) (by first | omega | (show _ < _; omega) | (simp only []; omega)))
              · have aH22 := aH22b
                try simp only [qqT, qqF, qqN, qqM, qqL, qqE] at aH22
                obtain rfl : q4 = a.length := by omega
                rw [List.take_length] at hc1 hc2 ⊢
                have hO2 : ok = true → r35 ≤ (cntL (hasY y) a : Int) → (cntL (fun z => hasY y z && z.bad) a : Int) * (fb : Int) ≤ (fa : Int) * (cntL (hasY y) a : Int) ∧ ((cntL (fun z => hasY y z && z.bad) a : Int) * (fb : Int) = (fa : Int) * (cntL (hasY y) a : Int) → sLt y K = false) := by
                  rw [← hy]; exact fun h h2 => hO.best h i r (by omega) (by omega) h2
                have hO3 : ok = false → r35 ≤ (cntL (hasY y) a : Int) → (cntL (fun z => hasY y z && z.bad) a : Int) * 1000000 * (mb : Int) ≤ (ma : Int) * (cntL (hasY y) a : Int) := by
                  rw [← hy]; exact fun h h2 => hO.none_ h i r (by omega) (by omega) h2
                obtain ⟨na, hna⟩ : ∃ na, cntL (fun z => hasY y z && z.bad) a = na := ⟨_, rfl⟩
                obtain ⟨nd, hnd⟩ : ∃ nd, cntL (hasY y) a = nd := ⟨_, rfl⟩
                rw [hna] at hc1 hO2 hO3 ⊢
                rw [hnd] at hc2 hO2 hO3 ⊢
                refine VC.exit ?_
                refine VC.seq ?_
                refine VC.sr ?_
                refine VO.mv rfl rfl rfl rfl ?_
                refine VO.mv rfl rfl rfl rfl ?_
                refine VO.val rfl rfl (OpV.geq rfl rfl rfl) ?_
                refine VO.mv rfl rfl rfl rfl ?_
                refine VO.opG rfl rfl rfl rfl (fun aK25b => ?_) (fun aK25b => ?_)
                · replace aK25b : _ = true := aK25b
                  have aK25 := aK25b
                  try simp only [qqT, qqF, qqN, qqM, qqL, qqE] at aK25
                  refine OpE.val (W := NoB) (OpV.move (.inl rfl) rfl) rfl ?_
                  refine VO.val rfl rfl (OpV.pickT rfl rfl rfl rfl aK25b) ?_
                  refine VO.mv rfl rfl rfl rfl ?_
                  refine VO.opG rfl rfl rfl rfl (fun aK26b => ?_) (fun aK26b => ?_)
                  · replace aK26b : _ = true := aK26b
                    have aK26 := aK26b
                    try simp only [qqT, qqF, qqN, qqM, qqL, qqE] at aK26
                    refine OpE.val (W := NoB) (OpV.move (.inl rfl) rfl) rfl ?_
                    refine VO.opY rfl rfl rfl rfl aK26b ?_
                    refine OpE.val (W := NoB) (OpV.fieldAddrO 1 rfl Tryz.underlying74 rfl rfl Tryz.sizeOf3 rfl) rfl ?_
                    refine VO.opY rfl rfl rfl rfl aK26b ?_
                    refine OpE.val (W := NoB) (OpV.load_own (i := 0) rfl hB Tryz.isAgg3 rfl rfl rfl (fun h => h)) rfl ?_
                    refine VO.opY rfl rfl rfl rfl aK26b ?_
                    refine OpE.val (W := NoB) (OpV.mul rfl rfl rfl (by have h := prodC (a := (na : Int)) (b := (fb : Int)) (A := 18) (B := 2000000) (by omega) (by omega) (by omega) (by omega); unfold fits; omega)) rfl ?_
                    refine VO.opY rfl rfl rfl rfl aK26b ?_
                    refine OpE.val (W := NoB) (OpV.fieldAddrO 0 rfl Tryz.underlying74 rfl rfl Tryz.sizeOf3 rfl) rfl ?_
                    refine VO.opY rfl rfl rfl rfl aK26b ?_
                    refine OpE.val (W := NoB) (OpV.load_own (i := 0) rfl hB Tryz.isAgg3 rfl rfl rfl (fun h => h)) rfl ?_
                    refine VO.opY rfl rfl rfl rfl aK26b ?_
                    refine OpE.val (W := NoB) (OpV.move (.inl rfl) rfl) rfl ?_
                    refine VO.opY rfl rfl rfl rfl aK26b ?_
                    refine OpE.val (W := NoB) (OpV.mul rfl rfl rfl (by have h := prodC (a := (fa : Int)) (b := (nd : Int)) (A := 2000000) (B := 18) (by omega) (by omega) (by omega) (by omega); unfold fits; omega)) rfl ?_
                    refine VO.opY rfl rfl rfl rfl aK26b ?_
                    refine OpE.val (W := NoB) (OpV.gtr rfl rfl rfl) rfl ?_
                    refine VO.le _ (Le.boolF (t := 174) rfl (decide_eq_false (by have h := (hO2 (by assumption) (by omega)).1; omega))) ?_
                    refine VO.opY rfl rfl rfl rfl aK26b ?_
                    refine OpE.val (W := NoB) (OpV.move (.inl rfl) rfl) rfl ?_
                    refine VO.opY rfl rfl rfl rfl rfl ?_
                    refine OpE.val (W := NoB) (OpV.move (.inl rfl) rfl) rfl ?_
                    refine VO.opY rfl rfl rfl rfl rfl ?_
                    refine OpE.val (W := NoB) (OpV.fieldAddrO 1 rfl Tryz.underlying74 rfl rfl Tryz.sizeOf3 rfl) rfl ?_
                    refine VO.opY rfl rfl rfl rfl rfl ?_
                    refine OpE.val (W := NoB) (OpV.load_own (i := 0) rfl hB Tryz.isAgg3 rfl rfl rfl (fun h => h)) rfl ?_
                    refine VO.opY rfl rfl rfl rfl rfl ?_
                    refine OpE.val (W := NoB) (OpV.mul rfl rfl rfl (by have h := prodC (a := (na : Int)) (b := (fb : Int)) (A := 18) (B := 2000000) (by omega) (by omega) (by omega) (by omega); unfold fits; omega)) rfl ?_
                    refine VO.opY rfl rfl rfl rfl rfl ?_
                    refine OpE.val (W := NoB) (OpV.fieldAddrO 0 rfl Tryz.underlying74 rfl rfl Tryz.sizeOf3 rfl) rfl ?_
                    refine VO.opY rfl rfl rfl rfl rfl ?_
                    refine OpE.val (W := NoB) (OpV.load_own (i := 0) rfl hB Tryz.isAgg3 rfl rfl rfl (fun h => h)) rfl ?_
                    refine VO.opY rfl rfl rfl rfl rfl ?_
                    refine OpE.val (W := NoB) (OpV.move (.inl rfl) rfl) rfl ?_
                    refine VO.opY rfl rfl rfl rfl rfl ?_
                    refine OpE.val (W := NoB) (OpV.mul rfl rfl rfl (by have h := prodC (a := (fa : Int)) (b := (nd : Int)) (A := 2000000) (B := 18) (by omega) (by omega) (by omega) (by omega); unfold fits; omega)) rfl ?_
                    refine VO.opY rfl rfl rfl rfl rfl ?_
                    refine OpE.val (W := NoB) (OpV.eql rfl rfl rfl) rfl ?_
                    refine VO.opY rfl rfl rfl rfl rfl ?_
                    refine OpE.val (W := NoB) (OpV.move (.inl rfl) rfl) rfl ?_
                    refine VO.opG rfl rfl rfl rfl (fun aK27b => ?_) (fun aK27b => ?_)
                    · replace aK27b : _ = true := aK27b
                      have aK27 := aK27b
                      try simp only [qqT, qqF, qqN, qqM, qqL, qqE] at aK27
                      refine OpE.val (W := NoB) (OpV.move (.inl rfl) rfl) rfl ?_
                      refine VO.opY rfl rfl rfl rfl aK27b ?_
                      refine OpE.val (W := NoB) (OpV.move (.inl rfl) rfl) rfl ?_
                      refine VO.opY rfl rfl rfl rfl aK27b ?_
                      refine OpE.val (W := NoB) (OpV.slss rfl rfl rfl) rfl ?_
                      refine VO.le _ (Le.boolF (t := 188) rfl ((hO2 (by assumption) (by omega)).2 (by omega))) ?_
                      refine VO.opY rfl rfl rfl rfl rfl ?_
                      refine OpE.val (W := NoB) (OpV.pickT rfl rfl rfl rfl aK27b) rfl ?_
                      refine VO.opY rfl rfl rfl rfl aK26b ?_
                      refine OpE.val (W := NoB) (OpV.pickF rfl rfl rfl rfl rfl) rfl ?_
                      refine VO.val rfl rfl (OpV.pickT rfl rfl rfl rfl aK26b) ?_
                      refine VO.nil ?_
                      refine VC.condF rfl rfl ?_
                      refine VC.skip ?_
                      refine VC.sr ?_
                      refine VO.mv rfl rfl rfl rfl ?_
                      refine VO.mv rfl rfl rfl rfl ?_
                      refine VO.val rfl rfl (OpV.geq rfl rfl rfl) ?_
                      refine VO.mv rfl rfl rfl rfl ?_
                      refine VO.opG rfl rfl rfl rfl (fun aK28b => ?_) (fun aK28b => ?_)
                      · replace aK28b : _ = true := aK28b
                        have aK28 := aK28b
                        try simp only [qqT, qqF, qqN, qqM, qqL, qqE] at aK28
                        refine OpE.val (W := NoB) (OpV.move (.inl rfl) rfl) rfl ?_
                        refine VO.opY rfl rfl rfl rfl aK28b ?_
                        refine OpE.val (W := NoB) (OpV.not rfl rfl) rfl ?_
                        refine VO.val rfl rfl (OpV.pickT rfl rfl rfl rfl aK28b) ?_
                        refine VO.mv rfl rfl rfl rfl ?_
                        refine VO.opG rfl rfl rfl rfl (fun aK29b => ?_) (fun aK29b => ?_)
                        · replace aK29b : _ = true := aK29b
                          have aK29 := aK29b
                          try simp only [qqT, qqF, qqN, qqM, qqL, qqE] at aK29
                          refine OpE.val (W := NoB) (OpV.move (.inl rfl) rfl) rfl ?_
                          refine VO.opY rfl rfl rfl rfl aK29b ?_
                          refine OpE.val (W := NoB) (OpV.mul rfl rfl rfl (by unfold fits; omega)) rfl ?_
                          refine VO.opY rfl rfl rfl rfl aK29b ?_
                          refine OpE.val (W := NoB) (OpV.fieldAddrO 1 rfl Tryz.underlying74 rfl rfl Tryz.sizeOf3 rfl) rfl ?_
                          refine VO.opY rfl rfl rfl rfl aK29b ?_
                          refine OpE.val (W := NoB) (OpV.load_own (i := 1) rfl hB Tryz.isAgg3 rfl rfl rfl (fun h => h)) rfl ?_
                          refine VO.opY rfl rfl rfl rfl aK29b ?_
                          refine OpE.val (W := NoB) (OpV.mul rfl rfl rfl (by have h := prodC (a := (na : Int) * 1000000) (b := (mb : Int)) (A := 18000000) (B := 18) (by omega) (by omega) (by omega) (by omega); unfold fits; omega)) rfl ?_
                          refine VO.opY rfl rfl rfl rfl aK29b ?_
                          refine OpE.val (W := NoB) (OpV.fieldAddrO 0 rfl Tryz.underlying74 rfl rfl Tryz.sizeOf3 rfl) rfl ?_
                          refine VO.opY rfl rfl rfl rfl aK29b ?_
                          refine OpE.val (W := NoB) (OpV.load_own (i := 1) rfl hB Tryz.isAgg3 rfl rfl rfl (fun h => h)) rfl ?_
                          refine VO.opY rfl rfl rfl rfl aK29b ?_
                          refine OpE.val (W := NoB) (OpV.move (.inl rfl) rfl) rfl ?_
                          refine VO.opY rfl rfl rfl rfl aK29b ?_
                          refine OpE.val (W := NoB) (OpV.mul rfl rfl rfl (by have h := prodC (a := (ma : Int)) (b := (nd : Int)) (A := 18000000) (B := 18) (by omega) (by omega) (by omega) (by omega); unfold fits; omega)) rfl ?_
                          refine VO.opY rfl rfl rfl rfl aK29b ?_
                          refine OpE.val (W := NoB) (OpV.gtr rfl rfl rfl) rfl ?_
                          refine VO.le _ (Le.boolF (t := 209) rfl (decide_eq_false (by have h := hO3 (not_true_false (by assumption)) (by omega); omega))) ?_
                          refine VO.val rfl rfl (OpV.pickT rfl rfl rfl rfl aK29b) ?_
                          refine VO.nil ?_
                          refine VC.condF rfl rfl ?_
                          refine VC.skip ?_
                          refine VC.region ?_
                          refine VO.val rfl rfl (OpV.add rfl rfl rfl (by unfold fits; omega)) ?_
                          refine VO.mv rfl rfl rfl rfl ?_
                          refine VO.nil ?_
                          exact Exists.intro (⟨r + 1, by omega⟩) (And.intro (Le.mk hB [0, 1] ⟨rfl, rfl, rfl, rfl, rfl, rfl, rfl, rfl, rfl, rfl, rfl, rfl, trivial⟩ rfl rfl (Nle rfl)) (by first | omega | (show _ < _; omega) | (simp only []; omega)))
                        · replace aK29b : _ = false := aK29b
                          have aK29 := aK29b
                          try simp only [qqT, qqF, qqN, qqM, qqL, qqE] at aK29
                          refine VO.opX rfl rfl rfl rfl aK29b ?_
                          refine VO.opX rfl rfl rfl rfl aK29b ?_
                          refine VO.opX rfl rfl rfl rfl aK29b ?_
                          refine VO.opX rfl rfl rfl rfl aK29b ?_
                          refine VO.opX rfl rfl rfl rfl aK29b ?_
                          refine VO.opX rfl rfl rfl rfl aK29b ?_
                          refine VO.opX rfl rfl rfl rfl aK29b ?_
                          refine VO.opX rfl rfl rfl rfl aK29b ?_
                          refine VO.opX rfl rfl rfl rfl aK29b ?_
                          refine VO.val rfl rfl (OpV.pickF rfl rfl rfl rfl aK29b) ?_
                          refine VO.nil ?_
                          refine VC.condF rfl rfl ?_
                          refine VC.skip ?_
                          refine VC.region ?_
                          refine VO.val rfl rfl (OpV.add rfl rfl rfl (by unfold fits; omega)) ?_
                          refine VO.mv rfl rfl rfl rfl ?_
                          refine VO.nil ?_
                          exact Exists.intro (⟨r + 1, by omega⟩) (And.intro (Le.mk hB [0, 1] ⟨rfl, rfl, rfl, rfl, rfl, rfl, rfl, rfl, rfl, rfl, rfl, rfl, trivial⟩ rfl rfl (Nle rfl)) (by first | omega | (show _ < _; omega) | (simp only []; omega)))
                      · replace aK28b : _ = false := aK28b
                        have aK28 := aK28b
                        try simp only [qqT, qqF, qqN, qqM, qqL, qqE] at aK28
                        refine VO.opX rfl rfl rfl rfl aK28b ?_
                        refine VO.val rfl rfl (OpV.pickF rfl rfl rfl rfl aK28b) ?_
                        refine VO.mv rfl rfl rfl rfl ?_
                        refine VO.opX rfl rfl rfl rfl rfl ?_
                        refine VO.opX rfl rfl rfl rfl rfl ?_
                        refine VO.opX rfl rfl rfl rfl rfl ?_
                        refine VO.opX rfl rfl rfl rfl rfl ?_
                        refine VO.opX rfl rfl rfl rfl rfl ?_
                        refine VO.opX rfl rfl rfl rfl rfl ?_
                        refine VO.opX rfl rfl rfl rfl rfl ?_
                        refine VO.opX rfl rfl rfl rfl rfl ?_
                        refine VO.opX rfl rfl rfl rfl rfl ?_
                        refine VO.opX rfl rfl rfl rfl rfl ?_
                        refine VO.val rfl rfl (OpV.pickF rfl rfl rfl rfl rfl) ?_
                        refine VO.nil ?_
                        refine VC.condF rfl rfl ?_
                        refine VC.skip ?_
                        refine VC.region ?_
                        refine VO.val rfl rfl (OpV.add rfl rfl rfl (by unfold fits; omega)) ?_
                        refine VO.mv rfl rfl rfl rfl ?_
                        refine VO.nil ?_
                        exact Exists.intro (⟨r + 1, by omega⟩) (And.intro (Le.mk hB [0, 1] ⟨rfl, rfl, rfl, rfl, rfl, rfl, rfl, rfl, rfl, rfl, rfl, rfl, trivial⟩ rfl rfl (Nle rfl)) (by first | omega | (show _ < _; omega) | (simp only []; omega)))
                    · replace aK27b : _ = false := aK27b
                      have aK27 := aK27b
                      try simp only [qqT, qqF, qqN, qqM, qqL, qqE] at aK27
                      refine VO.opX rfl rfl rfl rfl aK27b ?_
                      refine VO.opX rfl rfl rfl rfl aK27b ?_
                      refine VO.opY rfl rfl rfl rfl rfl ?_
                      refine OpE.val (W := NoB) (OpV.pickF rfl rfl rfl rfl aK27b) rfl ?_
                      refine VO.opY rfl rfl rfl rfl aK26b ?_
                      refine OpE.val (W := NoB) (OpV.pickF rfl rfl rfl rfl rfl) rfl ?_
                      refine VO.val rfl rfl (OpV.pickT rfl rfl rfl rfl aK26b) ?_
                      refine VO.nil ?_
                      refine VC.condF rfl rfl ?_
                      refine VC.skip ?_
                      refine VC.sr ?_
                      refine VO.mv rfl rfl rfl rfl ?_
                      refine VO.mv rfl rfl rfl rfl ?_
                      refine VO.val rfl rfl (OpV.geq rfl rfl rfl) ?_
                      refine VO.mv rfl rfl rfl rfl ?_
                      refine VO.opG rfl rfl rfl rfl (fun aK30b => ?_) (fun aK30b => ?_)
                      · replace aK30b : _ = true := aK30b
                        have aK30 := aK30b
                        try simp only [qqT, qqF, qqN, qqM, qqL, qqE] at aK30
                        refine OpE.val (W := NoB) (OpV.move (.inl rfl) rfl) rfl ?_
                        refine VO.opY rfl rfl rfl rfl aK30b ?_
                        refine OpE.val (W := NoB) (OpV.not rfl rfl) rfl ?_
                        refine VO.val rfl rfl (OpV.pickT rfl rfl rfl rfl aK30b) ?_
                        refine VO.mv rfl rfl rfl rfl ?_
                        refine VO.opG rfl rfl rfl rfl (fun aK31b => ?_) (fun aK31b => ?_)
                        · replace aK31b : _ = true := aK31b
                          have aK31 := aK31b
                          try simp only [qqT, qqF, qqN, qqM, qqL, qqE] at aK31
                          refine OpE.val (W := NoB) (OpV.move (.inl rfl) rfl) rfl ?_
                          refine VO.opY rfl rfl rfl rfl aK31b ?_
                          refine OpE.val (W := NoB) (OpV.mul rfl rfl rfl (by unfold fits; omega)) rfl ?_
                          refine VO.opY rfl rfl rfl rfl aK31b ?_
                          refine OpE.val (W := NoB) (OpV.fieldAddrO 1 rfl Tryz.underlying74 rfl rfl Tryz.sizeOf3 rfl) rfl ?_
                          refine VO.opY rfl rfl rfl rfl aK31b ?_
                          refine OpE.val (W := NoB) (OpV.load_own (i := 1) rfl hB Tryz.isAgg3 rfl rfl rfl (fun h => h)) rfl ?_
                          refine VO.opY rfl rfl rfl rfl aK31b ?_
                          refine OpE.val (W := NoB) (OpV.mul rfl rfl rfl (by have h := prodC (a := (na : Int) * 1000000) (b := (mb : Int)) (A := 18000000) (B := 18) (by omega) (by omega) (by omega) (by omega); unfold fits; omega)) rfl ?_
                          refine VO.opY rfl rfl rfl rfl aK31b ?_
                          refine OpE.val (W := NoB) (OpV.fieldAddrO 0 rfl Tryz.underlying74 rfl rfl Tryz.sizeOf3 rfl) rfl ?_
                          refine VO.opY rfl rfl rfl rfl aK31b ?_
                          refine OpE.val (W := NoB) (OpV.load_own (i := 1) rfl hB Tryz.isAgg3 rfl rfl rfl (fun h => h)) rfl ?_
                          refine VO.opY rfl rfl rfl rfl aK31b ?_
                          refine OpE.val (W := NoB) (OpV.move (.inl rfl) rfl) rfl ?_
                          refine VO.opY rfl rfl rfl rfl aK31b ?_
                          refine OpE.val (W := NoB) (OpV.mul rfl rfl rfl (by have h := prodC (a := (ma : Int)) (b := (nd : Int)) (A := 18000000) (B := 18) (by omega) (by omega) (by omega) (by omega); unfold fits; omega)) rfl ?_
                          refine VO.opY rfl rfl rfl rfl aK31b ?_
                          refine OpE.val (W := NoB) (OpV.gtr rfl rfl rfl) rfl ?_
                          refine VO.le _ (Le.boolF (t := 209) rfl (decide_eq_false (by have h := hO3 (not_true_false (by assumption)) (by omega); omega))) ?_
                          refine VO.val rfl rfl (OpV.pickT rfl rfl rfl rfl aK31b) ?_
                          refine VO.nil ?_
                          refine VC.condF rfl rfl ?_
                          refine VC.skip ?_
                          refine VC.region ?_
                          refine VO.val rfl rfl (OpV.add rfl rfl rfl (by unfold fits; omega)) ?_
                          refine VO.mv rfl rfl rfl rfl ?_
                          refine VO.nil ?_
                          exact Exists.intro (⟨r + 1, by omega⟩) (And.intro (Le.mk hB [0, 1] ⟨rfl, rfl, rfl, rfl, rfl, rfl, rfl, rfl, rfl, rfl, rfl, rfl, trivial⟩ rfl rfl (Nle rfl)) (by first | omega | (show _ < _; omega) | (simp only []; omega)))
                        · replace aK31b : _ = false := aK31b
                          have aK31 := aK31b
                          try simp only [qqT, qqF, qqN, qqM, qqL, qqE] at aK31
                          refine VO.opX rfl rfl rfl rfl aK31b ?_
                          refine VO.opX rfl rfl rfl rfl aK31b ?_
                          refine VO.opX rfl rfl rfl rfl aK31b ?_
                          refine VO.opX rfl rfl rfl rfl aK31b ?_
                          refine VO.opX rfl rfl rfl rfl aK31b ?_
                          refine VO.opX rfl rfl rfl rfl aK31b ?_
                          refine VO.opX rfl rfl rfl rfl aK31b ?_
                          refine VO.opX rfl rfl rfl rfl aK31b ?_
                          refine VO.opX rfl rfl rfl rfl aK31b ?_
                          refine VO.val rfl rfl (OpV.pickF rfl rfl rfl rfl aK31b) ?_
                          refine VO.nil ?_
                          refine VC.condF rfl rfl ?_
                          refine VC.skip ?_
                          refine VC.region ?_
                          refine VO.val rfl rfl (OpV.add rfl rfl rfl (by unfold fits; omega)) ?_
                          refine VO.mv rfl rfl rfl rfl ?_
                          refine VO.nil ?_
                          exact Exists.intro (⟨r + 1, by omega⟩) (And.intro (Le.mk hB [0, 1] ⟨rfl, rfl, rfl, rfl, rfl, rfl, rfl, rfl, rfl, rfl, rfl, rfl, trivial⟩ rfl rfl (Nle rfl)) (by first | omega | (show _ < _; omega) | (simp only []; omega)))
                      · replace aK30b : _ = false := aK30b
                        have aK30 := aK30b
                        try simp only [qqT, qqF, qqN, qqM, qqL, qqE] at aK30
                        refine VO.opX rfl rfl rfl rfl aK30b ?_
                        refine VO.val rfl rfl (OpV.pickF rfl rfl rfl rfl aK30b) ?_
                        refine VO.mv rfl rfl rfl rfl ?_
                        refine VO.opX rfl rfl rfl rfl rfl ?_
                        refine VO.opX rfl rfl rfl rfl rfl ?_
                        refine VO.opX rfl rfl rfl rfl rfl ?_
                        refine VO.opX rfl rfl rfl rfl rfl ?_
                        refine VO.opX rfl rfl rfl rfl rfl ?_
                        refine VO.opX rfl rfl rfl rfl rfl ?_
                        refine VO.opX rfl rfl rfl rfl rfl ?_
                        refine VO.opX rfl rfl rfl rfl rfl ?_
                        refine VO.opX rfl rfl rfl rfl rfl ?_
                        refine VO.opX rfl rfl rfl rfl rfl ?_
                        refine VO.val rfl rfl (OpV.pickF rfl rfl rfl rfl rfl) ?_
                        refine VO.nil ?_
                        refine VC.condF rfl rfl ?_
                        refine VC.skip ?_
                        refine VC.region ?_
                        refine VO.val rfl rfl (OpV.add rfl rfl rfl (by unfold fits; omega)) ?_
                        refine VO.mv rfl rfl rfl rfl ?_
                        refine VO.nil ?_
                        exact Exists.intro (⟨r + 1, by omega⟩) (And.intro (Le.mk hB [0, 1] ⟨rfl, rfl, rfl, rfl, rfl, rfl, rfl, rfl, rfl, rfl, rfl, rfl, trivial⟩ rfl rfl (Nle rfl)) (by first | omega | (show _ < _; omega) | (simp only []; omega)))
                  · replace aK26b : _ = false := aK26b
                    have aK26 := aK26b
                    try simp only [qqT, qqF, qqN, qqM, qqL, qqE] at aK26
                    refine VO.opX rfl rfl rfl rfl aK26b ?_
                    refine VO.opX rfl rfl rfl rfl aK26b ?_
                    refine VO.opX rfl rfl rfl rfl aK26b ?_
                    refine VO.opX rfl rfl rfl rfl aK26b ?_
                    refine VO.opX rfl rfl rfl rfl aK26b ?_
                    refine VO.opX rfl rfl rfl rfl aK26b ?_
                    refine VO.opX rfl rfl rfl rfl aK26b ?_
                    refine VO.opX rfl rfl rfl rfl aK26b ?_
                    refine VO.opX rfl rfl rfl rfl aK26b ?_
                    refine VO.opU rfl rfl rfl rfl ?_
                    refine VO.opU rfl rfl rfl rfl ?_
                    refine VO.opU rfl rfl rfl rfl ?_
                    refine VO.opU rfl rfl rfl rfl ?_
                    refine VO.opU rfl rfl rfl rfl ?_
                    refine VO.opU rfl rfl rfl rfl ?_
                    refine VO.opU rfl rfl rfl rfl ?_
                    refine VO.opU rfl rfl rfl rfl ?_
                    refine VO.opU rfl rfl rfl rfl ?_
                    refine VO.opU rfl rfl rfl rfl ?_
                    refine VO.opU rfl rfl rfl rfl ?_
                    refine VO.opU rfl rfl rfl rfl ?_
                    refine VO.opU rfl rfl rfl rfl ?_
                    refine VO.opU rfl rfl rfl rfl ?_
                    refine VO.opX rfl rfl rfl rfl aK26b ?_
                    refine VO.val rfl rfl (OpV.pickF rfl rfl rfl rfl aK26b) ?_
                    refine VO.nil ?_
                    refine VC.condF rfl rfl ?_
                    refine VC.skip ?_
                    refine VC.sr ?_
                    refine VO.mv rfl rfl rfl rfl ?_
                    refine VO.mv rfl rfl rfl rfl ?_
                    refine VO.val rfl rfl (OpV.geq rfl rfl rfl) ?_
                    refine VO.mv rfl rfl rfl rfl ?_
                    refine VO.opG rfl rfl rfl rfl (fun aK32b => ?_) (fun aK32b => ?_)
                    · replace aK32b : _ = true := aK32b
                      have aK32 := aK32b
                      try simp only [qqT, qqF, qqN, qqM, qqL, qqE] at aK32
                      refine OpE.val (W := NoB) (OpV.move (.inl rfl) rfl) rfl ?_
                      refine VO.opY rfl rfl rfl rfl aK32b ?_
                      refine OpE.val (W := NoB) (OpV.not rfl rfl) rfl ?_
                      refine VO.val rfl rfl (OpV.pickT rfl rfl rfl rfl aK32b) ?_
                      refine VO.mv rfl rfl rfl rfl ?_
                      refine VO.opG rfl rfl rfl rfl (fun aK33b => ?_) (fun aK33b => ?_)
                      · replace aK33b : _ = true := aK33b
                        have aK33 := aK33b
                        try simp only [qqT, qqF, qqN, qqM, qqL, qqE] at aK33
                        refine OpE.val (W := NoB) (OpV.move (.inl rfl) rfl) rfl ?_
                        refine VO.opY rfl rfl rfl rfl aK33b ?_
                        refine OpE.val (W := NoB) (OpV.mul rfl rfl rfl (by unfold fits; omega)) rfl ?_
                        refine VO.opY rfl rfl rfl rfl aK33b ?_
                        refine OpE.val (W := NoB) (OpV.fieldAddrO 1 rfl Tryz.underlying74 rfl rfl Tryz.sizeOf3 rfl) rfl ?_
                        refine VO.opY rfl rfl rfl rfl aK33b ?_
                        refine OpE.val (W := NoB) (OpV.load_own (i := 1) rfl hB Tryz.isAgg3 rfl rfl rfl (fun h => h)) rfl ?_
                        refine VO.opY rfl rfl rfl rfl aK33b ?_
                        refine OpE.val (W := NoB) (OpV.mul rfl rfl rfl (by have h := prodC (a := (na : Int) * 1000000) (b := (mb : Int)) (A := 18000000) (B := 18) (by omega) (by omega) (by omega) (by omega); unfold fits; omega)) rfl ?_
                        refine VO.opY rfl rfl rfl rfl aK33b ?_
                        refine OpE.val (W := NoB) (OpV.fieldAddrO 0 rfl Tryz.underlying74 rfl rfl Tryz.sizeOf3 rfl) rfl ?_
                        refine VO.opY rfl rfl rfl rfl aK33b ?_
                        refine OpE.val (W := NoB) (OpV.load_own (i := 1) rfl hB Tryz.isAgg3 rfl rfl rfl (fun h => h)) rfl ?_
                        refine VO.opY rfl rfl rfl rfl aK33b ?_
                        refine OpE.val (W := NoB) (OpV.move (.inl rfl) rfl) rfl ?_
                        refine VO.opY rfl rfl rfl rfl aK33b ?_
                        refine OpE.val (W := NoB) (OpV.mul rfl rfl rfl (by have h := prodC (a := (ma : Int)) (b := (nd : Int)) (A := 18000000) (B := 18) (by omega) (by omega) (by omega) (by omega); unfold fits; omega)) rfl ?_
                        refine VO.opY rfl rfl rfl rfl aK33b ?_
                        refine OpE.val (W := NoB) (OpV.gtr rfl rfl rfl) rfl ?_
                        refine VO.le _ (Le.boolF (t := 209) rfl (decide_eq_false (by have h := hO3 (not_true_false (by assumption)) (by omega); omega))) ?_
                        refine VO.val rfl rfl (OpV.pickT rfl rfl rfl rfl aK33b) ?_
                        refine VO.nil ?_
                        refine VC.condF rfl rfl ?_
                        refine VC.skip ?_
                        refine VC.region ?_
                        refine VO.val rfl rfl (OpV.add rfl rfl rfl (by unfold fits; omega)) ?_
                        refine VO.mv rfl rfl rfl rfl ?_
                        refine VO.nil ?_
                        exact Exists.intro (⟨r + 1, by omega⟩) (And.intro (Le.mk hB [0, 1] ⟨rfl, rfl, rfl, rfl, rfl, rfl, rfl, rfl, rfl, rfl, rfl, rfl, trivial⟩ rfl rfl (Nle rfl)) (by first | omega | (show _ < _; omega) | (simp only []; omega)))
                      · replace aK33b : _ = false := aK33b
                        have aK33 := aK33b
                        try simp only [qqT, qqF, qqN, qqM, qqL, qqE] at aK33
                        refine VO.opX rfl rfl rfl rfl aK33b ?_
                        refine VO.opX rfl rfl rfl rfl aK33b ?_
                        refine VO.opX rfl rfl rfl rfl aK33b ?_
                        refine VO.opX rfl rfl rfl rfl aK33b ?_
                        refine VO.opX rfl rfl rfl rfl aK33b ?_
                        refine VO.opX rfl rfl rfl rfl aK33b ?_
                        refine VO.opX rfl rfl rfl rfl aK33b ?_
                        refine VO.opX rfl rfl rfl rfl aK33b ?_
                        refine VO.opX rfl rfl rfl rfl aK33b ?_
                        refine VO.val rfl rfl (OpV.pickF rfl rfl rfl rfl aK33b) ?_
                        refine VO.nil ?_
                        refine VC.condF rfl rfl ?_
                        refine VC.skip ?_
                        refine VC.region ?_
                        refine VO.val rfl rfl (OpV.add rfl rfl rfl (by unfold fits; omega)) ?_
                        refine VO.mv rfl rfl rfl rfl ?_
                        refine VO.nil ?_
                        exact Exists.intro (⟨r + 1, by omega⟩) (And.intro (Le.mk hB [0, 1] ⟨rfl, rfl, rfl, rfl, rfl, rfl, rfl, rfl, rfl, rfl, rfl, rfl, trivial⟩ rfl rfl (Nle rfl)) (by first | omega | (show _ < _; omega) | (simp only []; omega)))
                    · replace aK32b : _ = false := aK32b
                      have aK32 := aK32b
                      try simp only [qqT, qqF, qqN, qqM, qqL, qqE] at aK32
                      refine VO.opX rfl rfl rfl rfl aK32b ?_
                      refine VO.val rfl rfl (OpV.pickF rfl rfl rfl rfl aK32b) ?_
                      refine VO.mv rfl rfl rfl rfl ?_
                      refine VO.opX rfl rfl rfl rfl rfl ?_
                      refine VO.opX rfl rfl rfl rfl rfl ?_
                      refine VO.opX rfl rfl rfl rfl rfl ?_
                      refine VO.opX rfl rfl rfl rfl rfl ?_
                      refine VO.opX rfl rfl rfl rfl rfl ?_
                      refine VO.opX rfl rfl rfl rfl rfl ?_
                      refine VO.opX rfl rfl rfl rfl rfl ?_
                      refine VO.opX rfl rfl rfl rfl rfl ?_
                      refine VO.opX rfl rfl rfl rfl rfl ?_
                      refine VO.opX rfl rfl rfl rfl rfl ?_
                      refine VO.val rfl rfl (OpV.pickF rfl rfl rfl rfl rfl) ?_
                      refine VO.nil ?_
                      refine VC.condF rfl rfl ?_
                      refine VC.skip ?_
                      refine VC.region ?_
                      refine VO.val rfl rfl (OpV.add rfl rfl rfl (by unfold fits; omega)) ?_
                      refine VO.mv rfl rfl rfl rfl ?_
                      refine VO.nil ?_
                      exact Exists.intro (⟨r + 1, by omega⟩) (And.intro (Le.mk hB [0, 1] ⟨rfl, rfl, rfl, rfl, rfl, rfl, rfl, rfl, rfl, rfl, rfl, rfl, trivial⟩ rfl rfl (Nle rfl)) (by first | omega | (show _ < _; omega) | (simp only []; omega)))
                · replace aK25b : _ = false := aK25b
                  have aK25 := aK25b
                  try simp only [qqT, qqF, qqN, qqM, qqL, qqE] at aK25
                  refine VO.val rfl rfl (OpV.pickF rfl rfl rfl rfl aK25b) ?_
                  refine VO.mv rfl rfl rfl rfl ?_
                  refine VO.opX rfl rfl rfl rfl rfl ?_
                  refine VO.opX rfl rfl rfl rfl rfl ?_
                  refine VO.opX rfl rfl rfl rfl rfl ?_
                  refine VO.opX rfl rfl rfl rfl rfl ?_
                  refine VO.opX rfl rfl rfl rfl rfl ?_
                  refine VO.opX rfl rfl rfl rfl rfl ?_
                  refine VO.opX rfl rfl rfl rfl rfl ?_
                  refine VO.opX rfl rfl rfl rfl rfl ?_
                  refine VO.opX rfl rfl rfl rfl rfl ?_
                  refine VO.opX rfl rfl rfl rfl rfl ?_
                  refine VO.opU rfl rfl rfl rfl ?_
                  refine VO.opU rfl rfl rfl rfl ?_
                  refine VO.opU rfl rfl rfl rfl ?_
                  refine VO.opU rfl rfl rfl rfl ?_
                  refine VO.opU rfl rfl rfl rfl ?_
                  refine VO.opU rfl rfl rfl rfl ?_
                  refine VO.opU rfl rfl rfl rfl ?_
                  refine VO.opU rfl rfl rfl rfl ?_
                  refine VO.opU rfl rfl rfl rfl ?_
                  refine VO.opU rfl rfl rfl rfl ?_
                  refine VO.opU rfl rfl rfl rfl ?_
                  refine VO.opU rfl rfl rfl rfl ?_
                  refine VO.opU rfl rfl rfl rfl ?_
                  refine VO.opU rfl rfl rfl rfl ?_
                  refine VO.opX rfl rfl rfl rfl rfl ?_
                  refine VO.val rfl rfl (OpV.pickF rfl rfl rfl rfl rfl) ?_
                  refine VO.nil ?_
                  refine VC.condF rfl rfl ?_
                  refine VC.skip ?_
                  refine VC.sr ?_
                  refine VO.mv rfl rfl rfl rfl ?_
                  refine VO.mv rfl rfl rfl rfl ?_
                  refine VO.val rfl rfl (OpV.geq rfl rfl rfl) ?_
                  refine VO.mv rfl rfl rfl rfl ?_
                  refine VO.opG rfl rfl rfl rfl (fun aK34b => ?_) (fun aK34b => ?_)
                  · replace aK34b : _ = true := aK34b
                    have aK34 := aK34b
                    try simp only [qqT, qqF, qqN, qqM, qqL, qqE] at aK34
                    refine OpE.val (W := NoB) (OpV.move (.inl rfl) rfl) rfl ?_
                    refine VO.opY rfl rfl rfl rfl aK34b ?_
                    refine OpE.val (W := NoB) (OpV.not rfl rfl) rfl ?_
                    refine VO.val rfl rfl (OpV.pickT rfl rfl rfl rfl aK34b) ?_
                    refine VO.mv rfl rfl rfl rfl ?_
                    refine VO.opG rfl rfl rfl rfl (fun aK35b => ?_) (fun aK35b => ?_)
                    · replace aK35b : _ = true := aK35b
                      have aK35 := aK35b
                      try simp only [qqT, qqF, qqN, qqM, qqL, qqE] at aK35
                      refine OpE.val (W := NoB) (OpV.move (.inl rfl) rfl) rfl ?_
                      refine VO.opY rfl rfl rfl rfl aK35b ?_
                      refine OpE.val (W := NoB) (OpV.mul rfl rfl rfl (by unfold fits; omega)) rfl ?_
                      refine VO.opY rfl rfl rfl rfl aK35b ?_
                      refine OpE.val (W := NoB) (OpV.fieldAddrO 1 rfl Tryz.underlying74 rfl rfl Tryz.sizeOf3 rfl) rfl ?_
                      refine VO.opY rfl rfl rfl rfl aK35b ?_
                      refine OpE.val (W := NoB) (OpV.load_own (i := 1) rfl hB Tryz.isAgg3 rfl rfl rfl (fun h => h)) rfl ?_
                      refine VO.opY rfl rfl rfl rfl aK35b ?_
                      refine OpE.val (W := NoB) (OpV.mul rfl rfl rfl (by have h := prodC (a := (na : Int) * 1000000) (b := (mb : Int)) (A := 18000000) (B := 18) (by omega) (by omega) (by omega) (by omega); unfold fits; omega)) rfl ?_
                      refine VO.opY rfl rfl rfl rfl aK35b ?_
                      refine OpE.val (W := NoB) (OpV.fieldAddrO 0 rfl Tryz.underlying74 rfl rfl Tryz.sizeOf3 rfl) rfl ?_
                      refine VO.opY rfl rfl rfl rfl aK35b ?_
                      refine OpE.val (W := NoB) (OpV.load_own (i := 1) rfl hB Tryz.isAgg3 rfl rfl rfl (fun h => h)) rfl ?_
                      refine VO.opY rfl rfl rfl rfl aK35b ?_
                      refine OpE.val (W := NoB) (OpV.move (.inl rfl) rfl) rfl ?_
                      refine VO.opY rfl rfl rfl rfl aK35b ?_
                      refine OpE.val (W := NoB) (OpV.mul rfl rfl rfl (by have h := prodC (a := (ma : Int)) (b := (nd : Int)) (A := 18000000) (B := 18) (by omega) (by omega) (by omega) (by omega); unfold fits; omega)) rfl ?_
                      refine VO.opY rfl rfl rfl rfl aK35b ?_
                      refine OpE.val (W := NoB) (OpV.gtr rfl rfl rfl) rfl ?_
                      refine VO.le _ (Le.boolF (t := 209) rfl (decide_eq_false (by have h := hO3 (not_true_false (by assumption)) (by omega); omega))) ?_
                      refine VO.val rfl rfl (OpV.pickT rfl rfl rfl rfl aK35b) ?_
                      refine VO.nil ?_
                      refine VC.condF rfl rfl ?_
                      refine VC.skip ?_
                      refine VC.region ?_
                      refine VO.val rfl rfl (OpV.add rfl rfl rfl (by unfold fits; omega)) ?_
                      refine VO.mv rfl rfl rfl rfl ?_
                      refine VO.nil ?_
                      exact Exists.intro (⟨r + 1, by omega⟩) (And.intro (Le.mk hB [0, 1] ⟨rfl, rfl, rfl, rfl, rfl, rfl, rfl, rfl, rfl, rfl, rfl, rfl, trivial⟩ rfl rfl (Nle rfl)) (by first | omega | (show _ < _; omega) | (simp only []; omega)))
                    · replace aK35b : _ = false := aK35b
                      have aK35 := aK35b
                      try simp only [qqT, qqF, qqN, qqM, qqL, qqE] at aK35
                      refine VO.opX rfl rfl rfl rfl aK35b ?_
                      refine VO.opX rfl rfl rfl rfl aK35b ?_
                      refine VO.opX rfl rfl rfl rfl aK35b ?_
                      refine VO.opX rfl rfl rfl rfl aK35b ?_
                      refine VO.opX rfl rfl rfl rfl aK35b ?_
                      refine VO.opX rfl rfl rfl rfl aK35b ?_
                      refine VO.opX rfl rfl rfl rfl aK35b ?_
                      refine VO.opX rfl rfl rfl rfl aK35b ?_
                      refine VO.opX rfl rfl rfl rfl aK35b ?_
                      refine VO.val rfl rfl (OpV.pickF rfl rfl rfl rfl aK35b) ?_
                      refine VO.nil ?_
                      refine VC.condF rfl rfl ?_
                      refine VC.skip ?_
                      refine VC.region ?_
                      refine VO.val rfl rfl (OpV.add rfl rfl rfl (by unfold fits; omega)) ?_
                      refine VO.mv rfl rfl rfl rfl ?_
                      refine VO.nil ?_
                      exact Exists.intro (⟨r + 1, by omega⟩) (And.intro (Le.mk hB [0, 1] ⟨rfl, rfl, rfl, rfl, rfl, rfl, rfl, rfl, rfl, rfl, rfl, rfl, trivial⟩ rfl rfl (Nle rfl)) (by first | omega | (show _ < _; omega) | (simp only []; omega)))
                  · replace aK34b : _ = false := aK34b
                    have aK34 := aK34b
                    try simp only [qqT, qqF, qqN, qqM, qqL, qqE] at aK34
                    refine VO.opX rfl rfl rfl rfl aK34b ?_
                    refine VO.val rfl rfl (OpV.pickF rfl rfl rfl rfl aK34b) ?_
                    refine VO.mv rfl rfl rfl rfl ?_
                    refine VO.opX rfl rfl rfl rfl rfl ?_
                    refine VO.opX rfl rfl rfl rfl rfl ?_
                    refine VO.opX rfl rfl rfl rfl rfl ?_
                    refine VO.opX rfl rfl rfl rfl rfl ?_
                    refine VO.opX rfl rfl rfl rfl rfl ?_
                    refine VO.opX rfl rfl rfl rfl rfl ?_
                    refine VO.opX rfl rfl rfl rfl rfl ?_
                    refine VO.opX rfl rfl rfl rfl rfl ?_
                    refine VO.opX rfl rfl rfl rfl rfl ?_
                    refine VO.opX rfl rfl rfl rfl rfl ?_
                    refine VO.val rfl rfl (OpV.pickF rfl rfl rfl rfl rfl) ?_
                    refine VO.nil ?_
                    refine VC.condF rfl rfl ?_
                    refine VC.skip ?_
                    refine VC.region ?_
                    refine VO.val rfl rfl (OpV.add rfl rfl rfl (by unfold fits; omega)) ?_
                    refine VO.mv rfl rfl rfl rfl ?_
                    refine VO.nil ?_
                    exact Exists.intro (⟨r + 1, by omega⟩) (And.intro (Le.mk hB [0, 1] ⟨rfl, rfl, rfl, rfl, rfl, rfl, rfl, rfl, rfl, rfl, rfl, rfl, trivial⟩ rfl rfl (Nle rfl)) (by first | omega | (show _ < _; omega) | (simp only []; omega)))
            · have aH21 := aH21b
              try simp only [qqT, qqF, qqN, qqM, qqL, qqE] at aH21
              refine VC.exit ?_
              refine VC.region ?_
              refine VO.val rfl rfl (OpV.add rfl rfl rfl (by unfold fits; omega)) ?_
              refine VO.mv rfl rfl rfl rfl ?_
              refine VO.nil ?_
              exact Exists.intro (⟨i + 1, by omega⟩) (And.intro (Le.mk hB [0, 1] ⟨rfl, rfl, rfl, rfl, rfl, rfl, rfl, rfl, rfl, trivial⟩ rfl rfl (Nle rfl)) (by first | omega | (show _ < _; omega) | (simp only []; omega)))
          · have aH20 := aH20b
            try simp only [qqT, qqF, qqN, qqM, qqL, qqE] at aH20
            refine VC.exit ?_
            refine VC.sr ?_
            refine VO.op rfl (OpE.call rfl hB rfl Tryz.call72 rfl (SpecN.spec (rk_ready)) ?_)
            rintro _ rfl
            refine VO.ma rfl rfl rfl rfl ?_
            refine VO.nil ?_
            refine VC.ret ?_
            exact And.intro rfl rfl
end Go.Proofs.YtmahammdnmmmoaaGreatDoor
