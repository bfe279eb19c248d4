/- Part 3 of a proof: the walks and laws that it needs. -/
import Derived.Test.YtmahammdnmmmoaaGreatDoorZO2
namespace Go.Proofs.YtmahammdnmmmoaaGreatDoor
open Go.RowKit
set_option linter.unusedVariables false
set_option linter.unusedSimpArgs false
abbrev eSh : ShS → AV := fun s => .agg [avI (s.1 : Int), avI (s.2 : Int)]
abbrev boxSh (g : Nat) (s : ShS) : Ent := .box g ⟨[avI (s.1 : Int), avI (s.2 : Int)], 186, 2⟩
theorem sh_zero {w : World} {Z : Nat → Prop} : Rep w Z (eSh (0, 0)) (.agg #[.int .i64 0, .int .i64 0]) := .agg _ _ rfl fun j hj => by
 match j, hj with
 | 0, _ => exact .v _
 | 1, _ => exact .v _
theorem sh_next {A : List (ByteArray × Bool)} {ks : List ByteArray} {b : Bool} {r : Nat} (h : r < ks.length) : shM (A ++ (ks.take (r + 1)).map fun k => (k, b)) = mput (shM (A ++ (ks.take r).map fun k => (k, b))) (ks.getD r ByteArray.empty) (shAdd (mgetD (shM (A ++ (ks.take r).map fun k => (k, b))) (ks.getD r ByteArray.empty) (0, 0)) b) := by
 have : ks.take (r + 1) = ks.take r ++ [ks.getD r ByteArray.empty] := by
  rw [List.take_succ_eq_append_getElem h]; simp [h]
 rw [this, List.map_append, ← List.append_assoc]
 exact shM_snoc _ _
theorem kvs_len {f : LookS → List ByteArray} {l : List LookS} (hf : ∀ i, (f (l.getD i default)).length ≤ 2) : ∀ q, q ≤ l.length → (kvs f (l.take q)).length ≤ 2 * q
 | 0, _ => by simp [kvs]
 | q + 1, hq => by
  have ih := kvs_len hf q (by omega)
  have := hf q
  rw [kvs_take (by omega), List.length_append, List.length_map]
  omega
theorem sh_bd {f : LookS → List ByteArray} {l : List LookS} {q r : Nat} {k : ByteArray} (hf : ∀ i, (f (l.getD i default)).length ≤ 2) (hq : q < l.length) (hl : l.length ≤ 1000000) : (mgetD (shM (kvs f (l.take q) ++ ((f (l.getD q default)).take r).map fun k => (k, (l.getD q default).bad))) k (0, 0)).1 ≤ 1000000000 ∧ (mgetD (shM (kvs f (l.take q) ++ ((f (l.getD q default)).take r).map fun k => (k, (l.getD q default).bad))) k (0, 0)).2 ≤ 1000000000 := by
 rw [shM_get]
 have h1 := shCnt_le (kvs f (l.take q) ++ ((f (l.getD q default)).take r).map fun k => (k, (l.getD q default).bad)) k
 have h2 := kvs_len hf q (by omega)
 have h3 := hf q
 have h4 : ((f (l.getD q default)).take r).length ≤ 2 := by rw [List.length_take]; omega
 rw [List.length_append, List.length_map] at h1
 omega
theorem kvs_all {f : LookS → List ByteArray} {l : List LookS} : kvs f (l.take l.length) = kvs f l := by rw [List.take_length]
set_option maxRecDepth 100000 in
set_option maxHeartbeats 4000000 in
theorem inspect_shares {l : List LookS} {F : FuncId} {f : LookS → List ByteArray} (hl : l.length ≤ 1000000) (hcall : ∀ us w, (callFunc F us).run Tryz.prog w = .ok (.enter F us) w) (hF : ∀ i, Spec Tryz.prog F ([avT (l.getD i default)] ++ []) (fun y => y = avStrs (f (l.getD i default)))) (hf : ∀ i, (f (l.getD i default)).length ≤ 2) :
  SpecH Tryz.prog 161 [avL l, .v (.func (.func F) #[] #[])] [] (fun y hp' => ∃ g, y = .v (.map (some g)) ∧ hp' = [mapE kvS g eSh (shM (kvs f l))]) := by
 refine SpecH.of_VC Tryz.func161 rfl Tryz.ntmps161 (Nle rfl) fun w A hB => ?_
 have hnew : True := trivial
 refine VC.sr ?_
 refine VO.ma rfl rfl rfl rfl ?_
 refine VO.nil ?_
 refine VC.sr ?_
 refine VO.op rfl (OpE.makeMap (kvS) (eSh) rfl hB rfl ?_)
 intro g11
 refine VO.ma rfl rfl rfl rfl ?_
 refine VO.nil ?_
 refine VC.seq ?_
 refine VC.sr ?_
 refine VO.mv rfl rfl rfl rfl ?_
 refine VO.val rfl rfl (OpV.len_im rfl Tryz.underlying61 rfl) ?_
 refine VO.mv rfl rfl rfl rfl ?_
 refine VO.nil ?_
 refine VC.block ?_
 refine VC.loopK [(1, _), (5, _), (12, _), (13, _)] ⟨rfl, rfl, rfl, rfl, trivial⟩ ({q : Nat // q ≤ l.length}) (fun (iZ : {q : Nat // q ≤ l.length}) => match iZ with | ⟨q, hq⟩ => [(14, avI (q : Int))]) (fun (iZ : {q : Nat // q ≤ l.length}) => match iZ with | ⟨q, hq⟩ => [mapE kvS g11 eSh (shM (kvs f (l.take q)))]) (fun (iZ : {q : Nat // q ≤ l.length}) => match iZ with | ⟨q, hq⟩ => 0) (fun (iZ : {q : Nat // q ≤ l.length}) => match iZ with | ⟨q, hq⟩ => l.length - q) ⟨0, Nat.zero_le _⟩ (Le.mk hB [0] ⟨rfl, rfl, rfl, rfl, rfl, trivial⟩ rfl rfl (Nat.le_refl _)) ?_
 rintro ⟨q, hq⟩
 show VC _ _ _ _ ⟨[(14, avI (q : Int))] ++ [(1, _), (5, _), (12, _), (13, _)], [mapE kvS g11 eSh (shM (kvs f (l.take q)))], 0⟩
 refine VC.sr ?_
 refine VO.val rfl rfl (OpV.lss rfl rfl rfl) ?_
 refine VO.nil ?_
 refine VC.seq ?_
 refine VC.cond rfl (fun aH1b => ?_) (fun aH1b => ?_)
 ·have aH1 := aH1b
  try simp only [qqT, qqF, qqN, qqM, qqL, qqE] at aH1
  refine VC.skip ?_
  refine VC.seq ?_
  refine VC.block ?_
  refine VC.sr ?_
  refine VO.val rfl rfl (OpV.indexAddr_E rfl Tryz.underlying61 Tryz.sizeOf66 rfl rfl rfl (by omega)) ?_
  refine VO.val rfl rfl (OpV.loadK_at rfl hB OutW.no Tryz.isAgg66 Tryz.sizeOf66 rfl rfl) ?_
  refine VO.op rfl (OpE.alloc rfl hB rfl Tryz.zeroValue66 rfl ?_)
  intro g7
  refine VO.op rfl (OpE.store (i := 1) rfl hB rfl Tryz.sizeOf66 rfl rfl rfl rfl rfl rfl (Nle rfl) trivial ?_)
  refine VO.nil ?_
  refine VC.sr ?_
  refine VO.mv rfl rfl rfl rfl ?_
  refine VO.le _ (Le.recast (t := 18) (y := .fn F []) rfl (fun w Z u h => by rw [h.eq_v]; exact .fn F [] #[] rfl fun j hj => by simp at hj)) ?_
  refine VO.val rfl rfl (OpV.loadK_own (i := 1) rfl hB Tryz.isAgg66 Tryz.sizeOf66 rfl rfl rfl (fun h => h)) ?_
  refine VO.op rfl (OpE.callF rfl hB rfl hcall rfl rfl (hF q) ?_)
  rintro _ rfl
  refine VO.val rfl rfl (OpV.len_im rfl Tryz.underlying95 rfl) ?_
  refine VO.mv rfl rfl rfl rfl ?_
  refine VO.nil ?_
  refine VC.block ?_
  refine VC.loopK [(1, _), (5, _), (7, _), (12, _), (13, _), (14, _), (20, _), (21, _)] ⟨rfl, rfl, rfl, rfl, rfl, rfl, rfl, rfl, trivial⟩ ({r : Nat // r ≤ (f (l.getD q default)).length}) (fun (iZ : {r : Nat // r ≤ (f (l.getD q default)).length}) => match iZ with | ⟨r, hq1⟩ => [(22, avI (r : Int))]) (fun (iZ : {r : Nat // r ≤ (f (l.getD q default)).length}) => match iZ with | ⟨r, hq1⟩ => [mapE kvS g11 eSh (shM (kvs f (l.take q) ++ ((f (l.getD q default)).take r).map fun k => (k, (l.getD q default).bad))), boxLk g7 (l.getD q default) 66]) (fun (iZ : {r : Nat // r ≤ (f (l.getD q default)).length}) => match iZ with | ⟨r, hq1⟩ => 0) (fun (iZ : {r : Nat // r ≤ (f (l.getD q default)).length}) => match iZ with | ⟨r, hq1⟩ => (f (l.getD q default)).length - r) ⟨0, Nat.zero_le _⟩ (Le.mk hB [0, 1] ⟨rfl, rfl, rfl, rfl, rfl, rfl, rfl, rfl, rfl, trivial⟩ rfl (by dsimp only; rw [List.take_zero, List.map_nil, List.append_nil]; rfl) (Nat.le_refl _)) ?_
  rintro ⟨r, hq1⟩
  show VC _ _ _ _ ⟨[(22, avI (r : Int))] ++ [(1, _), (5, _), (7, _), (12, _), (13, _), (14, _), (20, _), (21, _)], [mapE kvS g11 eSh (shM (kvs f (l.take q) ++ ((f (l.getD q default)).take r).map fun k => (k, (l.getD q default).bad))), boxLk g7 (l.getD q default) 66], 0⟩
  have hfq := hf q
  refine VC.sr ?_
  refine VO.val rfl rfl (OpV.lss rfl rfl rfl) ?_
  refine VO.nil ?_
  refine VC.seq ?_
  refine VC.cond rfl (fun aH2b => ?_) (fun aH2b => ?_)
  ·have aH2 := aH2b
   try simp only [qqT, qqF, qqN, qqM, qqL, qqE] at aH2
   refine VC.skip ?_
   refine VC.seq ?_
   refine VC.block ?_
   refine VC.sr ?_
   refine VO.val rfl rfl (OpV.indexAddr_1 rfl Tryz.underlying95 Tryz.sizeOf9 rfl rfl rfl (by omega)) ?_
   refine VO.val rfl rfl (OpV.load_at rfl hB OutW.no Tryz.isAgg9 rfl rfl) ?_
   refine VO.ma rfl rfl rfl rfl ?_
   refine VO.nil ?_
   refine VC.sr ?_
   have hbd := sh_bd (f := f) (l := l) (q := q) (r := r) (k := (f (l.getD q default)).getD r ByteArray.empty) hf (by omega) hl
   refine VO.mv rfl rfl rfl rfl ?_
   refine VO.mv rfl rfl rfl rfl ?_
   refine VO.val rfl rfl (OpV.lookup_own (i := 0) rfl hB Tryz.underlying197 (KeyOk.str Tryz.underlying9) Tryz.zeroValue186 rfl (KeyE.v rfl) rfl (fun h => h)) ?_
   refine VO.le _ (Le.recast (t := 28) (y := eSh (mgetD (shM (kvs f (l.take q) ++ ((f (l.getD q default)).take r).map fun k => (k, (l.getD q default).bad))) ((f (l.getD q default)).getD r ByteArray.empty) (0, 0))) rfl (fun w Z u h => by unfold mgetD; revert h; cases mget (shM (kvs f (l.take q) ++ ((f (l.getD q default)).take r).map fun k => (k, (l.getD q default).bad))) ((f (l.getD q default)).getD r ByteArray.empty) with | none => intro h; rw [h.eq_v]; exact sh_zero | some x => exact id)) ?_
   refine VO.op rfl (OpE.alloc rfl hB rfl Tryz.zeroValue186 rfl ?_)
   intro g10
   refine VO.op rfl (OpE.store (i := 2) rfl hB rfl Tryz.sizeOf186 rfl rfl rfl rfl rfl rfl (Nle rfl) trivial ?_)
   refine VO.nil ?_
   refine VC.sr ?_
   refine VO.val rfl rfl (OpV.loadK_own (i := 1) rfl hB Tryz.isAgg66 Tryz.sizeOf66 rfl rfl rfl (fun h => h)) ?_
   refine VO.op rfl (OpE.callH (rest := [_, _]) rfl hB rfl Tryz.call170 rfl rfl (share_add (x := l.getD q default) (b := (mgetD (shM (kvs f (l.take q) ++ ((f (l.getD q default)).take r).map fun k => (k, (l.getD q default).bad))) ((f (l.getD q default)).getD r ByteArray.empty) (0, 0)).1) (a := (mgetD (shM (kvs f (l.take q) ++ ((f (l.getD q default)).take r).map fun k => (k, (l.getD q default).bad))) ((f (l.getD q default)).getD r ByteArray.empty) (0, 0)).2) hbd.2 hbd.1) (List.perm_append_comm (l₁ := [_, _]) (l₂ := [_])) (fun _ _ => trivial) ?_)
   rintro _ _ ⟨rfl, rfl⟩
   refine VO.nil ?_
   refine VC.region ?_
   refine VO.mv rfl rfl rfl rfl ?_
   refine VO.mv rfl rfl rfl rfl ?_
   refine VO.val rfl rfl (OpV.loadK_own (i := 0) rfl hB Tryz.isAgg186 Tryz.sizeOf186 rfl rfl rfl (fun h => h)) ?_
   refine VO.op rfl (OpE.mapUpdate (i := 1) (xx := shAdd (mgetD (shM (kvs f (l.take q) ++ ((f (l.getD q default)).take r).map fun k => (k, (l.getD q default).bad))) ((f (l.getD q default)).getD r ByteArray.empty) (0, 0)) (l.getD q default).bad) rfl hB rfl Tryz.underlying197 (KeyOk.str Tryz.underlying9) rfl (KeyE.v rfl) rfl rfl trivial ?_)
   refine VO.nil ?_
   refine VC.region ?_
   refine VO.val rfl rfl (OpV.add rfl rfl rfl (by unfold fits; omega)) ?_
   refine VO.mv rfl rfl rfl rfl ?_
   refine VO.nil ?_
   exact Exists.intro (⟨r + 1, by omega⟩) (And.intro (Le.mk hB [1, 2] ⟨rfl, rfl, rfl, rfl, rfl, rfl, rfl, rfl, rfl, trivial⟩ rfl (by dsimp only; rw [sh_next (by omega)]; rfl) (Nat.le_refl _)) (by first | omega | (show _ < _; omega) | (simp only []; omega)))
  ·have aH2 := aH2b
   try simp only [qqT, qqF, qqN, qqM, qqL, qqE] at aH2
   obtain rfl : r = (f (l.getD q default)).length := by omega
   rw [List.take_length]
   refine VC.exit ?_
   refine VC.region ?_
   refine VO.val rfl rfl (OpV.add rfl rfl rfl (by unfold fits; omega)) ?_
   refine VO.mv rfl rfl rfl rfl ?_
   refine VO.nil ?_
   exact Exists.intro (⟨q + 1, by omega⟩) (And.intro (Le.mk hB [0] ⟨rfl, rfl, rfl, rfl, rfl, trivial⟩ rfl (by dsimp only; rw [kvs_take (by omega)]; rfl) (Nat.le_refl _)) (by first | omega | (show _ < _; omega) | (simp only []; omega)))
 ·have aH1 := aH1b
  try simp only [qqT, qqF, qqN, qqM, qqL, qqE] at aH1
  obtain rfl : q = l.length := by omega
  rw [kvs_all]
  refine VC.exit ?_
  refine VC.sr ?_
  refine VO.mv rfl rfl rfl rfl ?_
  refine VO.ma rfl rfl rfl rfl ?_
  refine VO.nil ?_
  refine VC.ret ?_
  exact Exists.intro _ (And.intro (RetV.one Tryz.results161 (ResV.tmp rfl)) (⟨_, rfl, rfl⟩))
def leastE (l : List LookS) (n : Int) : Int := if lookF l ≠ 0 then lookF l else if outR n 1 5000 = true then 1 else 0
theorem leastE_1 {l : List LookS} {n : Int} (h : lookF l ≠ 0) : leastE l n = lookF l := by rw [leastE, if_pos h]
theorem leastE_2 {l : List LookS} {n : Int} (h : lookF l = 0) (h2 : outR n 1 5000 = true) : leastE l n = 1 := by rw [leastE, if_neg (by omega), if_pos h2]
theorem leastE_3 {l : List LookS} {n : Int} (h : lookF l = 0) (h2 : outR n 1 5000 = false) : leastE l n = 0 := by rw [leastE, if_neg (by omega), if_neg (by rw [h2]; simp)]
theorem leastE_zero {l : List LookS} {n : Int} (h : leastE l n = 0) : lookF l = 0 ∧ 1 ≤ n ∧ n ≤ 5000 := by
 unfold leastE at h
 split at h
 ·contradiction
 ·rename_i h1
  split at h
  ·cases h
  ·rename_i h2
   refine ⟨by omega, ?_⟩
   unfold outR at h2; simp at h2; omega
set_option maxRecDepth 100000 in
theorem inspect_leastFault {l : List LookS} {n : Int} (hs : SmLk l) :
  SpecN Tryz.prog 165 [avL l, avI n] (fun y => y = avI (leastE l n)) := by
 refine SpecN.of_VCN Tryz.func165 rfl Tryz.ntmps165 (Nle rfl) fun w A hB => ?_
 have hnew : True := trivial
 refine VC.sr ?_
 refine VO.ma rfl rfl rfl rfl ?_
 refine VO.nil ?_
 refine VC.seq ?_
 refine VC.sr ?_
 refine VO.mv rfl rfl rfl rfl ?_
 refine VO.op rfl (OpE.call rfl hB rfl Tryz.call52 rfl (SpecN.spec (inspect_CheckLooks hs)) ?_)
 rintro _ rfl
 refine VO.ma rfl rfl rfl rfl ?_
 refine VO.nil ?_
 refine VC.sr ?_
 refine VO.mv rfl rfl rfl rfl ?_
 refine VO.val rfl rfl (OpV.neq rfl rfl rfl) ?_
 refine VO.nil ?_
 refine VC.cond rfl (fun h0b => ?_) (fun h0b => ?_)
 ·have h0 := h0b
  try simp only [qqT, qqF, qqN, qqM, qqL, qqE] at h0
  refine VC.sr ?_
  refine VO.mv rfl rfl rfl rfl ?_
  refine VO.ma rfl rfl rfl rfl ?_
  refine VO.nil ?_
  refine VC.ret ?_
  exact Exists.intro _ (And.intro (RetN.one Tryz.results165 (ResN.v rfl)) (by first | rw [leastE_1 h0] | rw [leastE_2 (by omega) h1] | rw [leastE_3 (by omega) h1]))
 ·have h0 := h0b
  try simp only [qqT, qqF, qqN, qqM, qqL, qqE] at h0
  refine VC.skip ?_
  refine VC.seq ?_
  refine VC.sr ?_
  refine VO.mv rfl rfl rfl rfl ?_
  refine VO.op rfl (OpE.call rfl hB rfl Tryz.call171 rfl (SpecN.spec (kit_Outside)) ?_)
  rintro _ rfl
  refine VO.nil ?_
  refine VC.cond rfl (fun h1b => ?_) (fun h1b => ?_)
  ·have h1 := h1b
   try simp only [qqT, qqF, qqN, qqM, qqL, qqE] at h1
   refine VC.sr ?_
   refine VO.ma rfl rfl rfl rfl ?_
   refine VO.nil ?_
   refine VC.ret ?_
   exact Exists.intro _ (And.intro (RetN.one Tryz.results165 (ResN.v rfl)) (by first | rw [leastE_1 h0] | rw [leastE_2 (by omega) h1] | rw [leastE_3 (by omega) h1]))
  ·have h1 := h1b
   try simp only [qqT, qqF, qqN, qqM, qqL, qqE] at h1
   refine VC.skip ?_
   refine VC.sr ?_
   refine VO.ma rfl rfl rfl rfl ?_
   refine VO.nil ?_
   refine VC.ret ?_
   exact Exists.intro _ (And.intro (RetN.one Tryz.results165 (ResN.v rfl)) (by first | rw [leastE_1 h0] | rw [leastE_2 (by omega) h1] | rw [leastE_3 (by omega) h1]))
theorem grt_int (a b c d : Nat) : decide ((c : Int) * (b : Int) < (a : Int) * (d : Int)) = grt (a, b) (c, d) := by
 unfold grt
 refine decide_eq_decide.2 ?_
 show _ ↔ c * b < a * d
 constructor
 ·intro h; exact_mod_cast h
 ·intro h; exact_mod_cast h
theorem prodB {a b : Nat} (ha : a ≤ 2000000) (hb : b ≤ 2000000) : 0 ≤ (a : Int) * (b : Int) ∧ (a : Int) * (b : Int) ≤ 4000000000000 := by
 have h := Nat.mul_le_mul ha hb
 have : ((a * b : Nat) : Int) ≤ 4000000000000 := by omega
 rw [Int.natCast_mul] at this
 exact ⟨Int.mul_nonneg (by omega) (by omega), this⟩
set_option maxRecDepth 100000 in
theorem share_greater {s t : ShS} (h1 : s.1 ≤ 2000000) (h2 : s.2 ≤ 2000000) (h3 : t.1 ≤ 2000000) (h4 : t.2 ≤ 2000000) :
  SpecN Tryz.prog 167 [eSh s, eSh t] (fun y => y = avB (grt s t)) := by
 refine SpecN.of_VCN Tryz.func167 rfl Tryz.ntmps167 (Nle rfl) fun w A hB => ?_
 have hnew : True := trivial
 refine VC.sr ?_
 refine VO.op rfl (OpE.box rfl hB rfl rfl rfl ?_)
 intro g2
 refine VO.op rfl (OpE.box rfl hB rfl rfl rfl ?_)
 intro g3
 refine VO.ma rfl rfl rfl rfl ?_
 refine VO.nil ?_
 refine VC.sr ?_
 refine VO.val rfl rfl (OpV.fieldAddrO 0 rfl Tryz.underlying186 rfl rfl Tryz.sizeOf3 rfl) ?_
 refine VO.val rfl rfl (OpV.load_own (i := 0) rfl hB Tryz.isAgg3 rfl rfl rfl (fun h => h)) ?_
 refine VO.val rfl rfl (OpV.fieldAddrO 1 rfl Tryz.underlying186 rfl rfl Tryz.sizeOf3 rfl) ?_
 refine VO.val rfl rfl (OpV.load_own (i := 1) rfl hB Tryz.isAgg3 rfl rfl rfl (fun h => h)) ?_
 refine VO.val rfl rfl (OpV.mul rfl rfl rfl (by have h := prodB h1 h4; unfold fits; omega)) ?_
 refine VO.val rfl rfl (OpV.fieldAddrO 0 rfl Tryz.underlying186 rfl rfl Tryz.sizeOf3 rfl) ?_
 refine VO.val rfl rfl (OpV.load_own (i := 1) rfl hB Tryz.isAgg3 rfl rfl rfl (fun h => h)) ?_
 refine VO.val rfl rfl (OpV.fieldAddrO 1 rfl Tryz.underlying186 rfl rfl Tryz.sizeOf3 rfl) ?_
 refine VO.val rfl rfl (OpV.load_own (i := 0) rfl hB Tryz.isAgg3 rfl rfl rfl (fun h => h)) ?_
 refine VO.val rfl rfl (OpV.mul rfl rfl rfl (by have h := prodB h3 h2; unfold fits; omega)) ?_
 refine VO.val rfl rfl (OpV.gtr rfl rfl rfl) ?_
 refine VO.ma rfl rfl rfl rfl ?_
 refine VO.nil ?_
 refine VC.ret ?_
 exact Exists.intro _ (And.intro (RetN.one Tryz.results167 (ResN.v rfl)) (by rw [grt_int]))
set_option maxRecDepth 100000 in
theorem inspect_Suspect1 {x : LookS} (h1 : x.nozzle.size ≤ 1000000) (h2 : x.reel.size ≤ 1000000) :
  Spec Tryz.prog 166 [avT x] (fun y => y = avStrs [noz x, ree x]) := by
 refine Spec.of_VC Tryz.func166 rfl Tryz.ntmps166 (Nle rfl) fun w A hB => ?_
 have hnew : True := trivial
 refine VC.sr ?_
 refine VO.op rfl (OpE.box rfl hB rfl rfl rfl ?_)
 intro g1
 refine VO.ma rfl rfl rfl rfl ?_
 refine VO.nil ?_
 refine VC.sr ?_
 refine VO.val rfl rfl (OpV.fieldAddrO 6 rfl Tryz.underlying66 rfl rfl Tryz.sizeOf9 rfl) ?_
 refine VO.val rfl rfl (OpV.load_own (i := 0) rfl hB Tryz.isAgg9 rfl rfl rfl (fun h => h)) ?_
 refine VO.val rfl rfl (OpV.sadd rfl rfl rfl (by have h : (⟨#[110, 111, 122, 122, 108, 101, 32]⟩ : ByteArray).size = 7 := rfl; omega)) ?_
 refine VO.val rfl rfl (OpV.fieldAddrO 7 rfl Tryz.underlying66 rfl rfl Tryz.sizeOf9 rfl) ?_
 refine VO.val rfl rfl (OpV.load_own (i := 0) rfl hB Tryz.isAgg9 rfl rfl rfl (fun h => h)) ?_
 refine VO.val rfl rfl (OpV.sadd rfl rfl rfl (by have h : (⟨#[114, 101, 101, 108, 32]⟩ : ByteArray).size = 5 := rfl; omega)) ?_
 refine VO.op rfl (OpE.buildSlice (zc := #[.string ⟨#[]⟩, .string ⟨#[]⟩]) rfl hB rfl Tryz.underlying95 Tryz.sizeOf9 Tryz.zeroValue9 (by decide) (by decide) (by kernel_rfl) rfl rfl ?_)
 refine VO.le _ (Le.litsS (t := 9) (xs := [noz x, ree x]) rfl rfl) ?_
 refine VO.ma rfl rfl rfl rfl ?_
 refine VO.nil ?_
 refine VC.ret ?_
 exact Exists.intro _ (And.intro (RetV.one Tryz.results166 (ResV.tmp rfl)) (rfl))
def lowN (a b : Nat) : Nat × Nat := (a / Nat.gcd a b, b / Nat.gcd a b)
def susR (l : List LookS) (n : Int) : ByteArray × (Nat × Nat) × Bool := if leastE l n = 0 ∧ susOk l n = true then ((susL l n).1, lowN (susL l n).2.1 (susL l n).2.2, true) else (⟨#[]⟩, (0, 0), false)
abbrev avSus (r : ByteArray × (Nat × Nat) × Bool) (e : Int) : AV := .tup [avS r.1, .agg [avI (r.2.1.1 : Int), avI (r.2.1.2 : Int)], avB r.2.2, avI e]
def susTo (l : List LookS) (n : Int) (q : Nat) : ByteArray × ShS := ((susAll l).take q).foldl (susStep n) (⟨#[]⟩, (badN l, l.length))
theorem susTo_0 (l : List LookS) (n : Int) : susTo l n 0 = (⟨#[]⟩, (badN l, l.length)) := by simp [susTo]
theorem susTo_all (l : List LookS) (n : Int) : susTo l n (susKs l).length = susL l n := by
 unfold susTo susL
 rw [List.take_of_length_le (by simp [susAll])]
theorem susTo_succ {l : List LookS} {n : Int} {q : Nat} (h : q < (susKs l).length) : susTo l n (q + 1) = susStep n (susTo l n q) ((susKs l).getD q ByteArray.empty, mgetD (shM (kvs (fun x => [noz x, ree x]) l)) ((susKs l).getD q ByteArray.empty) (0, 0)) := by
 unfold susTo
 have h' : q < (susAll l).length := by simpa [susAll] using h
 rw [List.take_succ_eq_append_getElem h', List.foldl_append, List.foldl_cons, List.foldl_nil]
 congr 1
 rw [shM_get]
 simp [susAll, h]
theorem susTo_bd {l : List LookS} {n : Int} (hl : l.length ≤ 1000000) : ∀ q, (susTo l n q).2.1 ≤ 2000000 ∧ (susTo l n q).2.2 ≤ 2000000
 | 0 => by rw [susTo_0]; have := badN_le l; simp only; omega
 | q + 1 => by
  have ih := susTo_bd hl q (n := n)
  by_cases h : q < (susKs l).length
  ·rw [susTo_succ h]
   unfold susStep
   split
   ·rw [shM_get]
    have h1 := shCnt_le (kvs (fun x => [noz x, ree x]) l) ((susKs l).getD q ByteArray.empty)
    have h2 := kvs_len (f := fun x => [noz x, ree x]) (l := l) (fun i => by simp) l.length (Nat.le_refl _)
    rw [List.take_length] at h2
    simp only; omega
   ·exact ih
  ·have : susTo l n (q + 1) = susTo l n q := by
    unfold susTo
    rw [List.take_of_length_le (by simp [susAll]; omega), List.take_of_length_le (by simp [susAll]; omega)]
   rw [this]; exact ih
theorem susTo_ok {l : List LookS} {n : Int} (q : Nat) : 0 < l.length → 0 < (susTo l n q).2.2 := fun h => by
 have := sus_fold (least := n) ((susAll l).take q) (⟨#[]⟩, (badN l, l.length)) h (fun p hp => susAll_pos p (List.mem_of_mem_take hp)) ((susAll_ord l).sublist (List.take_sublist _ _))
 rcases this.from_ with e | h2
 ·unfold susTo; rw [e]; exact h
 ·exact susAll_pos _ (List.mem_of_mem_take h2.1)
theorem susKs_small {l : List LookS} (hs : SmLk l) : ∀ p ∈ shM (kvs (fun x => [noz x, ree x]) l), p.1.size ≤ maxLen := fun p hp => by
 have h1 : p.1 ∈ (shM (kvs (fun x => [noz x, ree x]) l)).map (·.1) := List.mem_map.2 ⟨p, hp, rfl⟩
 rw [shM_mem, List.mem_map] at h1
 obtain ⟨q, hq, e⟩ := h1
 simp only [kvs, List.mem_flatMap] at hq
 obtain ⟨x, hx, hq⟩ := hq
 obtain ⟨i, hi, rfl⟩ := List.getElem_of_mem hx
 have h2 := hs.nozzle i
 have h3 := hs.reel i
 rw [List.getD_eq_getElem?_getD, List.getElem?_eq_getElem hi] at h2 h3
 simp only [Option.getD_some] at h2 h3
 simp only [List.map_cons, List.map_nil, List.mem_cons, List.not_mem_nil, or_false] at hq
 rw [← e]
 simp only [maxLen]
 have k1 : nozK.size = 7 := rfl
 have k2 : reeK.size = 5 := rfl
 rcases hq with rfl | rfl
 ·show (nozK ++ _).size ≤ _; rw [ByteArray.size_append]; omega
 ·show (reeK ++ _).size ≤ _; rw [ByteArray.size_append]; omega
theorem susStep_y {n : Int} {a p : ByteArray × ShS} (h1 : n ≤ (p.2.2 : Int)) (h2 : grt p.2 a.2 = true) : susStep n a p = p := by rw [susStep, if_pos ⟨decide_eq_true h1, h2⟩]
theorem susStep_n {n : Int} {a p : ByteArray × ShS} (h : (p.2.2 : Int) < n ∨ grt p.2 a.2 = false) : susStep n a p = a := by
 rw [susStep, if_neg]
 rintro ⟨h1, h2⟩
 rcases h with h | h
 ·have := of_decide_eq_true h1; omega
 ·rw [h] at h2; cases h2
theorem susR_no {l : List LookS} {n : Int} (h : leastE l n ≠ 0) : susR l n = (⟨#[]⟩, (0, 0), false) := by rw [susR, if_neg (fun h' => h h'.1)]
theorem susR_none {l : List LookS} {n : Int} (h : sEq (susL l n).1 ⟨#[]⟩ = true) : susR l n = (⟨#[]⟩, (0, 0), false) := by rw [susR, if_neg (fun h' => by have := h'.2; unfold susOk at this; rw [h] at this; cases this)]
theorem susR_some {l : List LookS} {n : Int} (h0 : leastE l n = 0) (h : sEq (susL l n).1 ⟨#[]⟩ = false) : susR l n = ((susL l n).1, lowN (susL l n).2.1 (susL l n).2.2, true) := by rw [susR, if_pos ⟨h0, by unfold susOk; rw [h]; rfl⟩]
theorem susL_pos {l : List LookS} {n : Int} (h : sEq (susL l n).1 ⟨#[]⟩ = false) : 0 < (susL l n).2.2 := by
 have h0 : 0 < l.length := by
  rcases Nat.eq_zero_or_pos l.length with e | e
  ·have : l = [] := List.eq_nil_of_length_eq_zero e
   subst this
   rw [susL_nil, sEq_eq.2 rfl] at h; cases h
  ·exact e
 rw [← susTo_all]; exact susTo_ok _ h0
set_option maxRecDepth 100000 in
set_option maxHeartbeats 8000000 in
theorem inspect_Suspect {l : List LookS} {n : Int} (hs : SmLk l) :
  SpecN Tryz.prog 57 [avL l, avI n] (fun y => y = avSus (susR l n) (leastE l n)) := by
 refine SpecN.of_VCN Tryz.func57 rfl Tryz.ntmps57 (Nle rfl) fun w A hB => ?_
 have hnew : True := trivial
 refine VC.seq ?_
 have hl := hs.len
 refine VC.region ?_
 refine VO.ma rfl rfl rfl rfl ?_
 refine VO.op rfl (OpE.alloc rfl hB rfl Tryz.zeroValue74 rfl ?_)
 intro g5
 refine VO.ma rfl rfl rfl rfl ?_
 refine VO.ma rfl rfl rfl rfl ?_
 refine VO.nil ?_
 refine VC.seq ?_
 refine VC.sr ?_
 refine VO.mv rfl rfl rfl rfl ?_
 refine VO.mv rfl rfl rfl rfl ?_
 refine VO.op rfl (OpE.call rfl hB rfl Tryz.call165 rfl (SpecN.spec (inspect_leastFault hs)) ?_)
 rintro _ rfl
 refine VO.ma rfl rfl rfl rfl ?_
 refine VO.nil ?_
 refine VC.sr ?_
 refine VO.mv rfl rfl rfl rfl ?_
 refine VO.val rfl rfl (OpV.neq rfl rfl rfl) ?_
 refine VO.nil ?_
 refine VC.cond rfl (fun h0b => ?_) (fun h0b => ?_)
 ·have h0 := h0b
  try simp only [qqT, qqF, qqN, qqM, qqL, qqE] at h0
  refine VC.sr ?_
  refine VO.val rfl rfl (OpV.build (pls := #[(0, 1), (1, 1)]) rfl Tryz.zeroValue74 Tryz.underlying74 (fun w => by kernel_rfl) rfl rfl) ?_
  refine VO.mv rfl rfl rfl rfl ?_
  refine VO.ma rfl rfl rfl rfl ?_
  refine VO.op rfl (OpE.store (i := 0) rfl hB rfl Tryz.sizeOf74 rfl rfl rfl rfl rfl rfl (Nle rfl) trivial ?_)
  refine VO.ma rfl rfl rfl rfl ?_
  refine VO.ma rfl rfl rfl rfl ?_
  refine VO.nil ?_
  refine VC.ret ?_
  exact Exists.intro _ (And.intro (RetN.four Tryz.results57 (ResN.v rfl) ((by first | exact ResN.cellF (i := 0) Tryz.isAgg74 Tryz.sizeOf74 rfl rfl rfl (flat_ofB rfl))) (ResN.v rfl) (ResN.v rfl)) (by rw [susR_no h0]; rfl))
 ·have h0 := h0b
  try simp only [qqT, qqF, qqN, qqM, qqL, qqE] at h0
  have hl5 := (lookOk (leastE_zero (l := l) (n := n) (by omega)).1).len
  have hsk : (susKs l).length ≤ 10000 := by
   have h1 := shM_len (kvs (fun x => [noz x, ree x]) l)
   have h2 := kvs_len (f := fun x => [noz x, ree x]) (l := l) (fun i => by simp) l.length (Nat.le_refl _)
   rw [List.take_length] at h2
   have h3 : (susKs l).length = (shM (kvs (fun x => [noz x, ree x]) l)).length := sKeys_len _
   omega
  refine VC.skip ?_
  refine VC.sr ?_
  refine VO.mv rfl rfl rfl rfl ?_
  refine VO.op rfl (OpE.callH (hp := []) (rest := _) rfl hB rfl Tryz.call161 rfl rfl (inspect_shares (f := fun x => [noz x, ree x]) hl Tryz.call166 (fun i => inspect_Suspect1 (hs.nozzle i) (hs.reel i)) (fun i => by simp)) (List.Perm.refl _) (fun _ h => by obtain ⟨e, he, _⟩ := h; cases he) ?_)
  rintro _ _ ⟨gm, rfl, rfl⟩
  refine VO.ma rfl rfl rfl rfl ?_
  refine VO.nil ?_
  refine VC.sr ?_
  refine VO.ma rfl rfl rfl rfl ?_
  refine VO.nil ?_
  refine VC.sr ?_
  refine VO.mv rfl rfl rfl rfl ?_
  refine VO.op rfl (OpE.call rfl hB rfl Tryz.call148 rfl (SpecN.spec (inspect_shareOf hl)) ?_)
  rintro _ rfl
  refine VO.op rfl (OpE.alloc rfl hB rfl Tryz.zeroValue186 rfl ?_)
  intro g11
  refine VO.op rfl (OpE.store (i := 2) rfl hB rfl Tryz.sizeOf186 rfl rfl rfl rfl rfl rfl (Nle rfl) trivial ?_)
  refine VO.nil ?_
  refine VC.seq ?_
  refine VC.sr ?_
  refine VO.mv rfl rfl rfl rfl ?_
  refine VO.op rfl (OpE.callH rfl hB rfl Tryz.call164 rfl rfl (maps_Keys_sh (some gm)) (List.Perm.refl _) (fun _ _ => trivial) ?_)
  rintro _ _ ⟨g27, rfl, rfl⟩
  refine VO.op rfl (OpE.callH (rest := [_, _]) rfl hB rfl Tryz.call163 rfl rfl (slices_Sorted_sh (l := shM (kvs (fun x => [noz x, ree x]) l)) (E := eSh) (shM_nodup _) (susKs_small hs) (by have h1 := shM_len (kvs (fun x => [noz x, ree x]) l); have h2 := kvs_len (f := fun x => [noz x, ree x]) (l := l) (fun i => by simp) l.length (Nat.le_refl _); rw [List.take_length] at h2; omega)) (List.Perm.refl _) (fun _ _ => trivial) ?_)
  rintro _ _ ⟨u28, rfl, rfl⟩
  refine VO.le _ (Le.rowS (t := 28) (i := 0) hB hnew rfl rfl (sKeys_len _).symm) ?_
  refine VO.le _ (Le.recast (t := 28) (y := avStrs (susKs l)) rfl (fun w Z u h => h)) ?_
  refine VO.val rfl rfl (OpV.len_im rfl Tryz.underlying95 rfl) ?_
  refine VO.mv rfl rfl rfl rfl ?_
  refine VO.nil ?_
  refine VC.block ?_
  refine VC.loopK [(1, _), (5, _), (9, _), (11, _), (28, _), (29, _)] ⟨rfl, rfl, rfl, rfl, rfl, rfl, trivial⟩ ({q : Nat // q ≤ (susKs l).length}) (fun (iZ : {q : Nat // q ≤ (susKs l).length}) => match iZ with | ⟨q, hq⟩ => [(10, avS (susTo l n q).1), (30, avI (q : Int))]) (fun (iZ : {q : Nat // q ≤ (susKs l).length}) => match iZ with | ⟨q, hq⟩ => [mapE kvS gm eSh (shM (kvs (fun x => [noz x, ree x]) l)), .box g5 ⟨[avI 0, avI 0], 74, 2⟩, boxSh g11 (susTo l n q).2]) (fun (iZ : {q : Nat // q ≤ (susKs l).length}) => match iZ with | ⟨q, hq⟩ => 0) (fun (iZ : {q : Nat // q ≤ (susKs l).length}) => match iZ with | ⟨q, hq⟩ => (susKs l).length - q) ⟨0, Nat.zero_le _⟩ (Le.mk hB [1, 2, 3] ⟨(by rw [susTo_0]; rfl), rfl, rfl, rfl, rfl, rfl, rfl, rfl, trivial⟩ rfl (by dsimp only; rw [susTo_0]; rfl) (Nat.le_refl _)) ?_
  rintro ⟨q, hq⟩
  show VC _ _ _ _ ⟨[(10, avS (susTo l n q).1), (30, avI (q : Int))] ++ [(1, _), (5, _), (9, _), (11, _), (28, _), (29, _)], [mapE kvS gm eSh (shM (kvs (fun x => [noz x, ree x]) l)), .box g5 ⟨[avI 0, avI 0], 74, 2⟩, boxSh g11 (susTo l n q).2], 0⟩
  refine VC.sr ?_
  refine VO.val rfl rfl (OpV.lss rfl rfl rfl) ?_
  refine VO.nil ?_
  refine VC.seq ?_
  refine VC.cond rfl (fun aH1b => ?_) (fun aH1b => ?_)
  ·have aH1 := aH1b
   try simp only [qqT, qqF, qqN, qqM, qqL, qqE] at aH1
   refine VC.skip ?_
   refine VC.seq ?_
   refine VC.block ?_
   refine VC.sr ?_
   refine VO.val rfl rfl (OpV.indexAddr_1 rfl Tryz.underlying95 Tryz.sizeOf9 rfl rfl rfl (by omega)) ?_
   refine VO.val rfl rfl (OpV.load_at rfl hB OutW.no Tryz.isAgg9 rfl rfl) ?_
   refine VO.ma rfl rfl rfl rfl ?_
   refine VO.nil ?_
   refine VC.sr ?_
   have hbd := susTo_bd (n := n) hl q
   have hbk := shCnt_le (kvs (fun x => [noz x, ree x]) l) ((susKs l).getD q ByteArray.empty)
   rw [← shM_get] at hbk
   have hkl := kvs_len (f := fun x => [noz x, ree x]) (l := l) (fun i => by simp) l.length (Nat.le_refl _)
   rw [List.take_length] at hkl
   refine VO.mv rfl rfl rfl rfl ?_
   refine VO.mv rfl rfl rfl rfl ?_
   refine VO.val rfl rfl (OpV.lookup_own (i := 0) rfl hB Tryz.underlying197 (KeyOk.str Tryz.underlying9) Tryz.zeroValue186 rfl (KeyE.v rfl) rfl (fun h => h)) ?_
   refine VO.le _ (Le.recast (t := 36) (y := eSh (mgetD (shM (kvs (fun x => [noz x, ree x]) l)) ((susKs l).getD q ByteArray.empty) (0, 0))) rfl (fun w Z u h => by unfold mgetD; revert h; cases mget (shM (kvs (fun x => [noz x, ree x]) l)) ((susKs l).getD q ByteArray.empty) with | none => intro h; rw [h.eq_v]; exact sh_zero | some x => exact id)) ?_
   refine VO.op rfl (OpE.alloc rfl hB rfl Tryz.zeroValue186 rfl ?_)
   intro g14
   refine VO.op rfl (OpE.store (i := 3) rfl hB rfl Tryz.sizeOf186 rfl rfl rfl rfl rfl rfl (Nle rfl) trivial ?_)
   refine VO.nil ?_
   refine VC.sr ?_
   refine VO.val rfl rfl (OpV.fieldAddrO 1 rfl Tryz.underlying186 rfl rfl Tryz.sizeOf3 rfl) ?_
   refine VO.val rfl rfl (OpV.load_own (i := 3) rfl hB Tryz.isAgg3 rfl rfl rfl (fun h => h)) ?_
   refine VO.mv rfl rfl rfl rfl ?_
   refine VO.val rfl rfl (OpV.geq rfl rfl rfl) ?_
   refine VO.mv rfl rfl rfl rfl ?_
   refine VO.opG rfl rfl rfl rfl (fun aK2b => ?_) (fun aK2b => ?_)
   ·replace aK2b : _ = true := aK2b
    have aK2 := aK2b
    try simp only [qqT, qqF, qqN, qqM, qqL, qqE] at aK2
    refine OpE.val (W := NoB) (OpV.loadK_own (i := 3) rfl hB Tryz.isAgg186 Tryz.sizeOf186 rfl rfl rfl (fun h => h)) rfl ?_
    refine VO.opY rfl rfl rfl rfl aK2b ?_
    refine OpE.val (W := NoB) (OpV.loadK_own (i := 2) rfl hB Tryz.isAgg186 Tryz.sizeOf186 rfl rfl rfl (fun h => h)) rfl ?_
    refine VO.opY rfl rfl rfl rfl aK2b ?_
    refine OpE.call rfl hB rfl Tryz.call167 rfl (SpecN.spec (share_greater (s := mgetD (shM (kvs (fun x => [noz x, ree x]) l)) ((susKs l).getD q ByteArray.empty) (0, 0)) (t := (susTo l n q).2) (by omega) (by omega) hbd.1 hbd.2)) ?_
    rintro _ rfl
    refine VO.val rfl rfl (OpV.pickT rfl rfl rfl rfl aK2b) ?_
    refine VO.nil ?_
    refine VC.cond rfl (fun aH3b => ?_) (fun aH3b => ?_)
    ·have aH3 := aH3b
     try simp only [qqT, qqF, qqN, qqM, qqL, qqE] at aH3
     refine VC.draw (fun j b => j = 3 ∧ b = g11) hB (by kernel_rfl) ?_
     refine VA.take (i := 0) rfl (by kernel_rfl) (by kernel_rfl) (by kernel_rfl) rfl rfl (OpV.move (.inl rfl) rfl) ?_
     refine VA.take (i := 1) rfl (by kernel_rfl) (by kernel_rfl) (by kernel_rfl) rfl rfl (OpV.loadK_own (i := 3) rfl hB Tryz.isAgg186 Tryz.sizeOf186 rfl rfl rfl (by first | exact Wi.not1 (by kernel_rfl) | exact Wi.not2 (by kernel_rfl) (by kernel_rfl) | exact Wi.notX (by kernel_rfl))) ?_
     refine VA.take (i := 2) rfl (by kernel_rfl) (by kernel_rfl) (by kernel_rfl) rfl rfl (OpV.move (.inr rfl) rfl) ?_
     refine VA.all (rs := [3]) (by kernel_rfl) (by decide) ?_
     refine ⟨⟨_, rfl, .inl rfl, ?_⟩, trivial⟩
     refine OpE.store (i := 2) rfl hB rfl Tryz.sizeOf186 rfl rfl rfl rfl rfl rfl (Nle rfl) (by first | exact ⟨rfl, rfl⟩ | exact .inl ⟨rfl, rfl⟩ | exact .inr ⟨rfl, rfl⟩ | exact ⟨rfl, trivial⟩ | exact .inl ⟨rfl, trivial⟩ | exact .inr ⟨rfl, trivial⟩ | exact ⟨by decide, rfl⟩) ?_
     refine VA.done (by kernel_rfl) ?_
     refine VC.region ?_
     refine VO.val rfl rfl (OpV.add rfl rfl rfl (by unfold fits; omega)) ?_
     refine VO.mv rfl rfl rfl rfl ?_
     refine VO.nil ?_
     exact Exists.intro (⟨q + 1, by omega⟩) (And.intro (Le.mk hB [0, 1, 2] ⟨(by first | (rw [susTo_succ (by omega), susStep_y (by assumption) (by assumption)]; rfl) | (rw [susTo_succ (by omega), susStep_n (by first | exact .inl (by omega) | exact .inr (by assumption))]; rfl)), rfl, rfl, rfl, rfl, rfl, rfl, rfl, trivial⟩ rfl (by dsimp only; first | (rw [susTo_succ (by omega), susStep_y (by assumption) (by assumption)]; rfl) | (rw [susTo_succ (by omega), susStep_n (by first | exact .inl (by omega) | exact .inr (by assumption))]; rfl)) (Nat.le_refl _)) (by first | omega | (show _ < _; omega) | (simp only []; omega)))
    ·have aH3 := aH3b
     try simp only [qqT, qqF, qqN, qqM, qqL, qqE] at aH3
     refine VC.skip ?_
     refine VC.region ?_
     refine VO.val rfl rfl (OpV.add rfl rfl rfl (by unfold fits; omega)) ?_
     refine VO.mv rfl rfl rfl rfl ?_
     refine VO.nil ?_
     exact Exists.intro (⟨q + 1, by omega⟩) (And.intro (Le.mk hB [0, 1, 2] ⟨(by first | (rw [susTo_succ (by omega), susStep_y (by assumption) (by assumption)]; rfl) | (rw [susTo_succ (by omega), susStep_n (by first | exact .inl (by omega) | exact .inr (by assumption))]; rfl)), rfl, rfl, rfl, rfl, rfl, rfl, rfl, trivial⟩ rfl (by dsimp only; first | (rw [susTo_succ (by omega), susStep_y (by assumption) (by assumption)]; rfl) | (rw [susTo_succ (by omega), susStep_n (by first | exact .inl (by omega) | exact .inr (by assumption))]; rfl)) (Nat.le_refl _)) (by first | omega | (show _ < _; omega) | (simp only []; omega)))
   ·replace aK2b : _ = false := aK2b
    have aK2 := aK2b
    try simp only [qqT, qqF, qqN, qqM, qqL, qqE] at aK2
    refine VO.opX rfl rfl rfl rfl aK2b ?_
    refine VO.opX rfl rfl rfl rfl aK2b ?_
    refine VO.val rfl rfl (OpV.pickF rfl rfl rfl rfl aK2b) ?_
    refine VO.nil ?_
    refine VC.condF rfl rfl ?_
    refine VC.skip ?_
    refine VC.region ?_
    refine VO.val rfl rfl (OpV.add rfl rfl rfl (by unfold fits; omega)) ?_
    refine VO.mv rfl rfl rfl rfl ?_
    refine VO.nil ?_
    exact Exists.intro (⟨q + 1, by omega⟩) (And.intro (Le.mk hB [0, 1, 2] ⟨(by first | (rw [susTo_succ (by omega), susStep_y (by assumption) (by assumption)]; rfl) | (rw [susTo_succ (by omega), susStep_n (by first | exact .inl (by omega) | exact .inr (by assumption))]; rfl)), rfl, rfl, rfl, rfl, rfl, rfl, rfl, trivial⟩ rfl (by dsimp only; first | (rw [susTo_succ (by omega), susStep_y (by assumption) (by assumption)]; rfl) | (rw [susTo_succ (by omega), susStep_n (by first | exact .inl (by omega) | exact .inr (by assumption))]; rfl)) (Nat.le_refl _)) (by first | omega | (show _ < _; omega) | (simp only []; omega)))
  ·have aH1 := aH1b
   try simp only [qqT, qqF, qqN, qqM, qqL, qqE] at aH1
   obtain rfl : q = (susKs l).length := by omega
   have hbd := susTo_bd (n := n) hl (susKs l).length
   rw [susTo_all] at hbd ⊢
   refine VC.exit ?_
   refine VC.seq ?_
   refine VC.sr ?_
   refine VO.mv rfl rfl rfl rfl ?_
   refine VO.val rfl rfl (OpV.seql rfl rfl rfl) ?_
   refine VO.nil ?_
   refine VC.cond rfl (fun h3b => ?_) (fun h3b => ?_)
   ·have h3 := h3b
    try simp only [qqT, qqF, qqN, qqM, qqL, qqE] at h3
    refine VC.sr ?_
    refine VO.val rfl rfl (OpV.build (pls := #[(0, 1), (1, 1)]) rfl Tryz.zeroValue74 Tryz.underlying74 (fun w => by kernel_rfl) rfl rfl) ?_
    refine VO.ma rfl rfl rfl rfl ?_
    refine VO.op rfl (OpE.store (i := 1) rfl hB rfl Tryz.sizeOf74 rfl rfl rfl rfl rfl rfl (Nle rfl) trivial ?_)
    refine VO.ma rfl rfl rfl rfl ?_
    refine VO.ma rfl rfl rfl rfl ?_
    refine VO.nil ?_
    refine VC.ret ?_
    exact Exists.intro _ (And.intro (RetN.four Tryz.results57 (ResN.v rfl) ((by first | exact ResN.cellF (i := 0) Tryz.isAgg74 Tryz.sizeOf74 rfl rfl rfl (flat_ofB rfl) | exact ResN.cellF (i := 1) Tryz.isAgg74 Tryz.sizeOf74 rfl rfl rfl (flat_ofB rfl) | exact ResN.cellF (i := 2) Tryz.isAgg74 Tryz.sizeOf74 rfl rfl rfl (flat_ofB rfl))) (ResN.v rfl) (ResN.v rfl)) (by rw [susR_none h3, show leastE l n = 0 by omega]; rfl))
   ·have h3 := h3b
    try simp only [qqT, qqF, qqN, qqM, qqL, qqE] at h3
    refine VC.skip ?_
    refine VC.sr ?_
    refine VO.mv rfl rfl rfl rfl ?_
    refine VO.val rfl rfl (OpV.fieldAddrO 0 rfl Tryz.underlying186 rfl rfl Tryz.sizeOf3 rfl) ?_
    refine VO.val rfl rfl (OpV.load_own (i := 2) rfl hB Tryz.isAgg3 rfl rfl rfl (fun h => h)) ?_
    refine VO.val rfl rfl (OpV.fieldAddrO 1 rfl Tryz.underlying186 rfl rfl Tryz.sizeOf3 rfl) ?_
    refine VO.val rfl rfl (OpV.load_own (i := 2) rfl hB Tryz.isAgg3 rfl rfl rfl (fun h => h)) ?_
    refine VO.op rfl (OpE.call rfl hB rfl Tryz.call149 rfl (SpecN.spec (kit_Lowest (a := (susL l n).2.1) (b := (susL l n).2.2) (by omega) (by omega) (susL_pos h3b))) ?_)
    rintro _ rfl
    refine VO.ma rfl rfl rfl rfl ?_
    refine VO.op rfl (OpE.store (i := 1) rfl hB rfl Tryz.sizeOf74 rfl rfl rfl rfl rfl rfl (Nle rfl) trivial ?_)
    refine VO.ma rfl rfl rfl rfl ?_
    refine VO.ma rfl rfl rfl rfl ?_
    refine VO.nil ?_
    refine VC.ret ?_
    exact Exists.intro _ (And.intro (RetN.four Tryz.results57 (ResN.v rfl) ((by first | exact ResN.cellF (i := 0) Tryz.isAgg74 Tryz.sizeOf74 rfl rfl rfl (flat_ofB rfl) | exact ResN.cellF (i := 1) Tryz.isAgg74 Tryz.sizeOf74 rfl rfl rfl (flat_ofB rfl) | exact ResN.cellF (i := 2) Tryz.isAgg74 Tryz.sizeOf74 rfl rfl rfl (flat_ofB rfl))) (ResN.v rfl) (ResN.v rfl)) (by rw [susR_some (by omega) h3, show leastE l n = 0 by omega]; rfl))
end Go.Proofs.YtmahammdnmmmoaaGreatDoor
namespace Go.Proofs.YtmahammdnmmmoaaGreatDoor
open Go.RowKit
set_option linter.unusedVariables false
set_option linter.unusedSimpArgs false
theorem low_g (a b : Nat) (hb : 0 < b) : ∃ g, 0 < g ∧ a = (lowN a b).1 * g ∧ b = (lowN a b).2 * g :=
 ⟨Nat.gcd a b, Nat.gcd_pos_of_pos_right _ hb, (Nat.div_mul_cancel (Nat.gcd_dvd_left a b)).symm, (Nat.div_mul_cancel (Nat.gcd_dvd_right a b)).symm⟩
theorem low_le (a b : Nat) : (lowN a b).1 ≤ a ∧ (lowN a b).2 ≤ b := ⟨Nat.div_le_self _ _, Nat.div_le_self _ _⟩
theorem mill_low {l : List LookS} (h : millE l = 0) : millN l = lowN (badN l * 1000000) l.length := by rw [millN, if_pos h]; rfl
def hasY (y : ByteArray) (z : LookS) : Bool := sEq (noz z) y || sEq (ree z) y
theorem out_cnt (l : List LookS) (y : ByteArray) : shCnt (kvs (fun x => [noz x, ree x]) l) y = (cntL (fun z => hasY y z && z.bad) l, cntL (hasY y) l) := by
 rw [kvs_or (fun x => noz_ne _ _)]
 have : (fun x : LookS => decide (noz x = y) || decide (ree x = y)) = hasY y := funext fun x => by unfold hasY; rw [sEq_dec, sEq_dec]
 have h2 : (fun x : LookS => (decide (noz x = y) || decide (ree x = y)) && x.bad) = fun x => hasY y x && x.bad := funext fun x => by rw [← this]
 rw [h2, this]
def kyY (x : LookS) : List ByteArray := [noz x, ree x]
structure OutR (l : List LookS) (n : Int) (K : ByteArray) (fa fb ma mb : Nat) (ok : Bool) : Prop where
 some_ : ok = true → (ma : Int) * (fb : Int) < (fa : Int) * 1000000 * (mb : Int)
 best : ok = true → ∀ i r, i < l.length → r < 2 → n ≤ (cntL (hasY ((kyY (l.getD i default)).getD r ByteArray.empty)) l : Int) →
  (cntL (fun z => hasY ((kyY (l.getD i default)).getD r ByteArray.empty) z && z.bad) l : Int) * (fb : Int) ≤ (fa : Int) * (cntL (hasY ((kyY (l.getD i default)).getD r ByteArray.empty)) l : Int) ∧
  ((cntL (fun z => hasY ((kyY (l.getD i default)).getD r ByteArray.empty) z && z.bad) l : Int) * (fb : Int) = (fa : Int) * (cntL (hasY ((kyY (l.getD i default)).getD r ByteArray.empty)) l : Int) → sLt ((kyY (l.getD i default)).getD r ByteArray.empty) K = false)
 none_ : ok = false → ∀ i r, i < l.length → r < 2 → n ≤ (cntL (hasY ((kyY (l.getD i default)).getD r ByteArray.empty)) l : Int) →
  (cntL (fun z => hasY ((kyY (l.getD i default)).getD r ByteArray.empty) z && z.bad) l : Int) * 1000000 * (mb : Int) ≤ (ma : Int) * (cntL (hasY ((kyY (l.getD i default)).getD r ByteArray.empty)) l : Int)
 bd : fa ≤ 2000000 ∧ fb ≤ 2000000 ∧ ma ≤ 18000000 ∧ mb ≤ 18
theorem ky_in {l : List LookS} {i r : Nat} (hi : i < l.length) (hr : r < 2) : ((kyY (l.getD i default)).getD r ByteArray.empty, (cntL (fun z => hasY ((kyY (l.getD i default)).getD r ByteArray.empty) z && z.bad) l, cntL (hasY ((kyY (l.getD i default)).getD r ByteArray.empty)) l)) ∈ susAll l := by
 have hx : l.getD i default ∈ l := by rw [List.getD_eq_getElem?_getD, List.getElem?_eq_getElem hi]; exact List.getElem_mem hi
 have h := susAll_of hx (k := (kyY (l.getD i default)).getD r ByteArray.empty) (by
  have : r = 0 ∨ r = 1 := by omega
  rcases this with rfl | rfl
  ·exact .inl rfl
  ·exact .inr rfl)
 rw [out_cnt] at h
 exact h
theorem cast_le {a b c d : Nat} (h : a * b ≤ c * d) : (a : Int) * (b : Int) ≤ (c : Int) * (d : Int) := by exact_mod_cast h
theorem outAll {l : List LookS} {n : Int} (h0 : leastE l n = 0) (hl : 0 < l.length) (h18 : l.length ≤ 18) :
  OutR l n (susR l n).1 (susR l n).2.1.1 (susR l n).2.1.2 (millN l).1 (millN l).2 (susR l n).2.2 := by
 have hf := (leastE_zero h0).1
 have hm0 := millE_0 hf (by omega)
 have hml := mill_low hm0
 have hp := susL_props (l := l) (least := n) hl
 have hne := sus_ne (l := l) (least := n) hl
 have hsp : 0 < (susL l n).2.2 := by rw [← susTo_all]; exact susTo_ok _ hl
 have hsb := susTo_bd (l := l) (n := n) (by omega) (susKs l).length
 rw [susTo_all] at hsb
 obtain ⟨g', hg', e1, e2⟩ := low_g (badN l * 1000000) l.length hl
 rw [← hml] at e1 e2
 have hb := badN_le l
 have hmb := low_le (badN l * 1000000) l.length
 rw [← hml] at hmb
 cases ho : susOk l n with
 | true =>
  have hnf := hne.1 ho
  have e : susR l n = ((susL l n).1, lowN (susL l n).2.1 (susL l n).2.2, true) := by rw [susR, if_pos ⟨h0, ho⟩]
  rw [e]
  obtain ⟨g, hg, e3, e4⟩ := low_g (susL l n).2.1 (susL l n).2.2 hsp
  have hfb := low_le (susL l n).2.1 (susL l n).2.2
  generalize lowN (susL l n).2.1 (susL l n).2.2 = F at e3 e4 hfb
  obtain ⟨fa, fb⟩ := F
  generalize millN l = M at e1 e2 hmb
  obtain ⟨ma, mb⟩ := M
  simp only at e1 e2 e3 e4 hfb hmb
  refine ⟨fun _ => ?_, fun _ i r hi hr hn => ?_, (fun h => by cases h), ⟨by show fa ≤ 2000000; omega, by show fb ≤ 2000000; omega, by show ma ≤ 18000000; omega, by show mb ≤ 18; omega⟩⟩
  ·have h1 : badN l * (susL l n).2.2 < (susL l n).2.1 * l.length := Nat.lt_of_not_le hnf
   have h2 : ma * fb < fa * 1000000 * mb := by
    refine Nat.lt_of_mul_lt_mul_right (a := g * g') ?_
    calc ma * fb * (g * g') = (ma * g') * (fb * g) := by ac_rfl
     _ = badN l * 1000000 * (susL l n).2.2 := by rw [← e1, ← e4]
     _ = (badN l * (susL l n).2.2) * 1000000 := by ac_rfl
     _ < ((susL l n).2.1 * l.length) * 1000000 := Nat.mul_lt_mul_of_pos_right h1 (by decide)
     _ = (fa * g) * (mb * g') * 1000000 := by rw [← e3, ← e2]
     _ = fa * 1000000 * mb * (g * g') := by ac_rfl
   have h5 := Int.ofNat_lt.2 h2
   rw [Int.natCast_mul, Int.natCast_mul, Int.natCast_mul] at h5
   exact h5
  ·have hk := ky_in hi hr
   have h1 := hp.all _ hk hn
   have h3 := hp.first _ hk hn
   generalize (kyY (l.getD i default)).getD r ByteArray.empty = y at *
   generalize cntL (fun z => hasY y z && z.bad) l = na at *
   generalize cntL (hasY y) l = nd at *
   have h1 : na * (susL l n).2.2 ≤ (susL l n).2.1 * nd := h1
   constructor
   ·refine cast_le (Nat.le_of_mul_le_mul_right (c := g) ?_ hg)
    calc na * fb * g = na * (fb * g) := by ac_rfl
     _ ≤ (susL l n).2.1 * nd := by rw [← e4]; exact h1
     _ = fa * nd * g := by rw [e3]; ac_rfl
   ·intro he
    have he' : na * fb = fa * nd := by exact_mod_cast he
    refine h3 ?_ hnf
    show (susL l n).2.1 * nd ≤ na * (susL l n).2.2
    refine Nat.le_of_eq ?_
    calc (susL l n).2.1 * nd = fa * nd * g := by rw [e3]; ac_rfl
     _ = na * fb * g := by rw [he']
     _ = na * (susL l n).2.2 := by rw [e4]; ac_rfl
 | false =>
  have hnf : fle (susL l n).2 (badN l, l.length) := Classical.byContradiction fun hc => by rw [hne.2 hc] at ho; cases ho
  have e : susR l n = (⟨#[]⟩, (0, 0), false) := by rw [susR, if_neg (fun h => by rw [ho] at h; cases h.2)]
  rw [e]
  generalize millN l = M at e1 e2 hmb
  obtain ⟨ma, mb⟩ := M
  simp only at e1 e2 hmb
  refine ⟨(fun h => by cases h), (fun h => by cases h), fun _ i r hi hr hn => ?_, ⟨Nat.zero_le _, Nat.zero_le _, by show ma ≤ 18000000; omega, by show mb ≤ 18; omega⟩⟩
  have hk := ky_in hi hr
  have h1 := fle_trans hsp (hp.all _ hk hn) hnf
  generalize (kyY (l.getD i default)).getD r ByteArray.empty = y at *
  generalize cntL (fun z => hasY y z && z.bad) l = na at *
  generalize cntL (hasY y) l = nd at *
  have h1 : na * l.length ≤ badN l * nd := h1
  have h2 : na * 1000000 * mb ≤ ma * nd := by
   refine Nat.le_of_mul_le_mul_right (c := g') ?_ hg'
   calc na * 1000000 * mb * g' = (na * (mb * g')) * 1000000 := by ac_rfl
    _ = (na * l.length) * 1000000 := by rw [← e2]
    _ ≤ (badN l * nd) * 1000000 := Nat.mul_le_mul_right _ h1
    _ = (badN l * 1000000) * nd := by ac_rfl
    _ = ma * nd * g' := by rw [e1]; ac_rfl
  have h5 := Int.ofNat_le.2 h2
  rw [Int.natCast_mul, Int.natCast_mul, Int.natCast_mul] at h5
  exact h5
end Go.Proofs.YtmahammdnmmmoaaGreatDoor
namespace Go.Proofs.YtmahammdnmmmoaaGreatDoor
open Go.RowKit
set_option linter.unusedVariables false
set_option linter.unusedSimpArgs false
set_option maxRecDepth 100000 in
theorem rf_signL {n : Int}  :
  SpecN Tryz.prog 245 [avI n] (fun y => y = avI (cmpI n 0)) := by
 refine SpecN.of_VCN Tryz.func245 rfl Tryz.ntmps245 (Nle rfl) fun w A hB => ?_
 have hnew : True := trivial
 refine VC.sr ?_
 refine VO.ma rfl rfl rfl rfl ?_
 refine VO.nil ?_
 refine VC.seq ?_
 refine VC.block ?_
 refine VC.sr ?_
 refine VO.mv rfl rfl rfl rfl ?_
 refine VO.val rfl rfl (OpV.lss rfl rfl rfl) ?_
 refine VO.ma rfl rfl rfl rfl ?_
 refine VO.nil ?_
 refine VC.cond rfl (fun aH1b => ?_) (fun aH1b => ?_)
 ·have aH1 := aH1b
  try simp only [qqT, qqF, qqN, qqM, qqL, qqE] at aH1
  refine VC.sr ?_
  refine VO.ma rfl rfl rfl rfl ?_
  refine VO.nil ?_
  refine VC.ret ?_
  exact Exists.intro _ (And.intro (RetN.one Tryz.results245 (ResN.v rfl)) (by unfold cmpI; first | rw [if_pos (by omega)] | rw [if_neg (by omega), if_pos (by omega)] | rw [if_neg (by omega), if_neg (by omega)]))
 ·have aH1 := aH1b
  try simp only [qqT, qqF, qqN, qqM, qqL, qqE] at aH1
  refine VC.sr ?_
  refine VO.mv rfl rfl rfl rfl ?_
  refine VO.val rfl rfl (OpV.gtr rfl rfl rfl) ?_
  refine VO.ma rfl rfl rfl rfl ?_
  refine VO.nil ?_
  refine VC.cond rfl (fun aH2b => ?_) (fun aH2b => ?_)
  ·have aH2 := aH2b
   try simp only [qqT, qqF, qqN, qqM, qqL, qqE] at aH2
   refine VC.sr ?_
   refine VO.ma rfl rfl rfl rfl ?_
   refine VO.nil ?_
   refine VC.ret ?_
   exact Exists.intro _ (And.intro (RetN.one Tryz.results245 (ResN.v rfl)) (by unfold cmpI; first | rw [if_pos (by omega)] | rw [if_neg (by omega), if_pos (by omega)] | rw [if_neg (by omega), if_neg (by omega)]))
  ·have aH2 := aH2b
   try simp only [qqT, qqF, qqN, qqM, qqL, qqE] at aH2
   refine VC.skip ?_
   refine VC.sr ?_
   refine VO.ma rfl rfl rfl rfl ?_
   refine VO.nil ?_
   refine VC.ret ?_
   exact Exists.intro _ (And.intro (RetN.one Tryz.results245 (ResN.v rfl)) (by unfold cmpI; first | rw [if_pos (by omega)] | rw [if_neg (by omega), if_pos (by omega)] | rw [if_neg (by omega), if_neg (by omega)]))
set_option maxRecDepth 100000 in
theorem rf_MomentL {n : Int}  :
  SpecN Tryz.prog 63 [avI n] (fun y => y = avB (decide (0 ≤ n) && decide (n ≤ 345686399999))) := by
 refine SpecN.of_VCN Tryz.func63 rfl Tryz.ntmps63 (Nle rfl) fun w A hB => ?_
 have hnew : True := trivial
 refine VC.sr ?_
 refine VO.ma rfl rfl rfl rfl ?_
 refine VO.nil ?_
 refine VC.sr ?_
 refine VO.mv rfl rfl rfl rfl ?_
 refine VO.op rfl (OpE.call rfl hB rfl Tryz.call123 rfl (SpecN.spec (rf_in)) ?_)
 rintro _ rfl
 refine VO.ma rfl rfl rfl rfl ?_
 refine VO.nil ?_
 refine VC.ret ?_
 exact Exists.intro _ (And.intro (RetN.one Tryz.results63 (ResN.v rfl)) (rfl))
theorem cmpI_sub (a b : Int) : cmpI (a - b) 0 = cmpI a b := by unfold cmpI; split <;> (try split) <;> (try split) <;> (try split) <;> omega
theorem cmpLk_1 {a b : LookS} (h : a.at_ ≠ b.at_) : cmpI (a.at_ - b.at_) 0 = cmpLk a b := by
 rw [cmpI_sub, cmpLk_eq, if_pos (fun e => h (cmpI_0.1 e))]
theorem cmpLk_2 {a b : LookS} (h : a.at_ = b.at_) (h2 : sEq a.board b.board = false) : cmpB a.board b.board = cmpLk a b := by
 rw [cmpLk_eq, if_neg (fun e => e (cmpI_0.2 h)), if_pos (fun e => by rw [sEq_eq.2 (cmpB_eq.1 e)] at h2; cases h2)]
theorem cmpLk_3 {a b : LookS} (h : a.at_ = b.at_) (h2 : sEq a.board b.board = true) : cmpB a.name b.name = cmpLk a b := by
 rw [cmpLk_eq, if_neg (fun e => e (cmpI_0.2 h)), if_neg (fun e => e (cmpB_eq.2 (sEq_eq.1 h2)))]
set_option maxRecDepth 100000 in
theorem rf_lookOrder {a b : LookS} (ha : 0 ≤ a.at_ ∧ a.at_ ≤ 345686399999) (hb : 0 ≤ b.at_ ∧ b.at_ ≤ 345686399999) :
  SpecN Tryz.prog 150 [avT a, avT b] (fun y => y = avI (cmpLk a b)) := by
 refine SpecN.of_VCN Tryz.func150 rfl Tryz.ntmps150 (Nle rfl) fun w A hB => ?_
 have hnew : True := trivial
 refine VC.sr ?_
 refine VO.op rfl (OpE.box rfl hB rfl rfl rfl ?_)
 intro g2
 refine VO.op rfl (OpE.box rfl hB rfl rfl rfl ?_)
 intro g3
 refine VO.ma rfl rfl rfl rfl ?_
 refine VO.nil ?_
 refine VC.seq ?_
 refine VC.block ?_
 refine VC.sr ?_
 refine VO.val rfl rfl (OpV.fieldAddrO 2 rfl Tryz.underlying66 rfl rfl Tryz.sizeOf3 rfl) ?_
 refine VO.val rfl rfl (OpV.load_own (i := 0) rfl hB Tryz.isAgg3 rfl rfl rfl (fun h => h)) ?_
 refine VO.val rfl rfl (OpV.fieldAddrO 2 rfl Tryz.underlying66 rfl rfl Tryz.sizeOf3 rfl) ?_
 refine VO.val rfl rfl (OpV.load_own (i := 1) rfl hB Tryz.isAgg3 rfl rfl rfl (fun h => h)) ?_
 refine VO.val rfl rfl (OpV.neq rfl rfl rfl) ?_
 refine VO.ma rfl rfl rfl rfl ?_
 refine VO.nil ?_
 refine VC.cond rfl (fun aH1b => ?_) (fun aH1b => ?_)
 ·have aH1 := aH1b
  try simp only [qqT, qqF, qqN, qqM, qqL, qqE] at aH1
  refine VC.sr ?_
  refine VO.val rfl rfl (OpV.fieldAddrO 2 rfl Tryz.underlying66 rfl rfl Tryz.sizeOf3 rfl) ?_
  refine VO.val rfl rfl (OpV.load_own (i := 0) rfl hB Tryz.isAgg3 rfl rfl rfl (fun h => h)) ?_
  refine VO.val rfl rfl (OpV.fieldAddrO 2 rfl Tryz.underlying66 rfl rfl Tryz.sizeOf3 rfl) ?_
  refine VO.val rfl rfl (OpV.load_own (i := 1) rfl hB Tryz.isAgg3 rfl rfl rfl (fun h => h)) ?_
  refine VO.val rfl rfl (OpV.sub rfl rfl rfl (by unfold fits; omega)) ?_
  refine VO.op rfl (OpE.call rfl hB rfl Tryz.call245 rfl (SpecN.spec (rf_signL)) ?_)
  rintro _ rfl
  refine VO.ma rfl rfl rfl rfl ?_
  refine VO.nil ?_
  refine VC.ret ?_
  exact Exists.intro _ (And.intro (RetN.one Tryz.results150 (ResN.v rfl)) (by first | rw [cmpLk_1 (by omega)] | rw [cmpLk_2 (by omega) (by first | assumption | (simp_all; done))] | rw [cmpLk_3 (by omega) (by first | assumption | (simp_all; done))]))
 ·have aH1 := aH1b
  try simp only [qqT, qqF, qqN, qqM, qqL, qqE] at aH1
  refine VC.sr ?_
  refine VO.val rfl rfl (OpV.fieldAddrO 0 rfl Tryz.underlying66 rfl rfl Tryz.sizeOf9 rfl) ?_
  refine VO.val rfl rfl (OpV.load_own (i := 0) rfl hB Tryz.isAgg9 rfl rfl rfl (fun h => h)) ?_
  refine VO.val rfl rfl (OpV.fieldAddrO 0 rfl Tryz.underlying66 rfl rfl Tryz.sizeOf9 rfl) ?_
  refine VO.val rfl rfl (OpV.load_own (i := 1) rfl hB Tryz.isAgg9 rfl rfl rfl (fun h => h)) ?_
  refine VO.val rfl rfl (OpV.sneq rfl rfl rfl) ?_
  refine VO.ma rfl rfl rfl rfl ?_
  refine VO.nil ?_
  refine VC.cond rfl (fun aH2b => ?_) (fun aH2b => ?_)
  ·have aH2 := aH2b
   try simp only [qqT, qqF, qqN, qqM, qqL, qqE] at aH2
   refine VC.sr ?_
   refine VO.val rfl rfl (OpV.fieldAddrO 0 rfl Tryz.underlying66 rfl rfl Tryz.sizeOf9 rfl) ?_
   refine VO.val rfl rfl (OpV.load_own (i := 0) rfl hB Tryz.isAgg9 rfl rfl rfl (fun h => h)) ?_
   refine VO.val rfl rfl (OpV.fieldAddrO 0 rfl Tryz.underlying66 rfl rfl Tryz.sizeOf9 rfl) ?_
   refine VO.val rfl rfl (OpV.load_own (i := 1) rfl hB Tryz.isAgg9 rfl rfl rfl (fun h => h)) ?_
   refine VO.op rfl (OpE.call rfl hB rfl Tryz.call194 rfl (SpecN.spec (strings_Compare_S)) ?_)
   rintro _ rfl
   refine VO.ma rfl rfl rfl rfl ?_
   refine VO.nil ?_
   refine VC.ret ?_
   exact Exists.intro _ (And.intro (RetN.one Tryz.results150 (ResN.v rfl)) (by first | rw [cmpLk_1 (by omega)] | rw [cmpLk_2 (by omega) (by first | assumption | (simp_all; done))] | rw [cmpLk_3 (by omega) (by first | assumption | (simp_all; done))]))
  ·have aH2 := aH2b
   try simp only [qqT, qqF, qqN, qqM, qqL, qqE] at aH2
   refine VC.skip ?_
   refine VC.sr ?_
   refine VO.val rfl rfl (OpV.fieldAddrO 1 rfl Tryz.underlying66 rfl rfl Tryz.sizeOf9 rfl) ?_
   refine VO.val rfl rfl (OpV.load_own (i := 0) rfl hB Tryz.isAgg9 rfl rfl rfl (fun h => h)) ?_
   refine VO.val rfl rfl (OpV.fieldAddrO 1 rfl Tryz.underlying66 rfl rfl Tryz.sizeOf9 rfl) ?_
   refine VO.val rfl rfl (OpV.load_own (i := 1) rfl hB Tryz.isAgg9 rfl rfl rfl (fun h => h)) ?_
   refine VO.op rfl (OpE.call rfl hB rfl Tryz.call194 rfl (SpecN.spec (strings_Compare_S)) ?_)
   rintro _ rfl
   refine VO.ma rfl rfl rfl rfl ?_
   refine VO.nil ?_
   refine VC.ret ?_
   exact Exists.intro _ (And.intro (RetN.one Tryz.results150 (ResN.v rfl)) (by first | rw [cmpLk_1 (by omega)] | rw [cmpLk_2 (by omega) (by first | assumption | (simp_all; done))] | rw [cmpLk_3 (by omega) (by first | assumption | (simp_all; done))]))
set_option maxRecDepth 100000 in
theorem rf_sameThing {a b : LookS}  :
  SpecN Tryz.prog 153 [avT a, avT b] (fun y => y = avB (sameT a b)) := by
 refine SpecN.of_VCN Tryz.func153 rfl Tryz.ntmps153 (Nle rfl) fun w A hB => ?_
 have hnew : True := trivial
 refine VC.sr ?_
 refine VO.op rfl (OpE.box rfl hB rfl rfl rfl ?_)
 intro g2
 refine VO.op rfl (OpE.box rfl hB rfl rfl rfl ?_)
 intro g3
 refine VO.ma rfl rfl rfl rfl ?_
 refine VO.nil ?_
 refine VC.sr ?_
 refine VO.val rfl rfl (OpV.fieldAddrO 0 rfl Tryz.underlying66 rfl rfl Tryz.sizeOf9 rfl) ?_
 refine VO.val rfl rfl (OpV.load_own (i := 0) rfl hB Tryz.isAgg9 rfl rfl rfl (fun h => h)) ?_
 refine VO.val rfl rfl (OpV.fieldAddrO 0 rfl Tryz.underlying66 rfl rfl Tryz.sizeOf9 rfl) ?_
 refine VO.val rfl rfl (OpV.load_own (i := 1) rfl hB Tryz.isAgg9 rfl rfl rfl (fun h => h)) ?_
 refine VO.val rfl rfl (OpV.seql rfl rfl rfl) ?_
 refine VO.mv rfl rfl rfl rfl ?_
 refine VO.opG rfl rfl rfl rfl (fun aK1b => ?_) (fun aK1b => ?_)
 ·replace aK1b : _ = true := aK1b
  have aK1 := aK1b
  try simp only [qqT, qqF, qqN, qqM, qqL, qqE] at aK1
  refine OpE.val (W := NoB) (OpV.fieldAddrO 1 rfl Tryz.underlying66 rfl rfl Tryz.sizeOf9 rfl) rfl ?_
  refine VO.opY rfl rfl rfl rfl aK1b ?_
  refine OpE.val (W := NoB) (OpV.load_own (i := 0) rfl hB Tryz.isAgg9 rfl rfl rfl (fun h => h)) rfl ?_
  refine VO.opY rfl rfl rfl rfl aK1b ?_
  refine OpE.val (W := NoB) (OpV.fieldAddrO 1 rfl Tryz.underlying66 rfl rfl Tryz.sizeOf9 rfl) rfl ?_
  refine VO.opY rfl rfl rfl rfl aK1b ?_
  refine OpE.val (W := NoB) (OpV.load_own (i := 1) rfl hB Tryz.isAgg9 rfl rfl rfl (fun h => h)) rfl ?_
  refine VO.opY rfl rfl rfl rfl aK1b ?_
  refine OpE.val (W := NoB) (OpV.seql rfl rfl rfl) rfl ?_
  refine VO.val rfl rfl (OpV.pickT rfl rfl rfl rfl aK1b) ?_
  refine VO.ma rfl rfl rfl rfl ?_
  refine VO.nil ?_
  refine VC.ret ?_
  exact Exists.intro _ (And.intro (RetN.one Tryz.results153 (ResN.v rfl)) (by unfold sameT; first | rfl | (simp_all; done)))
 ·replace aK1b : _ = false := aK1b
  have aK1 := aK1b
  try simp only [qqT, qqF, qqN, qqM, qqL, qqE] at aK1
  refine VO.opX rfl rfl rfl rfl aK1b ?_
  refine VO.opX rfl rfl rfl rfl aK1b ?_
  refine VO.opX rfl rfl rfl rfl aK1b ?_
  refine VO.opX rfl rfl rfl rfl aK1b ?_
  refine VO.val rfl rfl (OpV.pickF rfl rfl rfl rfl aK1b) ?_
  refine VO.ma rfl rfl rfl rfl ?_
  refine VO.nil ?_
  refine VC.ret ?_
  exact Exists.intro _ (And.intro (RetN.one Tryz.results153 (ResN.v rfl)) (by unfold sameT; first | rfl | (simp_all; done)))
set_option maxRecDepth 100000 in
theorem rf_LooksFault1 {x o : LookS}  :
  SpecN Tryz.prog 152 [avT o, .at_ 8 (Sxc.cell x)] (fun y => y = avB (sameT o x)) := by
 refine SpecN.of_VCN Tryz.func152 rfl Tryz.ntmps152 (Nle rfl) fun w A hB => ?_
 have hnew : True := trivial
 refine VC.sr ?_
 refine VO.op rfl (OpE.box rfl hB rfl rfl rfl ?_)
 intro g2
 refine VO.ma rfl rfl rfl rfl ?_
 refine VO.nil ?_
 refine VC.sr ?_
 refine VO.val rfl rfl (OpV.loadK_own (i := 0) rfl hB Tryz.isAgg66 Tryz.sizeOf66 rfl rfl rfl (fun h => h)) ?_
 refine VO.val rfl rfl (OpV.loadK_at rfl hB OutW.no Tryz.isAgg66 Tryz.sizeOf66 rfl rfl) ?_
 refine VO.op rfl (OpE.call rfl hB rfl Tryz.call153 rfl (SpecN.spec (rf_sameThing)) ?_)
 rintro _ rfl
 refine VO.ma rfl rfl rfl rfl ?_
 refine VO.nil ?_
 refine VC.ret ?_
 exact Exists.intro _ (And.intro (RetN.one Tryz.results152 (ResN.v rfl)) (rfl))
set_option maxRecDepth 100000 in
theorem slices_IndexFunc_lk {xs : List LookS} {F : FuncId} {cs : List AV} {p : LookS → Bool} (hl : xs.length ≤ 1000000000) (hcall : ∀ us w, (callFunc F us).run Tryz.prog w = .ok (.enter F us) w) (hF : ∀ x, Spec Tryz.prog F ([avT x] ++ cs) (fun y => y = avB (p x))) :
  SpecN Tryz.prog 154 [avL xs, .fn F cs] (fun y => y = avI (fidx p xs)) := by
 refine SpecN.of_VCN Tryz.func154 rfl Tryz.ntmps154 (Nle rfl) fun w A hB => ?_
 have hnew : True := trivial
 refine VC.sr ?_
 refine VO.ma rfl rfl rfl rfl ?_
 refine VO.nil ?_
 refine VC.seq ?_
 refine VC.sr ?_
 refine VO.mv rfl rfl rfl rfl ?_
 refine VO.val rfl rfl (OpV.len_im rfl Tryz.underlying61 rfl) ?_
 refine VO.mv rfl rfl rfl rfl ?_
 refine VO.nil ?_
 refine VC.block ?_
 refine VC.loopK [(0, _), (1, _), (7, _)] ⟨rfl, rfl, rfl, trivial⟩ ({q : Nat // q ≤ xs.length ∧ ∀ j, j < q → p (xs.getD j default) = false}) (fun (iZ : {q : Nat // q ≤ xs.length ∧ ∀ j, j < q → p (xs.getD j default) = false}) => match iZ with | ⟨q, hq, hn⟩ => [(8, avI (q : Int))]) (fun (iZ : {q : Nat // q ≤ xs.length ∧ ∀ j, j < q → p (xs.getD j default) = false}) => match iZ with | ⟨q, hq, hn⟩ => []) (fun (iZ : {q : Nat // q ≤ xs.length ∧ ∀ j, j < q → p (xs.getD j default) = false}) => match iZ with | ⟨q, hq, hn⟩ => 0) (fun (iZ : {q : Nat // q ≤ xs.length ∧ ∀ j, j < q → p (xs.getD j default) = false}) => match iZ with | ⟨q, hq, hn⟩ => xs.length - q) ⟨0, Nat.zero_le _, fun j hj => absurd hj (Nat.not_lt_zero j)⟩ (Le.mk hB [] ⟨rfl, rfl, rfl, rfl, trivial⟩ rfl rfl (Nat.le_refl _)) ?_
 rintro ⟨q, hq, hn⟩
 show VC _ _ _ _ ⟨[(8, avI (q : Int))] ++ [(0, _), (1, _), (7, _)], [], 0⟩
 refine VC.sr ?_
 refine VO.val rfl rfl (OpV.lss rfl rfl rfl) ?_
 refine VO.nil ?_
 refine VC.seq ?_
 refine VC.cond rfl (fun aH1b => ?_) (fun aH1b => ?_)
 ·have aH1 := aH1b
  try simp only [qqT, qqF, qqN, qqM, qqL, qqE] at aH1
  refine VC.skip ?_
  refine VC.seq ?_
  refine VC.block ?_
  refine VC.sr ?_
  refine VO.mv rfl rfl rfl rfl ?_
  refine VO.ma rfl rfl rfl rfl ?_
  refine VO.nil ?_
  refine VC.sr ?_
  refine VO.mv rfl rfl rfl rfl ?_
  refine VO.mv rfl rfl rfl rfl ?_
  refine VO.mv rfl rfl rfl rfl ?_
  refine VO.val rfl rfl (OpV.indexAddr_E rfl Tryz.underlying61 Tryz.sizeOf66 rfl rfl rfl (by omega)) ?_
  refine VO.val rfl rfl (OpV.loadK_at rfl hB OutW.no Tryz.isAgg66 Tryz.sizeOf66 rfl rfl) ?_
  refine VO.op rfl (OpE.callF rfl hB rfl hcall rfl rfl (hF _) ?_)
  rintro _ rfl
  refine VO.nil ?_
  refine VC.cond rfl (fun aH2b => ?_) (fun aH2b => ?_)
  ·have aH2 := aH2b
   try simp only [qqT, qqF, qqN, qqM, qqL, qqE] at aH2
   refine VC.sr ?_
   refine VO.mv rfl rfl rfl rfl ?_
   refine VO.ma rfl rfl rfl rfl ?_
   refine VO.nil ?_
   refine VC.ret ?_
   exact Exists.intro _ (And.intro (RetN.one Tryz.results154 (ResN.v rfl)) (by first | (rw [fidx_found (d := default) (q := q) (by omega) hn (by assumption)]) | (rw [fidx_none (d := default) (fun j hj => hn j (by omega))])))
  ·have aH2 := aH2b
   try simp only [qqT, qqF, qqN, qqM, qqL, qqE] at aH2
   refine VC.skip ?_
   refine VC.region ?_
   refine VO.val rfl rfl (OpV.add rfl rfl rfl (by unfold fits; omega)) ?_
   refine VO.mv rfl rfl rfl rfl ?_
   refine VO.nil ?_
   exact Exists.intro (⟨q + 1, by omega, lt_succ_cases hn ((by assumption))⟩) (And.intro (Le.mk hB [] ⟨rfl, rfl, rfl, rfl, trivial⟩ rfl rfl (Nat.le_refl _)) (by first | omega | (show _ < _; omega) | (simp only []; omega)))
 ·have aH1 := aH1b
  try simp only [qqT, qqF, qqN, qqM, qqL, qqE] at aH1
  refine VC.exit ?_
  refine VC.sr ?_
  refine VO.ma rfl rfl rfl rfl ?_
  refine VO.nil ?_
  refine VC.ret ?_
  exact Exists.intro _ (And.intro (RetN.one Tryz.results154 (ResN.v rfl)) (by first | (rw [fidx_found (d := default) (q := q) (by omega) hn (by assumption)]) | (rw [fidx_none (d := default) (fun j hj => hn j (by omega))])))
set_option maxRecDepth 100000 in
theorem slices_ContainsFunc_lk {xs : List LookS} {F : FuncId} {cs : List AV} {p : LookS → Bool} (hl : xs.length ≤ 1000000000) (hcall : ∀ us w, (callFunc F us).run Tryz.prog w = .ok (.enter F us) w) (hF : ∀ x, Spec Tryz.prog F ([avT x] ++ cs) (fun y => y = avB (p x))) :
  SpecN Tryz.prog 151 [avL xs, .fn F cs] (fun y => y = avB (xs.any p)) := by
 refine SpecN.of_VCN Tryz.func151 rfl Tryz.ntmps151 (Nle rfl) fun w A hB => ?_
 have hnew : True := trivial
 refine VC.sr ?_
 refine VO.ma rfl rfl rfl rfl ?_
 refine VO.nil ?_
 refine VC.sr ?_
 refine VO.mv rfl rfl rfl rfl ?_
 refine VO.mv rfl rfl rfl rfl ?_
 refine VO.op rfl (OpE.call rfl hB rfl Tryz.call154 rfl (SpecN.spec (slices_IndexFunc_lk hl hcall hF)) ?_)
 rintro _ rfl
 refine VO.val rfl rfl (OpV.geq rfl rfl rfl) ?_
 refine VO.ma rfl rfl rfl rfl ?_
 refine VO.nil ?_
 refine VC.ret ?_
 exact Exists.intro _ (And.intro (RetN.one Tryz.results151 (ResN.v rfl)) (by rw [← fidx_any]))
theorem lt8 {f g : Nat → AV} (h0 : f 0 = g 0) (h1 : f 1 = g 1) (h2 : f 2 = g 2) (h3 : f 3 = g 3) (h4 : f 4 = g 4) (h5 : f 5 = g 5) (h6 : f 6 = g 6) (h7 : f 7 = g 7) : ∀ j, j < 8 → f j = g j := fun j hj => by
 match j, hj with
 | 0, _ => exact h0
 | 1, _ => exact h1
 | 2, _ => exact h2
 | 3, _ => exact h3
 | 4, _ => exact h4
 | 5, _ => exact h5
 | 6, _ => exact h6
 | 7, _ => exact h7
theorem lks_all {x : LookS} (h1 : keyF x.board = true) (h2 : keyF x.name = true) (h3 : keyF x.machine = true) (h4 : keyF x.nozzle = true) (h5 : keyF x.reel = true) : (lkStrs x).all keyF = true := by simp [lkStrs, h1, h2, h3, h4, h5]
theorem lks_no {x : LookS} (h : keyF x.board = false ∨ keyF x.name = false ∨ keyF x.machine = false ∨ keyF x.nozzle = false ∨ keyF x.reel = false) : (lkStrs x).all keyF = false := by
 rcases h with h | h | h | h | h <;> simp [lkStrs, h]
theorem mom_f {n : Int} (h : (decide (0 ≤ n) && decide (n ≤ 345686399999)) = false) : outR n 0 345686399999 = true := by unfold outR; simp at h ⊢; omega
theorem mom_t {n : Int} (h : (decide (0 ≤ n) && decide (n ≤ 345686399999)) = true) : outR n 0 345686399999 = false := by unfold outR; simp at h ⊢; omega
theorem in_f {n a b : Int} (h : (decide (a ≤ n) && decide (n ≤ b)) = false) : outR n a b = true := by unfold outR; simp at h ⊢; omega
theorem in_t {n a b : Int} (h : (decide (a ≤ n) && decide (n ≤ b)) = true) : outR n a b = false := by unfold outR; simp at h ⊢; omega
set_option maxRecDepth 100000 in
set_option maxHeartbeats 8000000 in
theorem rf_LooksFault {l : List LookS} (hs : SmLk l) :
    SpecN Tryz.prog 47 [avL l] (fun y => y = avI (lookF l)) := by
  refine SpecN.of_VCN Tryz.func47 rfl Tryz.ntmps47 (Nle rfl) fun w A hB => ?_
  have hnew : True := trivial
  refine VC.seq ?_
  have hl := hs.len
  refine VC.region ?_
  refine VO.ma rfl rfl rfl rfl ?_
  refine VO.nil ?_
  refine VC.seq ?_
  refine VC.sr ?_
  refine VO.mv rfl rfl rfl rfl ?_
  refine VO.val rfl rfl (OpV.len_im rfl Tryz.underlying61 rfl) ?_
  refine VO.val rfl rfl (OpV.gtr rfl rfl rfl) ?_
  refine VO.nil ?_
  refine VC.cond rfl (fun aH1b => ?_) (fun aH1b => ?_)
  · have aH1 := aH1b
    try simp only [qqT, qqF, qqN, qqM, qqL, qqE] at aH1
    refine VC.sr ?_
    refine VO.ma rfl rfl rfl rfl ?_
    refine VO.nil ?_
    refine VC.ret ?_
    exact Exists.intro _ (And.intro (RetN.one Tryz.results47 (ResN.v rfl)) (by rw [lookF_2 (by omega)]))
  · have aH1 := aH1b
    try simp only [qqT, qqF, qqN, qqM, qqL, qqE] at aH1
    refine VC.skip ?_
    refine VC.seq ?_
    refine VC.sr ?_
    refine VO.mv rfl rfl rfl rfl ?_
    refine VO.val rfl rfl (OpV.len_im rfl Tryz.underlying61 rfl) ?_
    refine VO.mv rfl rfl rfl rfl ?_
    refine VO.nil ?_
    refine VC.block ?_
    refine VC.loopK [(0, _), (10, _), (11, _)] ⟨rfl, rfl, rfl, trivial⟩ ({q : Nat // q ≤ l.length ∧ ∀ j, j < q → lookE l j = 0}) (fun (iZ : {q : Nat // q ≤ l.length ∧ ∀ j, j < q → lookE l j = 0}) => match iZ with | ⟨q, hq, hn⟩ => [(12, avI (q : Int))]) (fun (iZ : {q : Nat // q ≤ l.length ∧ ∀ j, j < q → lookE l j = 0}) => match iZ with | ⟨q, hq, hn⟩ => []) (fun (iZ : {q : Nat // q ≤ l.length ∧ ∀ j, j < q → lookE l j = 0}) => match iZ with | ⟨q, hq, hn⟩ => 0) (fun (iZ : {q : Nat // q ≤ l.length ∧ ∀ j, j < q → lookE l j = 0}) => match iZ with | ⟨q, hq, hn⟩ => l.length - q) ⟨0, Nat.zero_le _, fun j hj => absurd hj (Nat.not_lt_zero j)⟩ (Le.mk hB [] ⟨rfl, rfl, rfl, rfl, trivial⟩ rfl rfl (Nat.le_refl _)) ?_
    rintro ⟨q, hq, hn⟩
    show VC _ _ _ _ ⟨[(12, avI (q : Int))] ++ [(0, _), (10, _), (11, _)], [], 0⟩
    refine VC.sr ?_
    refine VO.val rfl rfl (OpV.lss rfl rfl rfl) ?_
    refine VO.nil ?_
    refine VC.seq ?_
    refine VC.cond rfl (fun aH2b => ?_) (fun aH2b => ?_)
    · have aH2 := aH2b
      try simp only [qqT, qqF, qqN, qqM, qqL, qqE] at aH2
      refine VC.skip ?_
      refine VC.seq ?_
      refine VC.block ?_
      refine VC.sr ?_
      refine VO.mv rfl rfl rfl rfl ?_
      refine VO.val rfl rfl (OpV.indexAddr_E rfl Tryz.underlying61 Tryz.sizeOf66 rfl rfl rfl (by omega)) ?_
      refine VO.val rfl rfl (OpV.loadK_at rfl hB OutW.no Tryz.isAgg66 Tryz.sizeOf66 rfl rfl) ?_
      refine VO.op rfl (OpE.alloc rfl hB rfl Tryz.zeroValue66 rfl ?_)
      intro g4
      refine VO.ma rfl rfl rfl rfl ?_
      refine VO.op rfl (OpE.store (i := 0) rfl hB rfl Tryz.sizeOf66 rfl rfl rfl rfl rfl rfl (Nle rfl) trivial ?_)
      refine VO.nil ?_
      refine VC.block ?_
      refine VC.sr ?_
      refine VO.val rfl rfl (OpV.fieldAddrO 0 rfl Tryz.underlying66 rfl rfl Tryz.sizeOf9 rfl) ?_
      refine VO.val rfl rfl (OpV.load_own (i := 0) rfl hB Tryz.isAgg9 rfl rfl rfl (fun h => h)) ?_
      refine VO.op rfl (OpE.call rfl hB rfl Tryz.call62 rfl (SpecN.spec (rf_Key (by have := hs.board q; omega))) ?_)
      rintro _ rfl
      refine VO.val rfl rfl (OpV.not rfl rfl) ?_
      refine VO.mv rfl rfl rfl rfl ?_
      refine VO.opG rfl rfl rfl rfl (fun aK3b => ?_) (fun aK3b => ?_)
      · replace aK3b : _ = false := aK3b
        have aK3 := aK3b
        try simp only [qqT, qqF, qqN, qqM, qqL, qqE] at aK3
        refine OpE.val (W := NoB) (OpV.fieldAddrO 1 rfl Tryz.underlying66 rfl rfl Tryz.sizeOf9 rfl) rfl ?_
        refine VO.opY rfl rfl rfl rfl aK3b ?_
        refine OpE.val (W := NoB) (OpV.load_own (i := 0) rfl hB Tryz.isAgg9 rfl rfl rfl (fun h => h)) rfl ?_
        refine VO.opY rfl rfl rfl rfl aK3b ?_
        refine OpE.call rfl hB rfl Tryz.call62 rfl (SpecN.spec (rf_Key (by have := hs.name q; omega))) ?_
        rintro _ rfl
        refine VO.opY rfl rfl rfl rfl aK3b ?_
        refine OpE.val (W := NoB) (OpV.not rfl rfl) rfl ?_
        refine VO.val rfl rfl (OpV.pickF rfl rfl rfl rfl aK3b) ?_
        refine VO.mv rfl rfl rfl rfl ?_
        refine VO.opG rfl rfl rfl rfl (fun aK4b => ?_) (fun aK4b => ?_)
        · replace aK4b : _ = false := aK4b
          have aK4 := aK4b
          try simp only [qqT, qqF, qqN, qqM, qqL, qqE] at aK4
          refine OpE.val (W := NoB) (OpV.fieldAddrO 5 rfl Tryz.underlying66 rfl rfl Tryz.sizeOf9 rfl) rfl ?_
          refine VO.opY rfl rfl rfl rfl aK4b ?_
          refine OpE.val (W := NoB) (OpV.load_own (i := 0) rfl hB Tryz.isAgg9 rfl rfl rfl (fun h => h)) rfl ?_
          refine VO.opY rfl rfl rfl rfl aK4b ?_
          refine OpE.call rfl hB rfl Tryz.call62 rfl (SpecN.spec (rf_Key (by have := hs.machine q; omega))) ?_
          rintro _ rfl
          refine VO.opY rfl rfl rfl rfl aK4b ?_
          refine OpE.val (W := NoB) (OpV.not rfl rfl) rfl ?_
          refine VO.val rfl rfl (OpV.pickF rfl rfl rfl rfl aK4b) ?_
          refine VO.mv rfl rfl rfl rfl ?_
          refine VO.opG rfl rfl rfl rfl (fun aK5b => ?_) (fun aK5b => ?_)
          · replace aK5b : _ = false := aK5b
            have aK5 := aK5b
            try simp only [qqT, qqF, qqN, qqM, qqL, qqE] at aK5
            refine OpE.val (W := NoB) (OpV.fieldAddrO 6 rfl Tryz.underlying66 rfl rfl Tryz.sizeOf9 rfl) rfl ?_
            refine VO.opY rfl rfl rfl rfl aK5b ?_
            refine OpE.val (W := NoB) (OpV.load_own (i := 0) rfl hB Tryz.isAgg9 rfl rfl rfl (fun h => h)) rfl ?_
            refine VO.opY rfl rfl rfl rfl aK5b ?_
            refine OpE.call rfl hB rfl Tryz.call62 rfl (SpecN.spec (rf_Key (by have := hs.nozzle q; omega))) ?_
            rintro _ rfl
            refine VO.opY rfl rfl rfl rfl aK5b ?_
            refine OpE.val (W := NoB) (OpV.not rfl rfl) rfl ?_
            refine VO.val rfl rfl (OpV.pickF rfl rfl rfl rfl aK5b) ?_
            refine VO.mv rfl rfl rfl rfl ?_
            refine VO.opG rfl rfl rfl rfl (fun aK6b => ?_) (fun aK6b => ?_)
            · replace aK6b : _ = false := aK6b
              have aK6 := aK6b
              try simp only [qqT, qqF, qqN, qqM, qqL, qqE] at aK6
              refine OpE.val (W := NoB) (OpV.fieldAddrO 7 rfl Tryz.underlying66 rfl rfl Tryz.sizeOf9 rfl) rfl ?_
              refine VO.opY rfl rfl rfl rfl aK6b ?_
              refine OpE.val (W := NoB) (OpV.load_own (i := 0) rfl hB Tryz.isAgg9 rfl rfl rfl (fun h => h)) rfl ?_
              refine VO.opY rfl rfl rfl rfl aK6b ?_
              refine OpE.call rfl hB rfl Tryz.call62 rfl (SpecN.spec (rf_Key (by have := hs.reel q; omega))) ?_
              rintro _ rfl
              refine VO.opY rfl rfl rfl rfl aK6b ?_
              refine OpE.val (W := NoB) (OpV.not rfl rfl) rfl ?_
              refine VO.val rfl rfl (OpV.pickF rfl rfl rfl rfl aK6b) ?_
              refine VO.ma rfl rfl rfl rfl ?_
              refine VO.nil ?_
              refine VC.cond rfl (fun h2b => ?_) (fun h2b => ?_)
              · have h2 := h2b
                try simp only [qqT, qqF, qqN, qqM, qqL, qqE] at h2
                have k2 : (lkStrs (l.getD q default)).all keyF = false := lks_no (by simp_all)
                refine VC.sr ?_
                refine VO.ma rfl rfl rfl rfl ?_
                refine VO.nil ?_
                refine VC.ret ?_
                exact Exists.intro _ (And.intro (RetN.one Tryz.results47 (ResN.v rfl)) (by rw [lookF_at (by omega) (by omega) hn (by rw [lookE_5 k2]; decide), lookE_5 k2]))
              · have h2 := h2b
                try simp only [qqT, qqF, qqN, qqM, qqL, qqE] at h2
                have k2 : (lkStrs (l.getD q default)).all keyF = true := lks_all (by simp_all) (by simp_all) (by simp_all) (by simp_all) (by simp_all)
                refine VC.sr ?_
                refine VO.val rfl rfl (OpV.fieldAddrO 2 rfl Tryz.underlying66 rfl rfl Tryz.sizeOf3 rfl) ?_
                refine VO.val rfl rfl (OpV.load_own (i := 0) rfl hB Tryz.isAgg3 rfl rfl rfl (fun h => h)) ?_
                refine VO.op rfl (OpE.call rfl hB rfl Tryz.call63 rfl (SpecN.spec (rf_MomentL)) ?_)
                rintro _ rfl
                refine VO.val rfl rfl (OpV.not rfl rfl) ?_
                refine VO.ma rfl rfl rfl rfl ?_
                refine VO.nil ?_
                refine VC.cond rfl (fun h3b => ?_) (fun h3b => ?_)
                · have h3 := h3b
                  try simp only [qqT, qqF, qqN, qqM, qqL, qqE] at h3
                  have k3 : outR (l.getD q default).at_ 0 345686399999 = true := mom_f (not_true_false h3b)
                  refine VC.sr ?_
                  refine VO.ma rfl rfl rfl rfl ?_
                  refine VO.nil ?_
                  refine VC.ret ?_
                  exact Exists.intro _ (And.intro (RetN.one Tryz.results47 (ResN.v rfl)) (by rw [lookF_at (by omega) (by omega) hn (by rw [lookE_1 k2 k3]; decide), lookE_1 k2 k3]))
                · have h3 := h3b
                  try simp only [qqT, qqF, qqN, qqM, qqL, qqE] at h3
                  have k3 : outR (l.getD q default).at_ 0 345686399999 = false := mom_t (not_false_true h3b)
                  have k3' : 0 ≤ (l.getD q default).at_ ∧ (l.getD q default).at_ ≤ 345686399999 := outR_inL (by rw [k3]; simp)
                  refine VC.sr ?_
                  refine VO.val rfl rfl (OpV.fieldAddrO 3 rfl Tryz.underlying66 rfl rfl Tryz.sizeOf3 rfl) ?_
                  refine VO.val rfl rfl (OpV.load_own (i := 0) rfl hB Tryz.isAgg3 rfl rfl rfl (fun h => h)) ?_
                  refine VO.op rfl (OpE.call rfl hB rfl Tryz.call123 rfl (SpecN.spec (rf_in)) ?_)
                  rintro _ rfl
                  refine VO.val rfl rfl (OpV.not rfl rfl) ?_
                  refine VO.ma rfl rfl rfl rfl ?_
                  refine VO.nil ?_
                  refine VC.cond rfl (fun h4b => ?_) (fun h4b => ?_)
                  · have h4 := h4b
                    try simp only [qqT, qqF, qqN, qqM, qqL, qqE] at h4
                    have k4 : outR (l.getD q default).verdict 1 5 = true := in_f (not_true_false h4b)
                    refine VC.sr ?_
                    refine VO.ma rfl rfl rfl rfl ?_
                    refine VO.nil ?_
                    refine VC.ret ?_
                    exact Exists.intro _ (And.intro (RetN.one Tryz.results47 (ResN.v rfl)) (by rw [lookF_at (by omega) (by omega) hn (by rw [lookE_4 k2 k3 k4]; decide), lookE_4 k2 k3 k4]))
                  · have h4 := h4b
                    try simp only [qqT, qqF, qqN, qqM, qqL, qqE] at h4
                    have k4 : outR (l.getD q default).verdict 1 5 = false := in_t (not_false_true h4b)
                    refine VC.seq ?_
                    refine VC.draw (fun _ => NoB) hB (by kernel_rfl) ?_
                    refine VA.take (i := 0) rfl (by kernel_rfl) (by kernel_rfl) (by kernel_rfl) rfl rfl (OpV.move (.inl rfl) rfl) ?_
                    refine VA.take (i := 1) rfl (by kernel_rfl) (by kernel_rfl) (by kernel_rfl) rfl rfl (OpV.gtr rfl rfl rfl) ?_
                    refine VA.take (i := 2) rfl (by kernel_rfl) (by kernel_rfl) (by kernel_rfl) rfl rfl (OpV.move (.inl rfl) rfl) ?_
                    refine VA.split (t := 59) rfl (fun aK7b => ?_) (fun aK7b => ?_)
                    · have aK7 := aK7b
                      try simp only [qqT, qqF, qqN, qqM, qqL, qqE] at aK7
                      refine VA.takeY (i := 3) rfl (by kernel_rfl) (by kernel_rfl) (by kernel_rfl) rfl rfl rfl rfl aK7b (OpV.move (.inl rfl) rfl) ?_
                      refine VA.takeY (i := 4) rfl (by kernel_rfl) (by kernel_rfl) (by kernel_rfl) rfl rfl rfl rfl aK7b (OpV.move (.inl rfl) rfl) ?_
                      refine VA.takeY (i := 5) rfl (by kernel_rfl) (by kernel_rfl) (by kernel_rfl) rfl rfl rfl rfl aK7b (OpV.sub rfl rfl rfl (by unfold fits; omega)) ?_
                      refine VA.takeY (i := 6) rfl (by kernel_rfl) (by kernel_rfl) (by kernel_rfl) rfl rfl rfl rfl aK7b (OpV.indexAddr_E rfl Tryz.underlying61 Tryz.sizeOf66 rfl rfl (show ((q : Int) - 1) = ((q - 1 : Nat) : Int) by omega) (by omega)) ?_
                      refine VA.takeY (i := 7) rfl (by kernel_rfl) (by kernel_rfl) (by kernel_rfl) rfl rfl rfl rfl aK7b (OpV.loadK_at rfl hB OutW.wi0 Tryz.isAgg66 Tryz.sizeOf66 rfl rfl) ?_
                      refine VA.takeY (i := 8) rfl (by kernel_rfl) (by kernel_rfl) (by kernel_rfl) rfl rfl rfl rfl aK7b (OpV.loadK_own (i := 0) rfl hB Tryz.isAgg66 Tryz.sizeOf66 rfl rfl rfl Wi.not0) ?_
                      refine VA.all (rs := [9]) (by kernel_rfl) (by decide) ?_
                      refine ⟨⟨_, rfl, .inr ⟨_, _, _, rfl, rfl, (look_k rfl aK7b)⟩, ?_⟩, trivial⟩
                      refine OpE.call rfl hB rfl Tryz.call150 rfl (SpecN.spec (rf_lookOrder (a := l.getD (q - 1) default) (b := l.getD q default) (lookE_zero (hn (q - 1) (by omega))).at_ k3')) ?_
                      rintro _ rfl
                      refine VA.takeY (i := 10) rfl (by kernel_rfl) (by kernel_rfl) (by kernel_rfl) rfl rfl rfl rfl aK7b (OpV.geq rfl rfl rfl) ?_
                      refine VA.take (i := 11) rfl (by kernel_rfl) (by kernel_rfl) (by kernel_rfl) rfl rfl (OpV.pickT rfl rfl rfl rfl aK7b) ?_
                      refine VA.take (i := 12) rfl (by kernel_rfl) (by kernel_rfl) (by kernel_rfl) rfl rfl (OpV.move (.inr rfl) rfl) ?_
                      refine VA.done (by kernel_rfl) ?_
                      refine VC.cond rfl (fun h5b => ?_) (fun h5b => ?_)
                      · have h5 := h5b
                        try simp only [qqT, qqF, qqN, qqM, qqL, qqE] at h5
                        refine VC.sr ?_
                        refine VO.ma rfl rfl rfl rfl ?_
                        refine VO.nil ?_
                        refine VC.ret ?_
                        exact Exists.intro _ (And.intro (RetN.one Tryz.results47 (ResN.v rfl)) (by rw [lookF_at (by omega) (by omega) hn (by rw [lookE_7 k2 k3 k4 (by omega) (by omega)]; decide), lookE_7 k2 k3 k4 (by omega) (by omega)]))
                      · have h5 := h5b
                        try simp only [qqT, qqF, qqN, qqM, qqL, qqE] at h5
                        refine VC.skip ?_
                        refine VC.region ?_
                        refine VO.val rfl rfl (OpV.add rfl rfl rfl (by unfold fits; omega)) ?_
                        refine VO.mv rfl rfl rfl rfl ?_
                        refine VO.nil ?_
                        exact Exists.intro (⟨q + 1, by omega, lt_succ_cases hn ((lookE_0 k2 k3 k4 (by first | exact .inl (by omega) | exact .inr (by omega))))⟩) (And.intro (Le.mk hB [] ⟨rfl, rfl, rfl, rfl, trivial⟩ rfl rfl (Nat.le_refl _)) (by first | omega | (show _ < _; omega) | (simp only []; omega)))
                    · have aK7 := aK7b
                      try simp only [qqT, qqF, qqN, qqM, qqL, qqE] at aK7
                      refine VA.takeX (i := 3) rfl (by kernel_rfl) (by kernel_rfl) (by kernel_rfl) rfl rfl rfl rfl aK7b ?_
                      refine VA.takeX (i := 4) rfl (by kernel_rfl) (by kernel_rfl) (by kernel_rfl) rfl rfl rfl rfl aK7b ?_
                      refine VA.takeX (i := 5) rfl (by kernel_rfl) (by kernel_rfl) (by kernel_rfl) rfl rfl rfl rfl aK7b ?_
                      refine VA.takeX (i := 6) rfl (by kernel_rfl) (by kernel_rfl) (by kernel_rfl) rfl rfl rfl rfl aK7b ?_
                      refine VA.takeX (i := 7) rfl (by kernel_rfl) (by kernel_rfl) (by kernel_rfl) rfl rfl rfl rfl aK7b ?_
                      refine VA.takeX (i := 8) rfl (by kernel_rfl) (by kernel_rfl) (by kernel_rfl) rfl rfl rfl rfl aK7b ?_
                      refine VA.takeX (i := 9) rfl (by kernel_rfl) (by kernel_rfl) (by kernel_rfl) rfl rfl rfl rfl aK7b ?_
                      refine VA.takeX (i := 10) rfl (by kernel_rfl) (by kernel_rfl) (by kernel_rfl) rfl rfl rfl rfl aK7b ?_
                      refine VA.take (i := 11) rfl (by kernel_rfl) (by kernel_rfl) (by kernel_rfl) rfl rfl (OpV.pickF rfl rfl rfl rfl aK7b) ?_
                      refine VA.take (i := 12) rfl (by kernel_rfl) (by kernel_rfl) (by kernel_rfl) rfl rfl (OpV.move (.inr rfl) rfl) ?_
                      refine VA.done (by kernel_rfl) ?_
                      refine VC.condF rfl rfl ?_
                      refine VC.skip ?_
                      refine VC.region ?_
                      refine VO.val rfl rfl (OpV.add rfl rfl rfl (by unfold fits; omega)) ?_
                      refine VO.mv rfl rfl rfl rfl ?_
                      refine VO.nil ?_
                      exact Exists.intro (⟨q + 1, by omega, lt_succ_cases hn ((lookE_0 k2 k3 k4 (by first | exact .inl (by omega) | exact .inr (by omega))))⟩) (And.intro (Le.mk hB [] ⟨rfl, rfl, rfl, rfl, trivial⟩ rfl rfl (Nat.le_refl _)) (by first | omega | (show _ < _; omega) | (simp only []; omega)))
            · replace aK6b : _ = true := aK6b
              have aK6 := aK6b
              try simp only [qqT, qqF, qqN, qqM, qqL, qqE] at aK6
              refine VO.opX rfl rfl rfl rfl aK6b ?_
              refine VO.opX rfl rfl rfl rfl aK6b ?_
              refine VO.opX rfl rfl rfl rfl aK6b ?_
              refine VO.val rfl rfl (OpV.pickT rfl rfl rfl rfl aK6b) ?_
              refine VO.ma rfl rfl rfl rfl ?_
              refine VO.nil ?_
              refine VC.condT rfl rfl ?_
              have k2 : (lkStrs (l.getD q default)).all keyF = false := lks_no (by simp_all)
              refine VC.sr ?_
              refine VO.ma rfl rfl rfl rfl ?_
              refine VO.nil ?_
              refine VC.ret ?_
              exact Exists.intro _ (And.intro (RetN.one Tryz.results47 (ResN.v rfl)) (by rw [lookF_at (by omega) (by omega) hn (by rw [lookE_5 k2]; decide), lookE_5 k2]))
          · replace aK5b : _ = true := aK5b
            have aK5 := aK5b
            try simp only [qqT, qqF, qqN, qqM, qqL, qqE] at aK5
            refine VO.opX rfl rfl rfl rfl aK5b ?_
            refine VO.opX rfl rfl rfl rfl aK5b ?_
            refine VO.opX rfl rfl rfl rfl aK5b ?_
            refine VO.val rfl rfl (OpV.pickT rfl rfl rfl rfl aK5b) ?_
            refine VO.mv rfl rfl rfl rfl ?_
            refine VO.opX rfl rfl rfl rfl rfl ?_
            refine VO.opX rfl rfl rfl rfl rfl ?_
            refine VO.opX rfl rfl rfl rfl rfl ?_
            refine VO.opX rfl rfl rfl rfl rfl ?_
            refine VO.val rfl rfl (OpV.pickT rfl rfl rfl rfl rfl) ?_
            refine VO.ma rfl rfl rfl rfl ?_
            refine VO.nil ?_
            refine VC.condT rfl rfl ?_
            have k2 : (lkStrs (l.getD q default)).all keyF = false := lks_no (by simp_all)
            refine VC.sr ?_
            refine VO.ma rfl rfl rfl rfl ?_
            refine VO.nil ?_
            refine VC.ret ?_
            exact Exists.intro _ (And.intro (RetN.one Tryz.results47 (ResN.v rfl)) (by rw [lookF_at (by omega) (by omega) hn (by rw [lookE_5 k2]; decide), lookE_5 k2]))
        · replace aK4b : _ = true := aK4b
          have aK4 := aK4b
          try simp only [qqT, qqF, qqN, qqM, qqL, qqE] at aK4
          refine VO.opX rfl rfl rfl rfl aK4b ?_
          refine VO.opX rfl rfl rfl rfl aK4b ?_
          refine VO.opX rfl rfl rfl rfl aK4b ?_
          refine VO.val rfl rfl (OpV.pickT rfl rfl rfl rfl aK4b) ?_
          refine VO.mv rfl rfl rfl rfl ?_
          refine VO.opX rfl rfl rfl rfl rfl ?_
          refine VO.opX rfl rfl rfl rfl rfl ?_
          refine VO.opX rfl rfl rfl rfl rfl ?_
          refine VO.opX rfl rfl rfl rfl rfl ?_
          refine VO.val rfl rfl (OpV.pickT rfl rfl rfl rfl rfl) ?_
          refine VO.mv rfl rfl rfl rfl ?_
          refine VO.opX rfl rfl rfl rfl rfl ?_
          refine VO.opX rfl rfl rfl rfl rfl ?_
          refine VO.opX rfl rfl rfl rfl rfl ?_
          refine VO.opX rfl rfl rfl rfl rfl ?_
          refine VO.val rfl rfl (OpV.pickT rfl rfl rfl rfl rfl) ?_
          refine VO.ma rfl rfl rfl rfl ?_
          refine VO.nil ?_
          refine VC.condT rfl rfl ?_
          have k2 : (lkStrs (l.getD q default)).all keyF = false := lks_no (by simp_all)
          refine VC.sr ?_
          refine VO.ma rfl rfl rfl rfl ?_
          refine VO.nil ?_
          refine VC.ret ?_
          exact Exists.intro _ (And.intro (RetN.one Tryz.results47 (ResN.v rfl)) (by rw [lookF_at (by omega) (by omega) hn (by rw [lookE_5 k2]; decide), lookE_5 k2]))
      · replace aK3b : _ = true := aK3b
        have aK3 := aK3b
        try simp only [qqT, qqF, qqN, qqM, qqL, qqE] at aK3
        refine VO.opX rfl rfl rfl rfl aK3b ?_
        refine VO.opX rfl rfl rfl rfl aK3b ?_
        refine VO.opX rfl rfl rfl rfl aK3b ?_
        refine VO.val rfl rfl (OpV.pickT rfl rfl rfl rfl aK3b) ?_
        refine VO.mv rfl rfl rfl rfl ?_
        refine VO.opX rfl rfl rfl rfl rfl ?_
        refine VO.opX rfl rfl rfl rfl rfl ?_
        refine VO.opX rfl rfl rfl rfl rfl ?_
        refine VO.opX rfl rfl rfl rfl rfl ?_
        refine VO.val rfl rfl (OpV.pickT rfl rfl rfl rfl rfl) ?_
        refine VO.mv rfl rfl rfl rfl ?_
        refine VO.opX rfl rfl rfl rfl rfl ?_
        refine VO.opX rfl rfl rfl rfl rfl ?_
        refine VO.opX rfl rfl rfl rfl rfl ?_
        refine VO.opX rfl rfl rfl rfl rfl ?_
        refine VO.val rfl rfl (OpV.pickT rfl rfl rfl rfl rfl) ?_
        refine VO.mv rfl rfl rfl rfl ?_
        refine VO.opX rfl rfl rfl rfl rfl ?_
        refine VO.opX rfl rfl rfl rfl rfl ?_
        refine VO.opX rfl rfl rfl rfl rfl ?_
        refine VO.opX rfl rfl rfl rfl rfl ?_
        refine VO.val rfl rfl (OpV.pickT rfl rfl rfl rfl rfl) ?_
        refine VO.ma rfl rfl rfl rfl ?_
        refine VO.nil ?_
        refine VC.condT rfl rfl ?_
        have k2 : (lkStrs (l.getD q default)).all keyF = false := lks_no (by simp_all)
        refine VC.sr ?_
        refine VO.ma rfl rfl rfl rfl ?_
        refine VO.nil ?_
        refine VC.ret ?_
        exact Exists.intro _ (And.intro (RetN.one Tryz.results47 (ResN.v rfl)) (by rw [lookF_at (by omega) (by omega) hn (by rw [lookE_5 k2]; decide), lookE_5 k2]))
    · have aH2 := aH2b
      try simp only [qqT, qqF, qqN, qqM, qqL, qqE] at aH2
      refine VC.exit ?_
      refine VC.seq ?_
      refine VC.seq ?_
      have hl0 : ∀ j, j < l.length → lookE l j = 0 := fun j hj => hn j (by omega)
      refine VC.region ?_
      refine VO.mv rfl rfl rfl rfl ?_
      refine VO.val rfl rfl (OpV.len_im rfl Tryz.underlying61 rfl) ?_
      refine VO.mv rfl rfl rfl rfl ?_
      refine VO.nil ?_
      refine VC.block ?_
      refine VC.loopK [(0, _), (70, _), (71, _)] ⟨rfl, rfl, rfl, trivial⟩ ({r : Nat // r ≤ l.length ∧ ∀ j, j < r → twE l j = 0}) (fun (iZ : {r : Nat // r ≤ l.length ∧ ∀ j, j < r → twE l j = 0}) => match iZ with | ⟨r, hq1, hn1⟩ => [(72, avI (r : Int))]) (fun (iZ : {r : Nat // r ≤ l.length ∧ ∀ j, j < r → twE l j = 0}) => match iZ with | ⟨r, hq1, hn1⟩ => []) (fun (iZ : {r : Nat // r ≤ l.length ∧ ∀ j, j < r → twE l j = 0}) => match iZ with | ⟨r, hq1, hn1⟩ => 0) (fun (iZ : {r : Nat // r ≤ l.length ∧ ∀ j, j < r → twE l j = 0}) => match iZ with | ⟨r, hq1, hn1⟩ => l.length - r) ⟨0, Nat.zero_le _, fun j hj => absurd hj (Nat.not_lt_zero j)⟩ (Le.mk hB [] ⟨rfl, rfl, rfl, rfl, trivial⟩ rfl rfl (Nat.le_refl _)) ?_
      rintro ⟨r, hq1, hn1⟩
      show VC _ _ _ _ ⟨[(72, avI (r : Int))] ++ [(0, _), (70, _), (71, _)], [], 0⟩
      refine VC.sr ?_
      refine VO.val rfl rfl (OpV.lss rfl rfl rfl) ?_
      refine VO.nil ?_
      refine VC.seq ?_
      refine VC.cond rfl (fun aH8b => ?_) (fun aH8b => ?_)
      · have aH8 := aH8b
        try simp only [qqT, qqF, qqN, qqM, qqL, qqE] at aH8
        refine VC.skip ?_
        refine VC.seq ?_
        refine VC.block ?_
        refine VC.sr ?_
        refine VO.mv rfl rfl rfl rfl ?_
        refine VO.val rfl rfl (OpV.indexAddr_E rfl Tryz.underlying61 Tryz.sizeOf66 rfl rfl rfl (by omega)) ?_
        refine VO.val rfl rfl (OpV.loadK_at rfl hB OutW.no Tryz.isAgg66 Tryz.sizeOf66 rfl rfl) ?_
        refine VO.op rfl (OpE.alloc rfl hB rfl Tryz.zeroValue66 rfl ?_)
        intro g6
        refine VO.ma rfl rfl rfl rfl ?_
        refine VO.op rfl (OpE.store (i := 0) rfl hB rfl Tryz.sizeOf66 rfl rfl rfl rfl rfl rfl (Nle rfl) trivial ?_)
        refine VO.nil ?_
        refine VC.sr ?_
        refine VO.mv rfl rfl rfl rfl ?_
        refine VO.mv rfl rfl rfl rfl ?_
        refine VO.val rfl rfl (OpV.slice_L (h := r) rfl Tryz.underlying61 Tryz.sizeOf66 rfl rfl ⟨_, _, rfl, rfl⟩ (by omega) (by omega)) ?_
        refine VO.val rfl rfl (OpV.makeFunc1 rfl rfl) ?_
        refine VO.op rfl (OpE.callL rfl hB rfl Tryz.call151 (slices_ContainsFunc_lk (p := fun o => sameT o (l.getD r default)) (by rw [len_cut (by omega)]; omega) Tryz.call152 (fun x => rf_LooksFault1.spec)) (ArgsP.cons (ArgP.ev rfl) (ArgsP.cons (ArgP.fn1 (i := 0) (m := 8) (f := Sxc.cell (l.getD r default)) rfl rfl (Nle rfl) (lt8 rfl rfl rfl rfl rfl rfl rfl rfl)) (ArgsP.nil))) ?_)
        rintro _ rfl
        refine VO.nil ?_
        refine VC.cond rfl (fun h7b => ?_) (fun h7b => ?_)
        · have h7 := h7b
          try simp only [qqT, qqF, qqN, qqM, qqL, qqE] at h7
          refine VC.sr ?_
          refine VO.ma rfl rfl rfl rfl ?_
          refine VO.nil ?_
          refine VC.ret ?_
          exact Exists.intro _ (And.intro (RetN.one Tryz.results47 (ResN.v rfl)) (by rw [lookF_tw (by omega) hl0 (by omega) hn1 (by rw [twE_6 (by first | assumption | (have h := h7b; simpa using h))]; decide), twE_6 (by first | assumption | (have h := h7b; simpa using h))]))
        · have h7 := h7b
          try simp only [qqT, qqF, qqN, qqM, qqL, qqE] at h7
          refine VC.skip ?_
          refine VC.region ?_
          refine VO.val rfl rfl (OpV.add rfl rfl rfl (by unfold fits; omega)) ?_
          refine VO.mv rfl rfl rfl rfl ?_
          refine VO.nil ?_
          exact Exists.intro (⟨r + 1, by omega, lt_succ_cases hn1 ((twE_0 (by first | assumption | (have h := h7b; simpa using h))))⟩) (And.intro (Le.mk hB [] ⟨rfl, rfl, rfl, rfl, trivial⟩ rfl rfl (Nat.le_refl _)) (by first | omega | (show _ < _; omega) | (simp only []; omega)))
      · have aH8 := aH8b
        try simp only [qqT, qqF, qqN, qqM, qqL, qqE] at aH8
        refine VC.exit ?_
        refine VC.sr ?_
        refine VO.ma rfl rfl rfl rfl ?_
        refine VO.nil ?_
        refine VC.ret ?_
        exact Exists.intro _ (And.intro (RetN.one Tryz.results47 (ResN.v rfl)) (by rw [lookF_ok (by omega) hl0 (fun j hj => hn1 j (by omega))]))
end Go.Proofs.YtmahammdnmmmoaaGreatDoor
namespace Go.Proofs.YtmahammdnmmmoaaGreatDoor
open Go.RowKit
set_option linter.unusedVariables false
set_option linter.unusedSimpArgs false
theorem quo_fit {l : List LookS} {n : Int} {i : Nat} (h : lookF l = 0) (hn : 1 ≤ n) (hi : i < l.length) : 0 ≤ qat n (l.getD i default) ∧ qat n (l.getD i default) ≤ 345686399999 := by
 have h1 := (lookE_zero ((lookOk h).all i hi)).at_
 have h2 := qat_bd hn h1.1
 omega
theorem trQ_bd {l : List LookS} {n : Int} {N q k : Nat} (hl : l.length ≤ 5000) (hk : k < N) : 0 ≤ (trQ l n N q).getD k 0 ∧ (trQ l n N q).getD k 0 ≤ 5000 := by
 rw [trQ_get hk]
 have h1 := cntL_le (fun x => x.bad && decide (qat n x = trF l n + (k : Int))) (l.take q)
 have h2 := List.length_take_le q l
 have h3 : (l.take q).length ≤ l.length := by rw [List.length_take]; omega
 omega
set_option maxRecDepth 100000 in
set_option maxHeartbeats 8000000 in
theorem inspect_Trend {l : List LookS} {n : Int} (hs : SmLk l) :
  SpecN Tryz.prog 59 [avL l, avI n] (fun y => y = .tup [avInts (trL l n), avI (trE l n)]) := by
 refine SpecN.of_VCN Tryz.func59 rfl Tryz.ntmps59 (Nle rfl) fun w A hB => ?_
 have hnew : True := trivial
 refine VC.seq ?_
 have hl := hs.len
 refine VC.region ?_
 refine VO.ma rfl rfl rfl rfl ?_
 refine VO.ma rfl rfl rfl rfl ?_
 refine VO.nil ?_
 refine VC.seq ?_
 refine VC.sr ?_
 refine VO.mv rfl rfl rfl rfl ?_
 refine VO.op rfl (OpE.call rfl hB rfl Tryz.call52 rfl (SpecN.spec ((inspect_CheckLooks (by omega)))) ?_)
 rintro _ rfl
 refine VO.ma rfl rfl rfl rfl ?_
 refine VO.nil ?_
 refine VC.sr ?_
 refine VO.mv rfl rfl rfl rfl ?_
 refine VO.val rfl rfl (OpV.neq rfl rfl rfl) ?_
 refine VO.nil ?_
 refine VC.cond rfl (fun h0b => ?_) (fun h0b => ?_)
 ·have h0 := h0b
  try simp only [qqT, qqF, qqN, qqM, qqL, qqE] at h0
  refine VC.sr ?_
  refine VO.mv rfl rfl rfl rfl ?_
  refine VO.ma rfl rfl rfl rfl ?_
  refine VO.ma rfl rfl rfl rfl ?_
  refine VO.nil ?_
  refine VC.ret ?_
  exact Exists.intro _ (And.intro (RetN.two Tryz.results59 (ResN.nilI rfl) (ResN.v rfl)) (by rw [trL, if_neg (fun h => h0 (by rw [← trE_1 (s := n) h0]; exact h.1)), trE_1 h0]))
 ·have h0 := h0b
  try simp only [qqT, qqF, qqN, qqM, qqL, qqE] at h0
  refine VC.skip ?_
  refine VC.seq ?_
  refine VC.sr ?_
  refine VO.mv rfl rfl rfl rfl ?_
  refine VO.op rfl (OpE.call rfl hB rfl Tryz.call171 rfl (SpecN.spec (kit_Outside)) ?_)
  rintro _ rfl
  refine VO.nil ?_
  refine VC.cond rfl (fun h9b => ?_) (fun h9b => ?_)
  ·have h9 := h9b
   try simp only [qqT, qqF, qqN, qqM, qqL, qqE] at h9
   have h1 : outR n 1 86400000 = true := h9b
   refine VC.sr ?_
   refine VO.ma rfl rfl rfl rfl ?_
   refine VO.ma rfl rfl rfl rfl ?_
   refine VO.nil ?_
   refine VC.ret ?_
   exact Exists.intro _ (And.intro (RetN.two Tryz.results59 (ResN.nilI rfl) (ResN.v rfl)) (by rw [trL, if_neg (fun h => by have e := trE_2 (l := l) (s := n) (by omega) h1; omega), trE_2 (by omega) h1]))
  ·have h9 := h9b
   try simp only [qqT, qqF, qqN, qqM, qqL, qqE] at h9
   have h1 : outR n 1 86400000 = false := h9b
   refine VC.skip ?_
   refine VC.seq ?_
   refine VC.sr ?_
   refine VO.mv rfl rfl rfl rfl ?_
   refine VO.val rfl rfl (OpV.len_im rfl Tryz.underlying61 rfl) ?_
   refine VO.val rfl rfl (OpV.eql rfl rfl rfl) ?_
   refine VO.nil ?_
   refine VC.cond rfl (fun h2b => ?_) (fun h2b => ?_)
   ·have h2 := h2b
    try simp only [qqT, qqF, qqN, qqM, qqL, qqE] at h2
    refine VC.sr ?_
    refine VO.ma rfl rfl rfl rfl ?_
    refine VO.ma rfl rfl rfl rfl ?_
    refine VO.nil ?_
    refine VC.ret ?_
    exact Exists.intro _ (And.intro (RetN.two Tryz.results59 (ResN.nilI rfl) (ResN.v rfl)) (by rw [trL, if_neg (fun h => h.2 (by omega)), trE_3 (by omega) h1 (by omega)]))
   ·have h2 := h2b
    try simp only [qqT, qqF, qqN, qqM, qqL, qqE] at h2
    refine VC.skip ?_
    refine VC.seq ?_
    have h00 : lookF l = 0 := by omega
    have hn := outR_inL (fun h => by rw [h1] at h; cases h)
    have hl5 := (lookOk h00).len
    have hf0 := quo_fit (i := 0) h00 hn.1 (by omega)
    have hf1 := quo_fit (i := l.length - 1) h00 hn.1 (by omega)
    have htp := trM_pos h00 hn.1 (by omega)
    refine VC.region ?_
    refine VO.mv rfl rfl rfl rfl ?_
    refine VO.val rfl rfl (OpV.indexAddr_E rfl Tryz.underlying61 Tryz.sizeOf66 rfl rfl (Int.toNat_of_nonneg (by omega)).symm (by omega)) ?_
    refine VO.val rfl rfl (OpV.fieldAddr_atO 2 rfl Tryz.underlying66 rfl rfl Tryz.sizeOf3 rfl rfl) ?_
    refine VO.val rfl rfl (OpV.load_at rfl hB OutW.no Tryz.isAgg3 rfl rfl) ?_
    refine VO.mv rfl rfl rfl rfl ?_
    refine VO.val rfl rfl (OpV.quo rfl rfl rfl (by omega) (by have h : fits (qat n (l.getD 0 default)) := by { unfold fits; omega }; exact h)) ?_
    refine VO.le _ (Le.recast (t := 27) (y := avI (trF l n)) rfl (fun w Z u h => h)) ?_
    refine VO.ma rfl rfl rfl rfl ?_
    refine VO.nil ?_
    refine VC.sr ?_
    refine VO.mv rfl rfl rfl rfl ?_
    refine VO.mv rfl rfl rfl rfl ?_
    refine VO.val rfl rfl (OpV.len_im rfl Tryz.underlying61 rfl) ?_
    refine VO.val rfl rfl (OpV.sub rfl rfl rfl (by unfold fits; omega)) ?_
    refine VO.val rfl rfl (OpV.indexAddr_E rfl Tryz.underlying61 Tryz.sizeOf66 rfl rfl (show ((l.length : Int) - 1) = ((l.length - 1 : Nat) : Int) by omega) (by omega)) ?_
    refine VO.val rfl rfl (OpV.fieldAddr_atO 2 rfl Tryz.underlying66 rfl rfl Tryz.sizeOf3 rfl rfl) ?_
    refine VO.val rfl rfl (OpV.load_at rfl hB OutW.no Tryz.isAgg3 rfl rfl) ?_
    refine VO.mv rfl rfl rfl rfl ?_
    refine VO.val rfl rfl (OpV.quo rfl rfl rfl (by omega) (by unfold fits; have h := hf1; unfold qat at h; omega)) ?_
    refine VO.mv rfl rfl rfl rfl ?_
    refine VO.val rfl rfl (OpV.sub rfl rfl rfl (by unfold fits; have h := hf1; have h' : 0 ≤ trF l n ∧ trF l n ≤ 345686399999 := hf0; unfold qat at h; omega)) ?_
    refine VO.val rfl rfl (OpV.add rfl rfl rfl (by unfold fits; have h := hf1; have h' : 0 ≤ trF l n ∧ trF l n ≤ 345686399999 := hf0; unfold qat at h; omega)) ?_
    refine VO.le _ (Le.recast (t := 39) (y := avI (trM l n)) rfl (fun w Z u h => h)) ?_
    refine VO.ma rfl rfl rfl rfl ?_
    refine VO.nil ?_
    refine VC.seq ?_
    refine VC.sr ?_
    refine VO.mv rfl rfl rfl rfl ?_
    refine VO.val rfl rfl (OpV.gtr rfl rfl rfl) ?_
    refine VO.nil ?_
    refine VC.cond rfl (fun h3b => ?_) (fun h3b => ?_)
    ·have h3 := h3b
     try simp only [qqT, qqF, qqN, qqM, qqL, qqE] at h3
     refine VC.sr ?_
     refine VO.ma rfl rfl rfl rfl ?_
     refine VO.ma rfl rfl rfl rfl ?_
     refine VO.nil ?_
     refine VC.ret ?_
     exact Exists.intro _ (And.intro (RetN.two Tryz.results59 (ResN.nilI rfl) (ResN.v rfl)) (by rw [trL, if_neg (fun h => by have e := trE_4 (l := l) (s := n) h00 h1 (by omega) (by omega); omega), trE_4 h00 h1 (by omega) (by omega)]))
    ·have h3 := h3b
     try simp only [qqT, qqF, qqN, qqM, qqL, qqE] at h3
     refine VC.skip ?_
     refine VC.seq ?_
     obtain ⟨N, hN⟩ : ∃ N : Nat, trM l n = N := ⟨(trM l n).toNat, by omega⟩
     refine VC.region ?_
     refine VO.mv rfl rfl rfl rfl ?_
     refine VO.op rfl (OpE.make rfl hB rfl Tryz.underlying22 (infoOf Tryz.t3 1 (by kernel_rfl) rfl rfl) (by decide) rfl rfl (n := N) (by omega) (by omega) (by omega) (made_ints N) ?_)
     intro gb
     rw [intsL_len, List.length_replicate, ← trQ_0 (l := l) (s := n)]
     refine VO.ma rfl rfl rfl rfl ?_
     refine VO.nil ?_
     refine VC.seq ?_
     refine VC.sr ?_
     refine VO.mv rfl rfl rfl rfl ?_
     refine VO.val rfl rfl (OpV.len_im rfl Tryz.underlying61 rfl) ?_
     refine VO.mv rfl rfl rfl rfl ?_
     refine VO.nil ?_
     refine VC.block ?_
     refine VC.loopK [(1, _), (7, _), (9, _), (44, _), (45, _)] ⟨rfl, rfl, rfl, rfl, rfl, trivial⟩ ({q : Nat // q ≤ l.length}) (fun (iZ : {q : Nat // q ≤ l.length}) => match iZ with | ⟨q, hq⟩ => [(46, avI (q : Int))]) (fun (iZ : {q : Nat // q ≤ l.length}) => match iZ with | ⟨q, hq⟩ => [.box gb ⟨intsL (trQ l n N q), 3, N⟩]) (fun (iZ : {q : Nat // q ≤ l.length}) => match iZ with | ⟨q, hq⟩ => 0) (fun (iZ : {q : Nat // q ≤ l.length}) => match iZ with | ⟨q, hq⟩ => l.length - q) ⟨0, Nat.zero_le _⟩ (Le.mk hB [0] ⟨rfl, rfl, rfl, rfl, rfl, rfl, trivial⟩ rfl rfl (Nat.le_refl _)) ?_
     rintro ⟨q, hq⟩
     show VC _ _ _ _ ⟨[(46, avI (q : Int))] ++ [(1, _), (7, _), (9, _), (44, _), (45, _)], [.box gb ⟨intsL (trQ l n N q), 3, N⟩], 0⟩
     refine VC.sr ?_
     refine VO.val rfl rfl (OpV.lss rfl rfl rfl) ?_
     refine VO.nil ?_
     refine VC.seq ?_
     refine VC.cond rfl (fun aH1b => ?_) (fun aH1b => ?_)
     ·have aH1 := aH1b
      try simp only [qqT, qqF, qqN, qqM, qqL, qqE] at aH1
      refine VC.skip ?_
      refine VC.seq ?_
      refine VC.block ?_
      refine VC.sr ?_
      refine VO.val rfl rfl (OpV.indexAddr_E rfl Tryz.underlying61 Tryz.sizeOf66 rfl rfl rfl (by omega)) ?_
      refine VO.val rfl rfl (OpV.loadK_at rfl hB OutW.no Tryz.isAgg66 Tryz.sizeOf66 rfl rfl) ?_
      refine VO.op rfl (OpE.alloc rfl hB rfl Tryz.zeroValue66 rfl ?_)
      intro g11
      refine VO.op rfl (OpE.store (i := 1) rfl hB rfl Tryz.sizeOf66 rfl rfl rfl rfl rfl rfl (Nle rfl) trivial ?_)
      refine VO.nil ?_
      refine VC.sr ?_
      refine VO.val rfl rfl (OpV.fieldAddrO 4 rfl Tryz.underlying66 rfl rfl Tryz.sizeOf4 rfl) ?_
      refine VO.val rfl rfl (OpV.load_own (i := 1) rfl hB Tryz.isAgg4 rfl rfl rfl (fun h => h)) ?_
      refine VO.nil ?_
      refine VC.cond rfl (fun h5b => ?_) (fun h5b => ?_)
      ·have h5 := h5b
       try simp only [qqT, qqF, qqN, qqM, qqL, qqE] at h5
       have hti := tr_in (q := q) h00 hn.1 (by omega)
       have hfq := quo_fit (i := q) h00 hn.1 (by omega)
       obtain ⟨k, hk⟩ : ∃ k : Nat, qat n (l.getD q default) - trF l n = (k : Int) := ⟨(qat n (l.getD q default) - trF l n).toNat, by omega⟩
       have hkb := trQ_bd (q := q) (l := l) (n := n) hl5 (show k < N by omega)
       refine VC.region ?_
       refine VO.mv rfl rfl rfl rfl ?_
       refine VO.val rfl rfl (OpV.fieldAddrO 2 rfl Tryz.underlying66 rfl rfl Tryz.sizeOf3 rfl) ?_
       refine VO.val rfl rfl (OpV.load_own (i := 1) rfl hB Tryz.isAgg3 rfl rfl rfl (fun h => h)) ?_
       refine VO.mv rfl rfl rfl rfl ?_
       refine VO.val rfl rfl (OpV.quo rfl rfl rfl (by omega) (by unfold fits; have h := hfq; unfold qat at h; omega)) ?_
       refine VO.mv rfl rfl rfl rfl ?_
       refine VO.val rfl rfl (OpV.sub rfl rfl rfl (by unfold fits; have h := hfq; have h' : 0 ≤ trF l n ∧ trF l n ≤ 345686399999 := hf0; unfold qat at h; omega)) ?_
       refine VO.le _ (Le.recast (t := 58) (y := avI (k : Int)) rfl (fun w Z u h => by rw [← hk]; exact h)) ?_
       refine VO.val rfl rfl (OpV.indexAddr_o rfl Tryz.underlying22 Tryz.sizeOf3 rfl rfl rfl (by omega)) ?_
       refine VO.val rfl rfl (OpV.load_own (i := 0) rfl hB Tryz.isAgg3 rfl rfl (intsL_get (by rw [trQ_len]; omega)) (fun h => h)) ?_
       refine VO.val rfl rfl (OpV.add rfl rfl rfl (by unfold fits; omega)) ?_
       refine VO.val rfl rfl (OpV.indexAddr_o rfl Tryz.underlying22 Tryz.sizeOf3 rfl rfl rfl (by omega)) ?_
       refine VO.op rfl (OpE.store1 (i := 0) rfl hB rfl Tryz.sizeOf3 rfl rfl rfl rfl rfl rfl (by rw [intsL_len, trQ_len]; omega) (intsL_set _ _ _) trivial ?_)
       refine VO.nil ?_
       refine VC.region ?_
       refine VO.val rfl rfl (OpV.add rfl rfl rfl (by unfold fits; omega)) ?_
       refine VO.mv rfl rfl rfl rfl ?_
       refine VO.nil ?_
       exact Exists.intro (⟨q + 1, by omega⟩) (And.intro (Le.mk hB [0] ⟨rfl, rfl, rfl, rfl, rfl, rfl, trivial⟩ rfl (by dsimp only; first | (rw [trQ_bad (by omega) h5b hk]; rfl) | (rw [trQ_good (by omega) h5b]; rfl)) (Nat.le_refl _)) (by first | omega | (show _ < _; omega) | (simp only []; omega)))
      ·have h5 := h5b
       try simp only [qqT, qqF, qqN, qqM, qqL, qqE] at h5
       refine VC.skip ?_
       refine VC.region ?_
       refine VO.val rfl rfl (OpV.add rfl rfl rfl (by unfold fits; omega)) ?_
       refine VO.mv rfl rfl rfl rfl ?_
       refine VO.nil ?_
       exact Exists.intro (⟨q + 1, by omega⟩) (And.intro (Le.mk hB [0] ⟨rfl, rfl, rfl, rfl, rfl, rfl, trivial⟩ rfl (by dsimp only; first | (rw [trQ_bad (by omega) h5b hk]; rfl) | (rw [trQ_good (by omega) h5b]; rfl)) (Nat.le_refl _)) (by first | omega | (show _ < _; omega) | (simp only []; omega)))
     ·have aH1 := aH1b
      try simp only [qqT, qqF, qqN, qqM, qqL, qqE] at aH1
      obtain rfl : q = l.length := by omega
      refine VC.exit ?_
      refine VC.sr ?_
      refine VO.mv rfl rfl rfl rfl ?_
      refine VO.ma rfl rfl rfl rfl ?_
      refine VO.ma rfl rfl rfl rfl ?_
      refine VO.nil ?_
      refine VC.ret ?_
      exact Exists.intro _ (And.intro (RetN.two Tryz.results59 (ResN.boxI (i := 0) rfl rfl trQ_len.symm (Nat.le_refl _) (capM (by omega))) (ResN.v rfl)) (by rw [trL, if_pos ⟨trE_5 h00 h1 (by omega) (by omega), by omega⟩, trE_5 h00 h1 (by omega) (by omega), show (trM l n).toNat = N by omega]))
end Go.Proofs.YtmahammdnmmmoaaGreatDoor
namespace Go.Proofs.YtmahammdnmmmoaaGreatDoor
open Go.RowKit
set_option linter.unusedVariables false
set_option linter.unusedSimpArgs false
def Zt (w : World) (A : Nat → Prop) (hp' : List Ent) (w' : World) : Nat → Prop := fun b => b < w'.heap.size ∧ ¬ BlkL hp' b ∧ (b < w.heap.size → A b)
def SpecTO (P : Program) (T : World → Nat → Prop) (str : Nat → Prop) (F : FuncId) (xs : List AV) (c : Nat) (G : AV → List Ent → Prop) : Prop :=
 ∀ (w : World) (A : Nat → Prop) (us : Array Value) (k : Nat), Args w A xs us → T w k → (∀ b, str b → ¬ A b) → k + c ≤ 1000000 →
  Calls P F us w fun e w' => ∃ y v hp', G y hp' ∧ e = .returned v ∧ Apart hp' ∧ Rep w' (Zt w A hp' w') y v ∧ (∀ e ∈ hp', EntR w' (Zt w A hp' w') e) ∧ (∀ b, BlkL hp' b → w.heap.size ≤ b) ∧ Chg str w w' ∧ T w' (k + c)
theorem SpecTO.mono {P : Program} {T : World → Nat → Prop} {str : Nat → Prop} {F : FuncId} {xs : List AV} {c : Nat} {G G' : AV → List Ent → Prop} (h : SpecTO P T str F xs c G) (hg : ∀ y hp', G y hp' → G' y hp') : SpecTO P T str F xs c G' := fun w A us k h1 h2 h3 h4 =>
 (h w A us k h1 h2 h3 h4).mono fun e w' ⟨y, v, hp', k1, k2⟩ => ⟨y, v, hp', hg _ _ k1, k2⟩
theorem SpecTO.of_VC {P : Program} {F : FuncId} {fn : Func} {c : Code} (hf : P.funcs[F]? = some fn) (hb : fn.body = some c) {xs : List AV} {G : AV → List Ent → Prop} {nt n : Nat} (hn : fn.ntmps = nt) (hle : xs.length ≤ nt) {T : World → Nat → Prop} {str low : Nat → Prop}
  (hok : ∀ w A k, T w k → (B1 w A nt str low T).Ok)
  (h : ∀ w A k, k + n ≤ 1000000 → (B1 w A nt str low T).Ok → VC P (B1 w A nt str low T) c (retS P fn fun y s => G y s.hp ∧ s.k ≤ k + n) ⟨slots0 0 xs, [], k⟩) : SpecTO P T str F xs n G := fun w A us k ha hT hSA hk =>
 (calls_of_VC (k := k) hf hb (B := B1 w A nt str low T) rfl hn.symm ha hSA hT (by omega) (h w A k hk (hok w A k hT))).mono fun e w' ⟨y, v, s, a, h1, h2, h3, h4⟩ => by
  have hB := hok w A k hT
  have hZ : ∀ b, Zn (B1 w A nt str low T) s.hp w' b → Zt w A s.hp w' b := fun b hb => ⟨hb.1, fun ⟨p, hp1, hp2⟩ => hb.2.1 p hp1 hp2, fun hl => (hb.2.2 hl).1.resolve_right (hb.2.2 hl).2⟩
  refine ⟨y, v, s.hp, h1.1, h2, h4.nodup, h3.keep fun b hb _ => ⟨rfl, hZ b hb⟩, fun p hp' => (h4.blocks p hp').keep (fun b hb _ => ⟨rfl, hZ b hb⟩) fun g _ => rfl, fun b ⟨p, hp1, hp2⟩ => ?_, h4.chg, hB.up h4.res h1.2⟩
  obtain ⟨q1, q2⟩ := h4.own p hp1 b hp2
  rcases Nat.lt_or_ge b w.heap.size with hl | hl
  ·exact absurd (hB.str b (q2 hl)).1 q1
  ·exact hl
section
variable {P : Program} {B : Bs} {W : Nat → Prop} {s : St'} {o : Oper} {K : St' → Prop} {a : Act} {w w' : World}
theorem R.afterT (hB : B.Ok) (hr : R B s a w) {hp' : List Ent} {k' : Nat} (hap : Apart hp') (hE : ∀ e ∈ hp', EntR w' (Zt w (Zo B s.hp) hp' w') e) (hnw : ∀ b, BlkL hp' b → w.heap.size ≤ b) (hc : Chg B.str w w') (hT : B.T w' k') :
  R B ⟨s.sl, s.hp ++ hp', k'⟩ a w' ∧ ∀ b, Zt w (Zo B s.hp) hp' w' b → Zn B (s.hp ++ hp') w' b := by
 have hw0 := hr.chg.size
 have hns : ∀ b, Zn B s.hp w b → ¬ B.str b := fun b hb hs => by
  obtain ⟨h1, h2⟩ := hB.str b hs
  exact (hb.2.2 (hB.low b h1)).2 hs
 have hz : ∀ b, Zn B s.hp w b → b < w.heap.size → w'.heap[b]? = w.heap[b]? ∧ Zn B (s.hp ++ hp') w' b := fun b hb hl => by
  refine ⟨hc.block b hl (hns b hb), Nat.lt_of_lt_of_le hl hc.size, fun p hp1 hpb => ?_, hb.2.2⟩
  rcases List.mem_append.1 hp1 with h | h
  ·exact hb.2.1 p h hpb
  ·have := hnw b ⟨p, h, hpb⟩; omega
 have hz2 : ∀ b, Zt w (Zo B s.hp) hp' w' b → Zn B (s.hp ++ hp') w' b := fun b hb => by
  refine ⟨hb.1, fun p hp1 hpb => ?_, fun h0 => (hb.2.2 (Nat.lt_of_lt_of_le h0 hw0)).2 h0⟩
  rcases List.mem_append.1 hp1 with h | h
  ·exact (hb.2.2 (hr.lt p h b hpb)).1 p h hpb
  ·exact hb.2.1 ⟨p, h, hpb⟩
 refine ⟨⟨fun t x hx => (hr.slots t x hx).keep hz, hr.size, hr.defs, fun p hp1 => ?_, ?_, hr.chg.trans (hc.mono fun b _ h => (hB.str b h).2), fun p hp1 g hg => ?_, hT⟩, hz2⟩
 ·rcases List.mem_append.1 hp1 with h | h
  ·exact (hr.blocks p h).keep hz fun g hg => hc.block g (hr.lt p h g hg) fun hs => (hr.own p h g hg).1 (hB.str g hs).1
  ·exact (hE p h).keep (fun b hb _ => ⟨rfl, hz2 b hb⟩) fun g _ => rfl
 ·unfold Apart
  rw [List.pairwise_append]
  exact ⟨hr.nodup, hap, fun p hp1 q hq g hpg hqg => by have := hr.lt p hp1 g hpg; have := hnw g ⟨q, hq, hqg⟩; omega⟩
 ·rcases List.mem_append.1 hp1 with h | h
  ·exact hr.own p h g hg
  ·have := hnw g ⟨p, h, hg⟩
   exact ⟨fun hlow => by have := hB.low g hlow; omega, fun h0 => by omega⟩
theorem OpE.callTO {f : FuncId} {args : Array Operand} {ts : Array TypeId} {xs : List AV} {G : AV → List Ent → Prop} {c : Nat} (kk : Nat) (hkk : s.k = kk) (ho : o.op = .call { callee := .value (.func f), args := args, argTypes := ts }) (hB : B.Ok) (hd : okd B.nt o.dst = true)
  (hcall : ∀ us w, (callFunc f us).run P w = .ok (.enter f us) w) (hxs : evL s args.toList = some xs) (hspec : SpecTO P B.T B.str f xs c G) (hk : kk + c ≤ 1000000) (hK : ∀ y hp', G y hp' → K ((St'.mk s.sl (s.hp ++ hp') (kk + c)).put o.dst y)) : OpE P B W s o K := by
 subst hkk
 intro a w hr next Qx hn
 have h1 := hspec w (Zo B s.hp) _ s.k (evL_args hr hxs) hr.res (fun b hb hA => (hA.2 (hB.low b (hB.str b hb).1)).2 hb) hk
 unfold Oper.wp
 simp only [execOp, ho, resolve, Act.eval, Deferred.ofValue, Sem.run_bind, Sem.run_pure, Result.andThen_ok, invoke, hcall, Array.empty_append, Array.append_empty]
 simp only [Oper.upon]
 refine h1.mono fun e w' hret => ?_
 obtain ⟨y, v, hp', h2, rfl, h3, h4, h5, h6, h7, h8⟩ := hret
 obtain ⟨hr', hz⟩ := hr.afterT hB h3 h5 h6 h7 h8
 exact hn _ _ _ (hK y hp' h2) (hr'.put _ hd _ _ (h4.keep fun b hb hl => ⟨rfl, hz b hb⟩)) (h7.mono fun b _ h => .inl h)
end
end Go.Proofs.YtmahammdnmmmoaaGreatDoor
namespace Go.Proofs.YtmahammdnmmmoaaGreatDoor
open Go.RowKit
set_option linter.unusedVariables false
set_option linter.unusedSimpArgs false
theorem encL_small (n : Int) : (Utf8.encode n).size ≤ 4 := by
 unfold Utf8.encode
 simp only
 repeat' split
 all_goals simp [ByteArray.size]
theorem getSet_lk {α : Type} {xs : List α} {q : Nat} {x d : α} (h : q < xs.length) : (xs.set q x).getD q d = x := by simp [h]
def nm3 : List ByteArray := [⟨#[99, 49]⟩, ⟨#[99, 50]⟩, ⟨#[114, 49]⟩]
def bdK (i : Nat) : ByteArray := ⟨#[98]⟩ ++ Utf8.encode (49 + (i : Int))
theorem bdK_size (i : Nat) : (bdK i).size ≤ 1000 := by
 have := encL_small (49 + (i : Int))
 show (⟨#[98]⟩ ++ Utf8.encode (49 + (i : Int)) : ByteArray).size ≤ 1000
 rw [ByteArray.size_append]; have h1 : (⟨#[98]⟩ : ByteArray).size = 1 := rfl; omega
theorem nm3_size (q : Nat) : (nm3.getD q ByteArray.empty).size ≤ 1000 := by
 match q with
 | 0 => decide
 | 1 => decide
 | 2 => decide
 | q + 3 => simp [nm3]
def BdG (m : Nat) (s : ByteArray) : Prop := s.size ≤ 1000 ∧ (keyF s = true → ∃ i, i < m ∧ s = bdK i)
def NmG (s : ByteArray) : Prop := s.size ≤ 1000 ∧ (keyF s = true → s ∈ nm3)
def SmG (s : ByteArray) : Prop := s.size ≤ 1000
def AtG (m : Nat) (v : Int) : Prop := (-1 ≤ v ∧ v ≤ 345686400000) ∧ (0 ≤ v → v ≤ 345686399999 → v ≤ 10 * (m : Int))
theorem AtG.mono {m n : Nat} {v : Int} (h : AtG m v) (hn : m ≤ n) : AtG n v := ⟨h.1, fun h1 h2 => by have := h.2 h1 h2; omega⟩
theorem AtG.neg {m : Nat} : AtG m (-1) := ⟨by omega, fun h => by omega⟩
theorem AtG.end_ {m : Nat} : AtG m 345686400000 := ⟨by omega, fun _ h => by omega⟩
structure LkG (m : Nat) (x : LookS) : Prop where
 board : BdG m x.board
 name : NmG x.name
 at_ : AtG m x.at_
 machine : SmG x.machine
 nozzle : SmG x.nozzle
 reel : SmG x.reel
theorem BdG.mono {m n : Nat} {s : ByteArray} (h : BdG m s) (hn : m ≤ n) : BdG n s := ⟨h.1, fun hk => by obtain ⟨i, hi, e⟩ := h.2 hk; exact ⟨i, by omega, e⟩⟩
theorem LkG.mono {m n : Nat} {x : LookS} (h : LkG m x) (hn : m ≤ n) : LkG n x := ⟨h.board.mono hn, h.name, h.at_.mono hn, h.machine, h.nozzle, h.reel⟩
theorem keyF_none : keyF ⟨#[]⟩ = false := by decide +kernel
theorem keyF_A : keyF ⟨#[65]⟩ = false := by decide +kernel
theorem BdG.none (m : Nat) : BdG m ⟨#[]⟩ := ⟨by decide, fun h => by rw [keyF_none] at h; cases h⟩
theorem BdG.b1 {m : Nat} (h : 0 < m) : BdG m ⟨#[98, 49]⟩ := ⟨by decide, fun _ => ⟨0, h, by decide +kernel⟩⟩
theorem BdG.k {m i : Nat} (h : i < m) : BdG m (bdK i) := ⟨bdK_size i, fun _ => ⟨i, h, rfl⟩⟩
theorem NmG.none : NmG ⟨#[65]⟩ := ⟨by decide, fun h => by rw [keyF_A] at h; cases h⟩
theorem NmG.c1 : NmG ⟨#[99, 49]⟩ := ⟨by decide, fun _ => by simp [nm3]⟩
theorem NmG.k (q : Nat) : NmG (nm3.getD q ByteArray.empty) := ⟨nm3_size q, fun h => by
 match q with
 | 0 => simp [nm3]
 | 1 => simp [nm3]
 | 2 => simp [nm3]
 | q + 3 =>
  have e : nm3.getD (q + 3) ByteArray.empty = ⟨#[]⟩ := by simp [nm3]; rfl
  rw [e, keyF_none] at h; cases h⟩
theorem LkG.zero : LkG 0 default := ⟨BdG.none 0, ⟨by decide, fun h => by have : keyF ⟨#[]⟩ = true := h; rw [keyF_none] at this; cases this⟩, ⟨by decide, by decide⟩, by unfold SmG; decide, by unfold SmG; decide, by unfold SmG; decide⟩
theorem LkG.getD {m : Nat} {l : List LookS} (h : ∀ x ∈ l, LkG m x) (i : Nat) : LkG m (l.getD i default) := by
 rw [List.getD_eq_getElem?_getD]
 cases hi : l[i]? with
 | none => exact LkG.zero.mono (Nat.zero_le _)
 | some x => exact h x (List.mem_of_getElem? hi)
theorem LkG.sm {m : Nat} {l : List LookS} (h : ∀ x ∈ l, LkG m x) (hl : l.length ≤ 1000) : SmLk l := ⟨by omega, fun i => by have := (LkG.getD h i).board.1; omega, fun i => by have := (LkG.getD h i).name.1; omega, fun i => by have := (LkG.getD h i).machine; unfold SmG at this; omega, fun i => by have := (LkG.getD h i).nozzle; unfold SmG at this; omega, fun i => by have := (LkG.getD h i).reel; unfold SmG at this; omega⟩
theorem LkG.snoc {m : Nat} {l : List LookS} (h : ∀ x ∈ l, LkG m x) {y : LookS} (hy : LkG m y) : ∀ x ∈ l ++ [y], LkG m x := fun x hx => by
 rcases List.mem_append.1 hx with hx | hx
 ·exact h x hx
 ·simp at hx; subst hx; exact hy
theorem LkG.setD {m : Nat} {l : List LookS} (h : ∀ x ∈ l, LkG m x) (q : Nat) {y : LookS} (hy : LkG m y) : ∀ x ∈ l.set q y, LkG m x := fun x hx => by
 rcases List.mem_or_eq_of_mem_set hx with h' | rfl
 ·exact h x h'
 ·exact hy
theorem lk_upd {a b : LookS} {k : Nat} (h0 : k = 0 ∨ a.board = b.board) (h1 : k = 1 ∨ a.name = b.name) (h2 : k = 2 ∨ a.at_ = b.at_) (h3 : k = 3 ∨ a.verdict = b.verdict) (h4 : k = 4 ∨ a.bad = b.bad) (h5 : k = 5 ∨ a.machine = b.machine) (h6 : k = 6 ∨ a.nozzle = b.nozzle) (h7 : k = 7 ∨ a.reel = b.reel) : ∀ i, i < 8 → i ≠ k → Sxc.cell a i = Sxc.cell b i := fun i hi hn => by
 match i, hi with
 | 0, _ => show avS a.board = avS b.board; rw [h0.resolve_left fun h => hn h.symm]
 | 1, _ => show avS a.name = avS b.name; rw [h1.resolve_left fun h => hn h.symm]
 | 2, _ => show avI a.at_ = avI b.at_; rw [h2.resolve_left fun h => hn h.symm]
 | 3, _ => show avI a.verdict = avI b.verdict; rw [h3.resolve_left fun h => hn h.symm]
 | 4, _ => show avB a.bad = avB b.bad; rw [h4.resolve_left fun h => hn h.symm]
 | 5, _ => show avS a.machine = avS b.machine; rw [h5.resolve_left fun h => hn h.symm]
 | 6, _ => show avS a.nozzle = avS b.nozzle; rw [h6.resolve_left fun h => hn h.symm]
 | 7, _ => show avS a.reel = avS b.reel; rw [h7.resolve_left fun h => hn h.symm]
def AllG (Pr : ByteArray → Prop) : List AV → Prop
 | [] => True
 | x :: r => (∃ i : ByteArray, Pr i ∧ x = avS i) ∧ AllG Pr r
theorem AllG.nil {Pr : ByteArray → Prop} : AllG Pr [] := trivial
theorem AllG.cons {Pr : ByteArray → Prop} {i : ByteArray} {r : List AV} (h : Pr i) (hr : AllG Pr r) : AllG Pr (avS i :: r) := ⟨⟨i, h, rfl⟩, hr⟩
theorem AllG.get {Pr : ByteArray → Prop} : ∀ {l : List AV} {q : Nat}, AllG Pr l → q < l.length → ∃ i : ByteArray, Pr i ∧ l.getD q .any = avS i
 | [], q, _, h => by simp at h
 | x :: r, 0, h, _ => by simpa using h.1
 | x :: r, q + 1, h, hq => by simpa using AllG.get h.2 (by simpa using hq)
set_option maxRecDepth 100000 in
theorem some_G {p : Nat} {L : List Int} {n : Nat} {l : List AV} (Pr : ByteArray → Prop) (hn : l.length = n) (h0 : 0 < n) (h1 : n ≤ 1000) (hall : AllG Pr l) :
  SpecT Tryz.prog (TT p L) (fun b => b = p) 32 [sp p, .im n 1 fun j => l.getD j .any] 1 (fun y => ∃ r : ByteArray, Pr r ∧ y = avS r) := by
 refine SpecT.of_VC Tryz.func32 rfl Tryz.ntmps32 (Nle rfl) (low := (fun b => b ≤ p)) (fun w A k h => h.ok) fun w A k hk hB => ?_
 have hnew : True := trivial
 refine VC.sr ?_
 refine VO.ma rfl rfl rfl rfl ?_
 refine VO.nil ?_
 refine VC.sr ?_
 refine VO.mv rfl rfl rfl rfl ?_
 refine VO.mv rfl rfl rfl rfl ?_
 refine VO.mv rfl rfl rfl rfl ?_
 refine VO.val rfl rfl (OpV.len_im rfl Tryz.underlying95 rfl) ?_
 refine VO.op rfl (OpE.callT' (k) rfl rfl hB rfl Tryz.call42 rfl ((next_T (by omega))) (by omega) ?_)
 rintro _ ⟨r9, hr9, rfl⟩
 refine VO.val rfl rfl (OpV.indexAddr_1 rfl Tryz.underlying95 Tryz.sizeOf9 rfl rfl (Int.toNat_of_nonneg (by omega)).symm (by omega)) ?_
 refine VO.val rfl rfl (OpV.load_at rfl hB OutW.no Tryz.isAgg9 rfl rfl) ?_
 refine VO.ma rfl rfl rfl rfl ?_
 refine VO.nil ?_
 refine VC.ret ?_
 exact Exists.intro _ (And.intro (RetV.one Tryz.results32 (ResV.tmp rfl)) (And.intro (hall.get (by omega)) ((show k + 1 ≤ k + 1 by omega))))
def AllJ (Pr : Int → Prop) : List AV → Prop
 | [] => True
 | x :: r => (∃ i : Int, Pr i ∧ x = avI i) ∧ AllJ Pr r
theorem AllJ.nil {Pr : Int → Prop} : AllJ Pr [] := trivial
theorem AllJ.cons {Pr : Int → Prop} {i : Int} {r : List AV} (h : Pr i) (hr : AllJ Pr r) : AllJ Pr (avI i :: r) := ⟨⟨i, h, rfl⟩, hr⟩
theorem AllJ.get {Pr : Int → Prop} : ∀ {l : List AV} {q : Nat}, AllJ Pr l → q < l.length → ∃ i : Int, Pr i ∧ l.getD q .any = avI i
 | [], q, _, h => by simp at h
 | x :: r, 0, h, _ => by simpa using h.1
 | x :: r, q + 1, h, hq => by simpa using AllJ.get h.2 (by simpa using hq)
set_option maxRecDepth 100000 in
theorem pick_J {p : Nat} {L : List Int} {n : Nat} {l : List AV} (Pr : Int → Prop) (hn : l.length = n) (h0 : 0 < n) (h1 : n ≤ 1000) (hall : AllJ Pr l) :
  SpecT Tryz.prog (TT p L) (fun b => b = p) 21 [sp p, .im n 1 fun j => l.getD j .any] 1 (fun y => ∃ r : Int, Pr r ∧ y = avI r) := by
 refine SpecT.of_VC Tryz.func21 rfl Tryz.ntmps21 (Nle rfl) (low := (fun b => b ≤ p)) (fun w A k h => h.ok) fun w A k hk hB => ?_
 have hnew : True := trivial
 refine VC.sr ?_
 refine VO.ma rfl rfl rfl rfl ?_
 refine VO.nil ?_
 refine VC.sr ?_
 refine VO.mv rfl rfl rfl rfl ?_
 refine VO.mv rfl rfl rfl rfl ?_
 refine VO.mv rfl rfl rfl rfl ?_
 refine VO.val rfl rfl (OpV.len_im rfl Tryz.underlying22 rfl) ?_
 refine VO.op rfl (OpE.callT' (k) rfl rfl hB rfl Tryz.call42 rfl ((next_T (by omega))) (by omega) ?_)
 rintro _ ⟨r9, hr9, rfl⟩
 refine VO.val rfl rfl (OpV.indexAddr_1 rfl Tryz.underlying22 Tryz.sizeOf3 rfl rfl (Int.toNat_of_nonneg (by omega)).symm (by omega)) ?_
 refine VO.val rfl rfl (OpV.load_at rfl hB OutW.no Tryz.isAgg3 rfl rfl) ?_
 refine VO.ma rfl rfl rfl rfl ?_
 refine VO.nil ?_
 refine VC.ret ?_
 exact Exists.intro _ (And.intro (RetV.one Tryz.results21 (ResV.tmp rfl)) (And.intro (hall.get (by omega)) ((show k + 1 ≤ k + 1 by omega))))
set_option maxRecDepth 100000 in
theorem odd_L {p : Nat} {L : List Int}  :
  SpecT Tryz.prog (TT p L) (fun b => b = p) 142 [sp p, avI 1, avI 5] 2 (fun y => ∃ r : Int, y = avI r) := by
 refine SpecT.of_VC Tryz.func142 rfl Tryz.ntmps142 (Nle rfl) (low := (fun b => b ≤ p)) (fun w A k h => h.ok) fun w A k hk hB => ?_
 have hnew : True := trivial
 refine VC.sr ?_
 refine VO.ma rfl rfl rfl rfl ?_
 refine VO.nil ?_
 refine VC.seq ?_
 refine VC.sr ?_
 refine VO.mv rfl rfl rfl rfl ?_
 refine VO.op rfl (OpE.callT' (k) rfl rfl hB rfl Tryz.call17 rfl ((flip_T (by omega))) (by omega) ?_)
 rintro _ ⟨r8, rfl⟩
 refine VO.nil ?_
 refine VC.cond rfl (fun aH1b => ?_) (fun aH1b => ?_)
 ·have aH1 := aH1b
  try simp only [qqT, qqF, qqN, qqM, qqL, qqE] at aH1
  refine VC.sr ?_
  refine VO.mv rfl rfl rfl rfl ?_
  refine VO.mv rfl rfl rfl rfl ?_
  refine VO.val rfl rfl (OpV.sub rfl rfl rfl (by unfold fits; omega)) ?_
  refine VO.mv rfl rfl rfl rfl ?_
  refine VO.val rfl rfl (OpV.add rfl rfl rfl (by unfold fits; omega)) ?_
  refine VO.mv rfl rfl rfl rfl ?_
  refine VO.mv rfl rfl rfl rfl ?_
  refine VO.op rfl (OpE.buildSlice (zc := #[.int .i64 0, .int .i64 0, .int .i64 0, .int .i64 0, .int .i64 0, .int .i64 0]) rfl hB rfl Tryz.underlying22 Tryz.sizeOf3 Tryz.zeroValue3 (by decide) (by decide) (by kernel_rfl) rfl rfl ?_)
  refine VO.op rfl (OpE.callT' (k + 1) rfl rfl hB rfl Tryz.call21 rfl (pick_X (by rfl) (by decide) (by decide) (by repeat (first | exact AllX.nil | refine AllX.cons ?_))) (by omega) ?_)
  rintro _ ⟨r17, rfl⟩
  refine VO.ma rfl rfl rfl rfl ?_
  refine VO.nil ?_
  refine VC.ret ?_
  exact Exists.intro _ (And.intro (RetV.one Tryz.results142 (ResV.tmp rfl)) (And.intro (⟨_, rfl⟩) ((show k + 1 + 1 ≤ k + 2 by omega))))
 ·have aH1 := aH1b
  try simp only [qqT, qqF, qqN, qqM, qqL, qqE] at aH1
  refine VC.skip ?_
  refine VC.sr ?_
  refine VO.mv rfl rfl rfl rfl ?_
  refine VO.mv rfl rfl rfl rfl ?_
  refine VO.mv rfl rfl rfl rfl ?_
  refine VO.op rfl (OpE.callT' (k + 1) rfl rfl hB rfl Tryz.call40 rfl ((range_T (by omega) (by omega) (by omega))) (by omega) ?_)
  rintro _ ⟨r21, hr21, rfl⟩
  refine VO.ma rfl rfl rfl rfl ?_
  refine VO.nil ?_
  refine VC.ret ?_
  exact Exists.intro _ (And.intro (RetV.one Tryz.results142 (ResV.tmp rfl)) (And.intro (⟨_, rfl⟩) ((show k + 1 + 1 ≤ k + 2 by omega))))
abbrev xL (l : List LookS) (m : Nat) : LookS := l.getD m default
abbrev pL (g o : Nat) : AV := .v (.pointer (some ⟨g, o, none⟩))
abbrev iL (n : Nat) (cs : List AV) : AV := .im n 1 (fun j => cs.getD j .any)
end Go.Proofs.YtmahammdnmmmoaaGreatDoor
namespace Go.Proofs.YtmahammdnmmmoaaGreatDoor
open Go.RowKit
set_option linter.unusedVariables false
set_option linter.unusedSimpArgs false
section
variable {m : Nat} {l : List LookS} (hok : ∀ x ∈ l, LkG m x) (i : Nat)
include hok
theorem lk_s1 {r r' : ByteArray} (h1 : BdG m r) (h2 : NmG r') : ∀ x ∈ (l.set i ({l.getD i default with board := r} : LookS)).set i ({l.getD i default with board := r, name := r'} : LookS), LkG m x :=
 have hx := LkG.getD hok i
 LkG.setD (LkG.setD hok i (y := {l.getD i default with board := r}) ⟨h1, hx.name, hx.at_, hx.machine, hx.nozzle, hx.reel⟩) i (y := {l.getD i default with board := r, name := r'}) ⟨h1, h2, hx.at_, hx.machine, hx.nozzle, hx.reel⟩
theorem lk_s2 {r r' : Int} (h1 : AtG m r) : ∀ x ∈ (l.set i ({l.getD i default with at_ := r} : LookS)).set i ({l.getD i default with at_ := r, verdict := r'} : LookS), LkG m x :=
 have hx := LkG.getD hok i
 LkG.setD (LkG.setD hok i (y := {l.getD i default with at_ := r}) ⟨hx.board, hx.name, h1, hx.machine, hx.nozzle, hx.reel⟩) i (y := {l.getD i default with at_ := r, verdict := r'}) ⟨hx.board, hx.name, h1, hx.machine, hx.nozzle, hx.reel⟩
theorem lk_s3 {r r' r2 : ByteArray} (h1 : r.size ≤ 1000) (h2 : r'.size ≤ 1000) (h3 : r2.size ≤ 1000) : ∀ x ∈ ((l.set i ({l.getD i default with machine := r} : LookS)).set i ({l.getD i default with machine := r, nozzle := r'} : LookS)).set i ({l.getD i default with machine := r, nozzle := r', reel := r2} : LookS), LkG m x :=
 have hx := LkG.getD hok i
 LkG.setD (LkG.setD (LkG.setD hok i (y := {l.getD i default with machine := r}) ⟨hx.board, hx.name, hx.at_, h1, hx.nozzle, hx.reel⟩) i (y := {l.getD i default with machine := r, nozzle := r'}) ⟨hx.board, hx.name, hx.at_, h1, h2, hx.reel⟩) i (y := {l.getD i default with machine := r, nozzle := r', reel := r2}) ⟨hx.board, hx.name, hx.at_, h1, h2, h3⟩
end
set_option maxRecDepth 100000 in
set_option maxHeartbeats 40000000 in
theorem looks_O {p : Nat} {L : List Int} {m : Nat} (hm : m ≤ 6) :
    SpecTO Tryz.prog (TT p L) (fun b => b = p) 39 [sp p, avI (m : Int)] 200 (fun y hp' => ∃ (l : List LookS) (u : Value), (l.length ≤ 3 * m ∧ ∀ x ∈ l, LkG m x) ∧ y = .v u ∧ hp' = [.row u l.length 8 (rowL l) 66]) := by
  refine SpecTO.of_VC Tryz.func39 rfl Tryz.ntmps39 (Nle rfl) (low := (fun b => b ≤ p)) (fun w A k h => h.ok) fun w A k hk hB => ?_
  have hnew : True := trivial
  refine VC.sr ?_
  refine VO.ma rfl rfl rfl rfl ?_
  refine VO.nil ?_
  refine VC.sr ?_
  refine VO.ma rfl rfl rfl rfl ?_
  refine VO.nil ?_
  refine VC.sr ?_
  refine VO.ma rfl rfl rfl rfl ?_
  refine VO.nil ?_
  refine VC.seq ?_
  refine VC.sr ?_
  refine VO.mv rfl rfl rfl rfl ?_
  refine VO.mv rfl rfl rfl rfl ?_
  refine VO.nil ?_
  refine VC.block ?_
  refine VC.le _ (Le.nilRow 8 66) ?_
  refine VC.loopK [(0, _), (11, _)] ⟨rfl, rfl, trivial⟩ ({t : (Value × Int) × List LookS × Nat // t.2.2 ≤ m ∧ t.2.1.length ≤ 3 * t.2.2 ∧ (0 ≤ t.1.2 ∧ t.1.2 ≤ 10 * t.2.2) ∧ ∀ x ∈ t.2.1, LkG m x}) (fun (iZ : {t : (Value × Int) × List LookS × Nat // t.2.2 ≤ m ∧ t.2.1.length ≤ 3 * t.2.2 ∧ (0 ≤ t.1.2 ∧ t.1.2 ≤ 10 * t.2.2) ∧ ∀ x ∈ t.2.1, LkG m x}) => match iZ with | ⟨⟨⟨u, atv⟩, l, q⟩, hq, hl, hat, hok⟩ => [(5, .v u), (6, avI atv), (12, avI (q : Int))]) (fun (iZ : {t : (Value × Int) × List LookS × Nat // t.2.2 ≤ m ∧ t.2.1.length ≤ 3 * t.2.2 ∧ (0 ≤ t.1.2 ∧ t.1.2 ≤ 10 * t.2.2) ∧ ∀ x ∈ t.2.1, LkG m x}) => match iZ with | ⟨⟨⟨u, atv⟩, l, q⟩, hq, hl, hat, hok⟩ => [.row u l.length 8 (rowL l) 66]) (fun (iZ : {t : (Value × Int) × List LookS × Nat // t.2.2 ≤ m ∧ t.2.1.length ≤ 3 * t.2.2 ∧ (0 ≤ t.1.2 ∧ t.1.2 ≤ 10 * t.2.2) ∧ ∀ x ∈ t.2.1, LkG m x}) => match iZ with | ⟨⟨⟨u, atv⟩, l, q⟩, hq, hl, hat, hok⟩ => k + 20 * q) (fun (iZ : {t : (Value × Int) × List LookS × Nat // t.2.2 ≤ m ∧ t.2.1.length ≤ 3 * t.2.2 ∧ (0 ≤ t.1.2 ∧ t.1.2 ≤ 10 * t.2.2) ∧ ∀ x ∈ t.2.1, LkG m x}) => match iZ with | ⟨⟨⟨u, atv⟩, l, q⟩, hq, hl, hat, hok⟩ => m - q) ⟨((.slice none 0 0, 0), [], 0), Nat.zero_le _, Nat.zero_le _, ⟨Int.le_refl _, Int.le_refl _⟩, fun x h => by simp at h⟩ (Le.mk hB [0] ⟨rfl, rfl, rfl, rfl, rfl, trivial⟩ rfl rfl (show k ≤ k + 20 * 0 by omega)) ?_
  rintro ⟨⟨⟨u, atv⟩, l, q⟩, hq, hl, hat, hok⟩
  show VC _ _ _ _ ⟨[(5, .v u), (6, avI atv), (12, avI (q : Int))] ++ [(0, _), (11, _)], [.row u l.length 8 (rowL l) 66], k + 20 * q⟩
  simp only at hq hl hat hok
  refine VC.sr ?_
  refine VO.val rfl rfl (OpV.lss rfl rfl rfl) ?_
  refine VO.nil ?_
  refine VC.seq ?_
  refine VC.cond rfl (fun aH1b => ?_) (fun aH1b => ?_)
  · have aH1 := aH1b
    try simp only [qqT, qqF, qqN, qqM, qqL, qqE] at aH1
    refine VC.skip ?_
    refine VC.seq ?_
    refine VC.block ?_
    refine VC.sr ?_
    refine VO.mv rfl rfl rfl rfl ?_
    refine VO.ma rfl rfl rfl rfl ?_
    refine VO.nil ?_
    refine VC.sr ?_
    refine VO.mv rfl rfl rfl rfl ?_
    refine VO.mv rfl rfl rfl rfl ?_
    refine VO.op rfl (OpE.buildSlice (zc := #[.int .i64 0, .int .i64 0, .int .i64 0, .int .i64 0]) rfl hB rfl Tryz.underlying22 Tryz.sizeOf3 Tryz.zeroValue3 (by decide) (by decide) (by kernel_rfl) rfl rfl ?_)
    refine VO.op rfl (OpE.callT' (k + 20 * q) rfl rfl hB rfl Tryz.call21 rfl ((pick_T 0 10 (by rfl) (by decide) (by decide) (by repeat (first | exact AllI.nil | refine AllI.cons (by omega) ?_)))) (by omega) ?_)
    rintro _ ⟨r18, hr18, rfl⟩
    refine VO.val rfl rfl (OpV.add rfl rfl rfl (by unfold fits; omega)) ?_
    refine VO.ma rfl rfl rfl rfl ?_
    refine VO.nil ?_
    refine VC.sr ?_
    refine VO.op rfl (OpE.buildSlice (zc := #[.string ⟨#[]⟩, .string ⟨#[]⟩, .string ⟨#[]⟩]) rfl hB rfl Tryz.underlying95 Tryz.sizeOf9 Tryz.zeroValue9 (by decide) (by decide) (by kernel_rfl) rfl rfl ?_)
    refine VO.le _ (Le.recast (t := 20) (y := avStrs nm3) rfl (fun w Z u h => Rep.strs (xs := nm3) rfl h)) ?_
    refine VO.val rfl rfl (OpV.len_im rfl Tryz.underlying95 rfl) ?_
    refine VO.mv rfl rfl rfl rfl ?_
    refine VO.nil ?_
    refine VC.block ?_
    refine VC.loopK [(0, _), (6, _), (7, _), (11, _), (12, _), (20, _), (21, _)] ⟨rfl, rfl, rfl, rfl, rfl, rfl, rfl, trivial⟩ ({t : Value × List LookS × Nat // t.2.2 ≤ 3 ∧ t.2.1.length ≤ 3 * q + t.2.2 ∧ ∀ x ∈ t.2.1, LkG m x}) (fun (iZ : {t : Value × List LookS × Nat // t.2.2 ≤ 3 ∧ t.2.1.length ≤ 3 * q + t.2.2 ∧ ∀ x ∈ t.2.1, LkG m x}) => match iZ with | ⟨⟨u, l, r⟩, hr, hl, hok⟩ => [(5, .v u), (22, avI (r : Int))]) (fun (iZ : {t : Value × List LookS × Nat // t.2.2 ≤ 3 ∧ t.2.1.length ≤ 3 * q + t.2.2 ∧ ∀ x ∈ t.2.1, LkG m x}) => match iZ with | ⟨⟨u, l, r⟩, hr, hl, hok⟩ => [.row u l.length 8 (rowL l) 66]) (fun (iZ : {t : Value × List LookS × Nat // t.2.2 ≤ 3 ∧ t.2.1.length ≤ 3 * q + t.2.2 ∧ ∀ x ∈ t.2.1, LkG m x}) => match iZ with | ⟨⟨u, l, r⟩, hr, hl, hok⟩ => k + 20 * q + 1 + 6 * r) (fun (iZ : {t : Value × List LookS × Nat // t.2.2 ≤ 3 ∧ t.2.1.length ≤ 3 * q + t.2.2 ∧ ∀ x ∈ t.2.1, LkG m x}) => match iZ with | ⟨⟨u, l, r⟩, hr, hl, hok⟩ => 3 - r) ⟨(u, l, 0), Nat.zero_le _, by show l.length ≤ 3 * q + 0; omega, hok⟩ (Le.mk hB [0] ⟨rfl, rfl, rfl, rfl, rfl, rfl, rfl, rfl, rfl, trivial⟩ rfl rfl (show k + 20 * q + 1 ≤ k + 20 * q + 1 + 6 * 0 by omega)) ?_
    rintro ⟨⟨u, l, r⟩, hr, hl, hok⟩
    show VC _ _ _ _ ⟨[(5, .v u), (22, avI (r : Int))] ++ [(0, _), (6, _), (7, _), (11, _), (12, _), (20, _), (21, _)], [.row u l.length 8 (rowL l) 66], k + 20 * q + 1 + 6 * r⟩
    simp only at hr hl hok
    have hn3 : nm3.length = 3 := rfl
    refine VC.sr ?_
    refine VO.val rfl rfl (OpV.lss rfl rfl rfl) ?_
    refine VO.nil ?_
    refine VC.seq ?_
    refine VC.cond rfl (fun aH2b => ?_) (fun aH2b => ?_)
    · have aH2 := aH2b
      try simp only [qqT, qqF, qqN, qqM, qqL, qqE] at aH2
      refine VC.skip ?_
      refine VC.seq ?_
      refine VC.block ?_
      refine VC.sr ?_
      refine VO.val rfl rfl (OpV.indexAddr_1 rfl Tryz.underlying95 Tryz.sizeOf9 rfl rfl rfl (by show r < 3; omega)) ?_
      refine VO.val rfl rfl (OpV.load_at rfl hB OutW.no Tryz.isAgg9 rfl rfl) ?_
      refine VO.ma rfl rfl rfl rfl ?_
      refine VO.nil ?_
      refine VC.seq ?_
      refine VC.sr ?_
      refine VO.mv rfl rfl rfl rfl ?_
      refine VO.op rfl (OpE.callT' (k + 20 * q + 1 + 6 * r) rfl rfl hB rfl Tryz.call17 rfl ((flip_T (by omega))) (by omega) ?_)
      rintro _ ⟨r27, rfl⟩
      refine VO.nil ?_
      refine VC.cond rfl (fun aH3b => ?_) (fun aH3b => ?_)
      · have aH3 := aH3b
        try simp only [qqT, qqF, qqN, qqM, qqL, qqE] at aH3
        refine VC.exit ?_
        refine VC.region ?_
        refine VO.val rfl rfl (OpV.add rfl rfl rfl (by unfold fits; omega)) ?_
        refine VO.mv rfl rfl rfl rfl ?_
        refine VO.nil ?_
        exact Exists.intro (⟨(u, l, r + 1), by show r + 1 ≤ 3; omega, by show l.length ≤ 3 * q + (r + 1); omega, hok⟩) (And.intro (Le.mk hB [0] ⟨rfl, rfl, rfl, rfl, rfl, rfl, rfl, rfl, rfl, trivial⟩ rfl (by dsimp only; first | rfl | (rw [List.length_append]; rfl)) (show k + 20 * q + 1 + 6 * r + 1 ≤ k + 20 * q + 1 + 6 * (r + 1) by omega)) (by first | omega | (show _ < _; omega) | (simp only []; omega)))
      · have aH3 := aH3b
        try simp only [qqT, qqF, qqN, qqM, qqL, qqE] at aH3
        refine VC.skip ?_
        refine VC.region ?_
        refine VO.mv rfl rfl rfl rfl ?_
        refine VO.mv rfl rfl rfl rfl ?_
        refine VO.val rfl rfl (OpV.add rfl rfl rfl (by unfold fits; omega)) ?_
        refine VO.val rfl rfl (OpV.conv rfl Tryz.underlying3 Tryz.underlying21 rfl (IntWalk.i32_in _ (by omega))) ?_
        refine VO.val rfl rfl (OpV.convStr rfl Tryz.underlying21 Tryz.underlying9 rfl) ?_
        refine VO.val rfl rfl (OpV.sadd rfl rfl rfl (by have := encL_small (49 + (q : Int)); have h1 : (⟨#[98]⟩ : ByteArray).size = 1 := rfl; omega)) ?_
        refine VO.mv rfl rfl rfl rfl ?_
        refine VO.mv rfl rfl rfl rfl ?_
        refine VO.mv rfl rfl rfl rfl ?_
        refine VO.op rfl (OpE.buildSlice (zc := #[.int .i64 0, .int .i64 0, .int .i64 0, .int .i64 0, .int .i64 0, .int .i64 0, .int .i64 0]) rfl hB rfl Tryz.underlying22 Tryz.sizeOf3 Tryz.zeroValue3 (by decide) (by decide) (by kernel_rfl) rfl rfl ?_)
        refine VO.op rfl (OpE.callT' (k + 20 * q + 1 + 6 * r + 1) rfl rfl hB rfl Tryz.call21 rfl (pick_X (by rfl) (by decide) (by decide) (by repeat (first | exact AllX.nil | refine AllX.cons ?_))) (by omega) ?_)
        rintro _ ⟨r38, rfl⟩
        refine VO.mv rfl rfl rfl rfl ?_
        refine VO.op rfl (OpE.callT' (k + 20 * q + 1 + 6 * r + 1 + 1) rfl rfl hB rfl Tryz.call17 rfl ((flip_T (by omega))) (by omega) ?_)
        rintro _ ⟨r40, rfl⟩
        refine VO.mv rfl rfl rfl rfl ?_
        refine VO.op rfl (OpE.buildSlice (zc := #[.string ⟨#[]⟩, .string ⟨#[]⟩]) rfl hB rfl Tryz.underlying95 Tryz.sizeOf9 Tryz.zeroValue9 (by decide) (by decide) (by kernel_rfl) rfl rfl ?_)
        refine VO.op rfl (OpE.callT' (k + 20 * q + 1 + 6 * r + 1 + 1 + 1) rfl rfl hB rfl Tryz.call32 rfl ((some_T 1000 (by rfl) (by decide) (by decide) (by repeat (first | exact AllS.nil | refine AllS.cons (by first | decide | omega) ?_)))) (by omega) ?_)
        rintro _ ⟨r43, hr43, rfl⟩
        refine VO.mv rfl rfl rfl rfl ?_
        refine VO.op rfl (OpE.buildSlice (zc := #[.string ⟨#[]⟩, .string ⟨#[]⟩, .string ⟨#[]⟩]) rfl hB rfl Tryz.underlying95 Tryz.sizeOf9 Tryz.zeroValue9 (by decide) (by decide) (by kernel_rfl) rfl rfl ?_)
        refine VO.op rfl (OpE.callT' (k + 20 * q + 1 + 6 * r + 1 + 1 + 1 + 1) rfl rfl hB rfl Tryz.call32 rfl ((some_T 1000 (by rfl) (by decide) (by decide) (by repeat (first | exact AllS.nil | refine AllS.cons (by first | decide | omega) ?_)))) (by omega) ?_)
        rintro _ ⟨r46, hr46, rfl⟩
        refine VO.mv rfl rfl rfl rfl ?_
        refine VO.op rfl (OpE.buildSlice (zc := #[.string ⟨#[]⟩, .string ⟨#[]⟩, .string ⟨#[]⟩]) rfl hB rfl Tryz.underlying95 Tryz.sizeOf9 Tryz.zeroValue9 (by decide) (by decide) (by kernel_rfl) rfl rfl ?_)
        refine VO.op rfl (OpE.callT' (k + 20 * q + 1 + 6 * r + 1 + 1 + 1 + 1 + 1) rfl rfl hB rfl Tryz.call32 rfl ((some_T 1000 (by rfl) (by decide) (by decide) (by repeat (first | exact AllS.nil | refine AllS.cons (by first | decide | omega) ?_)))) (by omega) ?_)
        rintro _ ⟨r49, hr49, rfl⟩
        refine VO.val rfl rfl (OpV.build (pls := #[(0, 1), (1, 1), (2, 1), (3, 1), (4, 1), (5, 1), (6, 1), (7, 1)]) rfl Tryz.zeroValue66 Tryz.underlying66 (fun w => by kernel_rfl) rfl rfl) ?_
        refine VO.op rfl (OpE.buildSlice (zc := #[.string ⟨#[]⟩, .string ⟨#[]⟩, .int .i64 0, .int .i64 0, .bool false, .string ⟨#[]⟩, .string ⟨#[]⟩, .string ⟨#[]⟩]) rfl hB rfl Tryz.underlying61 Tryz.sizeOf66 Tryz.zeroValue66 (by decide) (by decide) (by kernel_rfl) rfl rfl ?_)
        refine VO.op rfl (OpE.append1 (i := 0) rfl hB rfl Tryz.underlying61 (infoOf Tryz.t66 8 (by kernel_rfl) rfl rfl) rfl (by decide) (by decide) rfl rfl rfl rfl (rowL_snoc l (⟨bdK q, nm3.getD r ByteArray.empty, atv + r18, r38, r40, r43, r46, r49⟩ : LookS)) (by omega) (fun _ _ => trivial) ?_)
        intro u52
        refine VO.ma rfl rfl rfl rfl ?_
        refine VO.nil ?_
        refine VC.region ?_
        refine VO.val rfl rfl (OpV.add rfl rfl rfl (by unfold fits; omega)) ?_
        refine VO.mv rfl rfl rfl rfl ?_
        refine VO.nil ?_
        exact Exists.intro (⟨(u52, l ++ [⟨bdK q, nm3.getD r ByteArray.empty, atv + r18, r38, r40, r43, r46, r49⟩], r + 1), by show r + 1 ≤ 3; omega, by show (l ++ [_]).length ≤ 3 * q + (r + 1); simp; omega, LkG.snoc hok ⟨BdG.k (by omega), NmG.k r, ⟨⟨by show -1 ≤ atv + r18; omega, by show atv + r18 ≤ 345686400000; omega⟩, fun _ _ => by show atv + r18 ≤ 10 * (m : Int); omega⟩, by unfold SmG; exact hr43, by unfold SmG; exact hr46, by unfold SmG; exact hr49⟩⟩) (And.intro (Le.mk hB [0] ⟨rfl, rfl, rfl, rfl, rfl, rfl, rfl, rfl, rfl, trivial⟩ rfl (by dsimp only; first | rfl | (rw [List.length_append]; rfl)) (show k + 20 * q + 1 + 6 * r + 1 + 1 + 1 + 1 + 1 + 1 ≤ k + 20 * q + 1 + 6 * (r + 1) by omega)) (by first | omega | (show _ < _; omega) | (simp only []; omega)))
    · have aH2 := aH2b
      try simp only [qqT, qqF, qqN, qqM, qqL, qqE] at aH2
      refine VC.exit ?_
      refine VC.region ?_
      refine VO.val rfl rfl (OpV.add rfl rfl rfl (by unfold fits; omega)) ?_
      refine VO.mv rfl rfl rfl rfl ?_
      refine VO.nil ?_
      exact Exists.intro (⟨((u, atv + r18), l, q + 1), by show q + 1 ≤ m; omega, by show l.length ≤ 3 * (q + 1); omega, ⟨by show 0 ≤ atv + r18; omega, by show atv + r18 ≤ 10 * ((q + 1 : Nat) : Int); omega⟩, hok⟩) (And.intro (Le.mk hB [0] ⟨rfl, rfl, rfl, rfl, rfl, trivial⟩ rfl rfl (show k + 20 * q + 1 + 6 * r ≤ k + 20 * (q + 1) by omega)) (by first | omega | (show _ < _; omega) | (simp only []; omega)))
  · have aH1 := aH1b
    try simp only [qqT, qqF, qqN, qqM, qqL, qqE] at aH1
    refine VC.exit ?_
    refine VC.seq ?_
    refine VC.sr ?_
    refine VO.mv rfl rfl rfl rfl ?_
    refine VO.val rfl rfl (OpV.len_row (i := 0) rfl Tryz.underlying61 rfl rfl) ?_
    refine VO.val rfl rfl (OpV.gtr rfl rfl rfl) ?_
    refine VO.mv rfl rfl rfl rfl ?_
    refine VO.opG rfl rfl rfl rfl (fun aK4b => ?_) (fun aK4b => ?_)
    · replace aK4b : _ = true := aK4b
      have aK4 := aK4b
      try simp only [qqT, qqF, qqN, qqM, qqL, qqE] at aK4
      refine OpE.val (W := NoB) (OpV.move (.inl rfl) rfl) rfl ?_
      refine VO.opY rfl rfl rfl rfl aK4b ?_
      refine OpE.callT' (k + 20 * q) rfl rfl hB rfl Tryz.call17 rfl ((flip_T (by omega))) (by omega) ?_
      rintro _ ⟨r60, rfl⟩
      refine VO.val rfl rfl (OpV.pickT rfl rfl rfl rfl aK4b) ?_
      refine VO.nil ?_
      refine VC.cond rfl (fun aH5b => ?_) (fun aH5b => ?_)
      · have aH5 := aH5b
        try simp only [qqT, qqF, qqN, qqM, qqL, qqE] at aH5
        refine VC.seq ?_
        refine VC.asBox (i := 0) rfl (by omega) (fun gr cap hu hcap hmx => ?_)
        subst hu
        refine VC.region ?_
        refine VO.mv rfl rfl rfl rfl ?_
        refine VO.mv rfl rfl rfl rfl ?_
        refine VO.mv rfl rfl rfl rfl ?_
        refine VO.val rfl rfl (OpV.len_v rfl Tryz.underlying61 rfl) ?_
        refine VO.op rfl (OpE.callT' (k + 20 * q + 1) rfl rfl hB rfl Tryz.call42 rfl ((next_T (by omega))) (by omega) ?_)
        rintro _ ⟨r66, hr66, rfl⟩
        obtain ⟨i, rfl⟩ : ∃ i : Nat, r66 = i := ⟨r66.toNat, by omega⟩
        refine VO.val rfl rfl (OpV.indexAddr_q rfl Tryz.underlying61 Tryz.sizeOf66 rfl rfl rfl (by omega)) ?_
        refine VO.ma rfl rfl rfl rfl ?_
        refine VO.nil ?_
        refine VC.seq ?_
        have hm0 : 0 < m := by omega
        refine VC.region ?_
        refine VO.mv rfl rfl rfl rfl ?_
        refine VO.op rfl (OpE.callT' (k + 20 * q + 1 + 1) rfl rfl hB rfl Tryz.call42 rfl ((next_T (by omega))) (by omega) ?_)
        rintro _ ⟨r69, hr69, rfl⟩
        refine VO.nil ?_
        refine VC.block ?_
        refine VC.sr ?_
        refine VO.val rfl rfl (OpV.eql rfl rfl rfl) ?_
        refine VO.ma rfl rfl rfl rfl ?_
        refine VO.nil ?_
        refine VC.cond rfl (fun aH6b => ?_) (fun aH6b => ?_)
        · have aH6 := aH6b
          try simp only [qqT, qqF, qqN, qqM, qqL, qqE] at aH6
          refine VC.draw (fun j b => j ∈ [18, 21] ∧ b = gr) hB (by kernel_rfl) ?_
          refine VA.take (i := 0) rfl (by decide +kernel) (by decide +kernel) (by decide +kernel) rfl rfl (OpV.move (.inl rfl) rfl) ?_
          refine VA.take (i := 1) rfl (by decide +kernel) (by decide +kernel) (by decide +kernel) rfl rfl (OpV.move (.inl rfl) rfl) ?_
          refine VA.take (i := 2) rfl (by decide +kernel) (by decide +kernel) (by decide +kernel) rfl rfl (OpV.move (.inl rfl) rfl) ?_
          refine VA.take (i := 3) rfl (by decide +kernel) (by decide +kernel) (by decide +kernel) rfl rfl (OpV.move (.inl rfl) rfl) ?_
          refine VA.take (i := 4) rfl (by decide +kernel) (by decide +kernel) (by decide +kernel) rfl rfl (OpV.nilCheck rfl rfl) ?_
          refine VA.take (i := 5) rfl (by decide +kernel) (by decide +kernel) (by decide +kernel) rfl rfl (OpV.fieldAddrO 0 rfl Tryz.underlying66 rfl rfl Tryz.sizeOf9 rfl) ?_
          refine VA.take (i := 6) rfl (by decide +kernel) (by decide +kernel) (by decide +kernel) rfl rfl (OpV.load_own (i := 0) rfl hB Tryz.isAgg9 rfl rfl (rowL_at rfl (by omega) (by decide)) (Wi.notD (by decide +kernel))) ?_
          refine VA.take (i := 9) rfl (by decide +kernel) (by decide +kernel) (by decide +kernel) rfl rfl (OpV.move (.inl rfl) rfl) ?_
          refine VA.take (i := 10) rfl (by decide +kernel) (by decide +kernel) (by decide +kernel) rfl rfl (OpV.move (.inl rfl) rfl) ?_
          refine VA.take (i := 11) rfl (by decide +kernel) (by decide +kernel) (by decide +kernel) rfl rfl (OpV.nilCheck rfl rfl) ?_
          refine VA.take (i := 12) rfl (by decide +kernel) (by decide +kernel) (by decide +kernel) rfl rfl (OpV.fieldAddrO 1 rfl Tryz.underlying66 rfl rfl Tryz.sizeOf9 rfl) ?_
          refine VA.take (i := 13) rfl (by decide +kernel) (by decide +kernel) (by decide +kernel) rfl rfl (OpV.load_own (i := 0) rfl hB Tryz.isAgg9 rfl rfl (rowL_at rfl (by omega) (by decide)) (Wi.notD (by decide +kernel))) ?_
          refine VA.bind (fun F hF => ?_)
          have hS0 : ∀ (r110 : ByteArray) (hr110 : BdG m r110) (r117 : ByteArray) (hr117 : NmG r117), F 4 (lstB 22 [0, 1, 2, 3, 4, 5, 6, 7, 8, 9, 10, 11, 12, 13, 14, 15, 16, 17]) ⟨[(0, sp p), (104, sp p), (111, sp p), (102, (pL gr (0 + i * 8))), (103, (pL gr (0 + i * 8))), (108, avS (xL l i).board), (115, avS (xL l i).name), (5, .v (.slice (some ⟨gr, 0, none⟩) l.length cap)), (109, (iL 3 [avS (xL l i).board, avS ⟨#[]⟩, avS ⟨#[98, 49]⟩])), (110, avS r110), (116, (iL 3 [avS (xL l i).name, avS ⟨#[99, 49]⟩, avS ⟨#[65]⟩])), (117, avS r117), (119, (pL gr (0 + i * 8 + 0)))], [.box gr ⟨rowL l, 66, cap * 8⟩], k + 20 * q + 1 + 1 + 1 + 1 + 1⟩ := by
            intro r110 hr110 r117 hr117
            rw [hF]
            refine VA.all (rs := [18]) (by decide +kernel) (by decide) ?_
            refine ⟨⟨_, rfl, .inl rfl, ?_⟩, trivial⟩
            refine OpE.store1 (i := 0) rfl hB rfl Tryz.sizeOf9 rfl rfl rfl rfl rfl rfl (rowL_in rfl (by omega) (by decide)) (rowL_set (x := ({l.getD i default with board := r110} : LookS)) rfl (by omega) (by decide) rfl (fun i hi hn => lk_upd (by simp) (by simp) (by simp) (by simp) (by simp) (by simp) (by simp) (by simp) i hi hn)) (by first | exact ⟨rfl, rfl⟩ | exact .inl ⟨rfl, rfl⟩ | exact .inr ⟨rfl, rfl⟩ | exact ⟨rfl, trivial⟩ | exact .inl ⟨rfl, trivial⟩ | exact .inr ⟨rfl, trivial⟩ | exact ⟨by decide, rfl⟩) ?_
            refine VA.take (i := 19) rfl (by decide +kernel) (by decide +kernel) (by decide +kernel) rfl rfl (OpV.nilCheck rfl rfl) ?_
            refine VA.take (i := 20) rfl (by decide +kernel) (by decide +kernel) (by decide +kernel) rfl rfl (OpV.fieldAddrO 1 rfl Tryz.underlying66 rfl rfl Tryz.sizeOf9 rfl) ?_
            refine VA.all (rs := [21]) (by decide +kernel) (by decide) ?_
            refine ⟨⟨_, rfl, .inl rfl, ?_⟩, trivial⟩
            refine OpE.store1 (i := 0) rfl hB rfl Tryz.sizeOf9 rfl rfl rfl rfl rfl rfl (rowL_in rfl (by rw [List.length_set]; omega) (by decide)) (rowL_set (x := ({l.getD i default with board := r110, name := r117} : LookS)) rfl (by rw [List.length_set]; omega) (by decide) rfl (fun i hi hn => by rw [getSet_lk (by omega)]; exact lk_upd (by simp) (by simp) (by simp) (by simp) (by simp) (by simp) (by simp) (by simp) i hi hn)) (by first | exact ⟨rfl, rfl⟩ | exact .inl ⟨rfl, rfl⟩ | exact .inr ⟨rfl, rfl⟩ | exact ⟨rfl, trivial⟩ | exact .inl ⟨rfl, trivial⟩ | exact .inr ⟨rfl, trivial⟩ | exact ⟨by decide, rfl⟩) ?_
            refine VA.done (by decide +kernel) ?_
            refine VC.sr ?_
            refine VO.mv rfl rfl rfl rfl ?_
            refine VO.ma rfl rfl rfl rfl ?_
            refine VO.nil ?_
            refine VC.le _ (Le.boxRow (i := 0) (n := l.length) (sz := 8) rfl (by simp only [rowL_len, List.length_set]; rfl) hcap hmx) ?_
            refine VC.ret ?_
            exact Exists.intro _ (And.intro (RetV.one Tryz.results39 (ResV.tmp rfl)) (And.intro (by first | exact ⟨l, _, ⟨by omega, hok⟩, rfl, rfl⟩ | exact ⟨_, _, ⟨by simp only [List.length_set]; omega, lk_s1 hok i hr110 hr117⟩, rfl, by simp only [List.length_set]; rfl⟩ | exact ⟨_, _, ⟨by simp only [List.length_set]; omega, lk_s2 hok i hr132⟩, rfl, by simp only [List.length_set]; rfl⟩ | exact ⟨_, _, ⟨by simp only [List.length_set]; omega, lk_s3 hok i hr79 hr86 hr93⟩, rfl, by simp only [List.length_set]; rfl⟩) ((show k + 20 * q + 1 + 1 + 1 + 1 + 1 ≤ k + 200 by omega))))
          have hS1 : ∀ (r110 : ByteArray) (hr110 : BdG m r110), F 7 (lstB 22 [0, 1, 2, 3, 4, 5, 6, 7, 8, 9, 10, 11, 12, 13, 14]) ⟨[(0, sp p), (104, sp p), (111, sp p), (102, (pL gr (0 + i * 8))), (103, (pL gr (0 + i * 8))), (108, avS (xL l i).board), (115, avS (xL l i).name), (5, .v (.slice (some ⟨gr, 0, none⟩) l.length cap)), (109, (iL 3 [avS (xL l i).board, avS ⟨#[]⟩, avS ⟨#[98, 49]⟩])), (110, avS r110), (116, (iL 3 [avS (xL l i).name, avS ⟨#[99, 49]⟩, avS ⟨#[65]⟩]))], [.box gr ⟨rowL l, 66, cap * 8⟩], k + 20 * q + 1 + 1 + 1 + 1⟩ := by
            intro r110 hr110
            rw [hF]
            refine VA.all (rs := [15]) (by decide +kernel) (by decide) ?_
            refine ⟨⟨_, rfl, .inl rfl, ?_⟩, trivial⟩
            refine OpE.callT' (k + 20 * q + 1 + 1 + 1 + 1) rfl rfl hB rfl Tryz.call32 rfl (some_G NmG (by rfl) (by decide) (by decide) (AllG.cons (LkG.getD hok i).name (AllG.cons NmG.c1 (AllG.cons NmG.none AllG.nil)))) (by omega) ?_
            rintro _ ⟨r117, hr117, rfl⟩
            refine VA.take (i := 16) rfl (by decide +kernel) (by decide +kernel) (by decide +kernel) rfl rfl (OpV.nilCheck rfl rfl) ?_
            refine VA.take (i := 17) rfl (by decide +kernel) (by decide +kernel) (by decide +kernel) rfl rfl (OpV.fieldAddrO 0 rfl Tryz.underlying66 rfl rfl Tryz.sizeOf9 rfl) ?_
            have hh := hS0 r110 hr110 r117 hr117
            rw [hF] at hh
            exact VA.to hh (by decide +kernel) (Le.mk hB [0] ⟨rfl, rfl, rfl, rfl, rfl, rfl, rfl, rfl, rfl, rfl, rfl, rfl, rfl, trivial⟩ rfl rfl (Nat.le_refl _))
          have hS2 : ∀ (r110 : ByteArray) (hr110 : BdG m r110), F 8 (lstB 22 [0, 1, 2, 3, 4, 5, 6, 7, 8, 9, 10, 11, 12, 13]) ⟨[(0, sp p), (104, sp p), (111, sp p), (102, (pL gr (0 + i * 8))), (103, (pL gr (0 + i * 8))), (108, avS (xL l i).board), (115, avS (xL l i).name), (5, .v (.slice (some ⟨gr, 0, none⟩) l.length cap)), (109, (iL 3 [avS (xL l i).board, avS ⟨#[]⟩, avS ⟨#[98, 49]⟩])), (110, avS r110)], [.box gr ⟨rowL l, 66, cap * 8⟩], k + 20 * q + 1 + 1 + 1 + 1⟩ := by
            intro r110 hr110
            rw [hF]
            refine VA.all (rs := [14]) (by decide +kernel) (by decide) ?_
            refine ⟨⟨_, rfl, .inl rfl, ?_⟩, trivial⟩
            refine OpE.buildSlice (zc := #[.string ⟨#[]⟩, .string ⟨#[]⟩, .string ⟨#[]⟩]) rfl hB rfl Tryz.underlying95 Tryz.sizeOf9 Tryz.zeroValue9 (by decide) (by decide) (by kernel_rfl) rfl rfl ?_
            have hh := hS1 r110 hr110
            rw [hF] at hh
            exact VA.to hh (by decide +kernel) (Le.mk hB [0] ⟨rfl, rfl, rfl, rfl, rfl, rfl, rfl, rfl, rfl, rfl, rfl, trivial⟩ rfl rfl (Nat.le_refl _))
          have hS3 : F 8 (lstB 22 [0, 1, 2, 3, 4, 5, 6, 7, 9, 10, 11, 12, 13, 14]) ⟨[(0, sp p), (104, sp p), (111, sp p), (102, (pL gr (0 + i * 8))), (103, (pL gr (0 + i * 8))), (108, avS (xL l i).board), (115, avS (xL l i).name), (5, .v (.slice (some ⟨gr, 0, none⟩) l.length cap)), (109, (iL 3 [avS (xL l i).board, avS ⟨#[]⟩, avS ⟨#[98, 49]⟩])), (116, (iL 3 [avS (xL l i).name, avS ⟨#[99, 49]⟩, avS ⟨#[65]⟩]))], [.box gr ⟨rowL l, 66, cap * 8⟩], k + 20 * q + 1 + 1 + 1⟩ := by
            rw [hF]
            refine VA.all (rs := [8]) (by decide +kernel) (by decide) ?_
            refine ⟨⟨_, rfl, .inl rfl, ?_⟩, trivial⟩
            refine OpE.callT' (k + 20 * q + 1 + 1 + 1) rfl rfl hB rfl Tryz.call32 rfl (some_G (BdG m) (by rfl) (by decide) (by decide) (AllG.cons (LkG.getD hok i).board (AllG.cons (BdG.none m) (AllG.cons (BdG.b1 hm0) AllG.nil)))) (by omega) ?_
            rintro _ ⟨r110, hr110, rfl⟩
            have hh := hS1 r110 hr110
            rw [hF] at hh
            exact VA.to hh (by decide +kernel) (Le.mk hB [0] ⟨rfl, rfl, rfl, rfl, rfl, rfl, rfl, rfl, rfl, rfl, rfl, trivial⟩ rfl rfl (Nat.le_refl _))
          have hS4 : F 9 (lstB 22 [0, 1, 2, 3, 4, 5, 6, 7, 9, 10, 11, 12, 13]) ⟨[(0, sp p), (104, sp p), (111, sp p), (102, (pL gr (0 + i * 8))), (103, (pL gr (0 + i * 8))), (108, avS (xL l i).board), (115, avS (xL l i).name), (5, .v (.slice (some ⟨gr, 0, none⟩) l.length cap)), (109, (iL 3 [avS (xL l i).board, avS ⟨#[]⟩, avS ⟨#[98, 49]⟩]))], [.box gr ⟨rowL l, 66, cap * 8⟩], k + 20 * q + 1 + 1 + 1⟩ := by
            rw [hF]
            refine VA.all (rs := [8, 14]) (by decide +kernel) (by decide) ?_
            refine ⟨⟨_, rfl, .inl rfl, ?_⟩, ⟨_, rfl, .inl rfl, ?_⟩, trivial⟩
            ·
              refine OpE.callT' (k + 20 * q + 1 + 1 + 1) rfl rfl hB rfl Tryz.call32 rfl (some_G (BdG m) (by rfl) (by decide) (by decide) (AllG.cons (LkG.getD hok i).board (AllG.cons (BdG.none m) (AllG.cons (BdG.b1 hm0) AllG.nil)))) (by omega) ?_
              rintro _ ⟨r110, hr110, rfl⟩
              have hh := hS2 r110 hr110
              rw [hF] at hh
              exact VA.to hh (by decide +kernel) (Le.mk hB [0] ⟨rfl, rfl, rfl, rfl, rfl, rfl, rfl, rfl, rfl, rfl, trivial⟩ rfl rfl (Nat.le_refl _))
            ·
              refine OpE.buildSlice (zc := #[.string ⟨#[]⟩, .string ⟨#[]⟩, .string ⟨#[]⟩]) rfl hB rfl Tryz.underlying95 Tryz.sizeOf9 Tryz.zeroValue9 (by decide) (by decide) (by kernel_rfl) rfl rfl ?_
              have hh := hS3 
              rw [hF] at hh
              exact VA.to hh (by decide +kernel) (Le.mk hB [0] ⟨rfl, rfl, rfl, rfl, rfl, rfl, rfl, rfl, rfl, rfl, trivial⟩ rfl rfl (Nat.le_refl _))
          have hS5 : F 9 (lstB 22 [0, 1, 2, 3, 4, 5, 6, 9, 10, 11, 12, 13, 14]) ⟨[(0, sp p), (104, sp p), (111, sp p), (102, (pL gr (0 + i * 8))), (103, (pL gr (0 + i * 8))), (108, avS (xL l i).board), (115, avS (xL l i).name), (5, .v (.slice (some ⟨gr, 0, none⟩) l.length cap)), (116, (iL 3 [avS (xL l i).name, avS ⟨#[99, 49]⟩, avS ⟨#[65]⟩]))], [.box gr ⟨rowL l, 66, cap * 8⟩], k + 20 * q + 1 + 1 + 1⟩ := by
            rw [hF]
            refine VA.all (rs := [7]) (by decide +kernel) (by decide) ?_
            refine ⟨⟨_, rfl, .inl rfl, ?_⟩, trivial⟩
            refine OpE.buildSlice (zc := #[.string ⟨#[]⟩, .string ⟨#[]⟩, .string ⟨#[]⟩]) rfl hB rfl Tryz.underlying95 Tryz.sizeOf9 Tryz.zeroValue9 (by decide) (by decide) (by kernel_rfl) rfl rfl ?_
            have hh := hS3 
            rw [hF] at hh
            exact VA.to hh (by decide +kernel) (Le.mk hB [0] ⟨rfl, rfl, rfl, rfl, rfl, rfl, rfl, rfl, rfl, rfl, trivial⟩ rfl rfl (Nat.le_refl _))
          have hS6 : F 10 (lstB 22 [0, 1, 2, 3, 4, 5, 6, 9, 10, 11, 12, 13]) ⟨[(0, sp p), (104, sp p), (111, sp p), (102, (pL gr (0 + i * 8))), (103, (pL gr (0 + i * 8))), (108, avS (xL l i).board), (115, avS (xL l i).name), (5, .v (.slice (some ⟨gr, 0, none⟩) l.length cap))], [.box gr ⟨rowL l, 66, cap * 8⟩], k + 20 * q + 1 + 1 + 1⟩ := by
            rw [hF]
            refine VA.all (rs := [7, 14]) (by decide +kernel) (by decide) ?_
            refine ⟨⟨_, rfl, .inl rfl, ?_⟩, ⟨_, rfl, .inl rfl, ?_⟩, trivial⟩
            ·
              refine OpE.buildSlice (zc := #[.string ⟨#[]⟩, .string ⟨#[]⟩, .string ⟨#[]⟩]) rfl hB rfl Tryz.underlying95 Tryz.sizeOf9 Tryz.zeroValue9 (by decide) (by decide) (by kernel_rfl) rfl rfl ?_
              have hh := hS4 
              rw [hF] at hh
              exact VA.to hh (by decide +kernel) (Le.mk hB [0] ⟨rfl, rfl, rfl, rfl, rfl, rfl, rfl, rfl, rfl, trivial⟩ rfl rfl (Nat.le_refl _))
            ·
              refine OpE.buildSlice (zc := #[.string ⟨#[]⟩, .string ⟨#[]⟩, .string ⟨#[]⟩]) rfl hB rfl Tryz.underlying95 Tryz.sizeOf9 Tryz.zeroValue9 (by decide) (by decide) (by kernel_rfl) rfl rfl ?_
              have hh := hS5 
              rw [hF] at hh
              exact VA.to hh (by decide +kernel) (Le.mk hB [0] ⟨rfl, rfl, rfl, rfl, rfl, rfl, rfl, rfl, rfl, trivial⟩ rfl rfl (Nat.le_refl _))
          rw [hF]
          have hh := hS6 
          rw [hF] at hh
          exact VA.to hh (by decide +kernel) (Le.mk hB [0] ⟨rfl, rfl, rfl, rfl, rfl, rfl, rfl, rfl, trivial⟩ rfl rfl (Nat.le_refl _))
        · have aH6 := aH6b
          try simp only [qqT, qqF, qqN, qqM, qqL, qqE] at aH6
          refine VC.sr ?_
          refine VO.val rfl rfl (OpV.eql rfl rfl rfl) ?_
          refine VO.ma rfl rfl rfl rfl ?_
          refine VO.nil ?_
          refine VC.cond rfl (fun aH7b => ?_) (fun aH7b => ?_)
          · have aH7 := aH7b
            try simp only [qqT, qqF, qqN, qqM, qqL, qqE] at aH7
            refine VC.region ?_
            refine VO.mv rfl rfl rfl rfl ?_
            refine VO.mv rfl rfl rfl rfl ?_
            refine VO.mv rfl rfl rfl rfl ?_
            refine VO.mv rfl rfl rfl rfl ?_
            refine VO.val rfl rfl (OpV.nilCheck rfl rfl) ?_
            refine VO.val rfl rfl (OpV.fieldAddrO 2 rfl Tryz.underlying66 rfl rfl Tryz.sizeOf3 rfl) ?_
            refine VO.val rfl rfl (OpV.load_own (i := 0) rfl hB Tryz.isAgg3 rfl rfl (rowL_at rfl (by omega) (by decide)) (fun h => h)) ?_
            refine VO.op rfl (OpE.buildSlice (zc := #[.int .i64 0, .int .i64 0, .int .i64 0]) rfl hB rfl Tryz.underlying22 Tryz.sizeOf3 Tryz.zeroValue3 (by decide) (by decide) (by kernel_rfl) rfl rfl ?_)
            refine VO.op rfl (OpE.callT' (k + 20 * q + 1 + 1 + 1) rfl rfl hB rfl Tryz.call21 rfl (pick_J (AtG m) (by rfl) (by decide) (by decide) (AllJ.cons (LkG.getD hok i).at_ (AllJ.cons AtG.neg (AllJ.cons AtG.end_ AllJ.nil)))) (by omega) ?_)
            rintro _ ⟨r132, hr132, rfl⟩
            refine VO.mv rfl rfl rfl rfl ?_
            refine VO.op rfl (OpE.callT' (k + 20 * q + 1 + 1 + 1 + 1) rfl rfl hB rfl Tryz.call142 rfl (odd_L) (by omega) ?_)
            rintro _ ⟨r134, rfl⟩
            refine VO.val rfl rfl (OpV.nilCheck rfl rfl) ?_
            refine VO.val rfl rfl (OpV.fieldAddrO 2 rfl Tryz.underlying66 rfl rfl Tryz.sizeOf3 rfl) ?_
            refine VO.op rfl (OpE.store1 (i := 0) rfl hB rfl Tryz.sizeOf3 rfl rfl rfl rfl rfl rfl (rowL_in rfl (by omega) (by decide)) (rowL_set (x := ({l.getD i default with at_ := r132} : LookS)) rfl (by omega) (by decide) rfl (fun i hi hn => lk_upd (by simp) (by simp) (by simp) (by simp) (by simp) (by simp) (by simp) (by simp) i hi hn)) trivial ?_)
            refine VO.val rfl rfl (OpV.nilCheck rfl rfl) ?_
            refine VO.val rfl rfl (OpV.fieldAddrO 3 rfl Tryz.underlying66 rfl rfl Tryz.sizeOf3 rfl) ?_
            refine VO.op rfl (OpE.store1 (i := 0) rfl hB rfl Tryz.sizeOf3 rfl rfl rfl rfl rfl rfl (rowL_in rfl (by rw [List.length_set]; omega) (by decide)) (rowL_set (x := ({l.getD i default with at_ := r132, verdict := r134} : LookS)) rfl (by rw [List.length_set]; omega) (by decide) rfl (fun i hi hn => by rw [getSet_lk (by omega)]; exact lk_upd (by simp) (by simp) (by simp) (by simp) (by simp) (by simp) (by simp) (by simp) i hi hn)) trivial ?_)
            refine VO.nil ?_
            refine VC.sr ?_
            refine VO.mv rfl rfl rfl rfl ?_
            refine VO.ma rfl rfl rfl rfl ?_
            refine VO.nil ?_
            refine VC.le _ (Le.boxRow (i := 0) (n := l.length) (sz := 8) rfl (by simp only [rowL_len, List.length_set]; rfl) hcap hmx) ?_
            refine VC.ret ?_
            exact Exists.intro _ (And.intro (RetV.one Tryz.results39 (ResV.tmp rfl)) (And.intro (by first | exact ⟨l, _, ⟨by omega, hok⟩, rfl, rfl⟩ | exact ⟨_, _, ⟨by simp only [List.length_set]; omega, lk_s1 hok i hr110 hr117⟩, rfl, by simp only [List.length_set]; rfl⟩ | exact ⟨_, _, ⟨by simp only [List.length_set]; omega, lk_s2 hok i hr132⟩, rfl, by simp only [List.length_set]; rfl⟩ | exact ⟨_, _, ⟨by simp only [List.length_set]; omega, lk_s3 hok i hr79 hr86 hr93⟩, rfl, by simp only [List.length_set]; rfl⟩) ((show k + 20 * q + 1 + 1 + 1 + 1 + 2 ≤ k + 200 by omega))))
          · have aH7 := aH7b
            try simp only [qqT, qqF, qqN, qqM, qqL, qqE] at aH7
            refine VC.draw (fun j b => j ∈ [26, 29, 32] ∧ b = gr) hB (by kernel_rfl) ?_
            refine VA.take (i := 0) rfl (by decide +kernel) (by decide +kernel) (by decide +kernel) rfl rfl (OpV.move (.inl rfl) rfl) ?_
            refine VA.take (i := 1) rfl (by decide +kernel) (by decide +kernel) (by decide +kernel) rfl rfl (OpV.move (.inl rfl) rfl) ?_
            refine VA.take (i := 2) rfl (by decide +kernel) (by decide +kernel) (by decide +kernel) rfl rfl (OpV.move (.inl rfl) rfl) ?_
            refine VA.take (i := 3) rfl (by decide +kernel) (by decide +kernel) (by decide +kernel) rfl rfl (OpV.move (.inl rfl) rfl) ?_
            refine VA.take (i := 4) rfl (by decide +kernel) (by decide +kernel) (by decide +kernel) rfl rfl (OpV.move (.inl rfl) rfl) ?_
            refine VA.take (i := 5) rfl (by decide +kernel) (by decide +kernel) (by decide +kernel) rfl rfl (OpV.nilCheck rfl rfl) ?_
            refine VA.take (i := 6) rfl (by decide +kernel) (by decide +kernel) (by decide +kernel) rfl rfl (OpV.fieldAddrO 5 rfl Tryz.underlying66 rfl rfl Tryz.sizeOf9 rfl) ?_
            refine VA.take (i := 7) rfl (by decide +kernel) (by decide +kernel) (by decide +kernel) rfl rfl (OpV.load_own (i := 0) rfl hB Tryz.isAgg9 rfl rfl (rowL_at rfl (by omega) (by decide)) (Wi.notD (by decide +kernel))) ?_
            refine VA.take (i := 10) rfl (by decide +kernel) (by decide +kernel) (by decide +kernel) rfl rfl (OpV.move (.inl rfl) rfl) ?_
            refine VA.take (i := 11) rfl (by decide +kernel) (by decide +kernel) (by decide +kernel) rfl rfl (OpV.move (.inl rfl) rfl) ?_
            refine VA.take (i := 12) rfl (by decide +kernel) (by decide +kernel) (by decide +kernel) rfl rfl (OpV.nilCheck rfl rfl) ?_
            refine VA.take (i := 13) rfl (by decide +kernel) (by decide +kernel) (by decide +kernel) rfl rfl (OpV.fieldAddrO 6 rfl Tryz.underlying66 rfl rfl Tryz.sizeOf9 rfl) ?_
            refine VA.take (i := 14) rfl (by decide +kernel) (by decide +kernel) (by decide +kernel) rfl rfl (OpV.load_own (i := 0) rfl hB Tryz.isAgg9 rfl rfl (rowL_at rfl (by omega) (by decide)) (Wi.notD (by decide +kernel))) ?_
            refine VA.take (i := 17) rfl (by decide +kernel) (by decide +kernel) (by decide +kernel) rfl rfl (OpV.move (.inl rfl) rfl) ?_
            refine VA.take (i := 18) rfl (by decide +kernel) (by decide +kernel) (by decide +kernel) rfl rfl (OpV.move (.inl rfl) rfl) ?_
            refine VA.take (i := 19) rfl (by decide +kernel) (by decide +kernel) (by decide +kernel) rfl rfl (OpV.nilCheck rfl rfl) ?_
            refine VA.take (i := 20) rfl (by decide +kernel) (by decide +kernel) (by decide +kernel) rfl rfl (OpV.fieldAddrO 7 rfl Tryz.underlying66 rfl rfl Tryz.sizeOf9 rfl) ?_
            refine VA.take (i := 21) rfl (by decide +kernel) (by decide +kernel) (by decide +kernel) rfl rfl (OpV.load_own (i := 0) rfl hB Tryz.isAgg9 rfl rfl (rowL_at rfl (by omega) (by decide)) (Wi.notD (by decide +kernel))) ?_
            refine VA.bind (fun F hF => ?_)
            have hS0 : ∀ (r79 : ByteArray) (hr79 : r79.size ≤ 1000) (r86 : ByteArray) (hr86 : r86.size ≤ 1000) (r93 : ByteArray) (hr93 : r93.size ≤ 1000), F 7 (lstB 33 [0, 1, 2, 3, 4, 5, 6, 7, 8, 9, 10, 11, 12, 13, 14, 15, 16, 17, 18, 19, 20, 21, 22, 23, 24, 25]) ⟨[(0, sp p), (73, sp p), (80, sp p), (87, sp p), (70, (pL gr (0 + i * 8))), (71, (pL gr (0 + i * 8))), (72, (pL gr (0 + i * 8))), (77, avS (xL l i).machine), (84, avS (xL l i).nozzle), (91, avS (xL l i).reel), (5, .v (.slice (some ⟨gr, 0, none⟩) l.length cap)), (78, (iL 2 [avS (xL l i).machine, avS ⟨#[]⟩])), (79, avS r79), (85, (iL 2 [avS (xL l i).nozzle, avS ⟨#[65]⟩])), (86, avS r86), (92, (iL 2 [avS (xL l i).reel, avS ⟨#[]⟩])), (93, avS r93), (95, (pL gr (0 + i * 8 + 5)))], [.box gr ⟨rowL l, 66, cap * 8⟩], k + 20 * q + 1 + 1 + 1 + 1 + 1 + 1⟩ := by
              intro r79 hr79 r86 hr86 r93 hr93
              rw [hF]
              refine VA.all (rs := [26]) (by decide +kernel) (by decide) ?_
              refine ⟨⟨_, rfl, .inl rfl, ?_⟩, trivial⟩
              refine OpE.store1 (i := 0) rfl hB rfl Tryz.sizeOf9 rfl rfl rfl rfl rfl rfl (rowL_in rfl (by omega) (by decide)) (rowL_set (x := ({l.getD i default with machine := r79} : LookS)) rfl (by omega) (by decide) rfl (fun i hi hn => lk_upd (by simp) (by simp) (by simp) (by simp) (by simp) (by simp) (by simp) (by simp) i hi hn)) (by first | exact ⟨rfl, rfl⟩ | exact .inl ⟨rfl, rfl⟩ | exact .inr ⟨rfl, rfl⟩ | exact ⟨rfl, trivial⟩ | exact .inl ⟨rfl, trivial⟩ | exact .inr ⟨rfl, trivial⟩ | exact ⟨by decide, rfl⟩) ?_
              refine VA.take (i := 27) rfl (by decide +kernel) (by decide +kernel) (by decide +kernel) rfl rfl (OpV.nilCheck rfl rfl) ?_
              refine VA.take (i := 28) rfl (by decide +kernel) (by decide +kernel) (by decide +kernel) rfl rfl (OpV.fieldAddrO 6 rfl Tryz.underlying66 rfl rfl Tryz.sizeOf9 rfl) ?_
              refine VA.all (rs := [29]) (by decide +kernel) (by decide) ?_
              refine ⟨⟨_, rfl, .inl rfl, ?_⟩, trivial⟩
              refine OpE.store1 (i := 0) rfl hB rfl Tryz.sizeOf9 rfl rfl rfl rfl rfl rfl (rowL_in rfl (by rw [List.length_set]; omega) (by decide)) (rowL_set (x := ({l.getD i default with machine := r79, nozzle := r86} : LookS)) rfl (by rw [List.length_set]; omega) (by decide) rfl (fun i hi hn => by rw [getSet_lk (by omega)]; exact lk_upd (by simp) (by simp) (by simp) (by simp) (by simp) (by simp) (by simp) (by simp) i hi hn)) (by first | exact ⟨rfl, rfl⟩ | exact .inl ⟨rfl, rfl⟩ | exact .inr ⟨rfl, rfl⟩ | exact ⟨rfl, trivial⟩ | exact .inl ⟨rfl, trivial⟩ | exact .inr ⟨rfl, trivial⟩ | exact ⟨by decide, rfl⟩) ?_
              refine VA.take (i := 30) rfl (by decide +kernel) (by decide +kernel) (by decide +kernel) rfl rfl (OpV.nilCheck rfl rfl) ?_
              refine VA.take (i := 31) rfl (by decide +kernel) (by decide +kernel) (by decide +kernel) rfl rfl (OpV.fieldAddrO 7 rfl Tryz.underlying66 rfl rfl Tryz.sizeOf9 rfl) ?_
              refine VA.all (rs := [32]) (by decide +kernel) (by decide) ?_
              refine ⟨⟨_, rfl, .inl rfl, ?_⟩, trivial⟩
              refine OpE.store1 (i := 0) rfl hB rfl Tryz.sizeOf9 rfl rfl rfl rfl rfl rfl (rowL_in rfl (by simp only [List.length_set]; omega) (by decide)) (rowL_set (x := ({l.getD i default with machine := r79, nozzle := r86, reel := r93} : LookS)) rfl (by simp only [List.length_set]; omega) (by decide) rfl (fun i hi hn => by rw [getSet_lk (by simp only [List.length_set]; omega)]; exact lk_upd (by simp) (by simp) (by simp) (by simp) (by simp) (by simp) (by simp) (by simp) i hi hn)) (by first | exact ⟨rfl, rfl⟩ | exact .inl ⟨rfl, rfl⟩ | exact .inr ⟨rfl, rfl⟩ | exact ⟨rfl, trivial⟩ | exact .inl ⟨rfl, trivial⟩ | exact .inr ⟨rfl, trivial⟩ | exact ⟨by decide, rfl⟩) ?_
              refine VA.done (by decide +kernel) ?_
              refine VC.sr ?_
              refine VO.mv rfl rfl rfl rfl ?_
              refine VO.ma rfl rfl rfl rfl ?_
              refine VO.nil ?_
              refine VC.le _ (Le.boxRow (i := 0) (n := l.length) (sz := 8) rfl (by simp only [rowL_len, List.length_set]; rfl) hcap hmx) ?_
              refine VC.ret ?_
              exact Exists.intro _ (And.intro (RetV.one Tryz.results39 (ResV.tmp rfl)) (And.intro (by first | exact ⟨l, _, ⟨by omega, hok⟩, rfl, rfl⟩ | exact ⟨_, _, ⟨by simp only [List.length_set]; omega, lk_s1 hok i hr110 hr117⟩, rfl, by simp only [List.length_set]; rfl⟩ | exact ⟨_, _, ⟨by simp only [List.length_set]; omega, lk_s2 hok i hr132⟩, rfl, by simp only [List.length_set]; rfl⟩ | exact ⟨_, _, ⟨by simp only [List.length_set]; omega, lk_s3 hok i hr79 hr86 hr93⟩, rfl, by simp only [List.length_set]; rfl⟩) ((show k + 20 * q + 1 + 1 + 1 + 1 + 1 + 1 ≤ k + 200 by omega))))
            have hS1 : ∀ (r79 : ByteArray) (hr79 : r79.size ≤ 1000) (r86 : ByteArray) (hr86 : r86.size ≤ 1000), F 10 (lstB 33 [0, 1, 2, 3, 4, 5, 6, 7, 8, 9, 10, 11, 12, 13, 14, 15, 16, 17, 18, 19, 20, 21, 22]) ⟨[(0, sp p), (73, sp p), (80, sp p), (87, sp p), (70, (pL gr (0 + i * 8))), (71, (pL gr (0 + i * 8))), (72, (pL gr (0 + i * 8))), (77, avS (xL l i).machine), (84, avS (xL l i).nozzle), (91, avS (xL l i).reel), (5, .v (.slice (some ⟨gr, 0, none⟩) l.length cap)), (78, (iL 2 [avS (xL l i).machine, avS ⟨#[]⟩])), (79, avS r79), (85, (iL 2 [avS (xL l i).nozzle, avS ⟨#[65]⟩])), (86, avS r86), (92, (iL 2 [avS (xL l i).reel, avS ⟨#[]⟩]))], [.box gr ⟨rowL l, 66, cap * 8⟩], k + 20 * q + 1 + 1 + 1 + 1 + 1⟩ := by
              intro r79 hr79 r86 hr86
              rw [hF]
              refine VA.all (rs := [23]) (by decide +kernel) (by decide) ?_
              refine ⟨⟨_, rfl, .inl rfl, ?_⟩, trivial⟩
              refine OpE.callT' (k + 20 * q + 1 + 1 + 1 + 1 + 1) rfl rfl hB rfl Tryz.call32 rfl (some_T 1000 (by rfl) (by decide) (by decide) (AllS.cons (LkG.getD hok i).reel (AllS.cons (by decide) AllS.nil))) (by omega) ?_
              rintro _ ⟨r93, hr93, rfl⟩
              refine VA.take (i := 24) rfl (by decide +kernel) (by decide +kernel) (by decide +kernel) rfl rfl (OpV.nilCheck rfl rfl) ?_
              refine VA.take (i := 25) rfl (by decide +kernel) (by decide +kernel) (by decide +kernel) rfl rfl (OpV.fieldAddrO 5 rfl Tryz.underlying66 rfl rfl Tryz.sizeOf9 rfl) ?_
              have hh := hS0 r79 hr79 r86 hr86 r93 hr93
              rw [hF] at hh
              exact VA.to hh (by decide +kernel) (Le.mk hB [0] ⟨rfl, rfl, rfl, rfl, rfl, rfl, rfl, rfl, rfl, rfl, rfl, rfl, rfl, rfl, rfl, rfl, rfl, rfl, trivial⟩ rfl rfl (Nat.le_refl _))
            have hS2 : ∀ (r79 : ByteArray) (hr79 : r79.size ≤ 1000) (r86 : ByteArray) (hr86 : r86.size ≤ 1000), F 11 (lstB 33 [0, 1, 2, 3, 4, 5, 6, 7, 8, 9, 10, 11, 12, 13, 14, 15, 16, 17, 18, 19, 20, 21]) ⟨[(0, sp p), (73, sp p), (80, sp p), (87, sp p), (70, (pL gr (0 + i * 8))), (71, (pL gr (0 + i * 8))), (72, (pL gr (0 + i * 8))), (77, avS (xL l i).machine), (84, avS (xL l i).nozzle), (91, avS (xL l i).reel), (5, .v (.slice (some ⟨gr, 0, none⟩) l.length cap)), (78, (iL 2 [avS (xL l i).machine, avS ⟨#[]⟩])), (79, avS r79), (85, (iL 2 [avS (xL l i).nozzle, avS ⟨#[65]⟩])), (86, avS r86)], [.box gr ⟨rowL l, 66, cap * 8⟩], k + 20 * q + 1 + 1 + 1 + 1 + 1⟩ := by
              intro r79 hr79 r86 hr86
              rw [hF]
              refine VA.all (rs := [22]) (by decide +kernel) (by decide) ?_
              refine ⟨⟨_, rfl, .inl rfl, ?_⟩, trivial⟩
              refine OpE.buildSlice (zc := #[.string ⟨#[]⟩, .string ⟨#[]⟩]) rfl hB rfl Tryz.underlying95 Tryz.sizeOf9 Tryz.zeroValue9 (by decide) (by decide) (by kernel_rfl) rfl rfl ?_
              have hh := hS1 r79 hr79 r86 hr86
              rw [hF] at hh
              exact VA.to hh (by decide +kernel) (Le.mk hB [0] ⟨rfl, rfl, rfl, rfl, rfl, rfl, rfl, rfl, rfl, rfl, rfl, rfl, rfl, rfl, rfl, rfl, trivial⟩ rfl rfl (Nat.le_refl _))
            have hS3 : ∀ (r79 : ByteArray) (hr79 : r79.size ≤ 1000), F 11 (lstB 33 [0, 1, 2, 3, 4, 5, 6, 7, 8, 9, 10, 11, 12, 13, 14, 15, 17, 18, 19, 20, 21, 22]) ⟨[(0, sp p), (73, sp p), (80, sp p), (87, sp p), (70, (pL gr (0 + i * 8))), (71, (pL gr (0 + i * 8))), (72, (pL gr (0 + i * 8))), (77, avS (xL l i).machine), (84, avS (xL l i).nozzle), (91, avS (xL l i).reel), (5, .v (.slice (some ⟨gr, 0, none⟩) l.length cap)), (78, (iL 2 [avS (xL l i).machine, avS ⟨#[]⟩])), (79, avS r79), (85, (iL 2 [avS (xL l i).nozzle, avS ⟨#[65]⟩])), (92, (iL 2 [avS (xL l i).reel, avS ⟨#[]⟩]))], [.box gr ⟨rowL l, 66, cap * 8⟩], k + 20 * q + 1 + 1 + 1 + 1⟩ := by
              intro r79 hr79
              rw [hF]
              refine VA.all (rs := [16]) (by decide +kernel) (by decide) ?_
              refine ⟨⟨_, rfl, .inl rfl, ?_⟩, trivial⟩
              refine OpE.callT' (k + 20 * q + 1 + 1 + 1 + 1) rfl rfl hB rfl Tryz.call32 rfl (some_T 1000 (by rfl) (by decide) (by decide) (AllS.cons (LkG.getD hok i).nozzle (AllS.cons (by decide) AllS.nil))) (by omega) ?_
              rintro _ ⟨r86, hr86, rfl⟩
              have hh := hS1 r79 hr79 r86 hr86
              rw [hF] at hh
              exact VA.to hh (by decide +kernel) (Le.mk hB [0] ⟨rfl, rfl, rfl, rfl, rfl, rfl, rfl, rfl, rfl, rfl, rfl, rfl, rfl, rfl, rfl, rfl, trivial⟩ rfl rfl (Nat.le_refl _))
            have hS4 : ∀ (r79 : ByteArray) (hr79 : r79.size ≤ 1000), F 12 (lstB 33 [0, 1, 2, 3, 4, 5, 6, 7, 8, 9, 10, 11, 12, 13, 14, 15, 17, 18, 19, 20, 21]) ⟨[(0, sp p), (73, sp p), (80, sp p), (87, sp p), (70, (pL gr (0 + i * 8))), (71, (pL gr (0 + i * 8))), (72, (pL gr (0 + i * 8))), (77, avS (xL l i).machine), (84, avS (xL l i).nozzle), (91, avS (xL l i).reel), (5, .v (.slice (some ⟨gr, 0, none⟩) l.length cap)), (78, (iL 2 [avS (xL l i).machine, avS ⟨#[]⟩])), (79, avS r79), (85, (iL 2 [avS (xL l i).nozzle, avS ⟨#[65]⟩]))], [.box gr ⟨rowL l, 66, cap * 8⟩], k + 20 * q + 1 + 1 + 1 + 1⟩ := by
              intro r79 hr79
              rw [hF]
              refine VA.all (rs := [16, 22]) (by decide +kernel) (by decide) ?_
              refine ⟨⟨_, rfl, .inl rfl, ?_⟩, ⟨_, rfl, .inl rfl, ?_⟩, trivial⟩
              ·
                refine OpE.callT' (k + 20 * q + 1 + 1 + 1 + 1) rfl rfl hB rfl Tryz.call32 rfl (some_T 1000 (by rfl) (by decide) (by decide) (AllS.cons (LkG.getD hok i).nozzle (AllS.cons (by decide) AllS.nil))) (by omega) ?_
                rintro _ ⟨r86, hr86, rfl⟩
                have hh := hS2 r79 hr79 r86 hr86
                rw [hF] at hh
                exact VA.to hh (by decide +kernel) (Le.mk hB [0] ⟨rfl, rfl, rfl, rfl, rfl, rfl, rfl, rfl, rfl, rfl, rfl, rfl, rfl, rfl, rfl, trivial⟩ rfl rfl (Nat.le_refl _))
              ·
                refine OpE.buildSlice (zc := #[.string ⟨#[]⟩, .string ⟨#[]⟩]) rfl hB rfl Tryz.underlying95 Tryz.sizeOf9 Tryz.zeroValue9 (by decide) (by decide) (by kernel_rfl) rfl rfl ?_
                have hh := hS3 r79 hr79
                rw [hF] at hh
                exact VA.to hh (by decide +kernel) (Le.mk hB [0] ⟨rfl, rfl, rfl, rfl, rfl, rfl, rfl, rfl, rfl, rfl, rfl, rfl, rfl, rfl, rfl, trivial⟩ rfl rfl (Nat.le_refl _))
            have hS5 : ∀ (r79 : ByteArray) (hr79 : r79.size ≤ 1000), F 12 (lstB 33 [0, 1, 2, 3, 4, 5, 6, 7, 8, 9, 10, 11, 12, 13, 14, 17, 18, 19, 20, 21, 22]) ⟨[(0, sp p), (73, sp p), (80, sp p), (87, sp p), (70, (pL gr (0 + i * 8))), (71, (pL gr (0 + i * 8))), (72, (pL gr (0 + i * 8))), (77, avS (xL l i).machine), (84, avS (xL l i).nozzle), (91, avS (xL l i).reel), (5, .v (.slice (some ⟨gr, 0, none⟩) l.length cap)), (78, (iL 2 [avS (xL l i).machine, avS ⟨#[]⟩])), (79, avS r79), (92, (iL 2 [avS (xL l i).reel, avS ⟨#[]⟩]))], [.box gr ⟨rowL l, 66, cap * 8⟩], k + 20 * q + 1 + 1 + 1 + 1⟩ := by
              intro r79 hr79
              rw [hF]
              refine VA.all (rs := [15]) (by decide +kernel) (by decide) ?_
              refine ⟨⟨_, rfl, .inl rfl, ?_⟩, trivial⟩
              refine OpE.buildSlice (zc := #[.string ⟨#[]⟩, .string ⟨#[]⟩]) rfl hB rfl Tryz.underlying95 Tryz.sizeOf9 Tryz.zeroValue9 (by decide) (by decide) (by kernel_rfl) rfl rfl ?_
              have hh := hS3 r79 hr79
              rw [hF] at hh
              exact VA.to hh (by decide +kernel) (Le.mk hB [0] ⟨rfl, rfl, rfl, rfl, rfl, rfl, rfl, rfl, rfl, rfl, rfl, rfl, rfl, rfl, rfl, trivial⟩ rfl rfl (Nat.le_refl _))
            have hS6 : F 12 (lstB 33 [0, 1, 2, 3, 4, 5, 6, 7, 8, 10, 11, 12, 13, 14, 15, 17, 18, 19, 20, 21, 22]) ⟨[(0, sp p), (73, sp p), (80, sp p), (87, sp p), (70, (pL gr (0 + i * 8))), (71, (pL gr (0 + i * 8))), (72, (pL gr (0 + i * 8))), (77, avS (xL l i).machine), (84, avS (xL l i).nozzle), (91, avS (xL l i).reel), (5, .v (.slice (some ⟨gr, 0, none⟩) l.length cap)), (78, (iL 2 [avS (xL l i).machine, avS ⟨#[]⟩])), (85, (iL 2 [avS (xL l i).nozzle, avS ⟨#[65]⟩])), (92, (iL 2 [avS (xL l i).reel, avS ⟨#[]⟩]))], [.box gr ⟨rowL l, 66, cap * 8⟩], k + 20 * q + 1 + 1 + 1⟩ := by
              rw [hF]
              refine VA.all (rs := [9]) (by decide +kernel) (by decide) ?_
              refine ⟨⟨_, rfl, .inl rfl, ?_⟩, trivial⟩
              refine OpE.callT' (k + 20 * q + 1 + 1 + 1) rfl rfl hB rfl Tryz.call32 rfl (some_T 1000 (by rfl) (by decide) (by decide) (AllS.cons (LkG.getD hok i).machine (AllS.cons (by decide) AllS.nil))) (by omega) ?_
              rintro _ ⟨r79, hr79, rfl⟩
              have hh := hS3 r79 hr79
              rw [hF] at hh
              exact VA.to hh (by decide +kernel) (Le.mk hB [0] ⟨rfl, rfl, rfl, rfl, rfl, rfl, rfl, rfl, rfl, rfl, rfl, rfl, rfl, rfl, rfl, trivial⟩ rfl rfl (Nat.le_refl _))
            have hS7 : ∀ (r79 : ByteArray) (hr79 : r79.size ≤ 1000), F 13 (lstB 33 [0, 1, 2, 3, 4, 5, 6, 7, 8, 9, 10, 11, 12, 13, 14, 17, 18, 19, 20, 21]) ⟨[(0, sp p), (73, sp p), (80, sp p), (87, sp p), (70, (pL gr (0 + i * 8))), (71, (pL gr (0 + i * 8))), (72, (pL gr (0 + i * 8))), (77, avS (xL l i).machine), (84, avS (xL l i).nozzle), (91, avS (xL l i).reel), (5, .v (.slice (some ⟨gr, 0, none⟩) l.length cap)), (78, (iL 2 [avS (xL l i).machine, avS ⟨#[]⟩])), (79, avS r79)], [.box gr ⟨rowL l, 66, cap * 8⟩], k + 20 * q + 1 + 1 + 1 + 1⟩ := by
              intro r79 hr79
              rw [hF]
              refine VA.all (rs := [15, 22]) (by decide +kernel) (by decide) ?_
              refine ⟨⟨_, rfl, .inl rfl, ?_⟩, ⟨_, rfl, .inl rfl, ?_⟩, trivial⟩
              ·
                refine OpE.buildSlice (zc := #[.string ⟨#[]⟩, .string ⟨#[]⟩]) rfl hB rfl Tryz.underlying95 Tryz.sizeOf9 Tryz.zeroValue9 (by decide) (by decide) (by kernel_rfl) rfl rfl ?_
                have hh := hS4 r79 hr79
                rw [hF] at hh
                exact VA.to hh (by decide +kernel) (Le.mk hB [0] ⟨rfl, rfl, rfl, rfl, rfl, rfl, rfl, rfl, rfl, rfl, rfl, rfl, rfl, rfl, trivial⟩ rfl rfl (Nat.le_refl _))
              ·
                refine OpE.buildSlice (zc := #[.string ⟨#[]⟩, .string ⟨#[]⟩]) rfl hB rfl Tryz.underlying95 Tryz.sizeOf9 Tryz.zeroValue9 (by decide) (by decide) (by kernel_rfl) rfl rfl ?_
                have hh := hS5 r79 hr79
                rw [hF] at hh
                exact VA.to hh (by decide +kernel) (Le.mk hB [0] ⟨rfl, rfl, rfl, rfl, rfl, rfl, rfl, rfl, rfl, rfl, rfl, rfl, rfl, rfl, trivial⟩ rfl rfl (Nat.le_refl _))
            have hS8 : F 13 (lstB 33 [0, 1, 2, 3, 4, 5, 6, 7, 8, 10, 11, 12, 13, 14, 15, 17, 18, 19, 20, 21]) ⟨[(0, sp p), (73, sp p), (80, sp p), (87, sp p), (70, (pL gr (0 + i * 8))), (71, (pL gr (0 + i * 8))), (72, (pL gr (0 + i * 8))), (77, avS (xL l i).machine), (84, avS (xL l i).nozzle), (91, avS (xL l i).reel), (5, .v (.slice (some ⟨gr, 0, none⟩) l.length cap)), (78, (iL 2 [avS (xL l i).machine, avS ⟨#[]⟩])), (85, (iL 2 [avS (xL l i).nozzle, avS ⟨#[65]⟩]))], [.box gr ⟨rowL l, 66, cap * 8⟩], k + 20 * q + 1 + 1 + 1⟩ := by
              rw [hF]
              refine VA.all (rs := [9, 22]) (by decide +kernel) (by decide) ?_
              refine ⟨⟨_, rfl, .inl rfl, ?_⟩, ⟨_, rfl, .inl rfl, ?_⟩, trivial⟩
              ·
                refine OpE.callT' (k + 20 * q + 1 + 1 + 1) rfl rfl hB rfl Tryz.call32 rfl (some_T 1000 (by rfl) (by decide) (by decide) (AllS.cons (LkG.getD hok i).machine (AllS.cons (by decide) AllS.nil))) (by omega) ?_
                rintro _ ⟨r79, hr79, rfl⟩
                have hh := hS4 r79 hr79
                rw [hF] at hh
                exact VA.to hh (by decide +kernel) (Le.mk hB [0] ⟨rfl, rfl, rfl, rfl, rfl, rfl, rfl, rfl, rfl, rfl, rfl, rfl, rfl, rfl, trivial⟩ rfl rfl (Nat.le_refl _))
              ·
                refine OpE.buildSlice (zc := #[.string ⟨#[]⟩, .string ⟨#[]⟩]) rfl hB rfl Tryz.underlying95 Tryz.sizeOf9 Tryz.zeroValue9 (by decide) (by decide) (by kernel_rfl) rfl rfl ?_
                have hh := hS6 
                rw [hF] at hh
                exact VA.to hh (by decide +kernel) (Le.mk hB [0] ⟨rfl, rfl, rfl, rfl, rfl, rfl, rfl, rfl, rfl, rfl, rfl, rfl, rfl, rfl, trivial⟩ rfl rfl (Nat.le_refl _))
            have hS9 : F 13 (lstB 33 [0, 1, 2, 3, 4, 5, 6, 7, 8, 10, 11, 12, 13, 14, 17, 18, 19, 20, 21, 22]) ⟨[(0, sp p), (73, sp p), (80, sp p), (87, sp p), (70, (pL gr (0 + i * 8))), (71, (pL gr (0 + i * 8))), (72, (pL gr (0 + i * 8))), (77, avS (xL l i).machine), (84, avS (xL l i).nozzle), (91, avS (xL l i).reel), (5, .v (.slice (some ⟨gr, 0, none⟩) l.length cap)), (78, (iL 2 [avS (xL l i).machine, avS ⟨#[]⟩])), (92, (iL 2 [avS (xL l i).reel, avS ⟨#[]⟩]))], [.box gr ⟨rowL l, 66, cap * 8⟩], k + 20 * q + 1 + 1 + 1⟩ := by
              rw [hF]
              refine VA.all (rs := [9, 15]) (by decide +kernel) (by decide) ?_
              refine ⟨⟨_, rfl, .inl rfl, ?_⟩, ⟨_, rfl, .inl rfl, ?_⟩, trivial⟩
              ·
                refine OpE.callT' (k + 20 * q + 1 + 1 + 1) rfl rfl hB rfl Tryz.call32 rfl (some_T 1000 (by rfl) (by decide) (by decide) (AllS.cons (LkG.getD hok i).machine (AllS.cons (by decide) AllS.nil))) (by omega) ?_
                rintro _ ⟨r79, hr79, rfl⟩
                have hh := hS5 r79 hr79
                rw [hF] at hh
                exact VA.to hh (by decide +kernel) (Le.mk hB [0] ⟨rfl, rfl, rfl, rfl, rfl, rfl, rfl, rfl, rfl, rfl, rfl, rfl, rfl, rfl, trivial⟩ rfl rfl (Nat.le_refl _))
              ·
                refine OpE.buildSlice (zc := #[.string ⟨#[]⟩, .string ⟨#[]⟩]) rfl hB rfl Tryz.underlying95 Tryz.sizeOf9 Tryz.zeroValue9 (by decide) (by decide) (by kernel_rfl) rfl rfl ?_
                have hh := hS6 
                rw [hF] at hh
                exact VA.to hh (by decide +kernel) (Le.mk hB [0] ⟨rfl, rfl, rfl, rfl, rfl, rfl, rfl, rfl, rfl, rfl, rfl, rfl, rfl, rfl, trivial⟩ rfl rfl (Nat.le_refl _))
            have hS10 : F 13 (lstB 33 [0, 1, 2, 3, 4, 5, 6, 7, 10, 11, 12, 13, 14, 15, 17, 18, 19, 20, 21, 22]) ⟨[(0, sp p), (73, sp p), (80, sp p), (87, sp p), (70, (pL gr (0 + i * 8))), (71, (pL gr (0 + i * 8))), (72, (pL gr (0 + i * 8))), (77, avS (xL l i).machine), (84, avS (xL l i).nozzle), (91, avS (xL l i).reel), (5, .v (.slice (some ⟨gr, 0, none⟩) l.length cap)), (85, (iL 2 [avS (xL l i).nozzle, avS ⟨#[65]⟩])), (92, (iL 2 [avS (xL l i).reel, avS ⟨#[]⟩]))], [.box gr ⟨rowL l, 66, cap * 8⟩], k + 20 * q + 1 + 1 + 1⟩ := by
              rw [hF]
              refine VA.all (rs := [8]) (by decide +kernel) (by decide) ?_
              refine ⟨⟨_, rfl, .inl rfl, ?_⟩, trivial⟩
              refine OpE.buildSlice (zc := #[.string ⟨#[]⟩, .string ⟨#[]⟩]) rfl hB rfl Tryz.underlying95 Tryz.sizeOf9 Tryz.zeroValue9 (by decide) (by decide) (by kernel_rfl) rfl rfl ?_
              have hh := hS6 
              rw [hF] at hh
              exact VA.to hh (by decide +kernel) (Le.mk hB [0] ⟨rfl, rfl, rfl, rfl, rfl, rfl, rfl, rfl, rfl, rfl, rfl, rfl, rfl, rfl, trivial⟩ rfl rfl (Nat.le_refl _))
            have hS11 : F 14 (lstB 33 [0, 1, 2, 3, 4, 5, 6, 7, 8, 10, 11, 12, 13, 14, 17, 18, 19, 20, 21]) ⟨[(0, sp p), (73, sp p), (80, sp p), (87, sp p), (70, (pL gr (0 + i * 8))), (71, (pL gr (0 + i * 8))), (72, (pL gr (0 + i * 8))), (77, avS (xL l i).machine), (84, avS (xL l i).nozzle), (91, avS (xL l i).reel), (5, .v (.slice (some ⟨gr, 0, none⟩) l.length cap)), (78, (iL 2 [avS (xL l i).machine, avS ⟨#[]⟩]))], [.box gr ⟨rowL l, 66, cap * 8⟩], k + 20 * q + 1 + 1 + 1⟩ := by
              rw [hF]
              refine VA.all (rs := [9, 15, 22]) (by decide +kernel) (by decide) ?_
              refine ⟨⟨_, rfl, .inl rfl, ?_⟩, ⟨_, rfl, .inl rfl, ?_⟩, ⟨_, rfl, .inl rfl, ?_⟩, trivial⟩
              ·
                refine OpE.callT' (k + 20 * q + 1 + 1 + 1) rfl rfl hB rfl Tryz.call32 rfl (some_T 1000 (by rfl) (by decide) (by decide) (AllS.cons (LkG.getD hok i).machine (AllS.cons (by decide) AllS.nil))) (by omega) ?_
                rintro _ ⟨r79, hr79, rfl⟩
                have hh := hS7 r79 hr79
                rw [hF] at hh
                exact VA.to hh (by decide +kernel) (Le.mk hB [0] ⟨rfl, rfl, rfl, rfl, rfl, rfl, rfl, rfl, rfl, rfl, rfl, rfl, rfl, trivial⟩ rfl rfl (Nat.le_refl _))
              ·
                refine OpE.buildSlice (zc := #[.string ⟨#[]⟩, .string ⟨#[]⟩]) rfl hB rfl Tryz.underlying95 Tryz.sizeOf9 Tryz.zeroValue9 (by decide) (by decide) (by kernel_rfl) rfl rfl ?_
                have hh := hS8 
                rw [hF] at hh
                exact VA.to hh (by decide +kernel) (Le.mk hB [0] ⟨rfl, rfl, rfl, rfl, rfl, rfl, rfl, rfl, rfl, rfl, rfl, rfl, rfl, trivial⟩ rfl rfl (Nat.le_refl _))
              ·
                refine OpE.buildSlice (zc := #[.string ⟨#[]⟩, .string ⟨#[]⟩]) rfl hB rfl Tryz.underlying95 Tryz.sizeOf9 Tryz.zeroValue9 (by decide) (by decide) (by kernel_rfl) rfl rfl ?_
                have hh := hS9 
                rw [hF] at hh
                exact VA.to hh (by decide +kernel) (Le.mk hB [0] ⟨rfl, rfl, rfl, rfl, rfl, rfl, rfl, rfl, rfl, rfl, rfl, rfl, rfl, trivial⟩ rfl rfl (Nat.le_refl _))
            have hS12 : F 14 (lstB 33 [0, 1, 2, 3, 4, 5, 6, 7, 10, 11, 12, 13, 14, 15, 17, 18, 19, 20, 21]) ⟨[(0, sp p), (73, sp p), (80, sp p), (87, sp p), (70, (pL gr (0 + i * 8))), (71, (pL gr (0 + i * 8))), (72, (pL gr (0 + i * 8))), (77, avS (xL l i).machine), (84, avS (xL l i).nozzle), (91, avS (xL l i).reel), (5, .v (.slice (some ⟨gr, 0, none⟩) l.length cap)), (85, (iL 2 [avS (xL l i).nozzle, avS ⟨#[65]⟩]))], [.box gr ⟨rowL l, 66, cap * 8⟩], k + 20 * q + 1 + 1 + 1⟩ := by
              rw [hF]
              refine VA.all (rs := [8, 22]) (by decide +kernel) (by decide) ?_
              refine ⟨⟨_, rfl, .inl rfl, ?_⟩, ⟨_, rfl, .inl rfl, ?_⟩, trivial⟩
              ·
                refine OpE.buildSlice (zc := #[.string ⟨#[]⟩, .string ⟨#[]⟩]) rfl hB rfl Tryz.underlying95 Tryz.sizeOf9 Tryz.zeroValue9 (by decide) (by decide) (by kernel_rfl) rfl rfl ?_
                have hh := hS8 
                rw [hF] at hh
                exact VA.to hh (by decide +kernel) (Le.mk hB [0] ⟨rfl, rfl, rfl, rfl, rfl, rfl, rfl, rfl, rfl, rfl, rfl, rfl, rfl, trivial⟩ rfl rfl (Nat.le_refl _))
              ·
                refine OpE.buildSlice (zc := #[.string ⟨#[]⟩, .string ⟨#[]⟩]) rfl hB rfl Tryz.underlying95 Tryz.sizeOf9 Tryz.zeroValue9 (by decide) (by decide) (by kernel_rfl) rfl rfl ?_
                have hh := hS10 
                rw [hF] at hh
                exact VA.to hh (by decide +kernel) (Le.mk hB [0] ⟨rfl, rfl, rfl, rfl, rfl, rfl, rfl, rfl, rfl, rfl, rfl, rfl, rfl, trivial⟩ rfl rfl (Nat.le_refl _))
            have hS13 : F 14 (lstB 33 [0, 1, 2, 3, 4, 5, 6, 7, 10, 11, 12, 13, 14, 17, 18, 19, 20, 21, 22]) ⟨[(0, sp p), (73, sp p), (80, sp p), (87, sp p), (70, (pL gr (0 + i * 8))), (71, (pL gr (0 + i * 8))), (72, (pL gr (0 + i * 8))), (77, avS (xL l i).machine), (84, avS (xL l i).nozzle), (91, avS (xL l i).reel), (5, .v (.slice (some ⟨gr, 0, none⟩) l.length cap)), (92, (iL 2 [avS (xL l i).reel, avS ⟨#[]⟩]))], [.box gr ⟨rowL l, 66, cap * 8⟩], k + 20 * q + 1 + 1 + 1⟩ := by
              rw [hF]
              refine VA.all (rs := [8, 15]) (by decide +kernel) (by decide) ?_
              refine ⟨⟨_, rfl, .inl rfl, ?_⟩, ⟨_, rfl, .inl rfl, ?_⟩, trivial⟩
              ·
                refine OpE.buildSlice (zc := #[.string ⟨#[]⟩, .string ⟨#[]⟩]) rfl hB rfl Tryz.underlying95 Tryz.sizeOf9 Tryz.zeroValue9 (by decide) (by decide) (by kernel_rfl) rfl rfl ?_
                have hh := hS9 
                rw [hF] at hh
                exact VA.to hh (by decide +kernel) (Le.mk hB [0] ⟨rfl, rfl, rfl, rfl, rfl, rfl, rfl, rfl, rfl, rfl, rfl, rfl, rfl, trivial⟩ rfl rfl (Nat.le_refl _))
              ·
                refine OpE.buildSlice (zc := #[.string ⟨#[]⟩, .string ⟨#[]⟩]) rfl hB rfl Tryz.underlying95 Tryz.sizeOf9 Tryz.zeroValue9 (by decide) (by decide) (by kernel_rfl) rfl rfl ?_
                have hh := hS10 
                rw [hF] at hh
                exact VA.to hh (by decide +kernel) (Le.mk hB [0] ⟨rfl, rfl, rfl, rfl, rfl, rfl, rfl, rfl, rfl, rfl, rfl, rfl, rfl, trivial⟩ rfl rfl (Nat.le_refl _))
            have hS14 : F 15 (lstB 33 [0, 1, 2, 3, 4, 5, 6, 7, 10, 11, 12, 13, 14, 17, 18, 19, 20, 21]) ⟨[(0, sp p), (73, sp p), (80, sp p), (87, sp p), (70, (pL gr (0 + i * 8))), (71, (pL gr (0 + i * 8))), (72, (pL gr (0 + i * 8))), (77, avS (xL l i).machine), (84, avS (xL l i).nozzle), (91, avS (xL l i).reel), (5, .v (.slice (some ⟨gr, 0, none⟩) l.length cap))], [.box gr ⟨rowL l, 66, cap * 8⟩], k + 20 * q + 1 + 1 + 1⟩ := by
              rw [hF]
              refine VA.all (rs := [8, 15, 22]) (by decide +kernel) (by decide) ?_
              refine ⟨⟨_, rfl, .inl rfl, ?_⟩, ⟨_, rfl, .inl rfl, ?_⟩, ⟨_, rfl, .inl rfl, ?_⟩, trivial⟩
              ·
                refine OpE.buildSlice (zc := #[.string ⟨#[]⟩, .string ⟨#[]⟩]) rfl hB rfl Tryz.underlying95 Tryz.sizeOf9 Tryz.zeroValue9 (by decide) (by decide) (by kernel_rfl) rfl rfl ?_
                have hh := hS11 
                rw [hF] at hh
                exact VA.to hh (by decide +kernel) (Le.mk hB [0] ⟨rfl, rfl, rfl, rfl, rfl, rfl, rfl, rfl, rfl, rfl, rfl, rfl, trivial⟩ rfl rfl (Nat.le_refl _))
              ·
                refine OpE.buildSlice (zc := #[.string ⟨#[]⟩, .string ⟨#[]⟩]) rfl hB rfl Tryz.underlying95 Tryz.sizeOf9 Tryz.zeroValue9 (by decide) (by decide) (by kernel_rfl) rfl rfl ?_
                have hh := hS12 
                rw [hF] at hh
                exact VA.to hh (by decide +kernel) (Le.mk hB [0] ⟨rfl, rfl, rfl, rfl, rfl, rfl, rfl, rfl, rfl, rfl, rfl, rfl, trivial⟩ rfl rfl (Nat.le_refl _))
              ·
                refine OpE.buildSlice (zc := #[.string ⟨#[]⟩, .string ⟨#[]⟩]) rfl hB rfl Tryz.underlying95 Tryz.sizeOf9 Tryz.zeroValue9 (by decide) (by decide) (by kernel_rfl) rfl rfl ?_
                have hh := hS13 
                rw [hF] at hh
                exact VA.to hh (by decide +kernel) (Le.mk hB [0] ⟨rfl, rfl, rfl, rfl, rfl, rfl, rfl, rfl, rfl, rfl, rfl, rfl, trivial⟩ rfl rfl (Nat.le_refl _))
            rw [hF]
            have hh := hS14 
            rw [hF] at hh
            exact VA.to hh (by decide +kernel) (Le.mk hB [0] ⟨rfl, rfl, rfl, rfl, rfl, rfl, rfl, rfl, rfl, rfl, rfl, trivial⟩ rfl rfl (Nat.le_refl _))
      · have aH5 := aH5b
        try simp only [qqT, qqF, qqN, qqM, qqL, qqE] at aH5
        refine VC.skip ?_
        refine VC.sr ?_
        refine VO.mv rfl rfl rfl rfl ?_
        refine VO.ma rfl rfl rfl rfl ?_
        refine VO.nil ?_
        skip
        refine VC.ret ?_
        exact Exists.intro _ (And.intro (RetV.one Tryz.results39 (ResV.tmp rfl)) (And.intro (by first | exact ⟨l, _, ⟨by omega, hok⟩, rfl, rfl⟩ | exact ⟨_, _, ⟨by simp only [List.length_set]; omega, lk_s1 hok i hr110 hr117⟩, rfl, by simp only [List.length_set]; rfl⟩ | exact ⟨_, _, ⟨by simp only [List.length_set]; omega, lk_s2 hok i hr132⟩, rfl, by simp only [List.length_set]; rfl⟩ | exact ⟨_, _, ⟨by simp only [List.length_set]; omega, lk_s3 hok i hr79 hr86 hr93⟩, rfl, by simp only [List.length_set]; rfl⟩) ((show k + 20 * q + 1 ≤ k + 200 by omega))))
    · replace aK4b : _ = false := aK4b
      have aK4 := aK4b
      try simp only [qqT, qqF, qqN, qqM, qqL, qqE] at aK4
      refine VO.opX rfl rfl rfl rfl aK4b ?_
      refine VO.val rfl rfl (OpV.pickF rfl rfl rfl rfl aK4b) ?_
      refine VO.nil ?_
      refine VC.condF rfl rfl ?_
      refine VC.skip ?_
      refine VC.sr ?_
      refine VO.mv rfl rfl rfl rfl ?_
      refine VO.ma rfl rfl rfl rfl ?_
      refine VO.nil ?_
      skip
      refine VC.ret ?_
      exact Exists.intro _ (And.intro (RetV.one Tryz.results39 (ResV.tmp rfl)) (And.intro (by first | exact ⟨l, _, ⟨by omega, hok⟩, rfl, rfl⟩ | exact ⟨_, _, ⟨by simp only [List.length_set]; omega, lk_s1 hok i hr110 hr117⟩, rfl, by simp only [List.length_set]; rfl⟩ | exact ⟨_, _, ⟨by simp only [List.length_set]; omega, lk_s2 hok i hr132⟩, rfl, by simp only [List.length_set]; rfl⟩ | exact ⟨_, _, ⟨by simp only [List.length_set]; omega, lk_s3 hok i hr79 hr86 hr93⟩, rfl, by simp only [List.length_set]; rfl⟩) ((show k + 20 * q ≤ k + 200 by omega))))
set_option maxRecDepth 100000 in
set_option maxHeartbeats 4000000 in
theorem rightLooks_O {p : Nat} {L : List Int} {m : Nat} (hm : m ≤ 6) :
  SpecTO Tryz.prog (TT p L) (fun b => b = p) 70 [sp p, avI (m : Int)] 1300 (fun y hp' => ∃ (l : List LookS) (u : Value), (l.length ≤ 3 * m ∧ (∀ x ∈ l, LkG m x) ∧ lookF l = 0) ∧ y = .v u ∧ hp' = [.row u l.length 8 (rowL l) 66]) := by
 refine SpecTO.of_VC Tryz.func70 rfl Tryz.ntmps70 (Nle rfl) (low := (fun b => b ≤ p)) (fun w A k h => h.ok) fun w A k hk hB => ?_
 have hnew : True := trivial
 refine VC.sr ?_
 refine VO.ma rfl rfl rfl rfl ?_
 refine VO.nil ?_
 refine VC.seq ?_
 refine VC.sr ?_
 refine VO.mv rfl rfl rfl rfl ?_
 refine VO.nil ?_
 refine VC.block ?_
 refine VC.loopK [(0, _), (1, _)] ⟨rfl, rfl, trivial⟩ ({q : Nat // q ≤ 6}) (fun (iZ : {q : Nat // q ≤ 6}) => match iZ with | ⟨q, hq⟩ => [(6, avI (q : Int))]) (fun (iZ : {q : Nat // q ≤ 6}) => match iZ with | ⟨q, hq⟩ => []) (fun (iZ : {q : Nat // q ≤ 6}) => match iZ with | ⟨q, hq⟩ => k + 200 * q) (fun (iZ : {q : Nat // q ≤ 6}) => match iZ with | ⟨q, hq⟩ => 6 - q) ⟨0, by decide⟩ (Le.mk hB [] ⟨rfl, rfl, rfl, trivial⟩ rfl rfl (show k ≤ k + 200 * 0 by omega)) ?_
 rintro ⟨q, hq⟩
 show VC _ _ _ _ ⟨[(6, avI (q : Int))] ++ [(0, _), (1, _)], [], k + 200 * q⟩
 refine VC.sr ?_
 refine VO.val rfl rfl (OpV.lss rfl rfl rfl) ?_
 refine VO.nil ?_
 refine VC.seq ?_
 refine VC.cond rfl (fun aH1b => ?_) (fun aH1b => ?_)
 ·have aH1 := aH1b
  try simp only [qqT, qqF, qqN, qqM, qqL, qqE] at aH1
  refine VC.skip ?_
  refine VC.seq ?_
  refine VC.block ?_
  refine VC.sr ?_
  refine VO.mv rfl rfl rfl rfl ?_
  refine VO.mv rfl rfl rfl rfl ?_
  refine VO.op rfl (OpE.callTO (k + 200 * q) rfl rfl hB rfl Tryz.call39 rfl (looks_O hm) (by omega) ?_)
  rintro _ _ ⟨l, u, hl, rfl, rfl⟩
  refine VO.ma rfl rfl rfl rfl ?_
  refine VO.nil ?_
  refine VC.sr ?_
  refine VO.mv rfl rfl rfl rfl ?_
  refine VO.op rfl (OpE.callL rfl hB rfl Tryz.call47 (rf_LooksFault (LkG.sm hl.2 (by omega))) (ArgsP.cons (ArgP.rowT (i := 0) rfl rfl rfl) (ArgsP.nil)) ?_)
  rintro _ rfl
  refine VO.val rfl rfl (OpV.eql rfl rfl rfl) ?_
  refine VO.nil ?_
  refine VC.cond rfl (fun h1b => ?_) (fun h1b => ?_)
  ·have h1 := h1b
   try simp only [qqT, qqF, qqN, qqM, qqL, qqE] at h1
   refine VC.sr ?_
   refine VO.mv rfl rfl rfl rfl ?_
   refine VO.ma rfl rfl rfl rfl ?_
   refine VO.nil ?_
   refine VC.ret ?_
   exact Exists.intro _ (And.intro (RetV.one Tryz.results70 (ResV.tmp rfl)) (And.intro (⟨l, u, ⟨hl.1, hl.2, by omega⟩, rfl, rfl⟩) ((show k + 200 * q + 200 ≤ k + 1300 by omega))))
  ·have h1 := h1b
   try simp only [qqT, qqF, qqN, qqM, qqL, qqE] at h1
   refine VC.skip ?_
   refine VC.region ?_
   refine VO.val rfl rfl (OpV.add rfl rfl rfl (by unfold fits; omega)) ?_
   refine VO.mv rfl rfl rfl rfl ?_
   refine VO.nil ?_
   exact Exists.intro (⟨q + 1, by omega⟩) (And.intro (Le.mk hB [] ⟨rfl, rfl, rfl, trivial⟩ rfl rfl (show k + 200 * q + 200 ≤ k + 200 * (q + 1) by omega)) (by first | omega | (show _ < _; omega) | (simp only []; omega)))
 ·have aH1 := aH1b
  try simp only [qqT, qqF, qqN, qqM, qqL, qqE] at aH1
  refine VC.exit ?_
  refine VC.sr ?_
  refine VO.ma rfl rfl rfl rfl ?_
  refine VO.nil ?_
  refine VC.le _ (Le.nilRow 8 66) ?_
  refine VC.ret ?_
  exact Exists.intro _ (And.intro (RetV.one Tryz.results70 (ResV.tmp rfl)) (And.intro (⟨[], _, ⟨Nat.zero_le _, (fun x h => absurd h (by simp)), by decide⟩, rfl, rfl⟩) ((show k + 200 * q ≤ k + 1300 by omega))))
end Go.Proofs.YtmahammdnmmmoaaGreatDoor
namespace Go.Proofs.YtmahammdnmmmoaaGreatDoor
open Go.RowKit
set_option linter.unusedVariables false
set_option linter.unusedSimpArgs false

structure PaceS where
 product : ByteArray
 cycle : Int
 needs : List NeedS
instance : Inhabited PaceS := ⟨⟨ByteArray.empty, 0, []⟩⟩
instance : Sxc PaceS where
 k := 3
 pos := by decide
 cell m j := match j with
  | 0 => avS m.product
  | 1 => avI m.cycle
  | 2 => avL m.needs
  | _ => .any
structure OrdrS where
 key : ByteArray
 product : ByteArray
 count : Int
 ready : Int
 due : Int
instance : Inhabited OrdrS := ⟨⟨ByteArray.empty, ByteArray.empty, 0, 0, 0⟩⟩
instance : Sxc OrdrS where
 k := 5
 pos := by decide
 cell m j := match j with
  | 0 => avS m.key
  | 1 => avS m.product
  | 2 => avI m.count
  | 3 => avI m.ready
  | 4 => avI m.due
  | _ => .any
structure WinS where
 fr : Int
 to : Int
instance : Inhabited WinS := ⟨⟨0, 0⟩⟩
instance : Sxc WinS where
 k := 2
 pos := by decide
 cell m j := match j with
  | 0 => avI m.fr
  | 1 => avI m.to
  | _ => .any
abbrev avPc (x : PaceS) : AV := .agg [avS x.product, avI x.cycle, avL x.needs]
structure SmPc (p : List PaceS) : Prop where
 len : p.length ≤ 1000000
 prod : ∀ i, (p.getD i default).product.size ≤ 1000000
 nlen : ∀ i, (p.getD i default).needs.length ≤ 1000000
 nkey : ∀ i j, ((p.getD i default).needs.getD j default).key.size ≤ 1000000
structure SmOr (o : List OrdrS) : Prop where
 len : o.length ≤ 1000000
 key : ∀ i, (o.getD i default).key.size ≤ 1000000
 prod : ∀ i, (o.getD i default).product.size ≤ 1000000
def paceE (p : List PaceS) (i : Nat) : Int :=
 if keyF (p.getD i default).product = false then 5
 else if (decide (0 < i) && sLe (p.getD i default).product (p.getD (i - 1) default).product) = true then 7
 else if outR (p.getD i default).cycle 1 10000000 = true then 1
 else needsF (p.getD i default).needs 1 1000
def paceF (p : List PaceS) : Int := if 200 < p.length then 2 else firstE (paceE p) p.length
def ordrE (o : List OrdrS) (i : Nat) : Int :=
 if (keyF (o.getD i default).key && keyF (o.getD i default).product) = false then 5
 else if (outR (o.getD i default).count 1 100000 || (outR (o.getD i default).ready 0 345686399999 || outR (o.getD i default).due 0 345686399999)) = true then 1
 else if (decide (0 < i) && sLe (o.getD i default).key (o.getD (i - 1) default).key) = true then 7
 else 0
def ordrF (o : List OrdrS) : Int := if 200 < o.length then 2 else firstE (ordrE o) o.length
section
variable {p : List PaceS} {i : Nat}
theorem paceE_5 (h : keyF (p.getD i default).product = false) : paceE p i = 5 := by rw [paceE, if_pos h]
theorem paceE_7 (h : keyF (p.getD i default).product = true) (hi : 0 < i) (hs : sLe (p.getD i default).product (p.getD (i - 1) default).product = true) : paceE p i = 7 := by
 rw [paceE, if_neg (by rw [h]; simp), if_pos (by rw [hs, decide_eq_true hi]; rfl)]
theorem paceE_x (h : keyF (p.getD i default).product = true) (hs : i = 0 ∨ sLe (p.getD i default).product (p.getD (i - 1) default).product = false) :
  paceE p i = if outR (p.getD i default).cycle 1 10000000 = true then 1 else needsF (p.getD i default).needs 1 1000 := by
 rw [paceE, if_neg (by rw [h]; simp), if_neg]
 rcases hs with rfl | hs
 ·simp
 ·rw [hs]; simp
theorem paceE_1 (h : keyF (p.getD i default).product = true) (hs : i = 0 ∨ sLe (p.getD i default).product (p.getD (i - 1) default).product = false) (ho : outR (p.getD i default).cycle 1 10000000 = true) : paceE p i = 1 := by rw [paceE_x h hs, if_pos ho]
theorem paceE_n (h : keyF (p.getD i default).product = true) (hs : i = 0 ∨ sLe (p.getD i default).product (p.getD (i - 1) default).product = false) (ho : outR (p.getD i default).cycle 1 10000000 = false) : paceE p i = needsF (p.getD i default).needs 1 1000 := by rw [paceE_x h hs, if_neg (by rw [ho]; simp)]
theorem paceF_2 (h : 200 < p.length) : paceF p = 2 := by rw [paceF, if_pos h]
theorem paceF_at (h : p.length ≤ 200) {q : Nat} (hq : q < p.length) (hn : ∀ j, j < q → paceE p j = 0) {e : Int} (he : paceE p q = e) (h0 : e ≠ 0) : paceF p = e := by
 rw [paceF, if_neg (by omega), firstE_found hn (by rw [he]; exact h0) hq, he]
theorem paceF_ok (h : p.length ≤ 200) (hn : ∀ j, j < p.length → paceE p j = 0) : paceF p = 0 := by rw [paceF, if_neg (by omega), firstE_none hn]
end
section
variable {o : List OrdrS} {i : Nat}
theorem ordrE_5a (h : keyF (o.getD i default).key = false) : ordrE o i = 5 := by rw [ordrE, if_pos (by rw [h]; rfl)]
theorem ordrE_5b (h : keyF (o.getD i default).product = false) : ordrE o i = 5 := by rw [ordrE, if_pos (by rw [h, Bool.and_false])]
theorem ordrE_1 (h1 : keyF (o.getD i default).key = true) (h2 : keyF (o.getD i default).product = true) (ho : (outR (o.getD i default).count 1 100000 || (outR (o.getD i default).ready 0 345686399999 || outR (o.getD i default).due 0 345686399999)) = true) : ordrE o i = 1 := by
 rw [ordrE, if_neg (by rw [h1, h2]; simp), if_pos ho]
theorem ordrE_7 (h1 : keyF (o.getD i default).key = true) (h2 : keyF (o.getD i default).product = true) (ho : (outR (o.getD i default).count 1 100000 || (outR (o.getD i default).ready 0 345686399999 || outR (o.getD i default).due 0 345686399999)) = false) (hi : 0 < i) (hs : sLe (o.getD i default).key (o.getD (i - 1) default).key = true) : ordrE o i = 7 := by
 rw [ordrE, if_neg (by rw [h1, h2]; simp), if_neg (by rw [ho]; simp), if_pos (by rw [hs, decide_eq_true hi]; rfl)]
theorem ordrE_0 (h1 : keyF (o.getD i default).key = true) (h2 : keyF (o.getD i default).product = true) (ho : (outR (o.getD i default).count 1 100000 || (outR (o.getD i default).ready 0 345686399999 || outR (o.getD i default).due 0 345686399999)) = false) (hs : i = 0 ∨ sLe (o.getD i default).key (o.getD (i - 1) default).key = false) : ordrE o i = 0 := by
 rw [ordrE, if_neg (by rw [h1, h2]; simp), if_neg (by rw [ho]; simp), if_neg]
 rcases hs with rfl | hs
 ·simp
 ·rw [hs]; simp
theorem ordrF_2 (h : 200 < o.length) : ordrF o = 2 := by rw [ordrF, if_pos h]
theorem ordrF_at (h : o.length ≤ 200) {q : Nat} (hq : q < o.length) (hn : ∀ j, j < q → ordrE o j = 0) {e : Int} (he : ordrE o q = e) (h0 : e ≠ 0) : ordrF o = e := by
 rw [ordrF, if_neg (by omega), firstE_found hn (by rw [he]; exact h0) hq, he]
theorem ordrF_ok (h : o.length ≤ 200) (hn : ∀ j, j < o.length → ordrE o j = 0) : ordrF o = 0 := by rw [ordrF, if_neg (by omega), firstE_none hn]
end
def hasP (p : List PaceS) (k : ByteArray) : Bool := p.any fun x => sEq x.product k
def paceO (p : List PaceS) (k : ByteArray) : PaceS := (p.find? fun x => sEq x.product k).getD default
def bothF (p : List PaceS) (o : List OrdrS) : Int :=
 if paceF p ≠ 0 then paceF p else if ordrF o ≠ 0 then ordrF o else if o.all (fun x => hasP p x.product) = true then 0 else 8
theorem bothF_1 {p : List PaceS} {o : List OrdrS} (h : paceF p ≠ 0) : bothF p o = paceF p := by rw [bothF, if_pos h]
theorem bothF_2 {p : List PaceS} {o : List OrdrS} (h : paceF p = 0) (h2 : ordrF o ≠ 0) : bothF p o = ordrF o := by rw [bothF, if_neg (by omega), if_pos h2]
theorem bothF_3 {p : List PaceS} {o : List OrdrS} (h : paceF p = 0) (h2 : ordrF o = 0) : bothF p o = if o.all (fun x => hasP p x.product) = true then 0 else 8 := by rw [bothF, if_neg (by omega), if_neg (by omega)]
theorem bothF_0 {p : List PaceS} {o : List OrdrS} (h : bothF p o = 0) : paceF p = 0 ∧ ordrF o = 0 ∧ o.all (fun x => hasP p x.product) = true := by
 unfold bothF at h
 split at h
 ·contradiction
 ·split at h
  ·contradiction
  ·split at h
   ·rename_i h1 h2 h3; exact ⟨by simpa using h1, by simpa using h2, h3⟩
   ·cases h
structure PacesOk (p : List PaceS) : Prop where
 len : p.length ≤ 200
 all : ∀ j, j < p.length → paceE p j = 0
theorem pacesOk {p : List PaceS} (h : paceF p = 0) : PacesOk p := by
 unfold paceF at h
 split at h
 ·cases h
 ·exact ⟨by omega, firstE_zero h⟩
structure OrdrsOk (o : List OrdrS) : Prop where
 len : o.length ≤ 200
 all : ∀ j, j < o.length → ordrE o j = 0
theorem ordrsOk {o : List OrdrS} (h : ordrF o = 0) : OrdrsOk o := by
 unfold ordrF at h
 split at h
 ·cases h
 ·exact ⟨by omega, firstE_zero h⟩
theorem paceE_zero {p : List PaceS} {i : Nat} (h : paceE p i = 0) : keyF (p.getD i default).product = true ∧ (0 < i → sLe (p.getD i default).product (p.getD (i - 1) default).product = false) ∧ (1 ≤ (p.getD i default).cycle ∧ (p.getD i default).cycle ≤ 10000000) ∧ needsF (p.getD i default).needs 1 1000 = 0 := by
 unfold paceE at h
 split at h
 ·cases h
 ·rename_i h1
  split at h
  ·cases h
  ·rename_i h2
   split at h
   ·cases h
   ·rename_i h3
    refine ⟨by simpa using h1, fun hi => ?_, ?_, h⟩
    ·rw [decide_eq_true hi, Bool.true_and] at h2
     simpa using h2
    ·simp only [outR, Bool.or_eq_true, decide_eq_true_eq, not_or] at h3
     omega
theorem ordrE_zero {o : List OrdrS} {i : Nat} (h : ordrE o i = 0) : (keyF (o.getD i default).key = true ∧ keyF (o.getD i default).product = true) ∧ (0 < i → sLe (o.getD i default).key (o.getD (i - 1) default).key = false) ∧ (1 ≤ (o.getD i default).count ∧ (o.getD i default).count ≤ 100000) ∧ (0 ≤ (o.getD i default).ready ∧ (o.getD i default).ready ≤ 345686399999) ∧ (0 ≤ (o.getD i default).due ∧ (o.getD i default).due ≤ 345686399999) := by
 unfold ordrE at h
 split at h
 ·cases h
 ·rename_i h1
  split at h
  ·cases h
  ·rename_i h2
   split at h
   ·cases h
   ·rename_i h3
    have h1' : (keyF (o.getD i default).key && keyF (o.getD i default).product) = true := by simpa using h1
    rw [Bool.and_eq_true] at h1'
    simp only [outR, Bool.or_eq_true, decide_eq_true_eq, not_or] at h2
    refine ⟨h1', fun hi => ?_, by omega, by omega, by omega⟩
    rw [decide_eq_true hi, Bool.true_and] at h3
    simpa using h3
def chgN (a b : List NeedS) (q : Nat) : Nat := ((b.take q).filter fun x => !(a.any fun y => sEq y.key x.key)).length
theorem chgN_le (a b : List NeedS) (q : Nat) : chgN a b q ≤ b.length := by
 unfold chgN
 have := List.length_filter_le (fun x => !(a.any fun y => sEq y.key x.key)) (b.take q)
 rw [List.length_take] at this
 omega
theorem chgN_t {a b : List NeedS} {q : Nat} (h : q < b.length) (hx : a.any (fun y => sEq y.key (b.getD q default).key) = false) : chgN a b (q + 1) = chgN a b q + 1 := by
 unfold chgN
 rw [List.take_add_one, List.getElem?_eq_getElem h, List.filter_append, List.length_append]
 have : b.getD q default = b[q] := by rw [List.getD_eq_getElem?_getD, List.getElem?_eq_getElem h]; rfl
 rw [this] at hx
 simp [hx]
theorem chgN_f {a b : List NeedS} {q : Nat} (h : q < b.length) (hx : a.any (fun y => sEq y.key (b.getD q default).key) = true) : chgN a b (q + 1) = chgN a b q := by
 unfold chgN
 rw [List.take_add_one, List.getElem?_eq_getElem h, List.filter_append, List.length_append]
 have : b.getD q default = b[q] := by rw [List.getD_eq_getElem?_getD, List.getElem?_eq_getElem h]; rfl
 rw [this] at hx
 simp [hx]
def chgI (a b : PaceS) (each : Int) : Int := each * (chgN a.needs b.needs b.needs.length : Int)
def schF (n : Nat) (l : List Int) : Int := if l.length = n ∧ l.Nodup ∧ (∀ x ∈ l, 0 ≤ x ∧ x < n) then 0 else 3
def startF (start each : Int) : Int := if (outR start 0 345686399999 || outR each 0 10000000) = true then 1 else 0
def scheF (p : List PaceS) (o : List OrdrS) (l : List Int) (start each : Int) : Int :=
 if bothF p o ≠ 0 then bothF p o else if schF o.length l ≠ 0 then schF o.length l else startF start each
def longO (p : List PaceS) (x : OrdrS) : Int := (paceO p x.product).cycle * x.count
def turnO (p : List PaceS) (each : Int) (x y : OrdrS) : Int := chgI (paceO p x.product) (paceO p y.product) each
structure ResS where
 late : Int
 many : Int
 en : Int
section
variable (p : List PaceS) (o : List OrdrS) (l : List Int) (start each : Int)
abbrev orA (i : Int) : OrdrS := o.getD i.toNat default
def endP : Nat → Int
 | 0 => max start (orA o (l.getD 0 0)).ready + longO p (orA o (l.getD 0 0))
 | q + 1 => max (endP q + turnO p each (orA o (l.getD q 0)) (orA o (l.getD (q + 1) 0))) (orA o (l.getD (q + 1) 0)).ready + longO p (orA o (l.getD (q + 1) 0))
def fromP : Nat → Int
 | 0 => max start (orA o (l.getD 0 0)).ready
 | q + 1 => max (endP p o l start each q + turnO p each (orA o (l.getD q 0)) (orA o (l.getD (q + 1) 0))) (orA o (l.getD (q + 1) 0)).ready
def winP (q : Nat) : WinS := ⟨fromP p o l start each q, endP p o l start each q⟩
theorem endP_from (q : Nat) : endP p o l start each q = fromP p o l start each q + longO p (orA o (l.getD q 0)) := by cases q <;> rfl
def resP : Nat → ResS
 | 0 => ⟨0, 0, start⟩
 | q + 1 => if (orA o (l.getD q 0)).due < endP p o l start each q
   then ⟨(resP q).late + (endP p o l start each q - (orA o (l.getD q 0)).due), (resP q).many + 1, endP p o l start each q⟩
   else ⟨(resP q).late, (resP q).many, endP p o l start each q⟩
theorem resP_en (q : Nat) : (resP p o l start each (q + 1)).en = endP p o l start each q := by rw [resP]; split <;> rfl
def timesQ : Nat → List WinS
 | 0 => List.replicate o.length default
 | q + 1 => (timesQ q).set (l.getD q 0).toNat (winP p o l start each q)
theorem timesQ_len (q : Nat) : (timesQ p o l start each q).length = o.length := by
 induction q with
 | zero => simp [timesQ]
 | succ q ih => simp [timesQ, ih]
end
end Go.Proofs.YtmahammdnmmmoaaGreatDoor
namespace Go.Proofs.YtmahammdnmmmoaaGreatDoor
open Go.RowKit
set_option linter.unusedVariables false
set_option linter.unusedSimpArgs false
theorem pace_rise {p : List PaceS} (h : PacesOk p) : RiseK PaceS.product p := fun j h0 hj => (paceE_zero (h.all j hj)).2.1 h0
theorem needsF_lenP {l : List NeedS} {lo hi : Int} (h : needsF l lo hi = 0) : l.length ≤ 1000 := by
 unfold needsF at h
 split at h
 ·cases h
 ·omega
theorem paceO_in {p : List PaceS} {k : ByteArray} (h : hasP p k = true) : ∃ j, j < p.length ∧ paceO p k = p.getD j default := by
 unfold hasP at h
 cases hf : p.find? (fun x => sEq x.product k) with
 | none => rw [List.find?_eq_none] at hf; obtain ⟨x, hx, he⟩ := List.any_eq_true.1 h; exact absurd he (hf x hx)
 | some x =>
  obtain ⟨j, hj, e⟩ := List.getElem_of_mem (List.mem_of_find?_eq_some hf)
  refine ⟨j, hj, ?_⟩
  rw [paceO, hf, List.getD_eq_getElem?_getD, List.getElem?_eq_getElem hj, e]
theorem paceO_ok {p : List PaceS} (hp : PacesOk p) {k : ByteArray} (h : hasP p k = true) : (1 ≤ (paceO p k).cycle ∧ (paceO p k).cycle ≤ 10000000) ∧ (paceO p k).needs.length ≤ 1000 := by
 obtain ⟨j, hj, e⟩ := paceO_in h
 rw [e]
 have := paceE_zero (hp.all j hj)
 exact ⟨this.2.2.1, needsF_lenP this.2.2.2⟩
theorem paceO_sm {p : List PaceS} (hp : SmPc p) (k : ByteArray) : (paceO p k).needs.length ≤ 1000000 ∧ ∀ j, ((paceO p k).needs.getD j default).key.size ≤ 1000000 := by
 by_cases h : hasP p k = true
 ·obtain ⟨j, _, e⟩ := paceO_in h
  rw [e]; exact ⟨hp.nlen j, hp.nkey j⟩
 ·have : paceO p k = default := by
   unfold paceO
   exact find_none' (by simpa [hasP] using h)
  rw [this]
  exact ⟨by simp [default], fun j => by simp [default]⟩
theorem mul_bd {a b A B : Int} (h0 : 0 ≤ a) (h1 : a ≤ A) (h2 : 0 ≤ b) (h3 : b ≤ B) : 0 ≤ a * b ∧ a * b ≤ A * B :=
 ⟨Int.mul_nonneg h0 h2, Int.le_trans (Int.mul_le_mul_of_nonneg_right h1 h2) (Int.mul_le_mul_of_nonneg_left h3 (Int.le_trans h0 h1))⟩
structure OrdrsB (o : List OrdrS) : Prop where
 len : o.length ≤ 201
 all : ∀ j, j < o.length → (1 ≤ (o.getD j default).count ∧ (o.getD j default).count ≤ 100000) ∧ (0 ≤ (o.getD j default).ready ∧ (o.getD j default).ready ≤ 345686399999) ∧ (0 ≤ (o.getD j default).due ∧ (o.getD j default).due ≤ 345686399999)
theorem OrdrsOk.bd {o : List OrdrS} (h : OrdrsOk o) : OrdrsB o := ⟨by have := h.len; omega, fun j hj => (ordrE_zero (h.all j hj)).2.2⟩
structure SchOk (p : List PaceS) (o : List OrdrS) (l : List Int) (start each : Int) : Prop where
 pok : PacesOk p
 ook : OrdrsB o
 has : ∀ j, j < o.length → hasP p (o.getD j default).product = true
 len : l.length = o.length
 ord : Ord o.length l
 st : 0 ≤ start ∧ start ≤ 345686399999
 ea : 0 ≤ each ∧ each ≤ 10000000
theorem bothF_has {p : List PaceS} {o : List OrdrS} (h : bothF p o = 0) : ∀ j, j < o.length → hasP p (o.getD j default).product = true := fun j hj => by
 have := List.all_eq_true.1 (bothF_0 h).2.2 (o[j]) (List.getElem_mem hj)
 rwa [List.getD_eq_getElem?_getD, List.getElem?_eq_getElem hj]
theorem schF_0 {n : Nat} {l : List Int} (h : schF n l = 0) : l.length = n ∧ Ord n l := by
 unfold schF at h
 split at h
 ·rename_i h1; exact ⟨h1.1, h1.2.1, h1.2.2⟩
 ·cases h
theorem startF_0 {s e : Int} (h : startF s e = 0) : (0 ≤ s ∧ s ≤ 345686399999) ∧ (0 ≤ e ∧ e ≤ 10000000) := by
 unfold startF at h
 split at h
 ·cases h
 ·rename_i h1
  simp only [outR, Bool.or_eq_true, decide_eq_true_eq, not_or] at h1
  omega
theorem schOk {p : List PaceS} {o : List OrdrS} {l : List Int} {s e : Int} (h : scheF p o l s e = 0) : SchOk p o l s e := by
 unfold scheF at h
 split at h
 ·contradiction
 ·split at h
  ·contradiction
  ·rename_i h1 h2
   have h1' : bothF p o = 0 := by simpa using h1
   have h2' : schF o.length l = 0 := by simpa using h2
   have h3 := bothF_0 h1'
   have h4 := startF_0 h
   exact ⟨pacesOk h3.1, (ordrsOk h3.2.1).bd, bothF_has h1', (schF_0 h2').1, (schF_0 h2').2, h4.1, h4.2⟩
section
variable {p : List PaceS} {o : List OrdrS} {l : List Int} {start each : Int} (h : SchOk p o l start each)
include h
theorem SchOk.at_ {q : Nat} (hq : q < l.length) : 0 ≤ l.getD q 0 ∧ (l.getD q 0).toNat < o.length := by
 have := h.ord.lt (l[q]) (List.getElem_mem hq)
 rw [List.getD_eq_getElem?_getD, List.getElem?_eq_getElem hq]
 simp only [Option.getD_some]
 omega
theorem SchOk.long {i : Nat} (hi : i < o.length) : 0 ≤ longO p (o.getD i default) ∧ longO p (o.getD i default) ≤ 1000000000000 := by
 have h1 := (paceO_ok h.pok (h.has i hi)).1
 have h2 := (h.ook.all i hi).1
 have := mul_bd (by omega : 0 ≤ (paceO p (o.getD i default).product).cycle) h1.2 (by omega : 0 ≤ (o.getD i default).count) h2.2
 unfold longO
 omega
theorem SchOk.turn {i j : Nat} (hj : j < o.length) : 0 ≤ turnO p each (o.getD i default) (o.getD j default) ∧ turnO p each (o.getD i default) (o.getD j default) ≤ 10000000000 := by
 have h1 := (paceO_ok h.pok (h.has j hj)).2
 have h2 := chgN_le (paceO p (o.getD i default).product).needs (paceO p (o.getD j default).product).needs (paceO p (o.getD j default).product).needs.length
 have := mul_bd h.ea.1 h.ea.2 (by omega : (0 : Int) ≤ (chgN (paceO p (o.getD i default).product).needs (paceO p (o.getD j default).product).needs (paceO p (o.getD j default).product).needs.length : Int)) (by omega : _ ≤ (1000 : Int))
 unfold turnO chgI
 omega
theorem SchOk.bd : ∀ q, q < l.length → (0 ≤ fromP p o l start each q ∧ fromP p o l start each q ≤ endP p o l start each q) ∧ endP p o l start each q ≤ 345686400000 + (q + 1) * 1010000000000
 | 0, hq => by
  have h1 := h.at_ hq
  have h2 := h.long h1.2
  have h3 := (h.ook.all _ h1.2).2.1
  have h4 := h.st
  simp only [fromP, endP, orA]
  omega
 | q + 1, hq => by
  have h1 := h.at_ hq
  have h2 := h.long h1.2
  have h3 := (h.ook.all _ h1.2).2.1
  have h5 := SchOk.bd q (by omega)
  have h6 := h.turn (i := (l.getD q 0).toNat) h1.2
  simp only [fromP, endP, orA]
  omega
theorem SchOk.res : ∀ q, q ≤ l.length → (0 ≤ (resP p o l start each q).late ∧ (resP p o l start each q).late ≤ q * 300000000000000) ∧ (0 ≤ (resP p o l start each q).many ∧ (resP p o l start each q).many ≤ q) ∧ (0 ≤ (resP p o l start each q).en ∧ (resP p o l start each q).en ≤ 300000000000000)
 | 0, hq => by
  have h4 := h.st
  simp only [resP]
  omega
 | q + 1, hq => by
  have h1 := h.at_ (q := q) (by omega)
  have h3 := (h.ook.all _ h1.2).2.2
  have h5 := h.bd q (by omega)
  have h6 := SchOk.res q (by omega)
  have h7 := h.ook.len
  have h8 := h.len
  simp only [resP, orA]
  split
  ·rename_i hd
   simp only
   omega
  ·simp only
   omega
end
def schC (p : List PaceS) (o : List OrdrS) (each : Int) : Nat → AV
 | 0 => avL o
 | 1 => avInts (o.map (longO p))
 | _ => avM (o.map fun x => o.map (turnO p each x))
def schAV (p : List PaceS) (o : List OrdrS) (l : List Int) (start each : Int) : AV := if scheF p o l start each = 0 then .at_ 3 (schC p o each) else .v (.pointer none)
def timesR (p : List PaceS) (o : List OrdrS) (l : List Int) (start each : Int) : List WinS := if scheF p o l start each = 0 then timesQ p o l start each l.length else []
theorem scheF_1 {p : List PaceS} {o : List OrdrS} {l : List Int} {s e : Int} (h : bothF p o ≠ 0) : scheF p o l s e = bothF p o := by rw [scheF, if_pos h]
theorem scheF_2 {p : List PaceS} {o : List OrdrS} {l : List Int} {s e : Int} (h : bothF p o = 0) (h2 : schF o.length l ≠ 0) : scheF p o l s e = schF o.length l := by rw [scheF, if_neg (by omega), if_pos h2]
theorem scheF_3 {p : List PaceS} {o : List OrdrS} {l : List Int} {s e : Int} (h : bothF p o = 0) (h2 : schF o.length l = 0) : scheF p o l s e = startF s e := by rw [scheF, if_neg (by omega), if_neg (by omega)]
theorem schAV_no {p : List PaceS} {o : List OrdrS} {l : List Int} {s e : Int} (h : scheF p o l s e ≠ 0) : schAV p o l s e = .v (.pointer none) := by rw [schAV, if_neg h]
theorem schAV_ok {p : List PaceS} {o : List OrdrS} {l : List Int} {s e : Int} (h : scheF p o l s e = 0) : schAV p o l s e = .at_ 3 (schC p o e) := by rw [schAV, if_pos h]
theorem resP_t {p : List PaceS} {o : List OrdrS} {l : List Int} {s e : Int} {q : Nat} (h : (orA o (l.getD q 0)).due < endP p o l s e q) : resP p o l s e (q + 1) = ⟨(resP p o l s e q).late + (endP p o l s e q - (orA o (l.getD q 0)).due), (resP p o l s e q).many + 1, endP p o l s e q⟩ := by rw [resP, if_pos h]
theorem resP_f {p : List PaceS} {o : List OrdrS} {l : List Int} {s e : Int} {q : Nat} (h : ¬ (orA o (l.getD q 0)).due < endP p o l s e q) : resP p o l s e (q + 1) = ⟨(resP p o l s e q).late, (resP p o l s e q).many, endP p o l s e q⟩ := by rw [resP, if_neg h]
theorem map_getD {α β : Type} (f : α → β) {l : List α} {i : Nat} (h : i < l.length) (d : α) (e : β) : (l.map f).getD i e = f (l.getD i d) := by
 simp [List.getD_eq_getElem?_getD, h]
def runA {τ : Type} (step : τ → Int → WinS → τ) (p : List PaceS) (o : List OrdrS) (l : List Int) (start each : Int) (a : τ) : Nat → τ
 | 0 => a
 | q + 1 => step (runA step p o l start each a q) (l.getD q 0) (winP p o l start each q)
theorem runA_times (p : List PaceS) (o : List OrdrS) (l : List Int) (start each : Int) : ∀ q, runA (fun (a : List WinS) i w => a.set i.toNat w) p o l start each (List.replicate o.length default) q = timesQ p o l start each q
 | 0 => rfl
 | q + 1 => by rw [runA, runA_times p o l start each q]; rfl
def DoesW (n : Nat) {τ : Type} (K : τ → List Ent → Prop) (step : τ → Int → WinS → τ) (P : Program) (F : FuncId) (caps : Array Value) : Prop :=
 ∀ (i : Int) (w : WinS) (a : τ) (h : List Ent), 0 ≤ i → i.toNat < n → K a h →
  SpecH P F ([avI i, .agg [avI w.fr, avI w.to]] ++ caps.toList.map .v) h (fun y hp' => K (step a i w) hp')
theorem map_snoc {α β : Type} {l : List α} {q : Nat} (f : α → β) (h : q < l.length) (d : α) : (l.take (q + 1)).map f = (l.take q).map f ++ [f (l.getD q d)] := by
 rw [List.take_add_one, List.map_append, List.getD_eq_getElem?_getD, List.getElem?_eq_getElem h]; rfl
theorem Ord.take {n : Nat} {l : List Int} {q : Nat} (h : Ord n (l.take q)) (hq : q < l.length) (h0 : 0 ≤ l.getD q 0) (h1 : (l.getD q 0).toNat < n) (h2 : l.getD q 0 ∉ l.take q) : Ord n (l.take (q + 1)) := by
 have := h.snoc h1 (by rwa [Int.toNat_of_nonneg h0])
 rw [Int.toNat_of_nonneg h0] at this
 rw [List.take_add_one, List.getElem?_eq_getElem hq]
 rwa [List.getD_eq_getElem?_getD, List.getElem?_eq_getElem hq] at this
theorem schF_len {n : Nat} {l : List Int} (h : l.length ≠ n) : schF n l = 3 := by rw [schF, if_neg fun e => h e.1]
theorem schF_out {n : Nat} {l : List Int} {q : Nat} (hq : q < l.length) (h : l.getD q 0 < 0 ∨ (n : Int) ≤ l.getD q 0) : schF n l = 3 := by
 rw [schF, if_neg fun e => ?_]
 have := e.2.2 (l[q]) (List.getElem_mem hq)
 rw [List.getD_eq_getElem?_getD, List.getElem?_eq_getElem hq] at h
 simp only [Option.getD_some] at h
 omega
theorem schF_twice {n : Nat} {l : List Int} {q : Nat} (hq : q < l.length) (h : l.getD q 0 ∈ l.take q) : schF n l = 3 := by
 rw [schF, if_neg fun e => ?_]
 rw [List.getD_eq_getElem?_getD, List.getElem?_eq_getElem hq] at h
 simp only [Option.getD_some] at h
 obtain ⟨i, hi, he⟩ := List.getElem_of_mem h
 simp at hi
 rw [List.getElem_take] at he
 have := List.pairwise_iff_getElem.1 e.2.1 i q (by omega) hq (by omega)
 exact this he
theorem schF_ok {n : Nat} {l : List Int} (hl : l.length = n) (h : Ord n l) : schF n l = 0 := by rw [schF, if_pos ⟨hl, h.nd, h.lt⟩]
theorem usedL_take {n : Nat} {l : List Int} {q : Nat} (hq : q < l.length) (h0 : 0 ≤ l.getD q 0) (h1 : (l.getD q 0).toNat < n) : (usedL n (l.take q)).set (l.getD q 0).toNat (avB true) = usedL n (l.take (q + 1)) := by
 rw [usedL_set h1, Int.toNat_of_nonneg h0, List.take_add_one, List.getElem?_eq_getElem hq]
 rw [List.getD_eq_getElem?_getD, List.getElem?_eq_getElem hq]
 rfl
end Go.Proofs.YtmahammdnmmmoaaGreatDoor
namespace Go.Proofs.YtmahammdnmmmoaaGreatDoor
open Go.RowKit
set_option linter.unusedVariables false
set_option linter.unusedSimpArgs false

set_option maxRecDepth 100000 in
theorem line_NeedsFault {l : List NeedS} {lo hi : Int} (hl : l.length ≤ 1000000000) (hb : ∀ i, (l.getD i default).key.size ≤ 1000000000) :
  SpecN Tryz.prog 294 [avL l, avI lo, avI hi] (fun y => y = avI (needsF l lo hi)) := by
 refine SpecN.of_VCN Tryz.func294 rfl Tryz.ntmps294 (Nle rfl) fun w A hB => ?_
 have hnew : True := trivial
 refine VC.sr ?_
 refine VO.ma rfl rfl rfl rfl ?_
 refine VO.nil ?_
 refine VC.seq ?_
 refine VC.sr ?_
 refine VO.mv rfl rfl rfl rfl ?_
 refine VO.val rfl rfl (OpV.len_im rfl Tryz.underlying109 rfl) ?_
 refine VO.val rfl rfl (OpV.gtr rfl rfl rfl) ?_
 refine VO.nil ?_
 refine VC.cond rfl (fun aH1b => ?_) (fun aH1b => ?_)
 ·have aH1 := aH1b
  try simp only [qqT, qqF, qqN, qqM, qqL, qqE] at aH1
  refine VC.sr ?_
  refine VO.ma rfl rfl rfl rfl ?_
  refine VO.nil ?_
  refine VC.ret ?_
  exact Exists.intro _ (And.intro (RetN.one Tryz.results294 (ResN.v rfl)) (by rw [needsF_big (by omega)]))
 ·have aH1 := aH1b
  try simp only [qqT, qqF, qqN, qqM, qqL, qqE] at aH1
  refine VC.skip ?_
  refine VC.seq ?_
  refine VC.sr ?_
  refine VO.mv rfl rfl rfl rfl ?_
  refine VO.val rfl rfl (OpV.len_im rfl Tryz.underlying109 rfl) ?_
  refine VO.mv rfl rfl rfl rfl ?_
  refine VO.nil ?_
  refine VC.block ?_
  refine VC.loopK [] trivial ({q : Nat // q ≤ l.length ∧ ∀ j, j < q → needE l lo hi j = 0}) (fun (iZ : {q : Nat // q ≤ l.length ∧ ∀ j, j < q → needE l lo hi j = 0}) => match iZ with | ⟨q, hq, hn⟩ => [(0, avL l), (1, avI lo), (2, avI hi), (12, avL l), (13, avI l.length), (14, avI (q : Int))]) (fun (iZ : {q : Nat // q ≤ l.length ∧ ∀ j, j < q → needE l lo hi j = 0}) => match iZ with | ⟨q, hq, hn⟩ => []) (fun (iZ : {q : Nat // q ≤ l.length ∧ ∀ j, j < q → needE l lo hi j = 0}) => match iZ with | ⟨q, hq, hn⟩ => 0) (fun (iZ : {q : Nat // q ≤ l.length ∧ ∀ j, j < q → needE l lo hi j = 0}) => match iZ with | ⟨q, hq, hn⟩ => l.length - q) ⟨0, Nat.zero_le _, fun j hj => absurd hj (Nat.not_lt_zero j)⟩ (Le.mk hB [] ⟨rfl, rfl, rfl, rfl, rfl, rfl, trivial⟩ rfl rfl (Nat.le_refl _)) ?_
  rintro ⟨q, hq, hn⟩
  show VC _ _ _ _ ⟨[(0, avL l), (1, avI lo), (2, avI hi), (12, avL l), (13, avI l.length), (14, avI (q : Int))] ++ [], [], 0⟩
  refine VC.sr ?_
  refine VO.val rfl rfl (OpV.lss rfl rfl rfl) ?_
  refine VO.nil ?_
  refine VC.seq ?_
  refine VC.cond rfl (fun aH2b => ?_) (fun aH2b => ?_)
  ·have aH2 := aH2b
   try simp only [qqT, qqF, qqN, qqM, qqL, qqE] at aH2
   refine VC.skip ?_
   refine VC.seq ?_
   refine VC.block ?_
   refine VC.sr ?_
   refine VO.mv rfl rfl rfl rfl ?_
   refine VO.val rfl rfl (OpV.indexAddr_E rfl Tryz.underlying109 Tryz.sizeOf125 rfl rfl rfl (by omega)) ?_
   refine VO.val rfl rfl (OpV.loadK_at rfl hB OutW.no Tryz.isAgg125 Tryz.sizeOf125 rfl rfl) ?_
   refine VO.op rfl (OpE.alloc rfl hB rfl Tryz.zeroValue125 rfl ?_)
   intro g8
   refine VO.ma rfl rfl rfl rfl ?_
   refine VO.op rfl (OpE.store (i := 0) rfl hB rfl Tryz.sizeOf125 rfl rfl rfl rfl rfl rfl (Nle rfl) trivial ?_)
   refine VO.nil ?_
   refine VC.block ?_
   refine VC.sr ?_
   refine VO.val rfl rfl (OpV.fieldAddrO 0 rfl Tryz.underlying125 rfl rfl Tryz.sizeOf9 rfl) ?_
   refine VO.val rfl rfl (OpV.load_own (i := 0) rfl hB Tryz.isAgg9 rfl rfl rfl (fun h => h)) ?_
   refine VO.op rfl (OpE.call rfl hB rfl Tryz.call168 rfl (SpecN.spec (kit_IsKey (hb _))) ?_)
   rintro _ rfl
   refine VO.val rfl rfl (OpV.not rfl rfl) ?_
   refine VO.ma rfl rfl rfl rfl ?_
   refine VO.nil ?_
   refine VC.cond rfl (fun hkb => ?_) (fun hkb => ?_)
   ·have hk := hkb
    try simp only [qqT, qqF, qqN, qqM, qqL, qqE] at hk
    refine VC.sr ?_
    refine VO.ma rfl rfl rfl rfl ?_
    refine VO.nil ?_
    refine VC.ret ?_
    exact Exists.intro _ (And.intro (RetN.one Tryz.results294 (ResN.v rfl)) (by rw [needsF_at (by omega) (by omega) hn (needE_5 hk) (by decide)]))
   ·have hk := hkb
    try simp only [qqT, qqF, qqN, qqM, qqL, qqE] at hk
    refine VC.seq ?_
    refine VC.draw (fun _ => NoB) hB (by kernel_rfl) ?_
    refine VA.take (i := 0) rfl (by kernel_rfl) (by kernel_rfl) (by kernel_rfl) rfl rfl (OpV.move (.inl rfl) rfl) ?_
    refine VA.take (i := 1) rfl (by kernel_rfl) (by kernel_rfl) (by kernel_rfl) rfl rfl (OpV.gtr rfl rfl rfl) ?_
    refine VA.take (i := 2) rfl (by kernel_rfl) (by kernel_rfl) (by kernel_rfl) rfl rfl (OpV.move (.inl rfl) rfl) ?_
    refine VA.split (t := 27) rfl (fun aK3b => ?_) (fun aK3b => ?_)
    ·have aK3 := aK3b
     try simp only [qqT, qqF, qqN, qqM, qqL, qqE] at aK3
     refine VA.takeY (i := 3) rfl (by kernel_rfl) (by kernel_rfl) (by kernel_rfl) rfl rfl rfl rfl aK3b (OpV.fieldAddrO 0 rfl Tryz.underlying125 rfl rfl Tryz.sizeOf9 rfl) ?_
     refine VA.takeY (i := 4) rfl (by kernel_rfl) (by kernel_rfl) (by kernel_rfl) rfl rfl rfl rfl aK3b (OpV.load_own (i := 0) rfl hB Tryz.isAgg9 rfl rfl rfl Wi.not0) ?_
     refine VA.takeY (i := 5) rfl (by kernel_rfl) (by kernel_rfl) (by kernel_rfl) rfl rfl rfl rfl aK3b (OpV.move (.inl rfl) rfl) ?_
     refine VA.takeY (i := 6) rfl (by kernel_rfl) (by kernel_rfl) (by kernel_rfl) rfl rfl rfl rfl aK3b (OpV.move (.inl rfl) rfl) ?_
     refine VA.takeY (i := 7) rfl (by kernel_rfl) (by kernel_rfl) (by kernel_rfl) rfl rfl rfl rfl aK3b (OpV.sub rfl rfl rfl (by unfold fits; omega)) ?_
     refine VA.takeY (i := 8) rfl (by kernel_rfl) (by kernel_rfl) (by kernel_rfl) rfl rfl rfl rfl aK3b (OpV.indexAddr_E rfl Tryz.underlying109 Tryz.sizeOf125 rfl rfl (show ((q : Int) - 1) = ((q - 1 : Nat) : Int) by omega) (by omega)) ?_
     refine VA.takeY (i := 9) rfl (by kernel_rfl) (by kernel_rfl) (by kernel_rfl) rfl rfl rfl rfl aK3b (OpV.fieldAddr_atO 0 rfl Tryz.underlying125 rfl rfl Tryz.sizeOf9 rfl rfl) ?_
     refine VA.takeY (i := 10) rfl (by kernel_rfl) (by kernel_rfl) (by kernel_rfl) rfl rfl rfl rfl aK3b (OpV.load_at rfl hB OutW.wi0 Tryz.isAgg9 rfl rfl) ?_
     refine VA.takeY (i := 11) rfl (by kernel_rfl) (by kernel_rfl) (by kernel_rfl) rfl rfl rfl rfl aK3b (OpV.sleq rfl rfl rfl) ?_
     refine VA.take (i := 12) rfl (by kernel_rfl) (by kernel_rfl) (by kernel_rfl) rfl rfl (OpV.pickT rfl rfl rfl rfl aK3b) ?_
     refine VA.take (i := 13) rfl (by kernel_rfl) (by kernel_rfl) (by kernel_rfl) rfl rfl (OpV.move (.inr rfl) rfl) ?_
     refine VA.done (by kernel_rfl) ?_
     refine VC.cond rfl (fun hsb => ?_) (fun hsb => ?_)
     ·have hs := hsb
      try simp only [qqT, qqF, qqN, qqM, qqL, qqE] at hs
      refine VC.sr ?_
      refine VO.ma rfl rfl rfl rfl ?_
      refine VO.nil ?_
      refine VC.ret ?_
      exact Exists.intro _ (And.intro (RetN.one Tryz.results294 (ResN.v rfl)) (by rw [needsF_at (by omega) (by omega) hn (needE_7 hk (by omega) hs) (by decide)]))
     ·have hs := hsb
      try simp only [qqT, qqF, qqN, qqM, qqL, qqE] at hs
      refine VC.sr ?_
      refine VO.val rfl rfl (OpV.fieldAddrO 1 rfl Tryz.underlying125 rfl rfl Tryz.sizeOf3 rfl) ?_
      refine VO.val rfl rfl (OpV.load_own (i := 0) rfl hB Tryz.isAgg3 rfl rfl rfl (fun h => h)) ?_
      refine VO.mv rfl rfl rfl rfl ?_
      refine VO.mv rfl rfl rfl rfl ?_
      refine VO.op rfl (OpE.call rfl hB rfl Tryz.call171 rfl (SpecN.spec (kit_Outside)) ?_)
      rintro _ rfl
      refine VO.ma rfl rfl rfl rfl ?_
      refine VO.nil ?_
      refine VC.cond rfl (fun hob => ?_) (fun hob => ?_)
      ·have ho := hob
       try simp only [qqT, qqF, qqN, qqM, qqL, qqE] at ho
       refine VC.sr ?_
       refine VO.ma rfl rfl rfl rfl ?_
       refine VO.nil ?_
       refine VC.ret ?_
       exact Exists.intro _ (And.intro (RetN.one Tryz.results294 (ResN.v rfl)) (by first | rw [needsF_at (by omega) (by omega) hn (needE_1 hk (.inr hs) ho) (by decide)] | rw [needsF_at (by omega) (by omega) hn (needE_1 hk (.inl (by omega)) ho) (by decide)]))
      ·have ho := hob
       try simp only [qqT, qqF, qqN, qqM, qqL, qqE] at ho
       refine VC.skip ?_
       refine VC.region ?_
       refine VO.val rfl rfl (OpV.add rfl rfl rfl (by unfold fits; omega)) ?_
       refine VO.mv rfl rfl rfl rfl ?_
       refine VO.nil ?_
       exact Exists.intro (⟨q + 1, by omega, lt_succ_cases hn (needE_0 hk (.inr hs) ho)⟩) (And.intro (Le.mk hB [] ⟨rfl, rfl, rfl, rfl, rfl, rfl, trivial⟩ rfl rfl (Nat.le_refl _)) (by first | omega | (show _ < _; omega) | (simp only []; omega)))
    ·have aK3 := aK3b
     try simp only [qqT, qqF, qqN, qqM, qqL, qqE] at aK3
     refine VA.takeX (i := 3) rfl (by kernel_rfl) (by kernel_rfl) (by kernel_rfl) rfl rfl rfl rfl aK3b ?_
     refine VA.takeX (i := 4) rfl (by kernel_rfl) (by kernel_rfl) (by kernel_rfl) rfl rfl rfl rfl aK3b ?_
     refine VA.takeX (i := 5) rfl (by kernel_rfl) (by kernel_rfl) (by kernel_rfl) rfl rfl rfl rfl aK3b ?_
     refine VA.takeX (i := 6) rfl (by kernel_rfl) (by kernel_rfl) (by kernel_rfl) rfl rfl rfl rfl aK3b ?_
     refine VA.takeX (i := 7) rfl (by kernel_rfl) (by kernel_rfl) (by kernel_rfl) rfl rfl rfl rfl aK3b ?_
     refine VA.takeX (i := 8) rfl (by kernel_rfl) (by kernel_rfl) (by kernel_rfl) rfl rfl rfl rfl aK3b ?_
     refine VA.takeX (i := 9) rfl (by kernel_rfl) (by kernel_rfl) (by kernel_rfl) rfl rfl rfl rfl aK3b ?_
     refine VA.takeX (i := 10) rfl (by kernel_rfl) (by kernel_rfl) (by kernel_rfl) rfl rfl rfl rfl aK3b ?_
     refine VA.takeX (i := 11) rfl (by kernel_rfl) (by kernel_rfl) (by kernel_rfl) rfl rfl rfl rfl aK3b ?_
     refine VA.take (i := 12) rfl (by kernel_rfl) (by kernel_rfl) (by kernel_rfl) rfl rfl (OpV.pickF rfl rfl rfl rfl aK3b) ?_
     refine VA.take (i := 13) rfl (by kernel_rfl) (by kernel_rfl) (by kernel_rfl) rfl rfl (OpV.move (.inr rfl) rfl) ?_
     refine VA.done (by kernel_rfl) ?_
     refine VC.condF rfl rfl ?_
     refine VC.sr ?_
     refine VO.val rfl rfl (OpV.fieldAddrO 1 rfl Tryz.underlying125 rfl rfl Tryz.sizeOf3 rfl) ?_
     refine VO.val rfl rfl (OpV.load_own (i := 0) rfl hB Tryz.isAgg3 rfl rfl rfl (fun h => h)) ?_
     refine VO.mv rfl rfl rfl rfl ?_
     refine VO.mv rfl rfl rfl rfl ?_
     refine VO.op rfl (OpE.call rfl hB rfl Tryz.call171 rfl (SpecN.spec (kit_Outside)) ?_)
     rintro _ rfl
     refine VO.ma rfl rfl rfl rfl ?_
     refine VO.nil ?_
     refine VC.cond rfl (fun hob => ?_) (fun hob => ?_)
     ·have ho := hob
      try simp only [qqT, qqF, qqN, qqM, qqL, qqE] at ho
      refine VC.sr ?_
      refine VO.ma rfl rfl rfl rfl ?_
      refine VO.nil ?_
      refine VC.ret ?_
      exact Exists.intro _ (And.intro (RetN.one Tryz.results294 (ResN.v rfl)) (by first | rw [needsF_at (by omega) (by omega) hn (needE_1 hk (.inr hs) ho) (by decide)] | rw [needsF_at (by omega) (by omega) hn (needE_1 hk (.inl (by omega)) ho) (by decide)]))
     ·have ho := hob
      try simp only [qqT, qqF, qqN, qqM, qqL, qqE] at ho
      refine VC.skip ?_
      refine VC.region ?_
      refine VO.val rfl rfl (OpV.add rfl rfl rfl (by unfold fits; omega)) ?_
      refine VO.mv rfl rfl rfl rfl ?_
      refine VO.nil ?_
      exact Exists.intro (⟨q + 1, by omega, lt_succ_cases hn (needE_0 hk (.inl (by omega)) ho)⟩) (And.intro (Le.mk hB [] ⟨rfl, rfl, rfl, rfl, rfl, rfl, trivial⟩ rfl rfl (Nat.le_refl _)) (by first | omega | (show _ < _; omega) | (simp only []; omega)))
  ·have aH2 := aH2b
   try simp only [qqT, qqF, qqN, qqM, qqL, qqE] at aH2
   refine VC.exit ?_
   refine VC.sr ?_
   refine VO.ma rfl rfl rfl rfl ?_
   refine VO.nil ?_
   refine VC.ret ?_
   exact Exists.intro _ (And.intro (RetN.one Tryz.results294 (ResN.v rfl)) (by rw [needsF_ok (by omega) (fun j hj => hn j (by omega))]))
set_option maxRecDepth 100000 in
theorem line_CheckNeeds {l : List NeedS} (hl : l.length ≤ 1000000000) (hb : ∀ i, (l.getD i default).key.size ≤ 1000000000) :
  SpecN Tryz.prog 209 [avL l] (fun y => y = avI (needsF l 1 1000)) := by
 refine SpecN.of_VCN Tryz.func209 rfl Tryz.ntmps209 (Nle rfl) fun w A hB => ?_
 have hnew : True := trivial
 refine VC.sr ?_
 refine VO.ma rfl rfl rfl rfl ?_
 refine VO.nil ?_
 refine VC.sr ?_
 refine VO.mv rfl rfl rfl rfl ?_
 refine VO.op rfl (OpE.call rfl hB rfl Tryz.call294 rfl (SpecN.spec (line_NeedsFault hl hb)) ?_)
 rintro _ rfl
 refine VO.ma rfl rfl rfl rfl ?_
 refine VO.nil ?_
 refine VC.ret ?_
 exact Exists.intro _ (And.intro (RetN.one Tryz.results209 (ResN.v rfl)) (rfl))






end Go.Proofs.YtmahammdnmmmoaaGreatDoor
