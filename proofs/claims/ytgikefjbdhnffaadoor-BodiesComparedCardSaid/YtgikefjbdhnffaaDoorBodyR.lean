/- Walks: the reference's crowded placements and those beyond an edge. -/
import Derived.Test.YtgikefjbdhnffaaDoorBodyS3
import Derived.Test.YtgikefjbdhnffaaDoorStrOrd
namespace Go.Proofs.YtgikefjbdhnffaaDoor
open Go.RowKit
set_option linter.unusedVariables false
set_option linter.unusedSimpArgs false
theorem body_sort {b : List BodyS} (h : bodiesF b = 0) : ∀ i j, i < j → j < b.length → sLt (b.getD i default).part (b.getD j default).part = true := fun i j hij hj => by
  have step : ∀ j, 0 < j → j < b.length → sLt (b.getD (j - 1) default).part (b.getD j default).part = true := fun j h0 hj => by
    have := (bodyE_zero ((bodOk h).all j hj)).2
    rcases this with h1 | h1
    · omega
    · exact sLt_of_not h1
  induction j with
  | zero => omega
  | succ j ih =>
    have hs := step (j + 1) (by omega) hj
    rw [Nat.add_sub_cancel] at hs
    by_cases hij' : i = j
    · subst hij'; exact hs
    · exact sLt_trans (ih (by omega) (by omega)) hs
theorem sEq_iff {p q : ByteArray} : sEq p q = true ↔ p = q := sEq_eq
theorem body_ne {b : List BodyS} (h : bodiesF b = 0) {i j : Nat} (hij : i < j) (hj : j < b.length) : (b.getD j default).part ≠ (b.getD i default).part := fun e => by
  have := body_sort h i j hij hj
  rw [e, sLt_irr] at this; cases this
theorem bodM_none {b : List BodyS} {k : ByteArray} : ∀ q, q ≤ b.length → (∀ j, j < q → (b.getD j default).part ≠ k) → mget (bodM (b.take q)) k = none
  | 0, _, _ => by simp [bodM, mget]
  | q + 1, hq, h => by
    rw [bodM_take (by omega), mget_mput, if_neg (fun e => h q (by omega) e.symm), bodM_none q (by omega) fun j hj => h j (by omega)]
theorem bodM_some {b : List BodyS} {k : ByteArray} {i : Nat} (hk : (b.getD i default).part = k) : ∀ q, i < q → q ≤ b.length → (∀ j, i < j → j < q → (b.getD j default).part ≠ k) → mget (bodM (b.take q)) k = some (b.getD i default)
  | 0, h, _, _ => by omega
  | q + 1, h, hq, hn => by
    rw [bodM_take (by omega), mget_mput]
    by_cases e : i = q
    · subst e; rw [if_pos hk.symm]
    · rw [if_neg (fun e' => hn q (by omega) (by omega) e'.symm)]
      exact bodM_some hk q (by omega) (by omega) fun j h1 h2 => hn j h1 (by omega)
theorem bodM_fidx {b : List BodyS} (h : bodiesF b = 0) (k : ByteArray) : mget (bodM b) k = if fidx (fun o : BodyS => sEq o.part k) b < 0 then none else some (b.getD (fidx (fun o : BodyS => sEq o.part k) b).toNat default) := by
  have ht : bodM b = bodM (b.take b.length) := by rw [List.take_length]
  split
  · rename_i h1
    rw [ht]
    refine bodM_none _ (Nat.le_refl _) fun j hj e => ?_
    have : b.any (fun o => sEq o.part k) = true := by
      rw [List.any_eq_true]
      exact ⟨_, getD_mem hj default, sEq_iff.2 e⟩
    rw [← fidx_any] at this
    have := of_decide_eq_true this
    omega
  · rename_i h1
    obtain ⟨k1, k2, k3⟩ := fidx_at (d := default) (p := fun o : BodyS => sEq o.part k) (xs := b) (by omega)
    rw [ht]
    exact bodM_some (sEq_iff.1 k2) _ k1 (Nat.le_refl _) fun j h2 h3 e => body_ne h h2 h3 (e.trans (sEq_iff.1 k2).symm)
def bxR (b : List BodyS) (c : PlaceS) : LyS := (lyO b c).getD ⟨c.name, 0, 0, 0, 0⟩
abbrev avPl (c : PlaceS) : AV := .agg [avS c.name, avS c.part, avI c.x, avI c.y, avI c.quarter]
abbrev avBx (x : LyS) : AV := .agg [avI x.left, avI x.lower, avI x.right, avI x.high]
theorem lyO_none {b : List BodyS} (h : bodiesF b = 0) {c : PlaceS} {f : Int} (hf : fidx (fun o : BodyS => sEq o.part c.part) b = f) (h1 : f < 0) : lyO b c = none := by
  unfold lyO; rw [bodM_fidx h, hf, if_pos h1]; rfl
theorem lyO_some {b : List BodyS} (h : bodiesF b = 0) {c : PlaceS} {i : Nat} (hf : fidx (fun o : BodyS => sEq o.part c.part) b = (i : Int)) : lyO b c = some (lyOf c (b.getD i default)) ∧ i < b.length := by
  have h2 := fidx_at (d := default) (p := fun o : BodyS => sEq o.part c.part) (xs := b) (by omega)
  rw [hf] at h2
  refine ⟨?_, by have := h2.1; omega⟩
  unfold lyO; rw [bodM_fidx h, hf, if_neg (by omega)]; simp
set_option maxRecDepth 100000 in
theorem slices_IndexFunc_body {xs : List BodyS} {F : FuncId} {cs : List AV} {p : BodyS → Bool} (hl : xs.length ≤ 1000000000) (hcall : ∀ us w, (callFunc F us).run Tryd.prog w = .ok (.enter F us) w) (hF : ∀ x, Spec Tryd.prog F ([avT x] ++ cs) (fun y => y = avB (p x))) :
    SpecN Tryd.prog 77 [avL xs, .fn F cs] (fun y => y = avI (fidx p xs)) := by
  refine SpecN.of_VCN Tryd.func77 rfl Tryd.ntmps77 (Nat.le_of_ble_eq_true rfl) fun w A hB => ?_
  have hnew : True := trivial
  refine VC.seq ?_
  refine VC.region ?_
  refine VO.val rfl rfl (OpV.move (.inr rfl) rfl) ?_
  refine VO.nil ?_
  show VC _ _ _ _ _
  refine VC.seq ?_
  refine VC.seq ?_
  refine VC.region ?_
  refine VO.val rfl rfl (OpV.move (.inl rfl) rfl) ?_
  first
    | refine VO.val rfl rfl (OpV.len_im rfl Tryd.underlying64 rfl) ?_
    | refine VO.val rfl rfl (OpV.len_v rfl Tryd.underlying64 rfl) ?_
  refine VO.val rfl rfl (OpV.move (.inl rfl) rfl) ?_
  refine VO.nil ?_
  show VC _ _ _ _ _
  refine VC.block ?_
  refine VC.loopK [(0, _), (1, _), (7, _)] ⟨rfl, rfl, rfl, trivial⟩ ({q : Nat // q ≤ xs.length ∧ ∀ j, j < q → p (xs.getD j default) = false}) (fun (i : {q : Nat // q ≤ xs.length ∧ ∀ j, j < q → p (xs.getD j default) = false}) => match i with | ⟨q, hq, hn⟩ => [(8, avI (q : Int))]) (fun (i : {q : Nat // q ≤ xs.length ∧ ∀ j, j < q → p (xs.getD j default) = false}) => match i with | ⟨q, hq, hn⟩ => []) (fun (i : {q : Nat // q ≤ xs.length ∧ ∀ j, j < q → p (xs.getD j default) = false}) => match i with | ⟨q, hq, hn⟩ => 0) (fun (i : {q : Nat // q ≤ xs.length ∧ ∀ j, j < q → p (xs.getD j default) = false}) => match i with | ⟨q, hq, hn⟩ => xs.length - q) ⟨0, Nat.zero_le _, fun j hj => absurd hj (Nat.not_lt_zero j)⟩ (Le.mk hB [] ⟨rfl, rfl, rfl, rfl, trivial⟩ rfl rfl (Nat.le_refl _)) ?_
  rintro ⟨q, hq, hn⟩
  show VC _ _ _ _ ⟨[(8, avI (q : Int))] ++ [(0, _), (1, _), (7, _)], [], 0⟩
  refine VC.seq ?_
  refine VC.region ?_
  refine VO.val rfl rfl (OpV.lss rfl rfl rfl) ?_
  refine VO.nil ?_
  show VC _ _ _ _ _
  refine VC.seq ?_
  refine VC.cond rfl (fun aH1b => ?_) (fun aH1b => ?_)
  · have aH1 := aH1b
    try simp only [decide_eq_true_eq, decide_eq_false_iff_not, Bool.not_eq_true', Bool.not_eq_false', Int.not_lt, Int.not_le] at aH1
    refine VC.skip ?_
    show VC _ _ _ _ _
    refine VC.seq ?_
    refine VC.block ?_
    refine VC.seq ?_
    refine VC.region ?_
    refine VO.val rfl rfl (OpV.move (.inl rfl) rfl) ?_
    refine VO.val rfl rfl (OpV.move (.inr rfl) rfl) ?_
    refine VO.nil ?_
    show VC _ _ _ _ _
    refine VC.seq ?_
    refine VC.region ?_
    refine VO.val rfl rfl (OpV.move (.inl rfl) rfl) ?_
    refine VO.val rfl rfl (OpV.move (.inl rfl) rfl) ?_
    refine VO.val rfl rfl (OpV.move (.inl rfl) rfl) ?_
    first
      | refine VO.val rfl rfl (OpV.indexAddr_E rfl Tryd.underlying64 Tryd.sizeOf117 rfl rfl rfl (by omega)) ?_
      | refine VO.val rfl rfl (OpV.indexAddr_E rfl Tryd.underlying64 Tryd.sizeOf117 rfl rfl (Int.toNat_of_nonneg (by omega)).symm (by omega)) ?_
      | refine VO.val rfl rfl (OpV.indexAddr_q rfl Tryd.underlying64 Tryd.sizeOf117 rfl rfl rfl (by omega)) ?_
      | refine VO.val rfl rfl (OpV.indexAddr_q rfl Tryd.underlying64 Tryd.sizeOf117 rfl rfl (Int.toNat_of_nonneg (by omega)).symm (by omega)) ?_
      | refine VO.val rfl rfl (OpV.indexAddr_im rfl Tryd.underlying64 Tryd.sizeOf117 rfl rfl (by omega) (by omega)) ?_
    refine VO.val rfl rfl (OpV.loadK_at rfl hB OutW.no Tryd.isAgg117 Tryd.sizeOf117 rfl rfl) ?_
    refine VO.op rfl (OpE.callF rfl hB rfl hcall rfl rfl (hF _) ?_)
    rintro _ rfl
    refine VO.nil ?_
    show VC _ _ _ _ _
    refine VC.cond rfl (fun aH2b => ?_) (fun aH2b => ?_)
    · have aH2 := aH2b
      try simp only [decide_eq_true_eq, decide_eq_false_iff_not, Bool.not_eq_true', Bool.not_eq_false', Int.not_lt, Int.not_le] at aH2
      refine VC.seq ?_
      refine VC.region ?_
      refine VO.val rfl rfl (OpV.move (.inl rfl) rfl) ?_
      refine VO.val rfl rfl (OpV.move (.inr rfl) rfl) ?_
      refine VO.nil ?_
      show VC _ _ _ _ _
      refine VC.ret ?_
      exact Exists.intro _ (And.intro (RetN.one Tryd.results77 (ResN.v rfl)) (by first | (rw [fidx_found (d := default) (q := q) (by omega) hn (by assumption)]) | (rw [fidx_none (d := default) (fun j hj => hn j (by omega))])))
    · have aH2 := aH2b
      try simp only [decide_eq_true_eq, decide_eq_false_iff_not, Bool.not_eq_true', Bool.not_eq_false', Int.not_lt, Int.not_le] at aH2
      refine VC.skip ?_
      show VC _ _ _ _ _
      refine VC.region ?_
      refine VO.val rfl rfl (OpV.add rfl rfl rfl (by unfold fits; omega)) ?_
      refine VO.val rfl rfl (OpV.move (.inl rfl) rfl) ?_
      refine VO.nil ?_
      exact Exists.intro (⟨q + 1, by omega, lt_succ_cases hn (by assumption)⟩) (And.intro (Le.mk hB [] ⟨rfl, rfl, rfl, rfl, trivial⟩ rfl rfl (Nat.le_refl _)) (by first | omega | (show _ < _; omega) | (simp only []; omega)))
  · have aH1 := aH1b
    try simp only [decide_eq_true_eq, decide_eq_false_iff_not, Bool.not_eq_true', Bool.not_eq_false', Int.not_lt, Int.not_le] at aH1
    refine VC.exit ?_
    show VC _ _ _ _ _
    refine VC.seq ?_
    refine VC.region ?_
    refine VO.val rfl rfl (OpV.move (.inr rfl) rfl) ?_
    refine VO.nil ?_
    show VC _ _ _ _ _
    refine VC.ret ?_
    exact Exists.intro _ (And.intro (RetN.one Tryd.results77 (ResN.v rfl)) (by first | (rw [fidx_found (d := default) (q := q) (by omega) hn (by assumption)]) | (rw [fidx_none (d := default) (fun j hj => hn j (by omega))])))
set_option maxRecDepth 100000 in
theorem rf_bodyBox1 {c : PlaceS} {o : BodyS}  :
    SpecN Tryd.prog 78 [avT o, .at_ 5 (Sxc.cell c)] (fun y => y = avB (sEq o.part c.part)) := by
  refine SpecN.of_VCN Tryd.func78 rfl Tryd.ntmps78 (Nat.le_of_ble_eq_true rfl) fun w A hB => ?_
  have hnew : True := trivial
  refine VC.seq ?_
  refine VC.region ?_
  refine VO.op rfl (OpE.box rfl hB rfl rfl rfl ?_)
  intro g2
  refine VO.val rfl rfl (OpV.move (.inr rfl) rfl) ?_
  refine VO.nil ?_
  show VC _ _ _ _ _
  refine VC.seq ?_
  refine VC.region ?_
  first
    | refine VO.val rfl rfl (OpV.fieldAddr_atO 0 rfl Tryd.underlying117 rfl rfl Tryd.sizeOf9 rfl rfl) ?_
    | refine VO.val rfl rfl (OpV.fieldAddrO 0 rfl Tryd.underlying117 rfl rfl Tryd.sizeOf9 rfl) ?_
  refine VO.val rfl rfl (OpV.load_own (i := 0) rfl hB Tryd.isAgg9 rfl rfl rfl (fun h => h)) ?_
  first
    | refine VO.val rfl rfl (OpV.fieldAddr_atO 1 rfl Tryd.underlying100 rfl rfl Tryd.sizeOf9 rfl rfl) ?_
    | refine VO.val rfl rfl (OpV.fieldAddrO 1 rfl Tryd.underlying100 rfl rfl Tryd.sizeOf9 rfl) ?_
  first
    | refine VO.val rfl rfl (OpV.load_at rfl hB OutW.no Tryd.isAgg9 rfl rfl) ?_
    | refine VO.val rfl rfl (OpV.load_own (i := 0) rfl hB Tryd.isAgg9 rfl rfl rfl (fun h => h)) ?_
  refine VO.val rfl rfl (OpV.seql rfl rfl rfl) ?_
  refine VO.val rfl rfl (OpV.move (.inr rfl) rfl) ?_
  refine VO.nil ?_
  show VC _ _ _ _ _
  refine VC.ret ?_
  exact Exists.intro _ (And.intro (RetN.one Tryd.results78 (ResN.v rfl)) (rfl))
set_option maxRecDepth 100000 in
set_option maxHeartbeats 4000000 in
theorem rf_bodyBox {b : List BodyS} {c : PlaceS} (hb : SmB b) (hb0 : bodiesF b = 0) (hc : (0 ≤ c.x ∧ c.x ≤ 500000) ∧ (0 ≤ c.y ∧ c.y ≤ 500000) ∧ (0 ≤ c.quarter ∧ c.quarter ≤ 3)) :
    SpecN Tryd.prog 63 [avL b, avPl c] (fun y => y = .tup [avBx (bxR b c), avB (lyO b c).isSome]) := by
  refine SpecN.of_VCN Tryd.func63 rfl Tryd.ntmps63 (Nat.le_of_ble_eq_true rfl) fun w A hB => ?_
  have hnew : True := trivial
  refine VC.seq ?_
  refine VC.region ?_
  refine VO.op rfl (OpE.box rfl hB rfl rfl rfl ?_)
  intro g3
  refine VO.op rfl (OpE.alloc rfl hB rfl Tryd.zeroValue112 rfl ?_)
  intro g4
  refine VO.val rfl rfl (OpV.move (.inr rfl) rfl) ?_
  refine VO.nil ?_
  show VC _ _ _ _ _
  refine VC.seq ?_
  have hl := hb.len
  obtain ⟨f, hf⟩ : ∃ f, fidx (fun o : BodyS => sEq o.part c.part) b = f := ⟨_, rfl⟩
  have hI := slices_IndexFunc_body (xs := b) (F := 78) (cs := [.at_ 5 (Sxc.cell c)]) (p := fun o : BodyS => sEq o.part c.part) (by omega) Tryd.call78 (fun x => rf_bodyBox1.spec)
  rw [hf] at hI
  refine VC.region ?_
  refine VO.val rfl rfl (OpV.move (.inl rfl) rfl) ?_
  refine VO.val rfl rfl (OpV.makeFunc1 rfl rfl) ?_
  refine VO.op rfl (OpE.callL rfl hB rfl Tryd.call77 (hI) (ArgsP.cons (ArgP.ev rfl) (ArgsP.cons (ArgP.fn1 (i := 0) (m := 5) (f := Sxc.cell c) rfl rfl (Nat.le_of_ble_eq_true rfl) (lt5 rfl rfl rfl rfl rfl)) (ArgsP.nil))) ?_)
  rintro _ rfl
  refine VO.val rfl rfl (OpV.move (.inr rfl) rfl) ?_
  refine VO.nil ?_
  show VC _ _ _ _ _
  refine VC.seq ?_
  refine VC.seq ?_
  refine VC.region ?_
  refine VO.val rfl rfl (OpV.move (.inl rfl) rfl) ?_
  refine VO.val rfl rfl (OpV.lss rfl rfl rfl) ?_
  refine VO.nil ?_
  show VC _ _ _ _ _
  refine VC.cond rfl (fun h0b => ?_) (fun h0b => ?_)
  · have h0 := h0b
    try simp only [decide_eq_true_eq, decide_eq_false_iff_not, Bool.not_eq_true', Bool.not_eq_false', Int.not_lt, Int.not_le] at h0
    have hly := lyO_none hb0 hf h0
    refine VC.seq ?_
    refine VC.region ?_
    refine VO.val rfl rfl (OpV.build (pls := #[(0, 1), (1, 1), (2, 1), (3, 1)]) rfl Tryd.zeroValue112 Tryd.underlying112 (fun w => by kernel_rfl) rfl rfl) ?_
    refine VO.op rfl (OpE.store (i := 1) rfl hB rfl Tryd.sizeOf112 rfl rfl rfl rfl rfl rfl (Nat.le_of_ble_eq_true rfl) trivial ?_)
    refine VO.val rfl rfl (OpV.move (.inr rfl) rfl) ?_
    refine VO.nil ?_
    show VC _ _ _ _ _
    refine VC.ret ?_
    exact Exists.intro _ (And.intro (RetN.two Tryd.results63 ((by first | exact ResN.cellF (i := 0) Tryd.isAgg112 Tryd.sizeOf112 rfl rfl rfl (flat_ofB rfl) | exact ResN.cellF (i := 1) Tryd.isAgg112 Tryd.sizeOf112 rfl rfl rfl (flat_ofB rfl))) (ResN.v rfl)) (by rw [bxR, hly]; rfl))
  · have h0 := h0b
    try simp only [decide_eq_true_eq, decide_eq_false_iff_not, Bool.not_eq_true', Bool.not_eq_false', Int.not_lt, Int.not_le] at h0
    obtain ⟨i, rfl⟩ : ∃ i : Nat, f = i := ⟨f.toNat, by omega⟩
    obtain ⟨hly, hil⟩ := lyO_some hb0 hf
    have hbd := body_bd hb0 (getD_mem hil default)
    have hwh := bWH_bd (q := c.quarter) hbd
    have h9 := Int.tmod_eq_emod_of_nonneg (a := c.quarter) (b := 2) (by omega)
    refine VC.skip ?_
    show VC _ _ _ _ _
    refine VC.seq ?_
    refine VC.draw (fun _ => NoB) hB (by kernel_rfl) ?_
    refine VA.take (i := 0) rfl (by kernel_rfl) (by kernel_rfl) (by kernel_rfl) rfl rfl (OpV.move (.inl rfl) rfl) ?_
    refine VA.take (i := 1) rfl (by kernel_rfl) (by kernel_rfl) (by kernel_rfl) rfl rfl (OpV.move (.inl rfl) rfl) ?_
    first
      | refine VA.take (i := 2) rfl (by kernel_rfl) (by kernel_rfl) (by kernel_rfl) rfl rfl (OpV.indexAddr_E rfl Tryd.underlying64 Tryd.sizeOf117 rfl rfl rfl (by omega)) ?_
      | refine VA.take (i := 2) rfl (by kernel_rfl) (by kernel_rfl) (by kernel_rfl) rfl rfl (OpV.indexAddr_E rfl Tryd.underlying64 Tryd.sizeOf117 rfl rfl (Int.toNat_of_nonneg (by omega)).symm (by omega)) ?_
      | refine VA.take (i := 2) rfl (by kernel_rfl) (by kernel_rfl) (by kernel_rfl) rfl rfl (OpV.indexAddr_q rfl Tryd.underlying64 Tryd.sizeOf117 rfl rfl rfl (by omega)) ?_
      | refine VA.take (i := 2) rfl (by kernel_rfl) (by kernel_rfl) (by kernel_rfl) rfl rfl (OpV.indexAddr_q rfl Tryd.underlying64 Tryd.sizeOf117 rfl rfl (Int.toNat_of_nonneg (by omega)).symm (by omega)) ?_
      | refine VA.take (i := 2) rfl (by kernel_rfl) (by kernel_rfl) (by kernel_rfl) rfl rfl (OpV.indexAddr_im rfl Tryd.underlying64 Tryd.sizeOf117 rfl rfl (by omega) (by omega)) ?_
    first
      | refine VA.take (i := 3) rfl (by kernel_rfl) (by kernel_rfl) (by kernel_rfl) rfl rfl (OpV.fieldAddr_atO 1 rfl Tryd.underlying117 rfl rfl Tryd.sizeOf3 rfl rfl) ?_
      | refine VA.take (i := 3) rfl (by kernel_rfl) (by kernel_rfl) (by kernel_rfl) rfl rfl (OpV.fieldAddrO 1 rfl Tryd.underlying117 rfl rfl Tryd.sizeOf3 rfl) ?_
    first
      | refine VA.take (i := 4) rfl (by kernel_rfl) (by kernel_rfl) (by kernel_rfl) rfl rfl (OpV.load_at rfl hB OutW.wi0 Tryd.isAgg3 rfl rfl) ?_
      | refine VA.take (i := 4) rfl (by kernel_rfl) (by kernel_rfl) (by kernel_rfl) rfl rfl (OpV.load_own (i := 0) rfl hB Tryd.isAgg3 rfl rfl rfl Wi.not0) ?_
      | refine VA.take (i := 4) rfl (by kernel_rfl) (by kernel_rfl) (by kernel_rfl) rfl rfl (OpV.load_own (i := 1) rfl hB Tryd.isAgg3 rfl rfl rfl Wi.not0) ?_
    refine VA.take (i := 5) rfl (by kernel_rfl) (by kernel_rfl) (by kernel_rfl) rfl rfl (OpV.move (.inl rfl) rfl) ?_
    refine VA.take (i := 6) rfl (by kernel_rfl) (by kernel_rfl) (by kernel_rfl) rfl rfl (OpV.move (.inl rfl) rfl) ?_
    first
      | refine VA.take (i := 7) rfl (by kernel_rfl) (by kernel_rfl) (by kernel_rfl) rfl rfl (OpV.indexAddr_E rfl Tryd.underlying64 Tryd.sizeOf117 rfl rfl rfl (by omega)) ?_
      | refine VA.take (i := 7) rfl (by kernel_rfl) (by kernel_rfl) (by kernel_rfl) rfl rfl (OpV.indexAddr_E rfl Tryd.underlying64 Tryd.sizeOf117 rfl rfl (Int.toNat_of_nonneg (by omega)).symm (by omega)) ?_
      | refine VA.take (i := 7) rfl (by kernel_rfl) (by kernel_rfl) (by kernel_rfl) rfl rfl (OpV.indexAddr_q rfl Tryd.underlying64 Tryd.sizeOf117 rfl rfl rfl (by omega)) ?_
      | refine VA.take (i := 7) rfl (by kernel_rfl) (by kernel_rfl) (by kernel_rfl) rfl rfl (OpV.indexAddr_q rfl Tryd.underlying64 Tryd.sizeOf117 rfl rfl (Int.toNat_of_nonneg (by omega)).symm (by omega)) ?_
      | refine VA.take (i := 7) rfl (by kernel_rfl) (by kernel_rfl) (by kernel_rfl) rfl rfl (OpV.indexAddr_im rfl Tryd.underlying64 Tryd.sizeOf117 rfl rfl (by omega) (by omega)) ?_
    first
      | refine VA.take (i := 8) rfl (by kernel_rfl) (by kernel_rfl) (by kernel_rfl) rfl rfl (OpV.fieldAddr_atO 2 rfl Tryd.underlying117 rfl rfl Tryd.sizeOf3 rfl rfl) ?_
      | refine VA.take (i := 8) rfl (by kernel_rfl) (by kernel_rfl) (by kernel_rfl) rfl rfl (OpV.fieldAddrO 2 rfl Tryd.underlying117 rfl rfl Tryd.sizeOf3 rfl) ?_
    first
      | refine VA.take (i := 9) rfl (by kernel_rfl) (by kernel_rfl) (by kernel_rfl) rfl rfl (OpV.load_at rfl hB OutW.wi0 Tryd.isAgg3 rfl rfl) ?_
      | refine VA.take (i := 9) rfl (by kernel_rfl) (by kernel_rfl) (by kernel_rfl) rfl rfl (OpV.load_own (i := 0) rfl hB Tryd.isAgg3 rfl rfl rfl Wi.not0) ?_
      | refine VA.take (i := 9) rfl (by kernel_rfl) (by kernel_rfl) (by kernel_rfl) rfl rfl (OpV.load_own (i := 1) rfl hB Tryd.isAgg3 rfl rfl rfl Wi.not0) ?_
    refine VA.take (i := 10) rfl (by kernel_rfl) (by kernel_rfl) (by kernel_rfl) rfl rfl (OpV.move (.inr rfl) rfl) ?_
    refine VA.take (i := 11) rfl (by kernel_rfl) (by kernel_rfl) (by kernel_rfl) rfl rfl (OpV.move (.inr rfl) rfl) ?_
    refine VA.done (by kernel_rfl) ?_
    show VC _ _ _ _ _
    refine VC.seq ?_
    refine VC.seq ?_
    refine VC.region ?_
    first
      | refine VO.val rfl rfl (OpV.fieldAddr_atO 4 rfl Tryd.underlying100 rfl rfl Tryd.sizeOf3 rfl rfl) ?_
      | refine VO.val rfl rfl (OpV.fieldAddrO 4 rfl Tryd.underlying100 rfl rfl Tryd.sizeOf3 rfl) ?_
    refine VO.val rfl rfl (OpV.load_own (i := 0) rfl hB Tryd.isAgg3 rfl rfl rfl (fun h => h)) ?_
    refine VO.val rfl rfl (OpV.rem rfl rfl rfl (by omega) (by unfold fits; omega)) ?_
    refine VO.val rfl rfl (OpV.eql rfl rfl rfl) ?_
    refine VO.nil ?_
    show VC _ _ _ _ _
    refine VC.cond rfl (fun h6b => ?_) (fun h6b => ?_)
    · have h6 := h6b
      try simp only [decide_eq_true_eq, decide_eq_false_iff_not, Bool.not_eq_true', Bool.not_eq_false', Int.not_lt, Int.not_le] at h6
      refine VC.region ?_
      refine VO.val rfl rfl (OpV.move (.inl rfl) rfl) ?_
      refine VO.val rfl rfl (OpV.move (.inl rfl) rfl) ?_
      refine VO.val rfl rfl (OpV.move (.inr rfl) rfl) ?_
      refine VO.val rfl rfl (OpV.move (.inr rfl) rfl) ?_
      refine VO.nil ?_
      show VC _ _ _ _ _
      refine VC.seq ?_
      first
        | refine VC.le _ (Le.recast (t := 7) (y := avI (bW c.quarter (b.getD i default))) rfl (fun w Z u h => by rw [bW, if_pos h6]; exact h)) ?_
        | refine VC.le _ (Le.recast (t := 7) (y := avI (bW c.quarter (b.getD i default))) rfl (fun w Z u h => by rw [bW, if_neg h6]; exact h)) ?_
      first
        | refine VC.le _ (Le.recast (t := 8) (y := avI (bH c.quarter (b.getD i default))) rfl (fun w Z u h => by rw [bH, if_pos h6]; exact h)) ?_
        | refine VC.le _ (Le.recast (t := 8) (y := avI (bH c.quarter (b.getD i default))) rfl (fun w Z u h => by rw [bH, if_neg h6]; exact h)) ?_
      refine VC.region ?_
      first
        | refine VO.val rfl rfl (OpV.fieldAddr_atO 2 rfl Tryd.underlying100 rfl rfl Tryd.sizeOf3 rfl rfl) ?_
        | refine VO.val rfl rfl (OpV.fieldAddrO 2 rfl Tryd.underlying100 rfl rfl Tryd.sizeOf3 rfl) ?_
      refine VO.val rfl rfl (OpV.load_own (i := 0) rfl hB Tryd.isAgg3 rfl rfl rfl (fun h => h)) ?_
      refine VO.val rfl rfl (OpV.mul rfl rfl rfl (by unfold fits; omega)) ?_
      refine VO.val rfl rfl (OpV.move (.inl rfl) rfl) ?_
      refine VO.val rfl rfl (OpV.sub rfl rfl rfl (by unfold fits; omega)) ?_
      first
        | refine VO.val rfl rfl (OpV.fieldAddr_atO 3 rfl Tryd.underlying100 rfl rfl Tryd.sizeOf3 rfl rfl) ?_
        | refine VO.val rfl rfl (OpV.fieldAddrO 3 rfl Tryd.underlying100 rfl rfl Tryd.sizeOf3 rfl) ?_
      refine VO.val rfl rfl (OpV.load_own (i := 0) rfl hB Tryd.isAgg3 rfl rfl rfl (fun h => h)) ?_
      refine VO.val rfl rfl (OpV.mul rfl rfl rfl (by unfold fits; omega)) ?_
      refine VO.val rfl rfl (OpV.move (.inl rfl) rfl) ?_
      refine VO.val rfl rfl (OpV.sub rfl rfl rfl (by unfold fits; omega)) ?_
      first
        | refine VO.val rfl rfl (OpV.fieldAddr_atO 2 rfl Tryd.underlying100 rfl rfl Tryd.sizeOf3 rfl rfl) ?_
        | refine VO.val rfl rfl (OpV.fieldAddrO 2 rfl Tryd.underlying100 rfl rfl Tryd.sizeOf3 rfl) ?_
      refine VO.val rfl rfl (OpV.load_own (i := 0) rfl hB Tryd.isAgg3 rfl rfl rfl (fun h => h)) ?_
      refine VO.val rfl rfl (OpV.mul rfl rfl rfl (by unfold fits; omega)) ?_
      refine VO.val rfl rfl (OpV.move (.inl rfl) rfl) ?_
      refine VO.val rfl rfl (OpV.add rfl rfl rfl (by unfold fits; omega)) ?_
      first
        | refine VO.val rfl rfl (OpV.fieldAddr_atO 3 rfl Tryd.underlying100 rfl rfl Tryd.sizeOf3 rfl rfl) ?_
        | refine VO.val rfl rfl (OpV.fieldAddrO 3 rfl Tryd.underlying100 rfl rfl Tryd.sizeOf3 rfl) ?_
      refine VO.val rfl rfl (OpV.load_own (i := 0) rfl hB Tryd.isAgg3 rfl rfl rfl (fun h => h)) ?_
      refine VO.val rfl rfl (OpV.mul rfl rfl rfl (by unfold fits; omega)) ?_
      refine VO.val rfl rfl (OpV.move (.inl rfl) rfl) ?_
      refine VO.val rfl rfl (OpV.add rfl rfl rfl (by unfold fits; omega)) ?_
      refine VO.val rfl rfl (OpV.build (pls := #[(0, 1), (1, 1), (2, 1), (3, 1)]) rfl Tryd.zeroValue112 Tryd.underlying112 (fun w => by kernel_rfl) rfl rfl) ?_
      refine VO.op rfl (OpE.store (i := 1) rfl hB rfl Tryd.sizeOf112 rfl rfl rfl rfl rfl rfl (Nat.le_of_ble_eq_true rfl) trivial ?_)
      refine VO.val rfl rfl (OpV.move (.inr rfl) rfl) ?_
      refine VO.nil ?_
      show VC _ _ _ _ _
      refine VC.ret ?_
      exact Exists.intro _ (And.intro (RetN.two Tryd.results63 ((by first | exact ResN.cellF (i := 0) Tryd.isAgg112 Tryd.sizeOf112 rfl rfl rfl (flat_ofB rfl) | exact ResN.cellF (i := 1) Tryd.isAgg112 Tryd.sizeOf112 rfl rfl rfl (flat_ofB rfl))) (ResN.v rfl)) (by rw [bxR, hly]; rfl))
    · have h6 := h6b
      try simp only [decide_eq_true_eq, decide_eq_false_iff_not, Bool.not_eq_true', Bool.not_eq_false', Int.not_lt, Int.not_le] at h6
      refine VC.skip ?_
      show VC _ _ _ _ _
      refine VC.seq ?_
      first
        | refine VC.le _ (Le.recast (t := 7) (y := avI (bW c.quarter (b.getD i default))) rfl (fun w Z u h => by rw [bW, if_pos h6]; exact h)) ?_
        | refine VC.le _ (Le.recast (t := 7) (y := avI (bW c.quarter (b.getD i default))) rfl (fun w Z u h => by rw [bW, if_neg h6]; exact h)) ?_
      first
        | refine VC.le _ (Le.recast (t := 8) (y := avI (bH c.quarter (b.getD i default))) rfl (fun w Z u h => by rw [bH, if_pos h6]; exact h)) ?_
        | refine VC.le _ (Le.recast (t := 8) (y := avI (bH c.quarter (b.getD i default))) rfl (fun w Z u h => by rw [bH, if_neg h6]; exact h)) ?_
      refine VC.region ?_
      first
        | refine VO.val rfl rfl (OpV.fieldAddr_atO 2 rfl Tryd.underlying100 rfl rfl Tryd.sizeOf3 rfl rfl) ?_
        | refine VO.val rfl rfl (OpV.fieldAddrO 2 rfl Tryd.underlying100 rfl rfl Tryd.sizeOf3 rfl) ?_
      refine VO.val rfl rfl (OpV.load_own (i := 0) rfl hB Tryd.isAgg3 rfl rfl rfl (fun h => h)) ?_
      refine VO.val rfl rfl (OpV.mul rfl rfl rfl (by unfold fits; omega)) ?_
      refine VO.val rfl rfl (OpV.move (.inl rfl) rfl) ?_
      refine VO.val rfl rfl (OpV.sub rfl rfl rfl (by unfold fits; omega)) ?_
      first
        | refine VO.val rfl rfl (OpV.fieldAddr_atO 3 rfl Tryd.underlying100 rfl rfl Tryd.sizeOf3 rfl rfl) ?_
        | refine VO.val rfl rfl (OpV.fieldAddrO 3 rfl Tryd.underlying100 rfl rfl Tryd.sizeOf3 rfl) ?_
      refine VO.val rfl rfl (OpV.load_own (i := 0) rfl hB Tryd.isAgg3 rfl rfl rfl (fun h => h)) ?_
      refine VO.val rfl rfl (OpV.mul rfl rfl rfl (by unfold fits; omega)) ?_
      refine VO.val rfl rfl (OpV.move (.inl rfl) rfl) ?_
      refine VO.val rfl rfl (OpV.sub rfl rfl rfl (by unfold fits; omega)) ?_
      first
        | refine VO.val rfl rfl (OpV.fieldAddr_atO 2 rfl Tryd.underlying100 rfl rfl Tryd.sizeOf3 rfl rfl) ?_
        | refine VO.val rfl rfl (OpV.fieldAddrO 2 rfl Tryd.underlying100 rfl rfl Tryd.sizeOf3 rfl) ?_
      refine VO.val rfl rfl (OpV.load_own (i := 0) rfl hB Tryd.isAgg3 rfl rfl rfl (fun h => h)) ?_
      refine VO.val rfl rfl (OpV.mul rfl rfl rfl (by unfold fits; omega)) ?_
      refine VO.val rfl rfl (OpV.move (.inl rfl) rfl) ?_
      refine VO.val rfl rfl (OpV.add rfl rfl rfl (by unfold fits; omega)) ?_
      first
        | refine VO.val rfl rfl (OpV.fieldAddr_atO 3 rfl Tryd.underlying100 rfl rfl Tryd.sizeOf3 rfl rfl) ?_
        | refine VO.val rfl rfl (OpV.fieldAddrO 3 rfl Tryd.underlying100 rfl rfl Tryd.sizeOf3 rfl) ?_
      refine VO.val rfl rfl (OpV.load_own (i := 0) rfl hB Tryd.isAgg3 rfl rfl rfl (fun h => h)) ?_
      refine VO.val rfl rfl (OpV.mul rfl rfl rfl (by unfold fits; omega)) ?_
      refine VO.val rfl rfl (OpV.move (.inl rfl) rfl) ?_
      refine VO.val rfl rfl (OpV.add rfl rfl rfl (by unfold fits; omega)) ?_
      refine VO.val rfl rfl (OpV.build (pls := #[(0, 1), (1, 1), (2, 1), (3, 1)]) rfl Tryd.zeroValue112 Tryd.underlying112 (fun w => by kernel_rfl) rfl rfl) ?_
      refine VO.op rfl (OpE.store (i := 1) rfl hB rfl Tryd.sizeOf112 rfl rfl rfl rfl rfl rfl (Nat.le_of_ble_eq_true rfl) trivial ?_)
      refine VO.val rfl rfl (OpV.move (.inr rfl) rfl) ?_
      refine VO.nil ?_
      show VC _ _ _ _ _
      refine VC.ret ?_
      exact Exists.intro _ (And.intro (RetN.two Tryd.results63 ((by first | exact ResN.cellF (i := 0) Tryd.isAgg112 Tryd.sizeOf112 rfl rfl rfl (flat_ofB rfl) | exact ResN.cellF (i := 1) Tryd.isAgg112 Tryd.sizeOf112 rfl rfl rfl (flat_ofB rfl))) (ResN.v rfl)) (by rw [bxR, hly]; rfl))
set_option maxRecDepth 100000 in
theorem rf_apart {a b c d : Int} (h1 : -9000000 ≤ a ∧ a ≤ 9000000) (h2 : -9000000 ≤ b ∧ b ≤ 9000000) (h3 : -9000000 ≤ c ∧ c ≤ 9000000) (h4 : -9000000 ≤ d ∧ d ≤ 9000000) :
    SpecN Tryd.prog 64 [avI a, avI b, avI c, avI d] (fun y => y = avI (max (c - b) (a - d))) := by
  refine SpecN.of_VCN Tryd.func64 rfl Tryd.ntmps64 (Nat.le_of_ble_eq_true rfl) fun w A hB => ?_
  have hnew : True := trivial
  refine VC.seq ?_
  refine VC.region ?_
  refine VO.val rfl rfl (OpV.move (.inr rfl) rfl) ?_
  refine VO.nil ?_
  show VC _ _ _ _ _
  refine VC.seq ?_
  refine VC.region ?_
  refine VO.val rfl rfl (OpV.move (.inl rfl) rfl) ?_
  refine VO.val rfl rfl (OpV.move (.inl rfl) rfl) ?_
  refine VO.val rfl rfl (OpV.sub rfl rfl rfl (by unfold fits; omega)) ?_
  refine VO.val rfl rfl (OpV.move (.inl rfl) rfl) ?_
  refine VO.val rfl rfl (OpV.move (.inl rfl) rfl) ?_
  refine VO.val rfl rfl (OpV.sub rfl rfl rfl (by unfold fits; omega)) ?_
  refine VO.val rfl rfl (OpV.max2 rfl rfl rfl) ?_
  refine VO.val rfl rfl (OpV.move (.inr rfl) rfl) ?_
  refine VO.nil ?_
  show VC _ _ _ _ _
  refine VC.ret ?_
  exact Exists.intro _ (And.intro (RetN.one Tryd.results64 (ResN.v rfl)) (rfl))
end Go.Proofs.YtgikefjbdhnffaaDoor
