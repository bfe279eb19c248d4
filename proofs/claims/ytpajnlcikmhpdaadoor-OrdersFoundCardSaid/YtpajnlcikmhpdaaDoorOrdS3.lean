/- Walks: the reference's best order; the order by the rule of thumb. -/
import Derived.Test.YtpajnlcikmhpdaaDoorOrdS2
namespace Go.Proofs.YtpajnlcikmhpdaaDoor
open Go.RowKit
set_option linter.unusedVariables false
set_option linter.unusedSimpArgs false

theorem smss_nil : SmSS [] := ⟨by simp, fun i => by simp only [List.getD_nil]; exact SmS.nil⟩
theorem pickP_take {p : List (List ByteArray)} {o : List Int} {q : Nat} (h : q < o.length) : pickP p (o.take q) ++ [p.getD (o.getD q 0).toNat default] = pickP p (o.take (q + 1)) := by
  rw [take_succ_getD (d := 0) h, pickP, pickP, List.map_append]; rfl
abbrev bestO2 (s : List ByteArray) (p : List (List ByteArray)) (To Ti Tm Ts : TypeId) (gp gs gle gb : Nat) (ub : Value) (b : List Int) (least : Int) : List Ent :=
  [.box gp ⟨[avM p], Tm, 1⟩, .box gs ⟨[avStrs s], Ts, 1⟩, .box gle ⟨[avI least], Ti, 1⟩, .box gb ⟨[.v ub], To, 1⟩, .row ub b.length 1 (intsL b) Ti]
set_option maxRecDepth 100000 in
theorem rf_BestOf1 {s : List ByteArray} {p : List (List ByteArray)} {o : List Int} {c : Nat} {u ub : Value} {b : List Int} {least : Int} {gp gs gle gb : Nat} (hg : Good' s) (hp : ∀ q, q < p.length → RightP s.length (p.getD q default)) (hps : SmSS p) (hl8 : p.length ≤ 8) (ho : Ord p.length o) (hoc : o.length = c) (hcn : c = p.length) :
    SpecH Tryd.prog 63 [.v u, pt gp, pt gs, pt gle, pt gb] (.row u c 1 (intsL o) 3 :: bestO2 s p 22 3 30 27 gp gs gle gb ub b least) (fun y hp' => ∃ ub', hp' = .row u c 1 (intsL o) 3 :: bestO2 s p 22 3 30 27 gp gs gle gb ub' (stepR s p ⟨b, least⟩ o).best (stepR s p ⟨b, least⟩ o).least) := by
  have hls := hg.len
  refine SpecH.of_VC Tryd.func63 rfl Tryd.ntmps63 (Nat.le_of_ble_eq_true rfl) fun w A hB => ?_
  have hnew : True := trivial
  refine VC.seq ?_
  refine VC.region ?_
  refine VO.val rfl rfl (OpV.move (.inr rfl) rfl) ?_
  refine VO.nil ?_
  show VC _ _ _ _ _
  refine VC.seq ?_
  refine VC.seq ?_
  refine VC.region ?_
  refine VO.val rfl rfl (OpV.move (.inl rfl) rfl) ?_
  first
    | refine VO.val rfl rfl (OpV.len_im rfl Tryd.underlying22 rfl) ?_
    | refine VO.val rfl rfl (OpV.len_v rfl Tryd.underlying22 rfl) ?_
    | refine VO.val rfl rfl (OpV.len_row (i := 0) rfl Tryd.underlying22 rfl rfl) ?_
    | refine VO.val rfl rfl (OpV.len_row (i := 1) rfl Tryd.underlying22 rfl rfl) ?_
    | refine VO.val rfl rfl (OpV.len_row (i := 2) rfl Tryd.underlying22 rfl rfl) ?_
    | refine VO.val rfl rfl (OpV.len_row (i := 3) rfl Tryd.underlying22 rfl rfl) ?_
    | refine VO.val rfl rfl (OpV.len_row (i := 4) rfl Tryd.underlying22 rfl rfl) ?_
    | refine VO.val rfl rfl (OpV.len_row (i := 5) rfl Tryd.underlying22 rfl rfl) ?_
  refine VO.val rfl rfl (OpV.move (.inl rfl) rfl) ?_
  refine VO.nil ?_
  show VC _ _ _ _ _
  refine VC.block ?_
  refine VC.le _ (Le.nilRow 1 27) ?_
  refine VC.loopK [(0, _), (1, _), (2, _), (3, _), (4, _), (10, _), (11, _)] ⟨rfl, rfl, rfl, rfl, rfl, rfl, rfl, trivial⟩ ({zz : Value × Nat // zz.2 ≤ c}) (fun (i : {zz : Value × Nat // zz.2 ≤ c}) => match i with | ⟨⟨uq, q⟩, hq⟩ => [(6, .v uq), (12, avI (q : Int))]) (fun (i : {zz : Value × Nat // zz.2 ≤ c}) => match i with | ⟨⟨uq, q⟩, hq⟩ => [.row u c 1 (intsL o) 3, .box gp ⟨[avM p], 30, 1⟩, .box gs ⟨[avStrs s], 27, 1⟩, .box gle ⟨[avI least], 3, 1⟩, .box gb ⟨[.v ub], 22, 1⟩, .row ub b.length 1 (intsL b) 3, .row uq q 1 (listM (pickP p (o.take q))) 27]) (fun (i : {zz : Value × Nat // zz.2 ≤ c}) => match i with | ⟨⟨uq, q⟩, hq⟩ => 0) (fun (i : {zz : Value × Nat // zz.2 ≤ c}) => match i with | ⟨⟨uq, q⟩, hq⟩ => c - q) ⟨(.slice none 0 0, 0), Nat.zero_le _⟩ (Le.mk hB [0, 1, 2, 3, 4, 5, 6] ⟨rfl, rfl, rfl, rfl, rfl, rfl, rfl, rfl, rfl, trivial⟩ rfl rfl (Nat.le_refl _)) ?_
  rintro ⟨⟨uq, q⟩, hq⟩
  show VC _ _ _ _ ⟨[(6, .v uq), (12, avI (q : Int))] ++ [(0, _), (1, _), (2, _), (3, _), (4, _), (10, _), (11, _)], [.row u c 1 (intsL o) 3, .box gp ⟨[avM p], 30, 1⟩, .box gs ⟨[avStrs s], 27, 1⟩, .box gle ⟨[avI least], 3, 1⟩, .box gb ⟨[.v ub], 22, 1⟩, .row ub b.length 1 (intsL b) 3, .row uq q 1 (listM (pickP p (o.take q))) 27], 0⟩
  simp only at hq
  refine VC.seq ?_
  refine VC.region ?_
  refine VO.val rfl rfl (OpV.lss rfl rfl rfl) ?_
  refine VO.nil ?_
  show VC _ _ _ _ _
  refine VC.seq ?_
  refine VC.cond rfl (fun aH1b => ?_) (fun aH1b => ?_)
  · have aH1 := aH1b
    try simp only [decide_eq_true_eq, decide_eq_false_iff_not, Bool.not_eq_true', Bool.not_eq_false', Int.not_lt, Int.not_le] at aH1
    have hoq := ho.lt (o.getD q 0) (by simp [show q < o.length by omega])
    refine VC.asBox (i := 0) rfl (by omega) (fun g cap hu hcap hmx => ?_)
    subst hu
    refine VC.skip ?_
    show VC _ _ _ _ _
    refine VC.seq ?_
    refine VC.block ?_
    refine VC.seq ?_
    refine VC.region ?_
    first
      | refine VO.val rfl rfl (OpV.indexAddr_1 rfl Tryd.underlying22 Tryd.sizeOf3 rfl rfl rfl (by omega)) ?_
      | refine VO.val rfl rfl (OpV.indexAddr_1 rfl Tryd.underlying22 Tryd.sizeOf3 rfl rfl (Int.toNat_of_nonneg (by omega)).symm (by omega)) ?_
      | refine VO.val rfl rfl (OpV.indexAddr_o rfl Tryd.underlying22 Tryd.sizeOf3 rfl rfl rfl (by omega)) ?_
      | refine VO.val rfl rfl (OpV.indexAddr_o rfl Tryd.underlying22 Tryd.sizeOf3 rfl rfl (Int.toNat_of_nonneg (by omega)).symm (by omega)) ?_
      | refine VO.val rfl rfl (OpV.indexAddr_q rfl Tryd.underlying22 Tryd.sizeOf3 rfl rfl rfl (by omega)) ?_
      | refine VO.val rfl rfl (OpV.indexAddr_q rfl Tryd.underlying22 Tryd.sizeOf3 rfl rfl (Int.toNat_of_nonneg (by omega)).symm (by omega)) ?_
      | refine VO.val rfl rfl (OpV.indexAddr_im rfl Tryd.underlying22 Tryd.sizeOf3 rfl rfl (by omega) (by omega)) ?_
    first
      | refine VO.val rfl rfl (OpV.load_at rfl hB OutW.no Tryd.isAgg3 rfl rfl) ?_
      | refine VO.val rfl rfl (OpV.load_own (i := 0) rfl hB Tryd.isAgg3 rfl rfl (intsL_get (j := q) (by omega)) (fun h => h)) ?_
      | refine VO.val rfl rfl (OpV.load_own (i := 1) rfl hB Tryd.isAgg3 rfl rfl (intsL_get (j := q) (by omega)) (fun h => h)) ?_
      | refine VO.val rfl rfl (OpV.load_own (i := 2) rfl hB Tryd.isAgg3 rfl rfl (intsL_get (j := q) (by omega)) (fun h => h)) ?_
      | refine VO.val rfl rfl (OpV.load_own (i := 3) rfl hB Tryd.isAgg3 rfl rfl (intsL_get (j := q) (by omega)) (fun h => h)) ?_
      | refine VO.val rfl rfl (OpV.load_own (i := 4) rfl hB Tryd.isAgg3 rfl rfl (intsL_get (j := q) (by omega)) (fun h => h)) ?_
      | refine VO.val rfl rfl (OpV.load_own (i := 5) rfl hB Tryd.isAgg3 rfl rfl (intsL_get (j := q) (by omega)) (fun h => h)) ?_
      | refine VO.val rfl rfl (OpV.load_own (i := 6) rfl hB Tryd.isAgg3 rfl rfl (intsL_get (j := q) (by omega)) (fun h => h)) ?_
    refine VO.val rfl rfl (OpV.move (.inr rfl) rfl) ?_
    refine VO.nil ?_
    show VC _ _ _ _ _
    refine VC.region ?_
    refine VO.val rfl rfl (OpV.move (.inl rfl) rfl) ?_
    first
      | refine VO.val rfl rfl (OpV.load_at rfl hB OutW.no Tryd.isAgg30 rfl rfl) ?_
      | refine VO.val rfl rfl (OpV.load_own (i := 0) rfl hB Tryd.isAgg30 rfl rfl rfl (fun h => h)) ?_
      | refine VO.val rfl rfl (OpV.load_own (i := 1) rfl hB Tryd.isAgg30 rfl rfl rfl (fun h => h)) ?_
      | refine VO.val rfl rfl (OpV.load_own (i := 2) rfl hB Tryd.isAgg30 rfl rfl rfl (fun h => h)) ?_
      | refine VO.val rfl rfl (OpV.load_own (i := 3) rfl hB Tryd.isAgg30 rfl rfl rfl (fun h => h)) ?_
      | refine VO.val rfl rfl (OpV.load_own (i := 4) rfl hB Tryd.isAgg30 rfl rfl rfl (fun h => h)) ?_
      | refine VO.val rfl rfl (OpV.load_own (i := 5) rfl hB Tryd.isAgg30 rfl rfl rfl (fun h => h)) ?_
      | refine VO.val rfl rfl (OpV.load_own (i := 6) rfl hB Tryd.isAgg30 rfl rfl rfl (fun h => h)) ?_
    refine VO.val rfl rfl (OpV.move (.inl rfl) rfl) ?_
    first
      | refine VO.val rfl rfl (OpV.indexAddr_1 rfl Tryd.underlying30 Tryd.sizeOf27 rfl rfl (Int.toNat_of_nonneg hoq.1).symm (by omega)) ?_
      | refine VO.val rfl rfl (OpV.indexAddr_o rfl Tryd.underlying30 Tryd.sizeOf27 rfl rfl (Int.toNat_of_nonneg hoq.1).symm (by omega)) ?_
      | refine VO.val rfl rfl (OpV.indexAddr_q rfl Tryd.underlying30 Tryd.sizeOf27 rfl rfl (Int.toNat_of_nonneg hoq.1).symm (by omega)) ?_
      | refine VO.val rfl rfl (OpV.indexAddr_im rfl Tryd.underlying30 Tryd.sizeOf27 rfl rfl (by omega) (by omega)) ?_
    first
      | refine VO.val rfl rfl (OpV.load_at rfl hB OutW.no Tryd.isAgg27 rfl rfl) ?_
      | refine VO.val rfl rfl (OpV.load_own (i := 0) rfl hB Tryd.isAgg27 rfl rfl rfl (fun h => h)) ?_
      | refine VO.val rfl rfl (OpV.load_own (i := 1) rfl hB Tryd.isAgg27 rfl rfl rfl (fun h => h)) ?_
      | refine VO.val rfl rfl (OpV.load_own (i := 2) rfl hB Tryd.isAgg27 rfl rfl rfl (fun h => h)) ?_
      | refine VO.val rfl rfl (OpV.load_own (i := 3) rfl hB Tryd.isAgg27 rfl rfl rfl (fun h => h)) ?_
      | refine VO.val rfl rfl (OpV.load_own (i := 4) rfl hB Tryd.isAgg27 rfl rfl rfl (fun h => h)) ?_
      | refine VO.val rfl rfl (OpV.load_own (i := 5) rfl hB Tryd.isAgg27 rfl rfl rfl (fun h => h)) ?_
      | refine VO.val rfl rfl (OpV.load_own (i := 6) rfl hB Tryd.isAgg27 rfl rfl rfl (fun h => h)) ?_
    refine VO.op rfl (OpE.buildSlice (zc := #[.slice none 0 0]) rfl hB rfl Tryd.underlying30 Tryd.sizeOf27 Tryd.zeroValue27 (by decide) (by decide) (by kernel_rfl) rfl rfl ?_)
    first
      | refine VO.op rfl (OpE.append1 (i := 0) rfl hB rfl Tryd.underlying30 (infoOf Tryd.t27 1 (by kernel_rfl) rfl rfl) rfl (by decide) (by decide) rfl rfl rfl rfl ((listM_snoc _ _).trans (congrArg listM (pickP_take (by omega)))) (by omega) (fun _ _ => trivial) ?_)
      | refine VO.op rfl (OpE.append1 (i := 1) rfl hB rfl Tryd.underlying30 (infoOf Tryd.t27 1 (by kernel_rfl) rfl rfl) rfl (by decide) (by decide) rfl rfl rfl rfl ((listM_snoc _ _).trans (congrArg listM (pickP_take (by omega)))) (by omega) (fun _ _ => trivial) ?_)
      | refine VO.op rfl (OpE.append1 (i := 2) rfl hB rfl Tryd.underlying30 (infoOf Tryd.t27 1 (by kernel_rfl) rfl rfl) rfl (by decide) (by decide) rfl rfl rfl rfl ((listM_snoc _ _).trans (congrArg listM (pickP_take (by omega)))) (by omega) (fun _ _ => trivial) ?_)
      | refine VO.op rfl (OpE.append1 (i := 3) rfl hB rfl Tryd.underlying30 (infoOf Tryd.t27 1 (by kernel_rfl) rfl rfl) rfl (by decide) (by decide) rfl rfl rfl rfl ((listM_snoc _ _).trans (congrArg listM (pickP_take (by omega)))) (by omega) (fun _ _ => trivial) ?_)
      | refine VO.op rfl (OpE.append1 (i := 4) rfl hB rfl Tryd.underlying30 (infoOf Tryd.t27 1 (by kernel_rfl) rfl rfl) rfl (by decide) (by decide) rfl rfl rfl rfl ((listM_snoc _ _).trans (congrArg listM (pickP_take (by omega)))) (by omega) (fun _ _ => trivial) ?_)
      | refine VO.op rfl (OpE.append1 (i := 5) rfl hB rfl Tryd.underlying30 (infoOf Tryd.t27 1 (by kernel_rfl) rfl rfl) rfl (by decide) (by decide) rfl rfl rfl rfl ((listM_snoc _ _).trans (congrArg listM (pickP_take (by omega)))) (by omega) (fun _ _ => trivial) ?_)
      | refine VO.op rfl (OpE.append1 (i := 6) rfl hB rfl Tryd.underlying30 (infoOf Tryd.t27 1 (by kernel_rfl) rfl rfl) rfl (by decide) (by decide) rfl rfl rfl rfl ((listM_snoc _ _).trans (congrArg listM (pickP_take (by omega)))) (by omega) (fun _ _ => trivial) ?_)
    intro u2
    refine VO.val rfl rfl (OpV.move (.inr rfl) rfl) ?_
    refine VO.nil ?_
    show VC _ _ _ _ _
    refine VC.le _ (Le.boxRow (i := 0) (n := c) (sz := 1) (cap := cap) rfl (by rw [intsL_len]; omega) hcap hmx) ?_
    refine VC.region ?_
    refine VO.val rfl rfl (OpV.add rfl rfl rfl (by unfold fits; omega)) ?_
    refine VO.val rfl rfl (OpV.move (.inl rfl) rfl) ?_
    refine VO.nil ?_
    first
      | exact Exists.intro (⟨(u2, q + 1), by show _ ≤ _; omega⟩) (And.intro (Le.mk hB [0, 1, 2, 3, 4, 5, 6] ⟨rfl, rfl, rfl, rfl, rfl, rfl, rfl, rfl, rfl, trivial⟩ rfl rfl (Nat.le_refl _)) (by first | omega | (show _ < _; omega) | (simp only []; omega)))
      | exact Exists.intro (⟨(uq, q + 1), by show _ ≤ _; omega⟩) (And.intro (Le.mk hB [0, 1, 2, 3, 4, 5, 6] ⟨rfl, rfl, rfl, rfl, rfl, rfl, rfl, rfl, rfl, trivial⟩ rfl rfl (Nat.le_refl _)) (by first | omega | (show _ < _; omega) | (simp only []; omega)))
  · have aH1 := aH1b
    try simp only [decide_eq_true_eq, decide_eq_false_iff_not, Bool.not_eq_true', Bool.not_eq_false', Int.not_lt, Int.not_le] at aH1
    obtain rfl : q = c := by omega
    have hmix : pickP p (o.take q) = pickP p o := by rw [← hoc, List.take_length]
    rw [hmix]
    refine VC.exit ?_
    show VC _ _ _ _ _
    refine VC.seq ?_
    refine VC.region ?_
    first
      | refine VO.val rfl rfl (OpV.load_at rfl hB OutW.no Tryd.isAgg27 rfl rfl) ?_
      | refine VO.val rfl rfl (OpV.load_own (i := 0) rfl hB Tryd.isAgg27 rfl rfl rfl (fun h => h)) ?_
      | refine VO.val rfl rfl (OpV.load_own (i := 1) rfl hB Tryd.isAgg27 rfl rfl rfl (fun h => h)) ?_
      | refine VO.val rfl rfl (OpV.load_own (i := 2) rfl hB Tryd.isAgg27 rfl rfl rfl (fun h => h)) ?_
      | refine VO.val rfl rfl (OpV.load_own (i := 3) rfl hB Tryd.isAgg27 rfl rfl rfl (fun h => h)) ?_
      | refine VO.val rfl rfl (OpV.load_own (i := 4) rfl hB Tryd.isAgg27 rfl rfl rfl (fun h => h)) ?_
      | refine VO.val rfl rfl (OpV.load_own (i := 5) rfl hB Tryd.isAgg27 rfl rfl rfl (fun h => h)) ?_
      | refine VO.val rfl rfl (OpV.load_own (i := 6) rfl hB Tryd.isAgg27 rfl rfl rfl (fun h => h)) ?_
    refine VO.val rfl rfl (OpV.move (.inl rfl) rfl) ?_
    refine VO.op rfl (OpE.callL rfl hB rfl Tryd.call40 (rf_TotalOf hg (pickP_right hp ho) (pickP_sm hps (by omega)) (by rw [pickP_len]; omega)) (ArgsP.cons (ArgP.ev rfl) (ArgsP.cons (ArgP.rowsM (i := 6) rfl rfl (by rw [pickP_len]; omega)) (ArgsP.nil))) ?_)
    rintro _ rfl
    refine VO.val rfl rfl (OpV.move (.inr rfl) rfl) ?_
    refine VO.nil ?_
    show VC _ _ _ _ _
    refine VC.seq ?_
    refine VC.le _ (Le.erase 6) ?_
    refine VC.region ?_
    first
      | refine VO.val rfl rfl (OpV.load_at rfl hB OutW.no Tryd.isAgg3 rfl rfl) ?_
      | refine VO.val rfl rfl (OpV.load_own (i := 0) rfl hB Tryd.isAgg3 rfl rfl rfl (fun h => h)) ?_
      | refine VO.val rfl rfl (OpV.load_own (i := 1) rfl hB Tryd.isAgg3 rfl rfl rfl (fun h => h)) ?_
      | refine VO.val rfl rfl (OpV.load_own (i := 2) rfl hB Tryd.isAgg3 rfl rfl rfl (fun h => h)) ?_
      | refine VO.val rfl rfl (OpV.load_own (i := 3) rfl hB Tryd.isAgg3 rfl rfl rfl (fun h => h)) ?_
      | refine VO.val rfl rfl (OpV.load_own (i := 4) rfl hB Tryd.isAgg3 rfl rfl rfl (fun h => h)) ?_
      | refine VO.val rfl rfl (OpV.load_own (i := 5) rfl hB Tryd.isAgg3 rfl rfl rfl (fun h => h)) ?_
      | refine VO.val rfl rfl (OpV.load_own (i := 6) rfl hB Tryd.isAgg3 rfl rfl rfl (fun h => h)) ?_
    refine VO.val rfl rfl (OpV.lss rfl rfl rfl) ?_
    refine VO.val rfl rfl (OpV.move (.inl rfl) rfl) ?_
    refine VO.opG rfl rfl rfl rfl (fun aK2b => ?_) (fun aK2b => ?_)
    · replace aK2b : _ = false := aK2b
      have aK2 := aK2b
      try simp only [decide_eq_true_eq, decide_eq_false_iff_not, Bool.not_eq_true', Bool.not_eq_false', Int.not_lt, Int.not_le] at aK2
      refine OpE.val (W := NoB) (OpV.move (.inl rfl) rfl) rfl ?_
      refine VO.opY rfl rfl rfl rfl aK2b ?_
      first
        | refine OpE.val (W := NoB) (OpV.load_at rfl hB OutW.no Tryd.isAgg3 rfl rfl) rfl ?_
        | refine OpE.val (W := NoB) (OpV.load_own (i := 0) rfl hB Tryd.isAgg3 rfl rfl rfl (fun h => h)) rfl ?_
        | refine OpE.val (W := NoB) (OpV.load_own (i := 1) rfl hB Tryd.isAgg3 rfl rfl rfl (fun h => h)) rfl ?_
        | refine OpE.val (W := NoB) (OpV.load_own (i := 2) rfl hB Tryd.isAgg3 rfl rfl rfl (fun h => h)) rfl ?_
        | refine OpE.val (W := NoB) (OpV.load_own (i := 3) rfl hB Tryd.isAgg3 rfl rfl rfl (fun h => h)) rfl ?_
        | refine OpE.val (W := NoB) (OpV.load_own (i := 4) rfl hB Tryd.isAgg3 rfl rfl rfl (fun h => h)) rfl ?_
        | refine OpE.val (W := NoB) (OpV.load_own (i := 5) rfl hB Tryd.isAgg3 rfl rfl rfl (fun h => h)) rfl ?_
        | refine OpE.val (W := NoB) (OpV.load_own (i := 6) rfl hB Tryd.isAgg3 rfl rfl rfl (fun h => h)) rfl ?_
      refine VO.opY rfl rfl rfl rfl aK2b ?_
      refine OpE.val (W := NoB) (OpV.lss rfl rfl rfl) rfl ?_
      refine VO.val rfl rfl (OpV.pickF rfl rfl rfl rfl aK2b) ?_
      refine VO.nil ?_
      show VC _ _ _ _ _
      refine VC.cond rfl (fun h1b => ?_) (fun h1b => ?_)
      · have h1 := h1b
        try simp only [decide_eq_true_eq, decide_eq_false_iff_not, Bool.not_eq_true', Bool.not_eq_false', Int.not_lt, Int.not_le] at h1
        refine VC.region ?_
        refine VO.val rfl rfl (OpV.move (.inl rfl) rfl) ?_
        refine VO.op rfl (OpE.callR rfl hB rfl Tryd.call59 (slices_Clone_R (by omega)) (ArgsP.cons (ArgP.rowI (i := 0) rfl rfl hoc.symm) (ArgsP.nil)) ?_)
        intro u35
        refine VO.rowIs (i := 6) rfl (fun b35 c35 hu35 => ?_)
        subst hu35
        refine VO.val rfl rfl (OpV.move (.inl rfl) rfl) ?_
        first
          | refine VO.op rfl (OpE.store (i := 0) rfl hB rfl Tryd.sizeOf22 rfl rfl rfl rfl rfl rfl (Nat.le_of_ble_eq_true rfl) trivial ?_)
          | refine VO.op rfl (OpE.store (i := 1) rfl hB rfl Tryd.sizeOf22 rfl rfl rfl rfl rfl rfl (Nat.le_of_ble_eq_true rfl) trivial ?_)
          | refine VO.op rfl (OpE.store (i := 2) rfl hB rfl Tryd.sizeOf22 rfl rfl rfl rfl rfl rfl (Nat.le_of_ble_eq_true rfl) trivial ?_)
          | refine VO.op rfl (OpE.store (i := 3) rfl hB rfl Tryd.sizeOf22 rfl rfl rfl rfl rfl rfl (Nat.le_of_ble_eq_true rfl) trivial ?_)
          | refine VO.op rfl (OpE.store (i := 4) rfl hB rfl Tryd.sizeOf22 rfl rfl rfl rfl rfl rfl (Nat.le_of_ble_eq_true rfl) trivial ?_)
          | refine VO.op rfl (OpE.store (i := 5) rfl hB rfl Tryd.sizeOf22 rfl rfl rfl rfl rfl rfl (Nat.le_of_ble_eq_true rfl) trivial ?_)
          | refine VO.op rfl (OpE.store (i := 6) rfl hB rfl Tryd.sizeOf22 rfl rfl rfl rfl rfl rfl (Nat.le_of_ble_eq_true rfl) trivial ?_)
          | refine VO.op rfl (OpE.store (i := 7) rfl hB rfl Tryd.sizeOf22 rfl rfl rfl rfl rfl rfl (Nat.le_of_ble_eq_true rfl) trivial ?_)
        refine VO.le _ (Le.erase 5) ?_
        first
          | refine VO.op rfl (OpE.store (i := 0) rfl hB rfl Tryd.sizeOf3 rfl rfl rfl rfl rfl rfl (Nat.le_of_ble_eq_true rfl) trivial ?_)
          | refine VO.op rfl (OpE.store (i := 1) rfl hB rfl Tryd.sizeOf3 rfl rfl rfl rfl rfl rfl (Nat.le_of_ble_eq_true rfl) trivial ?_)
          | refine VO.op rfl (OpE.store (i := 2) rfl hB rfl Tryd.sizeOf3 rfl rfl rfl rfl rfl rfl (Nat.le_of_ble_eq_true rfl) trivial ?_)
          | refine VO.op rfl (OpE.store (i := 3) rfl hB rfl Tryd.sizeOf3 rfl rfl rfl rfl rfl rfl (Nat.le_of_ble_eq_true rfl) trivial ?_)
          | refine VO.op rfl (OpE.store (i := 4) rfl hB rfl Tryd.sizeOf3 rfl rfl rfl rfl rfl rfl (Nat.le_of_ble_eq_true rfl) trivial ?_)
          | refine VO.op rfl (OpE.store (i := 5) rfl hB rfl Tryd.sizeOf3 rfl rfl rfl rfl rfl rfl (Nat.le_of_ble_eq_true rfl) trivial ?_)
          | refine VO.op rfl (OpE.store (i := 6) rfl hB rfl Tryd.sizeOf3 rfl rfl rfl rfl rfl rfl (Nat.le_of_ble_eq_true rfl) trivial ?_)
          | refine VO.op rfl (OpE.store (i := 7) rfl hB rfl Tryd.sizeOf3 rfl rfl rfl rfl rfl rfl (Nat.le_of_ble_eq_true rfl) trivial ?_)
        refine VO.nil ?_
        exact Exists.intro _ (And.intro (RetV.none Tryd.results63) (by first | exact ⟨.slice b35 o.length c35, by rw [stepR, if_pos (show least < 0 ∨ totF s (pickP p o) (pickP p o).length < least by omega)]; rfl⟩ | exact ⟨ub, by rw [stepR, if_neg (show ¬ (least < 0 ∨ totF s (pickP p o) (pickP p o).length < least) by omega)]; rfl⟩))
      · have h1 := h1b
        try simp only [decide_eq_true_eq, decide_eq_false_iff_not, Bool.not_eq_true', Bool.not_eq_false', Int.not_lt, Int.not_le] at h1
        refine VC.skip ?_
        exact Exists.intro _ (And.intro (RetV.none Tryd.results63) (by first | exact ⟨.slice b35 o.length c35, by rw [stepR, if_pos (show least < 0 ∨ totF s (pickP p o) (pickP p o).length < least by omega)]; rfl⟩ | exact ⟨ub, by rw [stepR, if_neg (show ¬ (least < 0 ∨ totF s (pickP p o) (pickP p o).length < least) by omega)]; rfl⟩))
    · replace aK2b : _ = true := aK2b
      have aK2 := aK2b
      try simp only [decide_eq_true_eq, decide_eq_false_iff_not, Bool.not_eq_true', Bool.not_eq_false', Int.not_lt, Int.not_le] at aK2
      refine VO.opX rfl rfl rfl rfl aK2b ?_
      refine VO.opX rfl rfl rfl rfl aK2b ?_
      refine VO.val rfl rfl (OpV.pickT rfl rfl rfl rfl aK2b) ?_
      refine VO.nil ?_
      show VC _ _ _ _ _
      refine VC.condT rfl rfl ?_
      refine VC.region ?_
      refine VO.val rfl rfl (OpV.move (.inl rfl) rfl) ?_
      refine VO.op rfl (OpE.callR rfl hB rfl Tryd.call59 (slices_Clone_R (by omega)) (ArgsP.cons (ArgP.rowI (i := 0) rfl rfl hoc.symm) (ArgsP.nil)) ?_)
      intro u35
      refine VO.rowIs (i := 6) rfl (fun b35 c35 hu35 => ?_)
      subst hu35
      refine VO.val rfl rfl (OpV.move (.inl rfl) rfl) ?_
      first
        | refine VO.op rfl (OpE.store (i := 0) rfl hB rfl Tryd.sizeOf22 rfl rfl rfl rfl rfl rfl (Nat.le_of_ble_eq_true rfl) trivial ?_)
        | refine VO.op rfl (OpE.store (i := 1) rfl hB rfl Tryd.sizeOf22 rfl rfl rfl rfl rfl rfl (Nat.le_of_ble_eq_true rfl) trivial ?_)
        | refine VO.op rfl (OpE.store (i := 2) rfl hB rfl Tryd.sizeOf22 rfl rfl rfl rfl rfl rfl (Nat.le_of_ble_eq_true rfl) trivial ?_)
        | refine VO.op rfl (OpE.store (i := 3) rfl hB rfl Tryd.sizeOf22 rfl rfl rfl rfl rfl rfl (Nat.le_of_ble_eq_true rfl) trivial ?_)
        | refine VO.op rfl (OpE.store (i := 4) rfl hB rfl Tryd.sizeOf22 rfl rfl rfl rfl rfl rfl (Nat.le_of_ble_eq_true rfl) trivial ?_)
        | refine VO.op rfl (OpE.store (i := 5) rfl hB rfl Tryd.sizeOf22 rfl rfl rfl rfl rfl rfl (Nat.le_of_ble_eq_true rfl) trivial ?_)
        | refine VO.op rfl (OpE.store (i := 6) rfl hB rfl Tryd.sizeOf22 rfl rfl rfl rfl rfl rfl (Nat.le_of_ble_eq_true rfl) trivial ?_)
        | refine VO.op rfl (OpE.store (i := 7) rfl hB rfl Tryd.sizeOf22 rfl rfl rfl rfl rfl rfl (Nat.le_of_ble_eq_true rfl) trivial ?_)
      refine VO.le _ (Le.erase 5) ?_
      first
        | refine VO.op rfl (OpE.store (i := 0) rfl hB rfl Tryd.sizeOf3 rfl rfl rfl rfl rfl rfl (Nat.le_of_ble_eq_true rfl) trivial ?_)
        | refine VO.op rfl (OpE.store (i := 1) rfl hB rfl Tryd.sizeOf3 rfl rfl rfl rfl rfl rfl (Nat.le_of_ble_eq_true rfl) trivial ?_)
        | refine VO.op rfl (OpE.store (i := 2) rfl hB rfl Tryd.sizeOf3 rfl rfl rfl rfl rfl rfl (Nat.le_of_ble_eq_true rfl) trivial ?_)
        | refine VO.op rfl (OpE.store (i := 3) rfl hB rfl Tryd.sizeOf3 rfl rfl rfl rfl rfl rfl (Nat.le_of_ble_eq_true rfl) trivial ?_)
        | refine VO.op rfl (OpE.store (i := 4) rfl hB rfl Tryd.sizeOf3 rfl rfl rfl rfl rfl rfl (Nat.le_of_ble_eq_true rfl) trivial ?_)
        | refine VO.op rfl (OpE.store (i := 5) rfl hB rfl Tryd.sizeOf3 rfl rfl rfl rfl rfl rfl (Nat.le_of_ble_eq_true rfl) trivial ?_)
        | refine VO.op rfl (OpE.store (i := 6) rfl hB rfl Tryd.sizeOf3 rfl rfl rfl rfl rfl rfl (Nat.le_of_ble_eq_true rfl) trivial ?_)
        | refine VO.op rfl (OpE.store (i := 7) rfl hB rfl Tryd.sizeOf3 rfl rfl rfl rfl rfl rfl (Nat.le_of_ble_eq_true rfl) trivial ?_)
      refine VO.nil ?_
      exact Exists.intro _ (And.intro (RetV.none Tryd.results63) (by first | exact ⟨.slice b35 o.length c35, by rw [stepR, if_pos (show least < 0 ∨ totF s (pickP p o) (pickP p o).length < least by omega)]; rfl⟩ | exact ⟨ub, by rw [stepR, if_neg (show ¬ (least < 0 ∨ totF s (pickP p o) (pickP p o).length < least) by omega)]; rfl⟩))
def KR (s : List ByteArray) (p : List (List ByteArray)) (To Ti Tm Ts : TypeId) (gp gs gle gb : Nat) (a : BestT) (h : List Ent) : Prop :=
  ∃ ub, h = bestO2 s p To Ti Tm Ts gp gs gle gb ub a.best a.least
theorem rf_best_does {s : List ByteArray} {p : List (List ByteArray)} {gp gs gle gb : Nat} (hg : Good' s) (hp : ∀ q, q < p.length → RightP s.length (p.getD q default)) (hps : SmSS p) (hl8 : p.length ≤ 8) :
    DoesP p.length (KR s p 22 3 30 27 gp gs gle gb) (stepR s p) Tryd.prog 63 #[ptv gp, ptv gs, ptv gle, ptv gb] 3 := by
  rintro o c a h u ho hoc hcn ⟨ub, rfl⟩
  refine (rf_BestOf1 (b := a.best) (least := a.least) hg hp hps hl8 ho hoc hcn).mono ?_
  rintro y hp' ⟨ub', rfl⟩
  exact ⟨_, ⟨ub', rfl⟩, rfl⟩
def bestRL (s : List ByteArray) (p : List (List ByteArray)) : List Int := if 8 < p.length then [] else (bestR s p).best
def bestRK (s : List ByteArray) (p : List (List ByteArray)) : Int := if 8 < p.length then 0 else (bestR s p).least
def bestRE (p : List (List ByteArray)) : Int := if 8 < p.length then 2 else 0
set_option maxRecDepth 100000 in
theorem rf_BestOf {s : List ByteArray} {p : List (List ByteArray)} (hg : Good' s) (hp : ∀ q, q < p.length → RightP s.length (p.getD q default)) (hps : SmSS p) :
    SpecH Tryd.prog 32 [avStrs s, avM p] [] (fun y hp' => ∃ u, y = .tup [.v u, avI (bestRK s p), avI (bestRE p)] ∧ hp' = [.row u ((bestRL s p).length) (1) (intsL (bestRL s p)) (3)]) := by
  refine SpecH.of_VC Tryd.func32 rfl Tryd.ntmps32 (Nat.le_of_ble_eq_true rfl) fun w A hB => ?_
  have hnew : True := trivial
  refine VC.seq ?_
  refine VC.region ?_
  refine VO.op rfl (OpE.box rfl hB rfl rfl rfl ?_)
  intro gs
  refine VO.op rfl (OpE.box rfl hB rfl rfl rfl ?_)
  intro gp
  refine VO.val rfl rfl (OpV.move (.inr rfl) rfl) ?_
  refine VO.val rfl rfl (OpV.move (.inr rfl) rfl) ?_
  refine VO.val rfl rfl (OpV.move (.inr rfl) rfl) ?_
  refine VO.nil ?_
  show VC _ _ _ _ _
  refine VC.seq ?_
  refine VC.seq ?_
  refine VC.region ?_
  first
    | refine VO.val rfl rfl (OpV.load_at rfl hB OutW.no Tryd.isAgg30 rfl rfl) ?_
    | refine VO.val rfl rfl (OpV.load_own (i := 0) rfl hB Tryd.isAgg30 rfl rfl rfl (fun h => h)) ?_
    | refine VO.val rfl rfl (OpV.load_own (i := 1) rfl hB Tryd.isAgg30 rfl rfl rfl (fun h => h)) ?_
  first
    | refine VO.val rfl rfl (OpV.len_im rfl Tryd.underlying30 rfl) ?_
    | refine VO.val rfl rfl (OpV.len_v rfl Tryd.underlying30 rfl) ?_
    | refine VO.val rfl rfl (OpV.len_row (i := 0) rfl Tryd.underlying30 rfl rfl) ?_
    | refine VO.val rfl rfl (OpV.len_row (i := 1) rfl Tryd.underlying30 rfl rfl) ?_
  refine VO.val rfl rfl (OpV.gtr rfl rfl rfl) ?_
  refine VO.nil ?_
  show VC _ _ _ _ _
  refine VC.cond rfl (fun h0b => ?_) (fun h0b => ?_)
  · have h0 := h0b
    try simp only [decide_eq_true_eq, decide_eq_false_iff_not, Bool.not_eq_true', Bool.not_eq_false', Int.not_lt, Int.not_le] at h0
    rw [bestRL, if_pos (by omega), bestRK, if_pos (by omega), bestRE, if_pos (by omega)]
    refine VC.seq ?_
    refine VC.region ?_
    refine VO.val rfl rfl (OpV.move (.inr rfl) rfl) ?_
    refine VO.val rfl rfl (OpV.move (.inr rfl) rfl) ?_
    refine VO.val rfl rfl (OpV.move (.inr rfl) rfl) ?_
    refine VO.nil ?_
    show VC _ _ _ _ _
    refine VC.le _ (Le.nilRow 1 3) ?_
    refine VC.le ⟨[(4, _), (5, _), (6, _)], [_], 0⟩ (Le.pick hB [2] ⟨rfl, rfl, rfl, trivial⟩ rfl rfl (Nat.le_refl _)) ?_
    refine VC.ret ?_
    exact Exists.intro _ (And.intro (RetV.three Tryd.results32 (ResV.tmp rfl) (ResV.tmp rfl) (ResV.tmp rfl)) (⟨_, rfl, rfl⟩))
  · have h0 := h0b
    try simp only [decide_eq_true_eq, decide_eq_false_iff_not, Bool.not_eq_true', Bool.not_eq_false', Int.not_lt, Int.not_le] at h0
    rw [bestRL, if_neg (by omega), bestRK, if_neg (by omega), bestRE, if_neg (by omega)]
    refine VC.skip ?_
    show VC _ _ _ _ _
    refine VC.seq ?_
    refine VC.region ?_
    refine VO.op rfl (OpE.alloc rfl hB rfl Tryd.zeroValue22 rfl ?_)
    intro gb
    refine VO.nil ?_
    show VC _ _ _ _ _
    refine VC.seq ?_
    refine VC.region ?_
    refine VO.op rfl (OpE.alloc rfl hB rfl Tryd.zeroValue3 rfl ?_)
    intro gle
    first
      | refine VO.op rfl (OpE.store (i := 0) rfl hB rfl Tryd.sizeOf3 rfl rfl rfl rfl rfl rfl (Nat.le_of_ble_eq_true rfl) trivial ?_)
      | refine VO.op rfl (OpE.store (i := 1) rfl hB rfl Tryd.sizeOf3 rfl rfl rfl rfl rfl rfl (Nat.le_of_ble_eq_true rfl) trivial ?_)
      | refine VO.op rfl (OpE.store (i := 2) rfl hB rfl Tryd.sizeOf3 rfl rfl rfl rfl rfl rfl (Nat.le_of_ble_eq_true rfl) trivial ?_)
      | refine VO.op rfl (OpE.store (i := 3) rfl hB rfl Tryd.sizeOf3 rfl rfl rfl rfl rfl rfl (Nat.le_of_ble_eq_true rfl) trivial ?_)
    refine VO.nil ?_
    show VC _ _ _ _ _
    refine VC.seq ?_
    refine VC.le _ ((Le.nilRow 1 3).trans (Le.pickH [1, 0, 3, 2, 4] rfl rfl)) ?_
    refine VC.region ?_
    first
      | refine VO.val rfl rfl (OpV.load_at rfl hB OutW.no Tryd.isAgg30 rfl rfl) ?_
      | refine VO.val rfl rfl (OpV.load_own (i := 0) rfl hB Tryd.isAgg30 rfl rfl rfl (fun h => h)) ?_
      | refine VO.val rfl rfl (OpV.load_own (i := 1) rfl hB Tryd.isAgg30 rfl rfl rfl (fun h => h)) ?_
      | refine VO.val rfl rfl (OpV.load_own (i := 2) rfl hB Tryd.isAgg30 rfl rfl rfl (fun h => h)) ?_
      | refine VO.val rfl rfl (OpV.load_own (i := 3) rfl hB Tryd.isAgg30 rfl rfl rfl (fun h => h)) ?_
    first
      | refine VO.val rfl rfl (OpV.len_im rfl Tryd.underlying30 rfl) ?_
      | refine VO.val rfl rfl (OpV.len_v rfl Tryd.underlying30 rfl) ?_
      | refine VO.val rfl rfl (OpV.len_row (i := 0) rfl Tryd.underlying30 rfl rfl) ?_
      | refine VO.val rfl rfl (OpV.len_row (i := 1) rfl Tryd.underlying30 rfl rfl) ?_
      | refine VO.val rfl rfl (OpV.len_row (i := 2) rfl Tryd.underlying30 rfl rfl) ?_
      | refine VO.val rfl rfl (OpV.len_row (i := 3) rfl Tryd.underlying30 rfl rfl) ?_
    refine VO.val rfl rfl (OpV.makeFunc4 rfl rfl rfl rfl rfl) ?_
    refine VO.op rfl (OpE.callH0 rfl hB rfl Tryd.call62 rfl rfl (rf_orderings (h := bestO2 s p 22 3 30 27 gp gs gle gb (.slice none 0 0) [] (-1)) (by omega) Tryd.call63 (rf_best_does hg hp hps (by omega)) (a := ⟨[], -1⟩) ⟨.slice none 0 0, rfl⟩) (List.Perm.refl _) (fun _ _ => trivial) ?_)
    rintro _ _ ⟨_, ⟨ub, rfl⟩, rfl⟩
    refine VO.nil ?_
    show VC _ _ _ _ _
    refine VC.seq ?_
    refine VC.draw (fun _ => NoB) hB (by kernel_rfl) ?_
    first
      | refine VA.take (i := 0) rfl (by kernel_rfl) (by kernel_rfl) (by kernel_rfl) rfl rfl (OpV.load_at rfl hB OutW.wi0 Tryd.isAgg22 rfl rfl) ?_
      | refine VA.take (i := 0) rfl (by kernel_rfl) (by kernel_rfl) (by kernel_rfl) rfl rfl (OpV.load_own (i := 0) rfl hB Tryd.isAgg22 rfl rfl rfl Wi.not0) ?_
      | refine VA.take (i := 0) rfl (by kernel_rfl) (by kernel_rfl) (by kernel_rfl) rfl rfl (OpV.load_own (i := 1) rfl hB Tryd.isAgg22 rfl rfl rfl Wi.not0) ?_
      | refine VA.take (i := 0) rfl (by kernel_rfl) (by kernel_rfl) (by kernel_rfl) rfl rfl (OpV.load_own (i := 2) rfl hB Tryd.isAgg22 rfl rfl rfl Wi.not0) ?_
      | refine VA.take (i := 0) rfl (by kernel_rfl) (by kernel_rfl) (by kernel_rfl) rfl rfl (OpV.load_own (i := 3) rfl hB Tryd.isAgg22 rfl rfl rfl Wi.not0) ?_
      | refine VA.take (i := 0) rfl (by kernel_rfl) (by kernel_rfl) (by kernel_rfl) rfl rfl (OpV.load_own (i := 4) rfl hB Tryd.isAgg22 rfl rfl rfl Wi.not0) ?_
    first
      | refine VA.take (i := 1) rfl (by kernel_rfl) (by kernel_rfl) (by kernel_rfl) rfl rfl (OpV.load_at rfl hB OutW.wi0 Tryd.isAgg3 rfl rfl) ?_
      | refine VA.take (i := 1) rfl (by kernel_rfl) (by kernel_rfl) (by kernel_rfl) rfl rfl (OpV.load_own (i := 0) rfl hB Tryd.isAgg3 rfl rfl rfl Wi.not0) ?_
      | refine VA.take (i := 1) rfl (by kernel_rfl) (by kernel_rfl) (by kernel_rfl) rfl rfl (OpV.load_own (i := 1) rfl hB Tryd.isAgg3 rfl rfl rfl Wi.not0) ?_
      | refine VA.take (i := 1) rfl (by kernel_rfl) (by kernel_rfl) (by kernel_rfl) rfl rfl (OpV.load_own (i := 2) rfl hB Tryd.isAgg3 rfl rfl rfl Wi.not0) ?_
      | refine VA.take (i := 1) rfl (by kernel_rfl) (by kernel_rfl) (by kernel_rfl) rfl rfl (OpV.load_own (i := 3) rfl hB Tryd.isAgg3 rfl rfl rfl Wi.not0) ?_
      | refine VA.take (i := 1) rfl (by kernel_rfl) (by kernel_rfl) (by kernel_rfl) rfl rfl (OpV.load_own (i := 4) rfl hB Tryd.isAgg3 rfl rfl rfl Wi.not0) ?_
    refine VA.take (i := 2) rfl (by kernel_rfl) (by kernel_rfl) (by kernel_rfl) rfl rfl (OpV.move (.inr rfl) rfl) ?_
    refine VA.take (i := 3) rfl (by kernel_rfl) (by kernel_rfl) (by kernel_rfl) rfl rfl (OpV.move (.inr rfl) rfl) ?_
    refine VA.take (i := 4) rfl (by kernel_rfl) (by kernel_rfl) (by kernel_rfl) rfl rfl (OpV.move (.inr rfl) rfl) ?_
    refine VA.done (by kernel_rfl) ?_
    show VC _ _ _ _ _
    refine VC.le ⟨[(4, _), (5, _), (6, _)], [_], 0⟩ (Le.pick hB [4] ⟨rfl, rfl, rfl, trivial⟩ rfl rfl (Nat.le_refl _)) ?_
    refine VC.ret ?_
    exact Exists.intro _ (And.intro (RetV.three Tryd.results32 (ResV.tmp rfl) (ResV.tmp rfl) (ResV.tmp rfl)) (⟨ub, rfl, rfl⟩))
theorem usedL_setI {n : Nat} {o : List Int} {b : Int} (h : 0 ≤ b) (h2 : b < n) : (usedL n o).set b.toNat (avB true) = usedL n (o ++ [b]) := by
  have := usedL_set (n := n) (o := o) (q := b.toNat) (by omega)
  rwa [Int.toNat_of_nonneg h] at this
theorem SpecH.nil3 {P : Program} {F : FuncId} {x y : AV} {sz : Nat} {f : Nat → AV} {hp : List Ent} {G : AV → List Ent → Prop} (h : SpecH P F [x, y, .im 0 sz f] hp G) : SpecH P F [x, y, .v (.slice none 0 0)] hp G :=
  h.args rfl fun j h1 h2 w Z u hr => by
    match j, h1, h2 with
    | 0, _, _ => exact hr
    | 1, _, _ => exact hr
    | 2, _, _ =>
      simp only [List.getElem_cons_succ, List.getElem_cons_zero] at hr ⊢
      rw [hr.eq_v]; exact .nil _ _
set_option maxRecDepth 100000 in
theorem rf_NearestOf {s : List ByteArray} {p : List (List ByteArray)} (hg : Good' s) (hp : ∀ q, q < p.length → RightP s.length (p.getD q default)) (hps : SmSS p) (hl2 : p.length ≤ 200) :
    SpecH Tryd.prog 31 [avStrs s, avM p] [] (fun y hp' => ∃ u, y = .tup [.v u, avI (near s p p.length).2.2] ∧ hp' = [.row u (p.length) (1) (intsL (near s p p.length).2.1) (3)]) := by
  refine SpecH.of_VC Tryd.func31 rfl Tryd.ntmps31 (Nat.le_of_ble_eq_true rfl) fun w A hB => ?_
  have hnew : True := trivial
  refine VC.seq ?_
  refine VC.region ?_
  refine VO.val rfl rfl (OpV.move (.inr rfl) rfl) ?_
  refine VO.val rfl rfl (OpV.move (.inr rfl) rfl) ?_
  refine VO.nil ?_
  show VC _ _ _ _ _
  refine VC.seq ?_
  refine VC.region ?_
  refine VO.val rfl rfl (OpV.move (.inr rfl) rfl) ?_
  refine VO.nil ?_
  show VC _ _ _ _ _
  refine VC.seq ?_
  refine VC.region ?_
  refine VO.val rfl rfl (OpV.move (.inr rfl) rfl) ?_
  refine VO.nil ?_
  show VC _ _ _ _ _
  refine VC.seq ?_
  refine VC.block ?_
  refine VC.le _ (Le.nilRow 1 3) ?_
  refine VC.loopK [(1, _)] ⟨rfl, trivial⟩ ({zz : Value × Nat // zz.2 ≤ p.length}) (fun (i : {zz : Value × Nat // zz.2 ≤ p.length}) => match i with | ⟨⟨u, k⟩, hq⟩ => [(0, avStrs (near s p k).1), (6, .v u), (7, avI (near s p k).2.2)]) (fun (i : {zz : Value × Nat // zz.2 ≤ p.length}) => match i with | ⟨⟨u, k⟩, hq⟩ => [.row u k 1 (intsL (near s p k).2.1) 3]) (fun (i : {zz : Value × Nat // zz.2 ≤ p.length}) => match i with | ⟨⟨u, k⟩, hq⟩ => 0) (fun (i : {zz : Value × Nat // zz.2 ≤ p.length}) => match i with | ⟨⟨u, k⟩, hq⟩ => p.length - k) ⟨(.slice none 0 0, 0), Nat.zero_le _⟩ (Le.mk hB [0] ⟨rfl, rfl, rfl, rfl, trivial⟩ rfl rfl (Nat.le_refl _)) ?_
  rintro ⟨⟨u, k⟩, hq⟩
  show VC _ _ _ _ ⟨[(0, avStrs (near s p k).1), (6, .v u), (7, avI (near s p k).2.2)] ++ [(1, _)], [.row u k 1 (intsL (near s p k).2.1) 3], 0⟩
  simp only at hq
  refine VC.seq ?_
  refine VC.seq ?_
  refine VC.region ?_
  refine VO.val rfl rfl (OpV.move (.inl rfl) rfl) ?_
  first
    | refine VO.val rfl rfl (OpV.len_im rfl Tryd.underlying22 rfl) ?_
    | refine VO.val rfl rfl (OpV.len_v rfl Tryd.underlying22 rfl) ?_
    | refine VO.val rfl rfl (OpV.len_row (i := 0) rfl Tryd.underlying22 rfl rfl) ?_
  refine VO.val rfl rfl (OpV.move (.inl rfl) rfl) ?_
  first
    | refine VO.val rfl rfl (OpV.len_im rfl Tryd.underlying30 rfl) ?_
    | refine VO.val rfl rfl (OpV.len_v rfl Tryd.underlying30 rfl) ?_
    | refine VO.val rfl rfl (OpV.len_row (i := 0) rfl Tryd.underlying30 rfl rfl) ?_
  refine VO.val rfl rfl (OpV.lss rfl rfl rfl) ?_
  refine VO.nil ?_
  show VC _ _ _ _ _
  refine VC.cond rfl (fun aH1b => ?_) (fun aH1b => ?_)
  · have aH1 := aH1b
    try simp only [decide_eq_true_eq, decide_eq_false_iff_not, Bool.not_eq_true', Bool.not_eq_false', Int.not_lt, Int.not_le] at aH1
    have hk' : k < p.length := by omega
    have hok := near_ok hg hp k (by omega)
    obtain ⟨b1, b2, b3⟩ := hok.best hk'
    have hrp := hp (bestN (near s p k).1 p (near s p k).2.1 p.length).toNat (by omega)
    have hrl := hrp.len
    rw [← hok.len] at hrp
    have hgl := hok.good.len
    have hkl := hok.len
    have hms := missF_len (near s p k).1 (p.getD (bestN (near s p k).1 p (near s p k).2.1 p.length).toNat default)
    have hlo := hok.lo
    have hhi := hok.hi
    have e2 : loadN (chgF (near s p k).1 (nextF (near s p k).1 (p.getD (bestN (near s p k).1 p (near s p k).2.1 p.length).toNat default) []) (near s p k).1.length) = (missF (near s p k).1 (p.getD (bestN (near s p k).1 p (near s p k).2.1 p.length).toNat default)).length := nextF_loads (hrp.fits hok.good.once)
    refine VC.skip ?_
    show VC _ _ _ _ _
    refine VC.block ?_
    refine VC.seq ?_
    refine VC.region ?_
    refine VO.val rfl rfl (OpV.move (.inr rfl) rfl) ?_
    refine VO.nil ?_
    show VC _ _ _ _ _
    refine VC.seq ?_
    refine VC.seq ?_
    refine VC.region ?_
    refine VO.val rfl rfl (OpV.move (.inl rfl) rfl) ?_
    first
      | refine VO.val rfl rfl (OpV.len_im rfl Tryd.underlying30 rfl) ?_
      | refine VO.val rfl rfl (OpV.len_v rfl Tryd.underlying30 rfl) ?_
      | refine VO.val rfl rfl (OpV.len_row (i := 0) rfl Tryd.underlying30 rfl rfl) ?_
    refine VO.val rfl rfl (OpV.move (.inl rfl) rfl) ?_
    refine VO.nil ?_
    show VC _ _ _ _ _
    refine VC.block ?_
    refine VC.loopK [(0, _), (1, _), (6, _), (7, _), (17, _)] ⟨rfl, rfl, rfl, rfl, rfl, trivial⟩ ({q : Nat // q ≤ p.length}) (fun (i : {q : Nat // q ≤ p.length}) => match i with | ⟨q, hq1⟩ => [(8, avI (bestN (near s p k).1 p (near s p k).2.1 q)), (18, avI (q : Int))]) (fun (i : {q : Nat // q ≤ p.length}) => match i with | ⟨q, hq1⟩ => [.row u k 1 (intsL (near s p k).2.1) 3]) (fun (i : {q : Nat // q ≤ p.length}) => match i with | ⟨q, hq1⟩ => 0) (fun (i : {q : Nat // q ≤ p.length}) => match i with | ⟨q, hq1⟩ => p.length - q) ⟨0, Nat.zero_le _⟩ (Le.mk hB [0] ⟨rfl, rfl, rfl, rfl, rfl, rfl, rfl, trivial⟩ rfl rfl (Nat.le_refl _)) ?_
    rintro ⟨q, hq1⟩
    show VC _ _ _ _ ⟨[(8, avI (bestN (near s p k).1 p (near s p k).2.1 q)), (18, avI (q : Int))] ++ [(0, _), (1, _), (6, _), (7, _), (17, _)], [.row u k 1 (intsL (near s p k).2.1) 3], 0⟩
    have hbi := bestN_in (s := (near s p k).1) (p := p) (out := (near s p k).2.1) q
    refine VC.seq ?_
    refine VC.region ?_
    refine VO.val rfl rfl (OpV.lss rfl rfl rfl) ?_
    refine VO.nil ?_
    show VC _ _ _ _ _
    refine VC.seq ?_
    refine VC.cond rfl (fun aH2b => ?_) (fun aH2b => ?_)
    · have aH2 := aH2b
      try simp only [decide_eq_true_eq, decide_eq_false_iff_not, Bool.not_eq_true', Bool.not_eq_false', Int.not_lt, Int.not_le] at aH2
      refine VC.skip ?_
      show VC _ _ _ _ _
      refine VC.seq ?_
      refine VC.block ?_
      refine VC.seq ?_
      refine VC.region ?_
      refine VO.val rfl rfl (OpV.move (.inl rfl) rfl) ?_
      refine VO.val rfl rfl (OpV.move (.inr rfl) rfl) ?_
      refine VO.nil ?_
      show VC _ _ _ _ _
      refine VC.seq ?_
      refine VC.draw (fun _ => NoB) hB (by kernel_rfl) ?_
      refine VA.take (i := 0) rfl (by kernel_rfl) (by kernel_rfl) (by kernel_rfl) rfl rfl (OpV.move (.inl rfl) rfl) ?_
      refine VA.take (i := 1) rfl (by kernel_rfl) (by kernel_rfl) (by kernel_rfl) rfl rfl (OpV.move (.inl rfl) rfl) ?_
      refine VA.all (rs := [2]) (by kernel_rfl) (by decide) ?_
      refine ⟨⟨_, rfl, .inl rfl, ?_⟩, trivial⟩
      refine OpE.callL rfl hB rfl Tryd.call61 (slices_Contains_int (by rw [hok.num]; omega)) (ArgsP.cons (ArgP.rowI (i := 0) rfl rfl hok.num.symm) (ArgsP.cons (ArgP.ev rfl) (ArgsP.nil))) ?_
      rintro _ rfl
      refine VA.take (i := 3) rfl (by kernel_rfl) (by kernel_rfl) (by kernel_rfl) rfl rfl (OpV.not rfl rfl) ?_
      refine VA.take (i := 4) rfl (by kernel_rfl) (by kernel_rfl) (by kernel_rfl) rfl rfl (OpV.move (.inl rfl) rfl) ?_
      refine VA.split (t := 25) rfl (fun aK3b => ?_) (fun aK3b => ?_)
      · have aK3 := aK3b
        try simp only [decide_eq_true_eq, decide_eq_false_iff_not, Bool.not_eq_true', Bool.not_eq_false', Int.not_lt, Int.not_le] at aK3
        refine VA.takeY (i := 5) rfl (by kernel_rfl) (by kernel_rfl) (by kernel_rfl) rfl rfl rfl rfl aK3b (OpV.move (.inl rfl) rfl) ?_
        refine VA.takeY (i := 6) rfl (by kernel_rfl) (by kernel_rfl) (by kernel_rfl) rfl rfl rfl rfl aK3b (OpV.lss rfl rfl rfl) ?_
        refine VA.takeY (i := 7) rfl (by kernel_rfl) (by kernel_rfl) (by kernel_rfl) rfl rfl rfl rfl aK3b (OpV.move (.inl rfl) rfl) ?_
        refine VA.split (t := 28) rfl (fun aK4b => ?_) (fun aK4b => ?_)
        · have aK4 := aK4b
          try simp only [decide_eq_true_eq, decide_eq_false_iff_not, Bool.not_eq_true', Bool.not_eq_false', Int.not_lt, Int.not_le] at aK4
          refine VA.takeX (i := 8) rfl (by kernel_rfl) (by kernel_rfl) (by kernel_rfl) rfl rfl rfl rfl aK4b ?_
          refine VA.takeX (i := 9) rfl (by kernel_rfl) (by kernel_rfl) (by kernel_rfl) rfl rfl rfl rfl aK4b ?_
          refine VA.takeX (i := 10) rfl (by kernel_rfl) (by kernel_rfl) (by kernel_rfl) rfl rfl rfl rfl aK4b ?_
          refine VA.takeX (i := 11) rfl (by kernel_rfl) (by kernel_rfl) (by kernel_rfl) rfl rfl rfl rfl aK4b ?_
          refine VA.takeX (i := 12) rfl (by kernel_rfl) (by kernel_rfl) (by kernel_rfl) rfl rfl rfl rfl aK4b ?_
          refine VA.takeX (i := 13) rfl (by kernel_rfl) (by kernel_rfl) (by kernel_rfl) rfl rfl rfl rfl aK4b ?_
          refine VA.takeX (i := 14) rfl (by kernel_rfl) (by kernel_rfl) (by kernel_rfl) rfl rfl rfl rfl aK4b ?_
          refine VA.takeX (i := 15) rfl (by kernel_rfl) (by kernel_rfl) (by kernel_rfl) rfl rfl rfl rfl aK4b ?_
          refine VA.takeX (i := 16) rfl (by kernel_rfl) (by kernel_rfl) (by kernel_rfl) rfl rfl rfl rfl aK4b ?_
          refine VA.takeX (i := 17) rfl (by kernel_rfl) (by kernel_rfl) (by kernel_rfl) rfl rfl rfl rfl aK4b ?_
          refine VA.takeX (i := 18) rfl (by kernel_rfl) (by kernel_rfl) (by kernel_rfl) rfl rfl rfl rfl aK4b ?_
          refine VA.takeX (i := 19) rfl (by kernel_rfl) (by kernel_rfl) (by kernel_rfl) rfl rfl rfl rfl aK4b ?_
          refine VA.takeX (i := 20) rfl (by kernel_rfl) (by kernel_rfl) (by kernel_rfl) rfl rfl rfl rfl aK4b ?_
          refine VA.takeX (i := 21) rfl (by kernel_rfl) (by kernel_rfl) (by kernel_rfl) rfl rfl rfl rfl aK4b ?_
          refine VA.takeX (i := 22) rfl (by kernel_rfl) (by kernel_rfl) (by kernel_rfl) rfl rfl rfl rfl aK4b ?_
          refine VA.takeY (i := 23) rfl (by kernel_rfl) (by kernel_rfl) (by kernel_rfl) rfl rfl rfl rfl aK3b (OpV.pickT rfl rfl rfl rfl aK4b) ?_
          refine VA.take (i := 24) rfl (by kernel_rfl) (by kernel_rfl) (by kernel_rfl) rfl rfl (OpV.pickT rfl rfl rfl rfl aK3b) ?_
          refine VA.done (by kernel_rfl) ?_
          show VC _ _ _ _ _
          refine VC.condT rfl rfl ?_
          refine VC.region ?_
          refine VO.val rfl rfl (OpV.move (.inl rfl) rfl) ?_
          refine VO.val rfl rfl (OpV.move (.inr rfl) rfl) ?_
          refine VO.nil ?_
          show VC _ _ _ _ _
          refine VC.region ?_
          refine VO.val rfl rfl (OpV.add rfl rfl rfl (by unfold fits; omega)) ?_
          refine VO.val rfl rfl (OpV.move (.inl rfl) rfl) ?_
          refine VO.nil ?_
          exact Exists.intro (⟨q + 1, by omega⟩) (And.intro (Le.mk hB [0] ⟨(by dsimp only; first | (rw [bestN_used (by assumption)]; rfl) | (rw [bestN_first (by assumption) (by assumption)]; rfl) | (rw [bestN_new (by assumption) (by omega) (by omega)]; rfl) | (rw [bestN_old (by assumption) (by omega) (by omega)]; rfl)), rfl, rfl, rfl, rfl, rfl, rfl, trivial⟩ rfl rfl (Nat.le_refl _)) (by first | omega | (show _ < _; omega) | (simp only []; omega)))
        · have aK4 := aK4b
          try simp only [decide_eq_true_eq, decide_eq_false_iff_not, Bool.not_eq_true', Bool.not_eq_false', Int.not_lt, Int.not_le] at aK4
          refine VA.takeY (i := 8) rfl (by kernel_rfl) (by kernel_rfl) (by kernel_rfl) rfl rfl rfl rfl aK4b (OpV.move (.inl rfl) rfl) ?_
          refine VA.takeY (i := 9) rfl (by kernel_rfl) (by kernel_rfl) (by kernel_rfl) rfl rfl rfl rfl aK4b (OpV.move (.inl rfl) rfl) ?_
          refine VA.takeY (i := 10) rfl (by kernel_rfl) (by kernel_rfl) (by kernel_rfl) rfl rfl rfl rfl aK4b (OpV.move (.inl rfl) rfl) ?_
          first
            | refine VA.takeY (i := 11) rfl (by kernel_rfl) (by kernel_rfl) (by kernel_rfl) rfl rfl rfl rfl aK4b (OpV.indexAddr_1 rfl Tryd.underlying30 Tryd.sizeOf27 rfl rfl rfl (by omega)) ?_
            | refine VA.takeY (i := 11) rfl (by kernel_rfl) (by kernel_rfl) (by kernel_rfl) rfl rfl rfl rfl aK4b (OpV.indexAddr_1 rfl Tryd.underlying30 Tryd.sizeOf27 rfl rfl (Int.toNat_of_nonneg (by omega)).symm (by omega)) ?_
            | refine VA.takeY (i := 11) rfl (by kernel_rfl) (by kernel_rfl) (by kernel_rfl) rfl rfl rfl rfl aK4b (OpV.indexAddr_o rfl Tryd.underlying30 Tryd.sizeOf27 rfl rfl rfl (by omega)) ?_
            | refine VA.takeY (i := 11) rfl (by kernel_rfl) (by kernel_rfl) (by kernel_rfl) rfl rfl rfl rfl aK4b (OpV.indexAddr_o rfl Tryd.underlying30 Tryd.sizeOf27 rfl rfl (Int.toNat_of_nonneg (by omega)).symm (by omega)) ?_
            | refine VA.takeY (i := 11) rfl (by kernel_rfl) (by kernel_rfl) (by kernel_rfl) rfl rfl rfl rfl aK4b (OpV.indexAddr_q rfl Tryd.underlying30 Tryd.sizeOf27 rfl rfl rfl (by omega)) ?_
            | refine VA.takeY (i := 11) rfl (by kernel_rfl) (by kernel_rfl) (by kernel_rfl) rfl rfl rfl rfl aK4b (OpV.indexAddr_q rfl Tryd.underlying30 Tryd.sizeOf27 rfl rfl (Int.toNat_of_nonneg (by omega)).symm (by omega)) ?_
            | refine VA.takeY (i := 11) rfl (by kernel_rfl) (by kernel_rfl) (by kernel_rfl) rfl rfl rfl rfl aK4b (OpV.indexAddr_im rfl Tryd.underlying30 Tryd.sizeOf27 rfl rfl (by omega) (by omega)) ?_
          first
            | refine VA.takeY (i := 12) rfl (by kernel_rfl) (by kernel_rfl) (by kernel_rfl) rfl rfl rfl rfl aK4b (OpV.load_at rfl hB OutW.wi0 Tryd.isAgg27 rfl rfl) ?_
            | refine VA.takeY (i := 12) rfl (by kernel_rfl) (by kernel_rfl) (by kernel_rfl) rfl rfl rfl rfl aK4b (OpV.load_own (i := 0) rfl hB Tryd.isAgg27 rfl rfl rfl Wi.not0) ?_
          refine VA.takeY (i := 15) rfl (by kernel_rfl) (by kernel_rfl) (by kernel_rfl) rfl rfl rfl rfl aK4b (OpV.move (.inl rfl) rfl) ?_
          refine VA.takeY (i := 16) rfl (by kernel_rfl) (by kernel_rfl) (by kernel_rfl) rfl rfl rfl rfl aK4b (OpV.move (.inl rfl) rfl) ?_
          refine VA.takeY (i := 17) rfl (by kernel_rfl) (by kernel_rfl) (by kernel_rfl) rfl rfl rfl rfl aK4b (OpV.move (.inl rfl) rfl) ?_
          first
            | refine VA.takeY (i := 18) rfl (by kernel_rfl) (by kernel_rfl) (by kernel_rfl) rfl rfl rfl rfl aK4b (OpV.indexAddr_1 rfl Tryd.underlying30 Tryd.sizeOf27 rfl rfl (Int.toNat_of_nonneg (by omega)).symm (by omega)) ?_
            | refine VA.takeY (i := 18) rfl (by kernel_rfl) (by kernel_rfl) (by kernel_rfl) rfl rfl rfl rfl aK4b (OpV.indexAddr_o rfl Tryd.underlying30 Tryd.sizeOf27 rfl rfl (Int.toNat_of_nonneg (by omega)).symm (by omega)) ?_
            | refine VA.takeY (i := 18) rfl (by kernel_rfl) (by kernel_rfl) (by kernel_rfl) rfl rfl rfl rfl aK4b (OpV.indexAddr_q rfl Tryd.underlying30 Tryd.sizeOf27 rfl rfl (Int.toNat_of_nonneg (by omega)).symm (by omega)) ?_
            | refine VA.takeY (i := 18) rfl (by kernel_rfl) (by kernel_rfl) (by kernel_rfl) rfl rfl rfl rfl aK4b (OpV.indexAddr_im rfl Tryd.underlying30 Tryd.sizeOf27 rfl rfl (by omega) (by omega)) ?_
          first
            | refine VA.takeY (i := 19) rfl (by kernel_rfl) (by kernel_rfl) (by kernel_rfl) rfl rfl rfl rfl aK4b (OpV.load_at rfl hB OutW.wi0 Tryd.isAgg27 rfl rfl) ?_
            | refine VA.takeY (i := 19) rfl (by kernel_rfl) (by kernel_rfl) (by kernel_rfl) rfl rfl rfl rfl aK4b (OpV.load_own (i := 0) rfl hB Tryd.isAgg27 rfl rfl rfl Wi.not0) ?_
          refine VA.all (rs := [13]) (by kernel_rfl) (by decide) ?_
          refine ⟨⟨_, rfl, .inr ⟨_, _, _, rfl, rfl, (look_k rfl aK4b)⟩, ?_⟩, trivial⟩
          refine OpE.call rfl hB rfl Tryd.call18 rfl (SpecN.spec (rf_MissingOf hok.good.sms (hps.2 _))) ?_
          rintro _ rfl
          first
            | refine VA.takeY (i := 14) rfl (by kernel_rfl) (by kernel_rfl) (by kernel_rfl) rfl rfl rfl rfl aK4b (OpV.len_im rfl Tryd.underlying27 rfl) ?_
            | refine VA.takeY (i := 14) rfl (by kernel_rfl) (by kernel_rfl) (by kernel_rfl) rfl rfl rfl rfl aK4b (OpV.len_v rfl Tryd.underlying27 rfl) ?_
            | refine VA.takeY (i := 14) rfl (by kernel_rfl) (by kernel_rfl) (by kernel_rfl) rfl rfl rfl rfl aK4b (OpV.len_row (i := 0) rfl Tryd.underlying27 rfl rfl) ?_
          refine VA.all (rs := [20]) (by kernel_rfl) (by decide) ?_
          refine ⟨⟨_, rfl, .inr ⟨_, _, _, rfl, rfl, (look_k rfl aK4b)⟩, ?_⟩, trivial⟩
          refine OpE.call rfl hB rfl Tryd.call18 rfl (SpecN.spec (rf_MissingOf hok.good.sms (hps.2 _))) ?_
          rintro _ rfl
          first
            | refine VA.takeY (i := 21) rfl (by kernel_rfl) (by kernel_rfl) (by kernel_rfl) rfl rfl rfl rfl aK4b (OpV.len_im rfl Tryd.underlying27 rfl) ?_
            | refine VA.takeY (i := 21) rfl (by kernel_rfl) (by kernel_rfl) (by kernel_rfl) rfl rfl rfl rfl aK4b (OpV.len_v rfl Tryd.underlying27 rfl) ?_
            | refine VA.takeY (i := 21) rfl (by kernel_rfl) (by kernel_rfl) (by kernel_rfl) rfl rfl rfl rfl aK4b (OpV.len_row (i := 0) rfl Tryd.underlying27 rfl rfl) ?_
          refine VA.takeY (i := 22) rfl (by kernel_rfl) (by kernel_rfl) (by kernel_rfl) rfl rfl rfl rfl aK4b (OpV.lss rfl rfl rfl) ?_
          refine VA.takeY (i := 23) rfl (by kernel_rfl) (by kernel_rfl) (by kernel_rfl) rfl rfl rfl rfl aK3b (OpV.pickF rfl rfl rfl rfl aK4b) ?_
          refine VA.take (i := 24) rfl (by kernel_rfl) (by kernel_rfl) (by kernel_rfl) rfl rfl (OpV.pickT rfl rfl rfl rfl aK3b) ?_
          refine VA.done (by kernel_rfl) ?_
          show VC _ _ _ _ _
          refine VC.cond rfl (fun aH5b => ?_) (fun aH5b => ?_)
          · have aH5 := aH5b
            try simp only [decide_eq_true_eq, decide_eq_false_iff_not, Bool.not_eq_true', Bool.not_eq_false', Int.not_lt, Int.not_le] at aH5
            refine VC.region ?_
            refine VO.val rfl rfl (OpV.move (.inl rfl) rfl) ?_
            refine VO.val rfl rfl (OpV.move (.inr rfl) rfl) ?_
            refine VO.nil ?_
            show VC _ _ _ _ _
            refine VC.region ?_
            refine VO.val rfl rfl (OpV.add rfl rfl rfl (by unfold fits; omega)) ?_
            refine VO.val rfl rfl (OpV.move (.inl rfl) rfl) ?_
            refine VO.nil ?_
            exact Exists.intro (⟨q + 1, by omega⟩) (And.intro (Le.mk hB [0] ⟨(by dsimp only; first | (rw [bestN_used (by assumption)]; rfl) | (rw [bestN_first (by assumption) (by assumption)]; rfl) | (rw [bestN_new (by assumption) (by omega) (by omega)]; rfl) | (rw [bestN_old (by assumption) (by omega) (by omega)]; rfl)), rfl, rfl, rfl, rfl, rfl, rfl, trivial⟩ rfl rfl (Nat.le_refl _)) (by first | omega | (show _ < _; omega) | (simp only []; omega)))
          · have aH5 := aH5b
            try simp only [decide_eq_true_eq, decide_eq_false_iff_not, Bool.not_eq_true', Bool.not_eq_false', Int.not_lt, Int.not_le] at aH5
            refine VC.skip ?_
            show VC _ _ _ _ _
            refine VC.region ?_
            refine VO.val rfl rfl (OpV.add rfl rfl rfl (by unfold fits; omega)) ?_
            refine VO.val rfl rfl (OpV.move (.inl rfl) rfl) ?_
            refine VO.nil ?_
            exact Exists.intro (⟨q + 1, by omega⟩) (And.intro (Le.mk hB [0] ⟨(by dsimp only; first | (rw [bestN_used (by assumption)]; rfl) | (rw [bestN_first (by assumption) (by assumption)]; rfl) | (rw [bestN_new (by assumption) (by omega) (by omega)]; rfl) | (rw [bestN_old (by assumption) (by omega) (by omega)]; rfl)), rfl, rfl, rfl, rfl, rfl, rfl, trivial⟩ rfl rfl (Nat.le_refl _)) (by first | omega | (show _ < _; omega) | (simp only []; omega)))
      · have aK3 := aK3b
        try simp only [decide_eq_true_eq, decide_eq_false_iff_not, Bool.not_eq_true', Bool.not_eq_false', Int.not_lt, Int.not_le] at aK3
        refine VA.takeX (i := 5) rfl (by kernel_rfl) (by kernel_rfl) (by kernel_rfl) rfl rfl rfl rfl aK3b ?_
        refine VA.takeX (i := 6) rfl (by kernel_rfl) (by kernel_rfl) (by kernel_rfl) rfl rfl rfl rfl aK3b ?_
        refine VA.takeX (i := 7) rfl (by kernel_rfl) (by kernel_rfl) (by kernel_rfl) rfl rfl rfl rfl aK3b ?_
        refine VA.takeU (i := 8) rfl (by kernel_rfl) (by kernel_rfl) (by kernel_rfl) rfl rfl rfl rfl ?_
        refine VA.takeU (i := 9) rfl (by kernel_rfl) (by kernel_rfl) (by kernel_rfl) rfl rfl rfl rfl ?_
        refine VA.takeU (i := 10) rfl (by kernel_rfl) (by kernel_rfl) (by kernel_rfl) rfl rfl rfl rfl ?_
        refine VA.takeU (i := 11) rfl (by kernel_rfl) (by kernel_rfl) (by kernel_rfl) rfl rfl rfl rfl ?_
        refine VA.takeU (i := 12) rfl (by kernel_rfl) (by kernel_rfl) (by kernel_rfl) rfl rfl rfl rfl ?_
        refine VA.takeU (i := 13) rfl (by kernel_rfl) (by kernel_rfl) (by kernel_rfl) rfl rfl rfl rfl ?_
        refine VA.takeU (i := 14) rfl (by kernel_rfl) (by kernel_rfl) (by kernel_rfl) rfl rfl rfl rfl ?_
        refine VA.takeU (i := 15) rfl (by kernel_rfl) (by kernel_rfl) (by kernel_rfl) rfl rfl rfl rfl ?_
        refine VA.takeU (i := 16) rfl (by kernel_rfl) (by kernel_rfl) (by kernel_rfl) rfl rfl rfl rfl ?_
        refine VA.takeU (i := 17) rfl (by kernel_rfl) (by kernel_rfl) (by kernel_rfl) rfl rfl rfl rfl ?_
        refine VA.takeU (i := 18) rfl (by kernel_rfl) (by kernel_rfl) (by kernel_rfl) rfl rfl rfl rfl ?_
        refine VA.takeU (i := 19) rfl (by kernel_rfl) (by kernel_rfl) (by kernel_rfl) rfl rfl rfl rfl ?_
        refine VA.takeU (i := 20) rfl (by kernel_rfl) (by kernel_rfl) (by kernel_rfl) rfl rfl rfl rfl ?_
        refine VA.takeU (i := 21) rfl (by kernel_rfl) (by kernel_rfl) (by kernel_rfl) rfl rfl rfl rfl ?_
        refine VA.takeU (i := 22) rfl (by kernel_rfl) (by kernel_rfl) (by kernel_rfl) rfl rfl rfl rfl ?_
        refine VA.takeX (i := 23) rfl (by kernel_rfl) (by kernel_rfl) (by kernel_rfl) rfl rfl rfl rfl aK3b ?_
        refine VA.take (i := 24) rfl (by kernel_rfl) (by kernel_rfl) (by kernel_rfl) rfl rfl (OpV.pickF rfl rfl rfl rfl aK3b) ?_
        refine VA.done (by kernel_rfl) ?_
        show VC _ _ _ _ _
        refine VC.condF rfl rfl ?_
        refine VC.skip ?_
        show VC _ _ _ _ _
        refine VC.region ?_
        refine VO.val rfl rfl (OpV.add rfl rfl rfl (by unfold fits; omega)) ?_
        refine VO.val rfl rfl (OpV.move (.inl rfl) rfl) ?_
        refine VO.nil ?_
        exact Exists.intro (⟨q + 1, by omega⟩) (And.intro (Le.mk hB [0] ⟨(by dsimp only; first | (rw [bestN_used (by assumption)]; rfl) | (rw [bestN_first (by assumption) (by assumption)]; rfl) | (rw [bestN_new (by assumption) (by omega) (by omega)]; rfl) | (rw [bestN_old (by assumption) (by omega) (by omega)]; rfl)), rfl, rfl, rfl, rfl, rfl, rfl, trivial⟩ rfl rfl (Nat.le_refl _)) (by first | omega | (show _ < _; omega) | (simp only []; omega)))
    · have aH2 := aH2b
      try simp only [decide_eq_true_eq, decide_eq_false_iff_not, Bool.not_eq_true', Bool.not_eq_false', Int.not_lt, Int.not_le] at aH2
      obtain rfl : q = p.length := by omega
      refine VC.exit ?_
      show VC _ _ _ _ _
      refine VC.seq ?_
      refine VC.region ?_
      refine VO.val rfl rfl (OpV.move (.inl rfl) rfl) ?_
      refine VO.val rfl rfl (OpV.move (.inl rfl) rfl) ?_
      refine VO.val rfl rfl (OpV.move (.inl rfl) rfl) ?_
      first
        | refine VO.val rfl rfl (OpV.indexAddr_1 rfl Tryd.underlying30 Tryd.sizeOf27 rfl rfl (Int.toNat_of_nonneg b1).symm (by omega)) ?_
        | refine VO.val rfl rfl (OpV.indexAddr_o rfl Tryd.underlying30 Tryd.sizeOf27 rfl rfl (Int.toNat_of_nonneg b1).symm (by omega)) ?_
        | refine VO.val rfl rfl (OpV.indexAddr_q rfl Tryd.underlying30 Tryd.sizeOf27 rfl rfl (Int.toNat_of_nonneg b1).symm (by omega)) ?_
        | refine VO.val rfl rfl (OpV.indexAddr_im rfl Tryd.underlying30 Tryd.sizeOf27 rfl rfl (by omega) (by omega)) ?_
      first
        | refine VO.val rfl rfl (OpV.load_at rfl hB OutW.no Tryd.isAgg27 rfl rfl) ?_
        | refine VO.val rfl rfl (OpV.load_own (i := 0) rfl hB Tryd.isAgg27 rfl rfl rfl (fun h => h)) ?_
      refine VO.op rfl (OpE.callL rfl hB rfl Tryd.call38 (rf_NextOf hok.good hrp smss_nil) (ArgsP.cons (ArgP.ev rfl) (ArgsP.cons (ArgP.ev rfl) (ArgsP.cons (ArgP.nil rfl) (ArgsP.nil)))) ?_)
      rintro _ rfl
      refine VO.val rfl rfl (OpV.move (.inr rfl) rfl) ?_
      refine VO.nil ?_
      show VC _ _ _ _ _
      refine VC.seq ?_
      refine VC.region ?_
      refine VO.val rfl rfl (OpV.move (.inl rfl) rfl) ?_
      refine VO.val rfl rfl (OpV.move (.inl rfl) rfl) ?_
      refine VO.val rfl rfl (OpV.move (.inl rfl) rfl) ?_
      refine VO.op rfl (OpE.call rfl hB rfl Tryd.call20 rfl (SpecN.spec (rf_LoadsOf (by omega) (by rw [nextF_len]))) ?_)
      rintro _ rfl
      refine VO.val rfl rfl (OpV.add rfl rfl rfl (by unfold fits; omega)) ?_
      refine VO.val rfl rfl (OpV.move (.inr rfl) rfl) ?_
      refine VO.nil ?_
      show VC _ _ _ _ _
      refine VC.region ?_
      refine VO.val rfl rfl (OpV.move (.inl rfl) rfl) ?_
      refine VO.val rfl rfl (OpV.move (.inl rfl) rfl) ?_
      refine VO.val rfl rfl (OpV.move (.inl rfl) rfl) ?_
      refine VO.op rfl (OpE.buildSlice (zc := #[.int .i64 0]) rfl hB rfl Tryd.underlying22 Tryd.sizeOf3 Tryd.zeroValue3 (by decide) (by decide) (by kernel_rfl) rfl rfl ?_)
      refine VO.op rfl (OpE.append1 (i := 0) rfl hB rfl Tryd.underlying22 (infoOf Tryd.t3 1 (by kernel_rfl) rfl rfl) rfl (by decide) (by decide) rfl rfl rfl rfl (intsL_snoc _ _) (by omega) (fun _ _ => trivial) ?_)
      intro u2
      refine VO.val rfl rfl (OpV.move (.inr rfl) rfl) ?_
      refine VO.val rfl rfl (OpV.move (.inr rfl) rfl) ?_
      refine VO.nil ?_
      first
        | exact Exists.intro (⟨(u2, k + 1), by show _ ≤ _; omega⟩) (And.intro (Le.mk hB [0] ⟨rfl, rfl, (by dsimp only; rw [e2]; rfl), rfl, trivial⟩ rfl rfl (Nat.le_refl _)) (by first | omega | (show _ < _; omega) | (simp only []; omega)))
        | exact Exists.intro (⟨(u, k + 1), by show _ ≤ _; omega⟩) (And.intro (Le.mk hB [0] ⟨rfl, rfl, (by dsimp only; rw [e2]; rfl), rfl, trivial⟩ rfl rfl (Nat.le_refl _)) (by first | omega | (show _ < _; omega) | (simp only []; omega)))
  · have aH1 := aH1b
    try simp only [decide_eq_true_eq, decide_eq_false_iff_not, Bool.not_eq_true', Bool.not_eq_false', Int.not_lt, Int.not_le] at aH1
    obtain rfl : k = p.length := by omega
    refine VC.exit ?_
    show VC _ _ _ _ _
    refine VC.seq ?_
    refine VC.region ?_
    refine VO.val rfl rfl (OpV.move (.inl rfl) rfl) ?_
    refine VO.val rfl rfl (OpV.move (.inl rfl) rfl) ?_
    refine VO.val rfl rfl (OpV.move (.inr rfl) rfl) ?_
    refine VO.val rfl rfl (OpV.move (.inr rfl) rfl) ?_
    refine VO.nil ?_
    show VC _ _ _ _ _
    refine VC.le ⟨[(4, _), (5, _)], [_], 0⟩ (Le.pick hB [0] ⟨rfl, rfl, trivial⟩ rfl rfl (Nat.le_refl _)) ?_
    refine VC.ret ?_
    exact Exists.intro _ (And.intro (RetV.two Tryd.results31 (ResV.tmp rfl) (ResV.tmp rfl)) (⟨_, rfl, rfl⟩))
def nearL (s : List ByteArray) (p : List (List ByteArray)) : List Int := if setsF s p = 0 then (near s p p.length).2.1 else []
def nearK (s : List ByteArray) (p : List (List ByteArray)) : Int := if setsF s p = 0 then (near s p p.length).2.2 else 0
set_option maxRecDepth 100000 in
theorem setup_Nearest {s : List ByteArray} {p : List (List ByteArray)} (hs : SmS s) (hps : SmSS p) :
    SpecH Tryd.prog 29 [avStrs s, avM p] [] (fun y hp' => ∃ u, y = .tup [.v u, avI (nearK s p), avI (setsF s p)] ∧ hp' = [.row u ((nearL s p).length) (1) (intsL (nearL s p)) (3)]) := by
  refine SpecH.of_VC Tryd.func29 rfl Tryd.ntmps29 (Nat.le_of_ble_eq_true rfl) fun w A hB => ?_
  have hnew : True := trivial
  refine VC.seq ?_
  refine VC.region ?_
  refine VO.val rfl rfl (OpV.move (.inr rfl) rfl) ?_
  refine VO.val rfl rfl (OpV.move (.inr rfl) rfl) ?_
  refine VO.val rfl rfl (OpV.move (.inr rfl) rfl) ?_
  refine VO.nil ?_
  show VC _ _ _ _ _
  refine VC.seq ?_
  refine VC.seq ?_
  refine VC.region ?_
  refine VO.val rfl rfl (OpV.move (.inl rfl) rfl) ?_
  refine VO.val rfl rfl (OpV.move (.inl rfl) rfl) ?_
  refine VO.op rfl (OpE.call rfl hB rfl Tryd.call47 rfl (SpecN.spec (setup_fault hs hps)) ?_)
  rintro _ rfl
  refine VO.val rfl rfl (OpV.move (.inr rfl) rfl) ?_
  refine VO.nil ?_
  show VC _ _ _ _ _
  refine VC.seq ?_
  refine VC.region ?_
  refine VO.val rfl rfl (OpV.move (.inl rfl) rfl) ?_
  refine VO.val rfl rfl (OpV.neq rfl rfl rfl) ?_
  refine VO.nil ?_
  show VC _ _ _ _ _
  refine VC.cond rfl (fun h0b => ?_) (fun h0b => ?_)
  · have h0 := h0b
    try simp only [decide_eq_true_eq, decide_eq_false_iff_not, Bool.not_eq_true', Bool.not_eq_false', Int.not_lt, Int.not_le] at h0
    rw [nearL, if_neg h0, nearK, if_neg h0]
    refine VC.seq ?_
    refine VC.region ?_
    refine VO.val rfl rfl (OpV.move (.inl rfl) rfl) ?_
    refine VO.val rfl rfl (OpV.move (.inr rfl) rfl) ?_
    refine VO.val rfl rfl (OpV.move (.inr rfl) rfl) ?_
    refine VO.val rfl rfl (OpV.move (.inr rfl) rfl) ?_
    refine VO.nil ?_
    show VC _ _ _ _ _
    refine VC.le _ (Le.nilRow 1 3) ?_
    refine VC.le ⟨[(4, _), (5, _), (6, _)], [_], 0⟩ (Le.pick hB [0] ⟨rfl, rfl, rfl, trivial⟩ rfl rfl (Nat.le_refl _)) ?_
    refine VC.ret ?_
    exact Exists.intro _ (And.intro (RetV.three Tryd.results29 (ResV.tmp rfl) (ResV.tmp rfl) (ResV.tmp rfl)) (⟨_, rfl, rfl⟩))
  · have h0 := h0b
    try simp only [decide_eq_true_eq, decide_eq_false_iff_not, Bool.not_eq_true', Bool.not_eq_false', Int.not_lt, Int.not_le] at h0
    have h00 : setsF s p = 0 := by omega
    have hg := (setsF_zero h00).2.1
    have hl2 := (setsF_zero h00).2.2.1
    have hp := (setsF_zero h00).2.2.2.1
    have hnum := (near_ok hg hp p.length (Nat.le_refl _)).num
    rw [nearL, if_pos h00, nearK, if_pos h00, h00, hnum]
    refine VC.skip ?_
    show VC _ _ _ _ _
    refine VC.seq ?_
    refine VC.region ?_
    refine VO.val rfl rfl (OpV.move (.inl rfl) rfl) ?_
    refine VO.op rfl (OpE.callR rfl hB rfl Tryd.call45 (slices_CloneS_R hs.1) (ArgsP.cons (ArgP.ev rfl) (ArgsP.nil)) ?_)
    intro us
    refine VO.val rfl rfl (OpV.move (.inr rfl) rfl) ?_
    refine VO.nil ?_
    show VC _ _ _ _ _
    refine VC.seq ?_
    refine VC.region ?_
    refine VO.val rfl rfl (OpV.move (.inl rfl) rfl) ?_
    first
      | refine VO.val rfl rfl (OpV.len_im rfl Tryd.underlying30 rfl) ?_
      | refine VO.val rfl rfl (OpV.len_v rfl Tryd.underlying30 rfl) ?_
      | refine VO.val rfl rfl (OpV.len_row (i := 0) rfl Tryd.underlying30 rfl rfl) ?_
    refine VO.op rfl (OpE.make rfl hB rfl Tryd.underlying87 (infoOf Tryd.t4 1 (by kernel_rfl) rfl rfl) (by decide) rfl rfl (n := p.length) rfl rfl (by omega) (usedL_make rfl) ?_)
    intro gu
    rw [usedL_len]
    refine VO.val rfl rfl (OpV.move (.inr rfl) rfl) ?_
    refine VO.nil ?_
    show VC _ _ _ _ _
    refine VC.seq ?_
    refine VC.region ?_
    refine VO.val rfl rfl (OpV.move (.inr rfl) rfl) ?_
    refine VO.nil ?_
    show VC _ _ _ _ _
    refine VC.seq ?_
    refine VC.region ?_
    refine VO.val rfl rfl (OpV.move (.inr rfl) rfl) ?_
    refine VO.nil ?_
    show VC _ _ _ _ _
    refine VC.seq ?_
    refine VC.seq ?_
    refine VC.region ?_
    refine VO.val rfl rfl (OpV.move (.inl rfl) rfl) ?_
    first
      | refine VO.val rfl rfl (OpV.len_im rfl Tryd.underlying30 rfl) ?_
      | refine VO.val rfl rfl (OpV.len_v rfl Tryd.underlying30 rfl) ?_
      | refine VO.val rfl rfl (OpV.len_row (i := 0) rfl Tryd.underlying30 rfl rfl) ?_
      | refine VO.val rfl rfl (OpV.len_row (i := 1) rfl Tryd.underlying30 rfl rfl) ?_
    refine VO.val rfl rfl (OpV.move (.inl rfl) rfl) ?_
    refine VO.nil ?_
    show VC _ _ _ _ _
    refine VC.block ?_
    refine VC.le _ (Le.nilRow 1 3) ?_
    refine VC.loopK [(0, _), (1, _), (8, _), (28, _)] ⟨rfl, rfl, rfl, rfl, trivial⟩ ({zz : Value × Nat // zz.2 ≤ p.length}) (fun (i : {zz : Value × Nat // zz.2 ≤ p.length}) => match i with | ⟨⟨u, k⟩, hq⟩ => [(9, .v u), (10, avI (near s p k).2.2), (29, avI (k : Int))]) (fun (i : {zz : Value × Nat // zz.2 ≤ p.length}) => match i with | ⟨⟨u, k⟩, hq⟩ => [.row us (near s p k).1.length 1 (strsL (near s p k).1) 9, .box gu ⟨usedL p.length (near s p k).2.1, 4, p.length⟩, .row u k 1 (intsL (near s p k).2.1) 3]) (fun (i : {zz : Value × Nat // zz.2 ≤ p.length}) => match i with | ⟨⟨u, k⟩, hq⟩ => 0) (fun (i : {zz : Value × Nat // zz.2 ≤ p.length}) => match i with | ⟨⟨u, k⟩, hq⟩ => p.length - k) ⟨(.slice none 0 0, 0), Nat.zero_le _⟩ (Le.mk hB [0, 1, 2] ⟨rfl, rfl, rfl, rfl, rfl, rfl, rfl, trivial⟩ rfl rfl (Nat.le_refl _)) ?_
    rintro ⟨⟨u, k⟩, hq⟩
    show VC _ _ _ _ ⟨[(9, .v u), (10, avI (near s p k).2.2), (29, avI (k : Int))] ++ [(0, _), (1, _), (8, _), (28, _)], [.row us (near s p k).1.length 1 (strsL (near s p k).1) 9, .box gu ⟨usedL p.length (near s p k).2.1, 4, p.length⟩, .row u k 1 (intsL (near s p k).2.1) 3], 0⟩
    simp only at hq
    refine VC.seq ?_
    refine VC.region ?_
    refine VO.val rfl rfl (OpV.lss rfl rfl rfl) ?_
    refine VO.nil ?_
    show VC _ _ _ _ _
    refine VC.seq ?_
    refine VC.cond rfl (fun aH1b => ?_) (fun aH1b => ?_)
    · have aH1 := aH1b
      try simp only [decide_eq_true_eq, decide_eq_false_iff_not, Bool.not_eq_true', Bool.not_eq_false', Int.not_lt, Int.not_le] at aH1
      have hk' : k < p.length := by omega
      have hok := near_ok hg hp k (by omega)
      obtain ⟨b1, b2, b3⟩ := hok.best hk'
      have hrp := hp (bestN (near s p k).1 p (near s p k).2.1 p.length).toNat (by omega)
      have hrl := hrp.len
      rw [← hok.len] at hrp
      have hgl := hok.good.len
      have hkl := hok.len
      have hms := missF_len (near s p k).1 (p.getD (bestN (near s p k).1 p (near s p k).2.1 p.length).toNat default)
      have hlo := hok.lo
      have hhi := hok.hi
      refine VC.skip ?_
      show VC _ _ _ _ _
      refine VC.seq ?_
      refine VC.block ?_
      refine VC.seq ?_
      refine VC.region ?_
      refine VO.val rfl rfl (OpV.move (.inr rfl) rfl) ?_
      refine VO.val rfl rfl (OpV.move (.inr rfl) rfl) ?_
      refine VO.nil ?_
      show VC _ _ _ _ _
      refine VC.seq ?_
      refine VC.seq ?_
      refine VC.region ?_
      refine VO.val rfl rfl (OpV.move (.inl rfl) rfl) ?_
      first
        | refine VO.val rfl rfl (OpV.len_im rfl Tryd.underlying30 rfl) ?_
        | refine VO.val rfl rfl (OpV.len_v rfl Tryd.underlying30 rfl) ?_
        | refine VO.val rfl rfl (OpV.len_row (i := 0) rfl Tryd.underlying30 rfl rfl) ?_
        | refine VO.val rfl rfl (OpV.len_row (i := 1) rfl Tryd.underlying30 rfl rfl) ?_
        | refine VO.val rfl rfl (OpV.len_row (i := 2) rfl Tryd.underlying30 rfl rfl) ?_
      refine VO.val rfl rfl (OpV.move (.inl rfl) rfl) ?_
      refine VO.nil ?_
      show VC _ _ _ _ _
      refine VC.block ?_
      refine VC.loopK [(0, _), (1, _), (8, _), (9, _), (10, _), (28, _), (29, _), (31, _), (32, _)] ⟨rfl, rfl, rfl, rfl, rfl, rfl, rfl, rfl, rfl, trivial⟩ ({q : Nat // q ≤ p.length}) (fun (i : {q : Nat // q ≤ p.length}) => match i with | ⟨q, hq1⟩ => [(11, avI (bestN (near s p k).1 p (near s p k).2.1 q)), (12, avI (leastN (near s p k).1 p (bestN (near s p k).1 p (near s p k).2.1 q))), (33, avI (q : Int))]) (fun (i : {q : Nat // q ≤ p.length}) => match i with | ⟨q, hq1⟩ => [.row us (near s p k).1.length 1 (strsL (near s p k).1) 9, .box gu ⟨usedL p.length (near s p k).2.1, 4, p.length⟩, .row u k 1 (intsL (near s p k).2.1) 3]) (fun (i : {q : Nat // q ≤ p.length}) => match i with | ⟨q, hq1⟩ => 0) (fun (i : {q : Nat // q ≤ p.length}) => match i with | ⟨q, hq1⟩ => p.length - q) ⟨0, Nat.zero_le _⟩ (Le.mk hB [0, 1, 2] ⟨rfl, rfl, rfl, rfl, rfl, rfl, rfl, rfl, rfl, rfl, rfl, rfl, trivial⟩ rfl rfl (Nat.le_refl _)) ?_
      rintro ⟨q, hq1⟩
      show VC _ _ _ _ ⟨[(11, avI (bestN (near s p k).1 p (near s p k).2.1 q)), (12, avI (leastN (near s p k).1 p (bestN (near s p k).1 p (near s p k).2.1 q))), (33, avI (q : Int))] ++ [(0, _), (1, _), (8, _), (9, _), (10, _), (28, _), (29, _), (31, _), (32, _)], [.row us (near s p k).1.length 1 (strsL (near s p k).1) 9, .box gu ⟨usedL p.length (near s p k).2.1, 4, p.length⟩, .row u k 1 (intsL (near s p k).2.1) 3], 0⟩
      have hbi := bestN_in (s := (near s p k).1) (p := p) (out := (near s p k).2.1) q
      refine VC.seq ?_
      refine VC.region ?_
      refine VO.val rfl rfl (OpV.lss rfl rfl rfl) ?_
      refine VO.nil ?_
      show VC _ _ _ _ _
      refine VC.seq ?_
      refine VC.cond rfl (fun aH2b => ?_) (fun aH2b => ?_)
      · have aH2 := aH2b
        try simp only [decide_eq_true_eq, decide_eq_false_iff_not, Bool.not_eq_true', Bool.not_eq_false', Int.not_lt, Int.not_le] at aH2
        refine VC.skip ?_
        show VC _ _ _ _ _
        refine VC.seq ?_
        refine VC.block ?_
        refine VC.seq ?_
        refine VC.region ?_
        refine VO.val rfl rfl (OpV.move (.inl rfl) rfl) ?_
        first
          | refine VO.val rfl rfl (OpV.indexAddr_1 rfl Tryd.underlying30 Tryd.sizeOf27 rfl rfl rfl (by omega)) ?_
          | refine VO.val rfl rfl (OpV.indexAddr_1 rfl Tryd.underlying30 Tryd.sizeOf27 rfl rfl (Int.toNat_of_nonneg (by omega)).symm (by omega)) ?_
          | refine VO.val rfl rfl (OpV.indexAddr_o rfl Tryd.underlying30 Tryd.sizeOf27 rfl rfl rfl (by omega)) ?_
          | refine VO.val rfl rfl (OpV.indexAddr_o rfl Tryd.underlying30 Tryd.sizeOf27 rfl rfl (Int.toNat_of_nonneg (by omega)).symm (by omega)) ?_
          | refine VO.val rfl rfl (OpV.indexAddr_q rfl Tryd.underlying30 Tryd.sizeOf27 rfl rfl rfl (by omega)) ?_
          | refine VO.val rfl rfl (OpV.indexAddr_q rfl Tryd.underlying30 Tryd.sizeOf27 rfl rfl (Int.toNat_of_nonneg (by omega)).symm (by omega)) ?_
          | refine VO.val rfl rfl (OpV.indexAddr_im rfl Tryd.underlying30 Tryd.sizeOf27 rfl rfl (by omega) (by omega)) ?_
        first
          | refine VO.val rfl rfl (OpV.load_at rfl hB OutW.no Tryd.isAgg27 rfl rfl) ?_
          | refine VO.val rfl rfl (OpV.load_own (i := 0) rfl hB Tryd.isAgg27 rfl rfl rfl (fun h => h)) ?_
          | refine VO.val rfl rfl (OpV.load_own (i := 1) rfl hB Tryd.isAgg27 rfl rfl rfl (fun h => h)) ?_
          | refine VO.val rfl rfl (OpV.load_own (i := 2) rfl hB Tryd.isAgg27 rfl rfl rfl (fun h => h)) ?_
        refine VO.val rfl rfl (OpV.move (.inr rfl) rfl) ?_
        refine VO.val rfl rfl (OpV.move (.inr rfl) rfl) ?_
        refine VO.nil ?_
        show VC _ _ _ _ _
        refine VC.seq ?_
        refine VC.region ?_
        refine VO.val rfl rfl (OpV.move (.inl rfl) rfl) ?_
        refine VO.val rfl rfl (OpV.move (.inl rfl) rfl) ?_
        refine VO.op rfl (OpE.callL rfl hB rfl Tryd.call48 (setup_missing_N hok.good.sms (hps.2 _)) (ArgsP.cons (ArgP.rowS (i := 0) rfl rfl rfl) (ArgsP.cons (ArgP.ev rfl) (ArgsP.nil))) ?_)
        rintro _ rfl
        first
          | refine VO.val rfl rfl (OpV.len_im rfl Tryd.underlying27 rfl) ?_
          | refine VO.val rfl rfl (OpV.len_v rfl Tryd.underlying27 rfl) ?_
          | refine VO.val rfl rfl (OpV.len_row (i := 0) rfl Tryd.underlying27 rfl rfl) ?_
          | refine VO.val rfl rfl (OpV.len_row (i := 1) rfl Tryd.underlying27 rfl rfl) ?_
          | refine VO.val rfl rfl (OpV.len_row (i := 2) rfl Tryd.underlying27 rfl rfl) ?_
        refine VO.val rfl rfl (OpV.move (.inr rfl) rfl) ?_
        refine VO.nil ?_
        show VC _ _ _ _ _
        refine VC.seq ?_
        refine VC.region ?_
        refine VO.val rfl rfl (OpV.move (.inl rfl) rfl) ?_
        refine VO.val rfl rfl (OpV.move (.inl rfl) rfl) ?_
        first
          | refine VO.val rfl rfl (OpV.indexAddr_1 rfl Tryd.underlying87 Tryd.sizeOf4 rfl rfl rfl (by omega)) ?_
          | refine VO.val rfl rfl (OpV.indexAddr_1 rfl Tryd.underlying87 Tryd.sizeOf4 rfl rfl (Int.toNat_of_nonneg (by omega)).symm (by omega)) ?_
          | refine VO.val rfl rfl (OpV.indexAddr_o rfl Tryd.underlying87 Tryd.sizeOf4 rfl rfl rfl (by omega)) ?_
          | refine VO.val rfl rfl (OpV.indexAddr_o rfl Tryd.underlying87 Tryd.sizeOf4 rfl rfl (Int.toNat_of_nonneg (by omega)).symm (by omega)) ?_
          | refine VO.val rfl rfl (OpV.indexAddr_q rfl Tryd.underlying87 Tryd.sizeOf4 rfl rfl rfl (by omega)) ?_
          | refine VO.val rfl rfl (OpV.indexAddr_q rfl Tryd.underlying87 Tryd.sizeOf4 rfl rfl (Int.toNat_of_nonneg (by omega)).symm (by omega)) ?_
          | refine VO.val rfl rfl (OpV.indexAddr_im rfl Tryd.underlying87 Tryd.sizeOf4 rfl rfl (by omega) (by omega)) ?_
        first
          | refine VO.val rfl rfl (OpV.load_at rfl hB OutW.no Tryd.isAgg4 rfl rfl) ?_
          | refine VO.val rfl rfl (OpV.load_own (i := 0) rfl hB Tryd.isAgg4 rfl rfl (usedL_get (q := q) (by omega)) (fun h => h)) ?_
          | refine VO.val rfl rfl (OpV.load_own (i := 1) rfl hB Tryd.isAgg4 rfl rfl (usedL_get (q := q) (by omega)) (fun h => h)) ?_
          | refine VO.val rfl rfl (OpV.load_own (i := 2) rfl hB Tryd.isAgg4 rfl rfl (usedL_get (q := q) (by omega)) (fun h => h)) ?_
        refine VO.val rfl rfl (OpV.not rfl rfl) ?_
        refine VO.val rfl rfl (OpV.move (.inl rfl) rfl) ?_
        refine VO.opG rfl rfl rfl rfl (fun aK3b => ?_) (fun aK3b => ?_)
        · replace aK3b : _ = true := aK3b
          have aK3 := aK3b
          try simp only [decide_eq_true_eq, decide_eq_false_iff_not, Bool.not_eq_true', Bool.not_eq_false', Int.not_lt, Int.not_le] at aK3
          refine OpE.val (W := NoB) (OpV.move (.inl rfl) rfl) rfl ?_
          refine VO.opY rfl rfl rfl rfl aK3b ?_
          refine OpE.val (W := NoB) (OpV.lss rfl rfl rfl) rfl ?_
          refine VO.opY rfl rfl rfl rfl aK3b ?_
          refine OpE.val (W := NoB) (OpV.move (.inl rfl) rfl) rfl ?_
          refine VO.opG rfl rfl rfl rfl (fun aK4b => ?_) (fun aK4b => ?_)
          · replace aK4b : _ = false := aK4b
            have aK4 := aK4b
            try simp only [decide_eq_true_eq, decide_eq_false_iff_not, Bool.not_eq_true', Bool.not_eq_false', Int.not_lt, Int.not_le] at aK4
            refine OpE.val (W := NoB) (OpV.move (.inl rfl) rfl) rfl ?_
            refine VO.opY rfl rfl rfl rfl aK4b ?_
            refine OpE.val (W := NoB) (OpV.move (.inl rfl) rfl) rfl ?_
            refine VO.opY rfl rfl rfl rfl aK4b ?_
            refine OpE.val (W := NoB) (OpV.lss rfl rfl rfl) rfl ?_
            refine VO.opY rfl rfl rfl rfl aK3b ?_
            refine OpE.val (W := NoB) (OpV.pickF rfl rfl rfl rfl aK4b) rfl ?_
            refine VO.val rfl rfl (OpV.pickT rfl rfl rfl rfl aK3b) ?_
            refine VO.nil ?_
            show VC _ _ _ _ _
            refine VC.cond rfl (fun aH5b => ?_) (fun aH5b => ?_)
            · have aH5 := aH5b
              try simp only [decide_eq_true_eq, decide_eq_false_iff_not, Bool.not_eq_true', Bool.not_eq_false', Int.not_lt, Int.not_le] at aH5
              refine VC.region ?_
              refine VO.val rfl rfl (OpV.move (.inl rfl) rfl) ?_
              refine VO.val rfl rfl (OpV.move (.inl rfl) rfl) ?_
              refine VO.val rfl rfl (OpV.move (.inr rfl) rfl) ?_
              refine VO.val rfl rfl (OpV.move (.inr rfl) rfl) ?_
              refine VO.nil ?_
              show VC _ _ _ _ _
              refine VC.region ?_
              refine VO.val rfl rfl (OpV.add rfl rfl rfl (by unfold fits; omega)) ?_
              refine VO.val rfl rfl (OpV.move (.inl rfl) rfl) ?_
              refine VO.nil ?_
              exact Exists.intro (⟨q + 1, by omega⟩) (And.intro (Le.mk hB [0, 1, 2] ⟨(by dsimp only; first | (rw [bestN_used (by assumption)]; rfl) | (rw [bestN_first (by assumption) (by assumption)]; rfl) | (rw [bestN_new (by assumption) (by omega) (by have := leastN_pos (s := (near s p k).1) (p := p) (b := bestN (near s p k).1 p (near s p k).2.1 q) (by omega); omega)]; rfl) | (rw [bestN_old (by assumption) (by omega) (by have := leastN_pos (s := (near s p k).1) (p := p) (b := bestN (near s p k).1 p (near s p k).2.1 q) (by omega); omega)]; rfl)), (by dsimp only; first | (rw [bestN_used (by assumption)]; rfl) | (rw [bestN_first (by assumption) (by assumption), leastN_q]; rfl) | (rw [bestN_new (by assumption) (by omega) (by have := leastN_pos (s := (near s p k).1) (p := p) (b := bestN (near s p k).1 p (near s p k).2.1 q) (by omega); omega), leastN_q]; rfl) | (rw [bestN_old (by assumption) (by omega) (by have := leastN_pos (s := (near s p k).1) (p := p) (b := bestN (near s p k).1 p (near s p k).2.1 q) (by omega); omega)]; rfl)), rfl, rfl, rfl, rfl, rfl, rfl, rfl, rfl, rfl, rfl, trivial⟩ rfl rfl (Nat.le_refl _)) (by first | omega | (show _ < _; omega) | (simp only []; omega)))
            · have aH5 := aH5b
              try simp only [decide_eq_true_eq, decide_eq_false_iff_not, Bool.not_eq_true', Bool.not_eq_false', Int.not_lt, Int.not_le] at aH5
              refine VC.skip ?_
              show VC _ _ _ _ _
              refine VC.region ?_
              refine VO.val rfl rfl (OpV.add rfl rfl rfl (by unfold fits; omega)) ?_
              refine VO.val rfl rfl (OpV.move (.inl rfl) rfl) ?_
              refine VO.nil ?_
              exact Exists.intro (⟨q + 1, by omega⟩) (And.intro (Le.mk hB [0, 1, 2] ⟨(by dsimp only; first | (rw [bestN_used (by assumption)]; rfl) | (rw [bestN_first (by assumption) (by assumption)]; rfl) | (rw [bestN_new (by assumption) (by omega) (by have := leastN_pos (s := (near s p k).1) (p := p) (b := bestN (near s p k).1 p (near s p k).2.1 q) (by omega); omega)]; rfl) | (rw [bestN_old (by assumption) (by omega) (by have := leastN_pos (s := (near s p k).1) (p := p) (b := bestN (near s p k).1 p (near s p k).2.1 q) (by omega); omega)]; rfl)), (by dsimp only; first | (rw [bestN_used (by assumption)]; rfl) | (rw [bestN_first (by assumption) (by assumption), leastN_q]; rfl) | (rw [bestN_new (by assumption) (by omega) (by have := leastN_pos (s := (near s p k).1) (p := p) (b := bestN (near s p k).1 p (near s p k).2.1 q) (by omega); omega), leastN_q]; rfl) | (rw [bestN_old (by assumption) (by omega) (by have := leastN_pos (s := (near s p k).1) (p := p) (b := bestN (near s p k).1 p (near s p k).2.1 q) (by omega); omega)]; rfl)), rfl, rfl, rfl, rfl, rfl, rfl, rfl, rfl, rfl, rfl, trivial⟩ rfl rfl (Nat.le_refl _)) (by first | omega | (show _ < _; omega) | (simp only []; omega)))
          · replace aK4b : _ = true := aK4b
            have aK4 := aK4b
            try simp only [decide_eq_true_eq, decide_eq_false_iff_not, Bool.not_eq_true', Bool.not_eq_false', Int.not_lt, Int.not_le] at aK4
            refine VO.opX rfl rfl rfl rfl aK4b ?_
            refine VO.opX rfl rfl rfl rfl aK4b ?_
            refine VO.opY rfl rfl rfl rfl aK3b ?_
            refine OpE.val (W := NoB) (OpV.pickT rfl rfl rfl rfl aK4b) rfl ?_
            refine VO.val rfl rfl (OpV.pickT rfl rfl rfl rfl aK3b) ?_
            refine VO.nil ?_
            show VC _ _ _ _ _
            refine VC.condT rfl rfl ?_
            refine VC.region ?_
            refine VO.val rfl rfl (OpV.move (.inl rfl) rfl) ?_
            refine VO.val rfl rfl (OpV.move (.inl rfl) rfl) ?_
            refine VO.val rfl rfl (OpV.move (.inr rfl) rfl) ?_
            refine VO.val rfl rfl (OpV.move (.inr rfl) rfl) ?_
            refine VO.nil ?_
            show VC _ _ _ _ _
            refine VC.region ?_
            refine VO.val rfl rfl (OpV.add rfl rfl rfl (by unfold fits; omega)) ?_
            refine VO.val rfl rfl (OpV.move (.inl rfl) rfl) ?_
            refine VO.nil ?_
            exact Exists.intro (⟨q + 1, by omega⟩) (And.intro (Le.mk hB [0, 1, 2] ⟨(by dsimp only; first | (rw [bestN_used (by assumption)]; rfl) | (rw [bestN_first (by assumption) (by assumption)]; rfl) | (rw [bestN_new (by assumption) (by omega) (by have := leastN_pos (s := (near s p k).1) (p := p) (b := bestN (near s p k).1 p (near s p k).2.1 q) (by omega); omega)]; rfl) | (rw [bestN_old (by assumption) (by omega) (by have := leastN_pos (s := (near s p k).1) (p := p) (b := bestN (near s p k).1 p (near s p k).2.1 q) (by omega); omega)]; rfl)), (by dsimp only; first | (rw [bestN_used (by assumption)]; rfl) | (rw [bestN_first (by assumption) (by assumption), leastN_q]; rfl) | (rw [bestN_new (by assumption) (by omega) (by have := leastN_pos (s := (near s p k).1) (p := p) (b := bestN (near s p k).1 p (near s p k).2.1 q) (by omega); omega), leastN_q]; rfl) | (rw [bestN_old (by assumption) (by omega) (by have := leastN_pos (s := (near s p k).1) (p := p) (b := bestN (near s p k).1 p (near s p k).2.1 q) (by omega); omega)]; rfl)), rfl, rfl, rfl, rfl, rfl, rfl, rfl, rfl, rfl, rfl, trivial⟩ rfl rfl (Nat.le_refl _)) (by first | omega | (show _ < _; omega) | (simp only []; omega)))
        · replace aK3b : _ = false := aK3b
          have aK3 := aK3b
          try simp only [decide_eq_true_eq, decide_eq_false_iff_not, Bool.not_eq_true', Bool.not_eq_false', Int.not_lt, Int.not_le] at aK3
          refine VO.opX rfl rfl rfl rfl aK3b ?_
          refine VO.opX rfl rfl rfl rfl aK3b ?_
          refine VO.opU rfl rfl rfl rfl ?_
          refine VO.opU rfl rfl rfl rfl ?_
          refine VO.opU rfl rfl rfl rfl ?_
          refine VO.opX rfl rfl rfl rfl aK3b ?_
          refine VO.val rfl rfl (OpV.pickF rfl rfl rfl rfl aK3b) ?_
          refine VO.nil ?_
          show VC _ _ _ _ _
          refine VC.condF rfl rfl ?_
          refine VC.skip ?_
          show VC _ _ _ _ _
          refine VC.region ?_
          refine VO.val rfl rfl (OpV.add rfl rfl rfl (by unfold fits; omega)) ?_
          refine VO.val rfl rfl (OpV.move (.inl rfl) rfl) ?_
          refine VO.nil ?_
          exact Exists.intro (⟨q + 1, by omega⟩) (And.intro (Le.mk hB [0, 1, 2] ⟨(by dsimp only; first | (rw [bestN_used (by assumption)]; rfl) | (rw [bestN_first (by assumption) (by assumption)]; rfl) | (rw [bestN_new (by assumption) (by omega) (by have := leastN_pos (s := (near s p k).1) (p := p) (b := bestN (near s p k).1 p (near s p k).2.1 q) (by omega); omega)]; rfl) | (rw [bestN_old (by assumption) (by omega) (by have := leastN_pos (s := (near s p k).1) (p := p) (b := bestN (near s p k).1 p (near s p k).2.1 q) (by omega); omega)]; rfl)), (by dsimp only; first | (rw [bestN_used (by assumption)]; rfl) | (rw [bestN_first (by assumption) (by assumption), leastN_q]; rfl) | (rw [bestN_new (by assumption) (by omega) (by have := leastN_pos (s := (near s p k).1) (p := p) (b := bestN (near s p k).1 p (near s p k).2.1 q) (by omega); omega), leastN_q]; rfl) | (rw [bestN_old (by assumption) (by omega) (by have := leastN_pos (s := (near s p k).1) (p := p) (b := bestN (near s p k).1 p (near s p k).2.1 q) (by omega); omega)]; rfl)), rfl, rfl, rfl, rfl, rfl, rfl, rfl, rfl, rfl, rfl, trivial⟩ rfl rfl (Nat.le_refl _)) (by first | omega | (show _ < _; omega) | (simp only []; omega)))
      · have aH2 := aH2b
        try simp only [decide_eq_true_eq, decide_eq_false_iff_not, Bool.not_eq_true', Bool.not_eq_false', Int.not_lt, Int.not_le] at aH2
        obtain rfl : q = p.length := by omega
        refine VC.exit ?_
        show VC _ _ _ _ _
        refine VC.seq ?_
        refine VC.region ?_
        refine VO.val rfl rfl (OpV.move (.inl rfl) rfl) ?_
        refine VO.val rfl rfl (OpV.move (.inl rfl) rfl) ?_
        first
          | refine VO.val rfl rfl (OpV.indexAddr_1 rfl Tryd.underlying87 Tryd.sizeOf4 rfl rfl (Int.toNat_of_nonneg b1).symm (by omega)) ?_
          | refine VO.val rfl rfl (OpV.indexAddr_o rfl Tryd.underlying87 Tryd.sizeOf4 rfl rfl (Int.toNat_of_nonneg b1).symm (by omega)) ?_
          | refine VO.val rfl rfl (OpV.indexAddr_q rfl Tryd.underlying87 Tryd.sizeOf4 rfl rfl (Int.toNat_of_nonneg b1).symm (by omega)) ?_
          | refine VO.val rfl rfl (OpV.indexAddr_im rfl Tryd.underlying87 Tryd.sizeOf4 rfl rfl (by omega) (by omega)) ?_
        first
          | refine VO.op rfl (OpE.store1 (i := 0) rfl hB rfl Tryd.sizeOf4 rfl rfl rfl rfl rfl rfl (by rw [usedL_len]; omega) (usedL_setI b1 b2) trivial ?_)
          | refine VO.op rfl (OpE.store1 (i := 1) rfl hB rfl Tryd.sizeOf4 rfl rfl rfl rfl rfl rfl (by rw [usedL_len]; omega) (usedL_setI b1 b2) trivial ?_)
          | refine VO.op rfl (OpE.store1 (i := 2) rfl hB rfl Tryd.sizeOf4 rfl rfl rfl rfl rfl rfl (by rw [usedL_len]; omega) (usedL_setI b1 b2) trivial ?_)
        refine VO.nil ?_
        show VC _ _ _ _ _
        refine VC.seq ?_
        refine VC.region ?_
        refine VO.val rfl rfl (OpV.move (.inl rfl) rfl) ?_
        refine VO.val rfl rfl (OpV.move (.inl rfl) rfl) ?_
        refine VO.op rfl (OpE.buildSlice (zc := #[.int .i64 0]) rfl hB rfl Tryd.underlying22 Tryd.sizeOf3 Tryd.zeroValue3 (by decide) (by decide) (by kernel_rfl) rfl rfl ?_)
        first
          | refine VO.op rfl (OpE.append1 (i := 0) rfl hB rfl Tryd.underlying22 (infoOf Tryd.t3 1 (by kernel_rfl) rfl rfl) rfl (by decide) (by decide) rfl rfl rfl rfl (intsL_snoc _ _) (by omega) (fun _ _ => trivial) ?_)
          | refine VO.op rfl (OpE.append1 (i := 1) rfl hB rfl Tryd.underlying22 (infoOf Tryd.t3 1 (by kernel_rfl) rfl rfl) rfl (by decide) (by decide) rfl rfl rfl rfl (intsL_snoc _ _) (by omega) (fun _ _ => trivial) ?_)
          | refine VO.op rfl (OpE.append1 (i := 2) rfl hB rfl Tryd.underlying22 (infoOf Tryd.t3 1 (by kernel_rfl) rfl rfl) rfl (by decide) (by decide) rfl rfl rfl rfl (intsL_snoc _ _) (by omega) (fun _ _ => trivial) ?_)
        intro u2
        refine VO.val rfl rfl (OpV.move (.inr rfl) rfl) ?_
        refine VO.nil ?_
        show VC _ _ _ _ _
        refine VC.region ?_
        refine VO.val rfl rfl (OpV.move (.inl rfl) rfl) ?_
        refine VO.val rfl rfl (OpV.move (.inl rfl) rfl) ?_
        refine VO.val rfl rfl (OpV.move (.inl rfl) rfl) ?_
        refine VO.val rfl rfl (OpV.move (.inl rfl) rfl) ?_
        first
          | refine VO.val rfl rfl (OpV.indexAddr_1 rfl Tryd.underlying30 Tryd.sizeOf27 rfl rfl (Int.toNat_of_nonneg b1).symm (by omega)) ?_
          | refine VO.val rfl rfl (OpV.indexAddr_o rfl Tryd.underlying30 Tryd.sizeOf27 rfl rfl (Int.toNat_of_nonneg b1).symm (by omega)) ?_
          | refine VO.val rfl rfl (OpV.indexAddr_q rfl Tryd.underlying30 Tryd.sizeOf27 rfl rfl (Int.toNat_of_nonneg b1).symm (by omega)) ?_
          | refine VO.val rfl rfl (OpV.indexAddr_im rfl Tryd.underlying30 Tryd.sizeOf27 rfl rfl (by omega) (by omega)) ?_
        first
          | refine VO.val rfl rfl (OpV.load_at rfl hB OutW.no Tryd.isAgg27 rfl rfl) ?_
          | refine VO.val rfl rfl (OpV.load_own (i := 0) rfl hB Tryd.isAgg27 rfl rfl rfl (fun h => h)) ?_
          | refine VO.val rfl rfl (OpV.load_own (i := 1) rfl hB Tryd.isAgg27 rfl rfl rfl (fun h => h)) ?_
          | refine VO.val rfl rfl (OpV.load_own (i := 2) rfl hB Tryd.isAgg27 rfl rfl rfl (fun h => h)) ?_
        refine VO.op rfl (OpE.callH rfl hB rfl Tryd.call60 rfl rfl ((setup_next hok.good hrp smss_nil).nil3) (List.Perm.refl _) (fun _ _ => trivial) ?_)
        rintro _ _ ⟨rfl, rfl⟩
        refine VO.val rfl rfl (OpV.add rfl rfl rfl (by unfold fits; omega)) ?_
        refine VO.val rfl rfl (OpV.move (.inr rfl) rfl) ?_
        refine VO.nil ?_
        show VC _ _ _ _ _
        refine VC.region ?_
        refine VO.val rfl rfl (OpV.add rfl rfl rfl (by unfold fits; omega)) ?_
        refine VO.val rfl rfl (OpV.move (.inl rfl) rfl) ?_
        refine VO.nil ?_
        first
          | exact Exists.intro (⟨(u2, k + 1), by show _ ≤ _; omega⟩) (And.intro (Le.mk hB [0, 1, 2] ⟨rfl, rfl, rfl, rfl, rfl, rfl, rfl, trivial⟩ rfl (by dsimp only; rw [show (near s p (k + 1)).1.length = (near s p k).1.length from nextF_len _ _ _]; rfl) (Nat.le_refl _)) (by first | omega | (show _ < _; omega) | (simp only []; omega)))
          | exact Exists.intro (⟨(u, k + 1), by show _ ≤ _; omega⟩) (And.intro (Le.mk hB [0, 1, 2] ⟨rfl, rfl, rfl, rfl, rfl, rfl, rfl, trivial⟩ rfl (by dsimp only; rw [show (near s p (k + 1)).1.length = (near s p k).1.length from nextF_len _ _ _]; rfl) (Nat.le_refl _)) (by first | omega | (show _ < _; omega) | (simp only []; omega)))
    · have aH1 := aH1b
      try simp only [decide_eq_true_eq, decide_eq_false_iff_not, Bool.not_eq_true', Bool.not_eq_false', Int.not_lt, Int.not_le] at aH1
      obtain rfl : k = p.length := by omega
      refine VC.exit ?_
      show VC _ _ _ _ _
      refine VC.seq ?_
      refine VC.region ?_
      refine VO.val rfl rfl (OpV.move (.inl rfl) rfl) ?_
      refine VO.val rfl rfl (OpV.move (.inl rfl) rfl) ?_
      refine VO.val rfl rfl (OpV.move (.inr rfl) rfl) ?_
      refine VO.val rfl rfl (OpV.move (.inr rfl) rfl) ?_
      refine VO.val rfl rfl (OpV.move (.inr rfl) rfl) ?_
      refine VO.nil ?_
      show VC _ _ _ _ _
      refine VC.le ⟨[(4, _), (5, _), (6, _)], [_], 0⟩ (Le.pick hB [2] ⟨rfl, rfl, rfl, trivial⟩ rfl rfl (Nat.le_refl _)) ?_
      refine VC.ret ?_
      exact Exists.intro _ (And.intro (RetV.three Tryd.results29 (ResV.tmp rfl) (ResV.tmp rfl) (ResV.tmp rfl)) (⟨_, rfl, rfl⟩))
end Go.Proofs.YtpajnlcikmhpdaaDoor
