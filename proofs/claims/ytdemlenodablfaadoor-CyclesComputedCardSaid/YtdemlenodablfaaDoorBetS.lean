/- Walks: a better plan. -/
import Derived.Test.YtdemlenodablfaaDoorCycS
namespace Go.Proofs.YtdemlenodablfaaDoor
open Go.RowKit
set_option linter.unusedVariables false
set_option linter.unusedSimpArgs false

theorem arg1 {x : AV} {w : World} {A : Nat → Prop} {us : Array Value} (h : Args w A [x] us) : ∃ v, us = #[v] ∧ Rep w (fun b => b < w.heap.size ∧ A b) x v := by
  obtain ⟨h1, h2⟩ := h
  refine ⟨us.getD 0 undef, ?_, h2 0 (by simp)⟩
  apply Array.ext (by simpa using h1)
  intro i hi hi'
  simp at hi'
  subst hi'
  simp [Array.getD_eq_getD_getElem?, hi]
theorem slices_Clone_R {xs : List Int} (hl : xs.length ≤ 1000000000) : SpecR Tryd.prog 31 [avInts xs] xs.length 1 (intsL xs) 3 := by
  intro w us ha
  obtain ⟨v, rfl, hv⟩ := arg1 ha
  change Rep w _ (.im xs.length 1 fun j => avI (xs.getD j 0)) v at hv
  generalize hn : xs.length = n at hv
  cases hv with
  | nil =>
    have : xs = [] := List.eq_nil_of_length_eq_zero hn
    subst this
    refine (Tryd.slices_Clone_int_nil 0 0 w).mono ?_
    rintro e w' ⟨rfl, rfl⟩
    exact ⟨_, rfl, ⟨rfl, .inl ⟨rfl, rfl⟩⟩, fun g hg => by simp [Value.ownBlock] at hg, Chg.refl _ _⟩
  | im n sz f b off cap c e u hZ h1 h2 hb hc hr =>
    refine (Tryd.slices_Clone_int b off n cap xs w (by omega) (by omega) (fun j hj => ?_)).mono ?_
    · have k1 := hc j (by omega)
      have k2 := (hr j (by omega)).eq_v
      rw [k2] at k1
      simpa [World.cell?, hb] using k1
    · rintro e w' ⟨v', rfl, h3, h4, h5⟩
      have e1 : (xs.take n).map (Value.int .i64) = xs.map fun x => Value.int .i64 x := by rw [List.take_of_length_le (by omega)]
      rw [e1] at h3
      obtain ⟨q1, q2⟩ := EntR.ofOwns h3
      exact ⟨v', rfl, q1, q2, .ofBelowN h5⟩


def bet3 (ms : List Mach) (ns : List NeedS) (plan : List Int) : Int × Int × Bool := if lineF ms ns plan = 0 then betF ms ns plan plan.length 0 else (0, 0, false)
theorem set_self {l : List Int} {q : Nat} : l.set q (l.getD q 0) = l := by
  apply List.ext_getElem (by simp)
  intro i h1 h2
  rw [List.getElem_set]
  split
  · rename_i e; subst e; simp [h2]
  · rfl
set_option maxRecDepth 100000 in
theorem line_Better {ms : List Mach} {ns : List NeedS} {plan : List Int} (hm : SmallM ms) (hn : SmallN ns) (hp : plan.length ≤ 1000000000) :
    SpecN Tryd.prog 9 [avL ms, avL ns, avInts plan] (fun y => y = .tup [avI (bet3 ms ns plan).1, avI (bet3 ms ns plan).2.1, avB (bet3 ms ns plan).2.2, avI (lineF ms ns plan)]) := by
  refine SpecN.of_VCN Tryd.func9 rfl Tryd.ntmps9 (Nat.le_of_ble_eq_true rfl) fun w A hB => ?_
  have hnew : ∀ b, (B0 w A 72).S b → (B0 w A 72).str b := fun _ h => h.elim
  refine VC.seq ?_
  refine VC.region ?_
  refine VO.val rfl rfl (OpV.move (.inr rfl) rfl) ?_
  refine VO.val rfl rfl (OpV.move (.inr rfl) rfl) ?_
  refine VO.val rfl rfl (OpV.move (.inr rfl) rfl) ?_
  refine VO.val rfl rfl (OpV.move (.inr rfl) rfl) ?_
  refine VO.nil ?_
  show VC _ _ _ _ _
  refine VC.seq ?_
  refine VC.seq ?_
  refine VC.region ?_
  refine VO.val rfl rfl (OpV.move (.inl rfl) rfl) ?_
  refine VO.val rfl rfl (OpV.move (.inl rfl) rfl) ?_
  refine VO.val rfl rfl (OpV.move (.inl rfl) rfl) ?_
  refine VO.op rfl (OpE.call rfl hB rfl Tryd.call27 rfl (SpecN.spec (line_planned hm hn hp)) ?_)
  rintro _ rfl
  refine VO.val rfl rfl (OpV.move (.inr rfl) rfl) ?_
  refine VO.nil ?_
  show VC _ _ _ _ _
  refine VC.seq ?_
  refine VC.region ?_
  refine VO.val rfl rfl (OpV.move (.inl rfl) rfl) ?_
  refine VO.val rfl rfl (OpV.neq rfl rfl rfl) ?_
  refine VO.nil ?_
  show VC _ _ _ _ _
  refine VC.cond rfl (fun h0b => ?_) (fun h0b => ?_)
  · have h0 := h0b
    try simp only [decide_eq_true_eq, decide_eq_false_iff_not, Bool.not_eq_true', Bool.not_eq_false', Int.not_lt, Int.not_le] at h0
    refine VC.seq ?_
    refine VC.region ?_
    refine VO.val rfl rfl (OpV.move (.inl rfl) rfl) ?_
    refine VO.val rfl rfl (OpV.move (.inr rfl) rfl) ?_
    refine VO.val rfl rfl (OpV.move (.inr rfl) rfl) ?_
    refine VO.val rfl rfl (OpV.move (.inr rfl) rfl) ?_
    refine VO.val rfl rfl (OpV.move (.inr rfl) rfl) ?_
    refine VO.nil ?_
    show VC _ _ _ _ _
    refine VC.ret ?_
    exact Exists.intro _ (And.intro (RetN.four Tryd.results9 (ResN.v rfl) (ResN.v rfl) (ResN.v rfl) (ResN.v rfl)) (by rw [bet3, if_neg h0]))
  · have h0 := h0b
    try simp only [decide_eq_true_eq, decide_eq_false_iff_not, Bool.not_eq_true', Bool.not_eq_false', Int.not_lt, Int.not_le] at h0
    obtain ⟨z1, z2, z3⟩ := lineF_0 (ms := ms) (ns := ns) (plan := plan) (by omega)
    have hlen := machF_len z1
    have hcl := fun p => cycL_len ms ns p
    refine VC.skip ?_
    show VC _ _ _ _ _
    refine VC.seq ?_
    refine VC.region ?_
    refine VO.val rfl rfl (OpV.move (.inl rfl) rfl) ?_
    refine VO.val rfl rfl (OpV.move (.inl rfl) rfl) ?_
    refine VO.val rfl rfl (OpV.move (.inl rfl) rfl) ?_
    refine VO.op rfl (OpE.call rfl hB rfl Tryd.call28 rfl (SpecN.spec (line_cycles z1 z2 z3)) ?_)
    rintro _ rfl
    refine VO.op rfl (OpE.call rfl hB rfl Tryd.call29 rfl (SpecN.spec (slices_Max_int (by rw [hcl]; omega) (by rw [hcl]; omega))) ?_)
    rintro _ rfl
    refine VO.val rfl rfl (OpV.move (.inr rfl) rfl) ?_
    refine VO.nil ?_
    show VC _ _ _ _ _
    refine VC.seq ?_
    refine VC.region ?_
    refine VO.val rfl rfl (OpV.move (.inl rfl) rfl) ?_
    refine VO.op rfl (OpE.callR rfl hB rfl Tryd.call31 ((slices_Clone_R (by omega))) (ArgsP.cons (ArgP.ev rfl) (ArgsP.nil)) ?_)
    intro u
    refine VO.val rfl rfl (OpV.move (.inr rfl) rfl) ?_
    refine VO.nil ?_
    show VC _ _ _ _ _
    refine VC.seq ?_
    refine VC.seq ?_
    refine VC.region ?_
    refine VO.val rfl rfl (OpV.move (.inl rfl) rfl) ?_
    first
      | refine VO.val rfl rfl (OpV.len_im rfl Tryd.underlying22 rfl) ?_
      | refine VO.val rfl rfl (OpV.len_v rfl Tryd.underlying22 rfl) ?_
      | refine VO.val rfl rfl (OpV.len_row (i := 0) rfl Tryd.underlying22 rfl rfl) ?_
    refine VO.val rfl rfl (OpV.move (.inl rfl) rfl) ?_
    refine VO.nil ?_
    show VC _ _ _ _ _
    refine VC.block ?_
    refine VC.loop' ({q : Nat // q ≤ plan.length ∧ ∀ j, j < q → (betK ms ns plan (slowC ms ns plan) j ms.length).1 < 0}) (fun (i : {q : Nat // q ≤ plan.length ∧ ∀ j, j < q → (betK ms ns plan (slowC ms ns plan) j ms.length).1 < 0}) => match i with | ⟨q, hq, hb⟩ => ⟨[(0, avL ms), (1, avL ns), (2, .v u), (11, avI (slowC ms ns plan)), (31, .v u), (32, avI plan.length), (33, avI (q : Int))], [.row u plan.length 1 (intsL plan) 3], 0⟩) (fun (i : {q : Nat // q ≤ plan.length ∧ ∀ j, j < q → (betK ms ns plan (slowC ms ns plan) j ms.length).1 < 0}) => match i with | ⟨q, hq, hb⟩ => plan.length - q) ⟨0, Nat.zero_le _, fun j hj => absurd hj (Nat.not_lt_zero j)⟩ (Le.mk hB [0] ⟨rfl, rfl, rfl, rfl, rfl, rfl, rfl, trivial⟩ rfl rfl (Nat.le_refl _)) ?_
    rintro ⟨q, hq, hb⟩
    show VC _ _ _ _ ⟨[(0, avL ms), (1, avL ns), (2, .v u), (11, avI (slowC ms ns plan)), (31, .v u), (32, avI plan.length), (33, avI (q : Int))], [.row u plan.length 1 (intsL plan) 3], 0⟩
    refine VC.seq ?_
    refine VC.region ?_
    refine VO.val rfl rfl (OpV.lss rfl rfl rfl) ?_
    refine VO.nil ?_
    show VC _ _ _ _ _
    refine VC.seq ?_
    refine VC.cond rfl (fun aH1b => ?_) (fun aH1b => ?_)
    · have aH1 := aH1b
      try simp only [decide_eq_true_eq, decide_eq_false_iff_not, Bool.not_eq_true', Bool.not_eq_false', Int.not_lt, Int.not_le] at aH1
      refine VC.skip ?_
      show VC _ _ _ _ _
      refine VC.seq ?_
      refine VC.block ?_
      refine VC.seq ?_
      refine VC.asBox (i := 0) rfl (by omega) (fun g cap hu hcap hmx => ?_)
      subst hu
      refine VC.region ?_
      refine VO.val rfl rfl (OpV.move (.inl rfl) rfl) ?_
      first
        | refine VO.val rfl rfl (OpV.indexAddr_1 rfl Tryd.underlying22 Tryd.sizeOf3 rfl rfl rfl (by omega)) ?_
        | refine VO.val rfl rfl (OpV.indexAddr_1 rfl Tryd.underlying22 Tryd.sizeOf3 rfl rfl (Int.toNat_of_nonneg (by omega)).symm (by omega)) ?_
        | refine VO.val rfl rfl (OpV.indexAddr_o rfl Tryd.underlying22 Tryd.sizeOf3 rfl rfl rfl (by omega)) ?_
        | refine VO.val rfl rfl (OpV.indexAddr_o rfl Tryd.underlying22 Tryd.sizeOf3 rfl rfl (Int.toNat_of_nonneg (by omega)).symm (by omega)) ?_
        | refine VO.val rfl rfl (OpV.indexAddr_q rfl Tryd.underlying22 Tryd.sizeOf3 rfl rfl rfl (by omega)) ?_
        | refine VO.val rfl rfl (OpV.indexAddr_q rfl Tryd.underlying22 Tryd.sizeOf3 rfl rfl (Int.toNat_of_nonneg (by omega)).symm (by omega)) ?_
        | refine VO.val rfl rfl (OpV.indexAddr_im rfl Tryd.underlying22 Tryd.sizeOf3 rfl rfl (by omega) (by omega)) ?_
      first
        | refine VO.val rfl rfl (OpV.load_at rfl hB OutW.no Tryd.isAgg3 rfl rfl) ?_
        | refine VO.val rfl rfl (OpV.load_own (i := 0) rfl hB Tryd.isAgg3 rfl rfl (intsL_get (by omega)) (fun h => h)) ?_
      refine VO.val rfl rfl (OpV.move (.inr rfl) rfl) ?_
      refine VO.val rfl rfl (OpV.move (.inr rfl) rfl) ?_
      refine VO.nil ?_
      show VC _ _ _ _ _
      refine VC.seq ?_
      refine VC.region ?_
      refine VO.val rfl rfl (OpV.move (.inr rfl) rfl) ?_
      refine VO.nil ?_
      show VC _ _ _ _ _
      refine VC.seq ?_
      refine VC.seq ?_
      refine VC.region ?_
      refine VO.val rfl rfl (OpV.move (.inl rfl) rfl) ?_
      first
        | refine VO.val rfl rfl (OpV.len_im rfl Tryd.underlying26 rfl) ?_
        | refine VO.val rfl rfl (OpV.len_v rfl Tryd.underlying26 rfl) ?_
        | refine VO.val rfl rfl (OpV.len_row (i := 0) rfl Tryd.underlying26 rfl rfl) ?_
      refine VO.val rfl rfl (OpV.move (.inl rfl) rfl) ?_
      refine VO.nil ?_
      show VC _ _ _ _ _
      refine VC.block ?_
      refine VC.loop' ({p : Nat × Int // p.1 ≤ ms.length}) (fun (i : {p : Nat × Int // p.1 ≤ ms.length}) => match i with | ⟨⟨k, z⟩, hk⟩ => ⟨[(0, avL ms), (1, avL ns), (2, .v (.slice (some ⟨g, 0, none⟩) plan.length cap)), (11, avI (betK ms ns plan (slowC ms ns plan) q k).2), (12, avI (q : Int)), (13, avI (plan.getD q 0)), (14, avI (betK ms ns plan (slowC ms ns plan) q k).1), (31, .v (.slice (some ⟨g, 0, none⟩) plan.length cap)), (32, avI plan.length), (33, avI (q : Int)), (39, avI ms.length), (40, avI (k : Int))], [.box g ⟨intsL (plan.set q z), 3, cap * 1⟩], 0⟩) (fun (i : {p : Nat × Int // p.1 ≤ ms.length}) => match i with | ⟨⟨k, z⟩, hk⟩ => ms.length - k) ⟨(0, plan.getD q 0), Nat.zero_le _⟩ (Le.mk hB [0] ⟨rfl, rfl, rfl, rfl, rfl, rfl, rfl, rfl, rfl, rfl, rfl, rfl, trivial⟩ rfl (congrArg (fun z => [Ent.box g ⟨intsL z, 3, cap * 1⟩]) set_self.symm) (Nat.le_refl _)) ?_
      rintro ⟨⟨k, z⟩, hk⟩
      show VC _ _ _ _ ⟨[(0, avL ms), (1, avL ns), (2, .v (.slice (some ⟨g, 0, none⟩) plan.length cap)), (11, avI (betK ms ns plan (slowC ms ns plan) q k).2), (12, avI (q : Int)), (13, avI (plan.getD q 0)), (14, avI (betK ms ns plan (slowC ms ns plan) q k).1), (31, .v (.slice (some ⟨g, 0, none⟩) plan.length cap)), (32, avI plan.length), (33, avI (q : Int)), (39, avI ms.length), (40, avI (k : Int))], [.box g ⟨intsL (plan.set q z), 3, cap * 1⟩], 0⟩
      simp only at hk
      refine VC.seq ?_
      refine VC.region ?_
      refine VO.val rfl rfl (OpV.lss rfl rfl rfl) ?_
      refine VO.nil ?_
      show VC _ _ _ _ _
      refine VC.seq ?_
      refine VC.cond rfl (fun aH2b => ?_) (fun aH2b => ?_)
      · have aH2 := aH2b
        try simp only [decide_eq_true_eq, decide_eq_false_iff_not, Bool.not_eq_true', Bool.not_eq_false', Int.not_lt, Int.not_le] at aH2
        refine VC.skip ?_
        show VC _ _ _ _ _
        refine VC.seq ?_
        refine VC.block ?_
        refine VC.seq ?_
        refine VC.region ?_
        refine VO.val rfl rfl (OpV.move (.inl rfl) rfl) ?_
        refine VO.val rfl rfl (OpV.move (.inr rfl) rfl) ?_
        refine VO.nil ?_
        show VC _ _ _ _ _
        refine VC.seq ?_
        refine VC.region ?_
        refine VO.val rfl rfl (OpV.move (.inl rfl) rfl) ?_
        refine VO.val rfl rfl (OpV.move (.inl rfl) rfl) ?_
        refine VO.val rfl rfl (OpV.move (.inl rfl) rfl) ?_
        first
          | refine VO.val rfl rfl (OpV.indexAddr_1 rfl Tryd.underlying22 Tryd.sizeOf3 rfl rfl rfl (by omega)) ?_
          | refine VO.val rfl rfl (OpV.indexAddr_1 rfl Tryd.underlying22 Tryd.sizeOf3 rfl rfl (Int.toNat_of_nonneg (by omega)).symm (by omega)) ?_
          | refine VO.val rfl rfl (OpV.indexAddr_o rfl Tryd.underlying22 Tryd.sizeOf3 rfl rfl rfl (by omega)) ?_
          | refine VO.val rfl rfl (OpV.indexAddr_o rfl Tryd.underlying22 Tryd.sizeOf3 rfl rfl (Int.toNat_of_nonneg (by omega)).symm (by omega)) ?_
          | refine VO.val rfl rfl (OpV.indexAddr_q rfl Tryd.underlying22 Tryd.sizeOf3 rfl rfl rfl (by omega)) ?_
          | refine VO.val rfl rfl (OpV.indexAddr_q rfl Tryd.underlying22 Tryd.sizeOf3 rfl rfl (Int.toNat_of_nonneg (by omega)).symm (by omega)) ?_
          | refine VO.val rfl rfl (OpV.indexAddr_im rfl Tryd.underlying22 Tryd.sizeOf3 rfl rfl (by omega) (by omega)) ?_
        refine VO.op rfl (OpE.store1 (i := 0) rfl hB rfl Tryd.sizeOf3 rfl rfl rfl rfl rfl rfl (by rw [intsL_len, List.length_set]; omega) ((intsL_set _ _ _).trans (congrArg intsL (List.set_set ..))) trivial ?_)
        refine VO.nil ?_
        show VC _ _ _ _ _
        refine VC.seq ?_
        refine VC.seq ?_
        refine VC.region ?_
        refine VO.val rfl rfl (OpV.move (.inl rfl) rfl) ?_
        refine VO.val rfl rfl (OpV.move (.inl rfl) rfl) ?_
        refine VO.val rfl rfl (OpV.move (.inl rfl) rfl) ?_
        refine VO.op rfl (OpE.callL rfl hB rfl Tryd.call32 (line_planFault z1 hn.l (by rw [List.length_set]; omega)) (ArgsP.cons (ArgP.ev rfl) (ArgsP.cons (ArgP.ev rfl) (ArgsP.cons (ArgP.boxI (i := 0) rfl rfl (by rw [List.length_set]) hcap hmx) (ArgsP.nil)))) ?_)
        rintro _ rfl
        refine VO.val rfl rfl (OpV.neq rfl rfl rfl) ?_
        refine VO.nil ?_
        show VC _ _ _ _ _
        refine VC.cond rfl (fun h3b => ?_) (fun h3b => ?_)
        · have h3 := h3b
          try simp only [decide_eq_true_eq, decide_eq_false_iff_not, Bool.not_eq_true', Bool.not_eq_false', Int.not_lt, Int.not_le] at h3
          refine VC.exit ?_
          show VC _ _ _ _ _
          refine VC.region ?_
          refine VO.val rfl rfl (OpV.add rfl rfl rfl (by unfold fits; omega)) ?_
          refine VO.val rfl rfl (OpV.move (.inl rfl) rfl) ?_
          refine VO.nil ?_
          exact Exists.intro (⟨(k + 1, (k : Int)), by show _ ≤ _; omega⟩) (And.intro (Le.mk hB [0] ⟨rfl, rfl, rfl, (by first | (rw [betK_yes ⟨by omega, h4⟩]; rfl) | (rw [betK_no (by omega)]; rfl) | (rw [betK_no (fun h => absurd h.2 (Int.not_lt.2 h4))]; rfl)), rfl, rfl, (by first | (rw [betK_yes ⟨by omega, h4⟩]; rfl) | (rw [betK_no (by omega)]; rfl) | (rw [betK_no (fun h => absurd h.2 (Int.not_lt.2 h4))]; rfl)), rfl, rfl, rfl, rfl, rfl, trivial⟩ rfl rfl (Nat.le_refl _)) (by first | omega | (show _ < _; omega) | (simp only []; omega)))
        · have h3 := h3b
          try simp only [decide_eq_true_eq, decide_eq_false_iff_not, Bool.not_eq_true', Bool.not_eq_false', Int.not_lt, Int.not_le] at h3
          refine VC.skip ?_
          show VC _ _ _ _ _
          refine VC.seq ?_
          refine VC.region ?_
          refine VO.val rfl rfl (OpV.move (.inl rfl) rfl) ?_
          refine VO.val rfl rfl (OpV.move (.inl rfl) rfl) ?_
          refine VO.val rfl rfl (OpV.move (.inl rfl) rfl) ?_
          refine VO.op rfl (OpE.callL rfl hB rfl Tryd.call28 (line_cycles z1 z2 (by omega)) (ArgsP.cons (ArgP.ev rfl) (ArgsP.cons (ArgP.ev rfl) (ArgsP.cons (ArgP.boxI (i := 0) rfl rfl (by rw [List.length_set]) hcap hmx) (ArgsP.nil)))) ?_)
          rintro _ rfl
          refine VO.op rfl (OpE.call rfl hB rfl Tryd.call29 rfl (SpecN.spec (slices_Max_int (by rw [hcl]; omega) (by rw [hcl]; omega))) ?_)
          rintro _ rfl
          refine VO.val rfl rfl (OpV.move (.inr rfl) rfl) ?_
          refine VO.nil ?_
          show VC _ _ _ _ _
          refine VC.seq ?_
          refine VC.region ?_
          refine VO.val rfl rfl (OpV.move (.inl rfl) rfl) ?_
          refine VO.val rfl rfl (OpV.move (.inl rfl) rfl) ?_
          refine VO.val rfl rfl (OpV.lss rfl rfl rfl) ?_
          refine VO.nil ?_
          show VC _ _ _ _ _
          refine VC.cond rfl (fun h4b => ?_) (fun h4b => ?_)
          · have h4 := h4b
            try simp only [decide_eq_true_eq, decide_eq_false_iff_not, Bool.not_eq_true', Bool.not_eq_false', Int.not_lt, Int.not_le] at h4
            refine VC.region ?_
            refine VO.val rfl rfl (OpV.move (.inl rfl) rfl) ?_
            refine VO.val rfl rfl (OpV.move (.inl rfl) rfl) ?_
            refine VO.val rfl rfl (OpV.move (.inr rfl) rfl) ?_
            refine VO.val rfl rfl (OpV.move (.inr rfl) rfl) ?_
            refine VO.nil ?_
            show VC _ _ _ _ _
            refine VC.region ?_
            refine VO.val rfl rfl (OpV.add rfl rfl rfl (by unfold fits; omega)) ?_
            refine VO.val rfl rfl (OpV.move (.inl rfl) rfl) ?_
            refine VO.nil ?_
            exact Exists.intro (⟨(k + 1, (k : Int)), by show _ ≤ _; omega⟩) (And.intro (Le.mk hB [0] ⟨rfl, rfl, rfl, (by first | (rw [betK_yes ⟨by omega, h4⟩]; rfl) | (rw [betK_no (by omega)]; rfl) | (rw [betK_no (fun h => absurd h.2 (Int.not_lt.2 h4))]; rfl)), rfl, rfl, (by first | (rw [betK_yes ⟨by omega, h4⟩]; rfl) | (rw [betK_no (by omega)]; rfl) | (rw [betK_no (fun h => absurd h.2 (Int.not_lt.2 h4))]; rfl)), rfl, rfl, rfl, rfl, rfl, trivial⟩ rfl rfl (Nat.le_refl _)) (by first | omega | (show _ < _; omega) | (simp only []; omega)))
          · have h4 := h4b
            try simp only [decide_eq_true_eq, decide_eq_false_iff_not, Bool.not_eq_true', Bool.not_eq_false', Int.not_lt, Int.not_le] at h4
            refine VC.skip ?_
            show VC _ _ _ _ _
            refine VC.region ?_
            refine VO.val rfl rfl (OpV.add rfl rfl rfl (by unfold fits; omega)) ?_
            refine VO.val rfl rfl (OpV.move (.inl rfl) rfl) ?_
            refine VO.nil ?_
            exact Exists.intro (⟨(k + 1, (k : Int)), by show _ ≤ _; omega⟩) (And.intro (Le.mk hB [0] ⟨rfl, rfl, rfl, (by first | (rw [betK_yes ⟨by omega, h4⟩]; rfl) | (rw [betK_no (by omega)]; rfl) | (rw [betK_no (fun h => absurd h.2 (Int.not_lt.2 h4))]; rfl)), rfl, rfl, (by first | (rw [betK_yes ⟨by omega, h4⟩]; rfl) | (rw [betK_no (by omega)]; rfl) | (rw [betK_no (fun h => absurd h.2 (Int.not_lt.2 h4))]; rfl)), rfl, rfl, rfl, rfl, rfl, trivial⟩ rfl rfl (Nat.le_refl _)) (by first | omega | (show _ < _; omega) | (simp only []; omega)))
      · have aH2 := aH2b
        try simp only [decide_eq_true_eq, decide_eq_false_iff_not, Bool.not_eq_true', Bool.not_eq_false', Int.not_lt, Int.not_le] at aH2
        obtain rfl : k = ms.length := by omega
        refine VC.exit ?_
        show VC _ _ _ _ _
        refine VC.seq ?_
        refine VC.region ?_
        refine VO.val rfl rfl (OpV.move (.inl rfl) rfl) ?_
        refine VO.val rfl rfl (OpV.move (.inl rfl) rfl) ?_
        refine VO.val rfl rfl (OpV.move (.inl rfl) rfl) ?_
        first
          | refine VO.val rfl rfl (OpV.indexAddr_1 rfl Tryd.underlying22 Tryd.sizeOf3 rfl rfl rfl (by omega)) ?_
          | refine VO.val rfl rfl (OpV.indexAddr_1 rfl Tryd.underlying22 Tryd.sizeOf3 rfl rfl (Int.toNat_of_nonneg (by omega)).symm (by omega)) ?_
          | refine VO.val rfl rfl (OpV.indexAddr_o rfl Tryd.underlying22 Tryd.sizeOf3 rfl rfl rfl (by omega)) ?_
          | refine VO.val rfl rfl (OpV.indexAddr_o rfl Tryd.underlying22 Tryd.sizeOf3 rfl rfl (Int.toNat_of_nonneg (by omega)).symm (by omega)) ?_
          | refine VO.val rfl rfl (OpV.indexAddr_q rfl Tryd.underlying22 Tryd.sizeOf3 rfl rfl rfl (by omega)) ?_
          | refine VO.val rfl rfl (OpV.indexAddr_q rfl Tryd.underlying22 Tryd.sizeOf3 rfl rfl (Int.toNat_of_nonneg (by omega)).symm (by omega)) ?_
          | refine VO.val rfl rfl (OpV.indexAddr_im rfl Tryd.underlying22 Tryd.sizeOf3 rfl rfl (by omega) (by omega)) ?_
        refine VO.op rfl (OpE.store1 (i := 0) rfl hB rfl Tryd.sizeOf3 rfl rfl rfl rfl rfl rfl (by rw [intsL_len, List.length_set]; omega) ((intsL_set _ _ _).trans (congrArg intsL ((List.set_set ..).trans set_self))) trivial ?_)
        refine VO.nil ?_
        show VC _ _ _ _ _
        refine VC.seq ?_
        refine VC.region ?_
        refine VO.val rfl rfl (OpV.move (.inl rfl) rfl) ?_
        refine VO.val rfl rfl (OpV.geq rfl rfl rfl) ?_
        refine VO.nil ?_
        show VC _ _ _ _ _
        refine VC.cond rfl (fun h5b => ?_) (fun h5b => ?_)
        · have h5 := h5b
          try simp only [decide_eq_true_eq, decide_eq_false_iff_not, Bool.not_eq_true', Bool.not_eq_false', Int.not_lt, Int.not_le] at h5
          refine VC.seq ?_
          refine VC.region ?_
          refine VO.val rfl rfl (OpV.move (.inl rfl) rfl) ?_
          refine VO.val rfl rfl (OpV.move (.inl rfl) rfl) ?_
          refine VO.val rfl rfl (OpV.move (.inr rfl) rfl) ?_
          refine VO.val rfl rfl (OpV.move (.inr rfl) rfl) ?_
          refine VO.val rfl rfl (OpV.move (.inr rfl) rfl) ?_
          refine VO.val rfl rfl (OpV.move (.inr rfl) rfl) ?_
          refine VO.nil ?_
          show VC _ _ _ _ _
          refine VC.ret ?_
          exact Exists.intro _ (And.intro (RetN.four Tryd.results9 (ResN.v rfl) (ResN.v rfl) (ResN.v rfl) (ResN.v rfl)) (by rw [bet3, if_pos (by omega), betF_at (q := q) (Nat.zero_le _) (by omega) (fun j _ hj => hb j hj) h5, show lineF ms ns plan = 0 by omega]))
        · have h5 := h5b
          try simp only [decide_eq_true_eq, decide_eq_false_iff_not, Bool.not_eq_true', Bool.not_eq_false', Int.not_lt, Int.not_le] at h5
          refine VC.le _ (Le.boxRow (i := 0) (n := plan.length) rfl (by rw [intsL_len]; omega) hcap hmx) ?_
          refine VC.skip ?_
          show VC _ _ _ _ _
          refine VC.region ?_
          refine VO.val rfl rfl (OpV.add rfl rfl rfl (by unfold fits; omega)) ?_
          refine VO.val rfl rfl (OpV.move (.inl rfl) rfl) ?_
          refine VO.nil ?_
          exact Exists.intro (⟨q + 1, by omega, lt_succ_cases hb h5⟩) (And.intro (Le.mk hB [0] ⟨rfl, rfl, rfl, (congrArg (fun p : Int × Int => some (avI p.2)) (betK_neg h5)), rfl, rfl, rfl, trivial⟩ rfl rfl (Nat.le_refl _)) (by first | omega | (show _ < _; omega) | (simp only []; omega)))
    · have aH1 := aH1b
      try simp only [decide_eq_true_eq, decide_eq_false_iff_not, Bool.not_eq_true', Bool.not_eq_false', Int.not_lt, Int.not_le] at aH1
      refine VC.exit ?_
      show VC _ _ _ _ _
      refine VC.seq ?_
      refine VC.region ?_
      refine VO.val rfl rfl (OpV.move (.inr rfl) rfl) ?_
      refine VO.val rfl rfl (OpV.move (.inr rfl) rfl) ?_
      refine VO.val rfl rfl (OpV.move (.inr rfl) rfl) ?_
      refine VO.val rfl rfl (OpV.move (.inr rfl) rfl) ?_
      refine VO.nil ?_
      show VC _ _ _ _ _
      refine VC.ret ?_
      exact Exists.intro _ (And.intro (RetN.four Tryd.results9 (ResN.v rfl) (ResN.v rfl) (ResN.v rfl) (ResN.v rfl)) (by rw [bet3, if_pos (by omega), betF_none (fun j _ hj => hb j (by omega)), show lineF ms ns plan = 0 by omega]))
set_option maxRecDepth 100000 in
theorem rf_BetterOf {ms : List Mach} {ns : List NeedS} {plan : List Int} (z1 : machF ms = 0) (z2 : needsF ns 1 1000 = 0) (z3 : planF ms ns plan = 0) (hp : plan.length ≤ 1000000000) :
    SpecN Tryd.prog 16 [avL ms, avL ns, avInts plan] (fun y => y = .tup [avI (betF ms ns plan plan.length 0).1, avI (betF ms ns plan plan.length 0).2.1, avB (betF ms ns plan plan.length 0).2.2]) := by
  have hlen := machF_len z1
  have hnl := needsF_len z2
  refine SpecN.of_VCN Tryd.func16 rfl Tryd.ntmps16 (Nat.le_of_ble_eq_true rfl) fun w A hB => ?_
  have hnew : ∀ b, (B0 w A 65).S b → (B0 w A 65).str b := fun _ h => h.elim
  refine VC.seq ?_
  refine VC.region ?_
  refine VO.val rfl rfl (OpV.move (.inr rfl) rfl) ?_
  refine VO.val rfl rfl (OpV.move (.inr rfl) rfl) ?_
  refine VO.val rfl rfl (OpV.move (.inr rfl) rfl) ?_
  refine VO.nil ?_
  show VC _ _ _ _ _
  refine VC.seq ?_
  refine VC.region ?_
  refine VO.val rfl rfl (OpV.move (.inl rfl) rfl) ?_
  refine VO.val rfl rfl (OpV.move (.inl rfl) rfl) ?_
  refine VO.val rfl rfl (OpV.move (.inl rfl) rfl) ?_
  refine VO.op rfl (OpE.call rfl hB rfl Tryd.call15 rfl (SpecN.spec (rf_SlowestOf z1 z2 z3)) ?_)
  rintro _ rfl
  refine VO.val rfl rfl (OpV.move (.inl rfl) rfl) ?_
  first
    | refine VO.val rfl rfl (OpV.extract rfl rfl rfl) ?_
    | refine VO.val rfl rfl (OpV.extract_v rfl rfl rfl) ?_
  first
    | refine VO.val rfl rfl (OpV.extract rfl rfl rfl) ?_
    | refine VO.val rfl rfl (OpV.extract_v rfl rfl rfl) ?_
  refine VO.val rfl rfl (OpV.move (.inr rfl) rfl) ?_
  refine VO.val rfl rfl (OpV.move (.inr rfl) rfl) ?_
  refine VO.nil ?_
  show VC _ _ _ _ _
  refine VC.seq ?_
  refine VC.seq ?_
  refine VC.region ?_
  refine VO.val rfl rfl (OpV.move (.inl rfl) rfl) ?_
  first
    | refine VO.val rfl rfl (OpV.len_im rfl Tryd.underlying22 rfl) ?_
    | refine VO.val rfl rfl (OpV.len_v rfl Tryd.underlying22 rfl) ?_
  refine VO.val rfl rfl (OpV.move (.inl rfl) rfl) ?_
  refine VO.nil ?_
  show VC _ _ _ _ _
  refine VC.block ?_
  refine VC.loop' ({q : Nat // q ≤ plan.length ∧ ∀ j, j < q → (betK ms ns plan (slowC ms ns plan) j ms.length).1 < 0}) (fun (i : {q : Nat // q ≤ plan.length ∧ ∀ j, j < q → (betK ms ns plan (slowC ms ns plan) j ms.length).1 < 0}) => match i with | ⟨q, hq, hb⟩ => ⟨[(0, avL ms), (1, avL ns), (2, avInts plan), (10, avI (slowC ms ns plan)), (26, avI plan.length), (27, avI (q : Int))], [], 0⟩) (fun (i : {q : Nat // q ≤ plan.length ∧ ∀ j, j < q → (betK ms ns plan (slowC ms ns plan) j ms.length).1 < 0}) => match i with | ⟨q, hq, hb⟩ => plan.length - q) ⟨0, Nat.zero_le _, fun j hj => absurd hj (Nat.not_lt_zero j)⟩ (Le.mk hB [] ⟨rfl, rfl, rfl, rfl, rfl, rfl, trivial⟩ rfl rfl (Nat.le_refl _)) ?_
  rintro ⟨q, hq, hb⟩
  show VC _ _ _ _ ⟨[(0, avL ms), (1, avL ns), (2, avInts plan), (10, avI (slowC ms ns plan)), (26, avI plan.length), (27, avI (q : Int))], [], 0⟩
  refine VC.seq ?_
  refine VC.region ?_
  refine VO.val rfl rfl (OpV.lss rfl rfl rfl) ?_
  refine VO.nil ?_
  show VC _ _ _ _ _
  refine VC.seq ?_
  refine VC.cond rfl (fun aH1b => ?_) (fun aH1b => ?_)
  · have aH1 := aH1b
    try simp only [decide_eq_true_eq, decide_eq_false_iff_not, Bool.not_eq_true', Bool.not_eq_false', Int.not_lt, Int.not_le] at aH1
    refine VC.skip ?_
    show VC _ _ _ _ _
    refine VC.seq ?_
    refine VC.block ?_
    refine VC.seq ?_
    refine VC.region ?_
    refine VO.val rfl rfl (OpV.move (.inl rfl) rfl) ?_
    refine VO.val rfl rfl (OpV.move (.inr rfl) rfl) ?_
    refine VO.nil ?_
    show VC _ _ _ _ _
    refine VC.seq ?_
    refine VC.region ?_
    refine VO.val rfl rfl (OpV.move (.inl rfl) rfl) ?_
    refine VO.val rfl rfl (OpV.move (.inr rfl) rfl) ?_
    refine VO.val rfl rfl (OpV.move (.inr rfl) rfl) ?_
    refine VO.nil ?_
    show VC _ _ _ _ _
    refine VC.seq ?_
    refine VC.seq ?_
    refine VC.region ?_
    refine VO.val rfl rfl (OpV.move (.inl rfl) rfl) ?_
    first
      | refine VO.val rfl rfl (OpV.len_im rfl Tryd.underlying26 rfl) ?_
      | refine VO.val rfl rfl (OpV.len_v rfl Tryd.underlying26 rfl) ?_
    refine VO.val rfl rfl (OpV.move (.inl rfl) rfl) ?_
    refine VO.nil ?_
    show VC _ _ _ _ _
    refine VC.block ?_
    refine VC.loop' ({k : Nat // k ≤ ms.length}) (fun (i : {k : Nat // k ≤ ms.length}) => match i with | ⟨k, hk⟩ => ⟨[(0, avL ms), (1, avL ns), (2, avInts plan), (10, avI (slowC ms ns plan)), (11, avI (q : Int)), (12, avI (betK ms ns plan (slowC ms ns plan) q k).1), (13, avI (betK ms ns plan (slowC ms ns plan) q k).2), (26, avI plan.length), (27, avI (q : Int)), (32, avI ms.length), (33, avI (k : Int))], [], 0⟩) (fun (i : {k : Nat // k ≤ ms.length}) => match i with | ⟨k, hk⟩ => ms.length - k) ⟨0, Nat.zero_le _⟩ (Le.mk hB [] ⟨rfl, rfl, rfl, rfl, rfl, rfl, rfl, rfl, rfl, rfl, rfl, trivial⟩ rfl rfl (Nat.le_refl _)) ?_
    rintro ⟨k, hk⟩
    show VC _ _ _ _ ⟨[(0, avL ms), (1, avL ns), (2, avInts plan), (10, avI (slowC ms ns plan)), (11, avI (q : Int)), (12, avI (betK ms ns plan (slowC ms ns plan) q k).1), (13, avI (betK ms ns plan (slowC ms ns plan) q k).2), (26, avI plan.length), (27, avI (q : Int)), (32, avI ms.length), (33, avI (k : Int))], [], 0⟩
    refine VC.seq ?_
    refine VC.region ?_
    refine VO.val rfl rfl (OpV.lss rfl rfl rfl) ?_
    refine VO.nil ?_
    show VC _ _ _ _ _
    refine VC.seq ?_
    refine VC.cond rfl (fun aH2b => ?_) (fun aH2b => ?_)
    · have aH2 := aH2b
      try simp only [decide_eq_true_eq, decide_eq_false_iff_not, Bool.not_eq_true', Bool.not_eq_false', Int.not_lt, Int.not_le] at aH2
      refine VC.skip ?_
      show VC _ _ _ _ _
      refine VC.seq ?_
      refine VC.block ?_
      refine VC.seq ?_
      refine VC.region ?_
      refine VO.val rfl rfl (OpV.move (.inl rfl) rfl) ?_
      refine VO.val rfl rfl (OpV.move (.inr rfl) rfl) ?_
      refine VO.nil ?_
      show VC _ _ _ _ _
      refine VC.seq ?_
      refine VC.region ?_
      refine VO.val rfl rfl (OpV.move (.inl rfl) rfl) ?_
      refine VO.op rfl (OpE.callR rfl hB rfl Tryd.call31 ((slices_Clone_R (by omega))) (ArgsP.cons (ArgP.ev rfl) (ArgsP.nil)) ?_)
      intro u
      refine VO.val rfl rfl (OpV.move (.inr rfl) rfl) ?_
      refine VO.nil ?_
      show VC _ _ _ _ _
      refine VC.seq ?_
      refine VC.asBox (i := 0) rfl (by omega) (fun g cap hu hcap hmx => ?_)
      subst hu
      refine VC.region ?_
      refine VO.val rfl rfl (OpV.move (.inl rfl) rfl) ?_
      refine VO.val rfl rfl (OpV.move (.inl rfl) rfl) ?_
      refine VO.val rfl rfl (OpV.move (.inl rfl) rfl) ?_
      first
        | refine VO.val rfl rfl (OpV.indexAddr_1 rfl Tryd.underlying22 Tryd.sizeOf3 rfl rfl rfl (by omega)) ?_
        | refine VO.val rfl rfl (OpV.indexAddr_1 rfl Tryd.underlying22 Tryd.sizeOf3 rfl rfl (Int.toNat_of_nonneg (by omega)).symm (by omega)) ?_
        | refine VO.val rfl rfl (OpV.indexAddr_o rfl Tryd.underlying22 Tryd.sizeOf3 rfl rfl rfl (by omega)) ?_
        | refine VO.val rfl rfl (OpV.indexAddr_o rfl Tryd.underlying22 Tryd.sizeOf3 rfl rfl (Int.toNat_of_nonneg (by omega)).symm (by omega)) ?_
        | refine VO.val rfl rfl (OpV.indexAddr_q rfl Tryd.underlying22 Tryd.sizeOf3 rfl rfl rfl (by omega)) ?_
        | refine VO.val rfl rfl (OpV.indexAddr_q rfl Tryd.underlying22 Tryd.sizeOf3 rfl rfl (Int.toNat_of_nonneg (by omega)).symm (by omega)) ?_
        | refine VO.val rfl rfl (OpV.indexAddr_im rfl Tryd.underlying22 Tryd.sizeOf3 rfl rfl (by omega) (by omega)) ?_
      refine VO.op rfl (OpE.store1 (i := 0) rfl hB rfl Tryd.sizeOf3 rfl rfl rfl rfl rfl rfl (by rw [intsL_len]; omega) (intsL_set _ _ _) trivial ?_)
      refine VO.nil ?_
      show VC _ _ _ _ _
      refine VC.seq ?_
      refine VC.seq ?_
      refine VC.region ?_
      refine VO.val rfl rfl (OpV.move (.inl rfl) rfl) ?_
      refine VO.val rfl rfl (OpV.move (.inl rfl) rfl) ?_
      refine VO.val rfl rfl (OpV.move (.inl rfl) rfl) ?_
      refine VO.op rfl (OpE.callL rfl hB rfl Tryd.call13 (rf_LinePlanFault z1 (by omega) (by rw [List.length_set]; omega)) (ArgsP.cons (ArgP.ev rfl) (ArgsP.cons (ArgP.ev rfl) (ArgsP.cons (ArgP.boxI (i := 0) rfl rfl (by rw [List.length_set]) hcap hmx) (ArgsP.nil)))) ?_)
      rintro _ rfl
      refine VO.val rfl rfl (OpV.neq rfl rfl rfl) ?_
      refine VO.nil ?_
      show VC _ _ _ _ _
      refine VC.cond rfl (fun h3b => ?_) (fun h3b => ?_)
      · have h3 := h3b
        try simp only [decide_eq_true_eq, decide_eq_false_iff_not, Bool.not_eq_true', Bool.not_eq_false', Int.not_lt, Int.not_le] at h3
        refine VC.exit ?_
        show VC _ _ _ _ _
        refine VC.region ?_
        refine VO.val rfl rfl (OpV.add rfl rfl rfl (by unfold fits; omega)) ?_
        refine VO.val rfl rfl (OpV.move (.inl rfl) rfl) ?_
        refine VO.nil ?_
        exact Exists.intro (⟨k + 1, by omega⟩) (And.intro (Le.mk hB [] ⟨rfl, rfl, rfl, rfl, rfl, (by first | (rw [betK_yes ⟨by omega, h4⟩]; rfl) | (rw [betK_no (by omega)]; rfl) | (rw [betK_no (fun h => absurd h.2 (Int.not_lt.2 h4))]; rfl)), (by first | (rw [betK_yes ⟨by omega, h4⟩]; rfl) | (rw [betK_no (by omega)]; rfl) | (rw [betK_no (fun h => absurd h.2 (Int.not_lt.2 h4))]; rfl)), rfl, rfl, rfl, rfl, trivial⟩ rfl rfl (Nat.le_refl _)) (by first | omega | (show _ < _; omega) | (simp only []; omega)))
      · have h3 := h3b
        try simp only [decide_eq_true_eq, decide_eq_false_iff_not, Bool.not_eq_true', Bool.not_eq_false', Int.not_lt, Int.not_le] at h3
        refine VC.skip ?_
        show VC _ _ _ _ _
        refine VC.seq ?_
        refine VC.region ?_
        refine VO.val rfl rfl (OpV.move (.inl rfl) rfl) ?_
        refine VO.val rfl rfl (OpV.move (.inl rfl) rfl) ?_
        refine VO.val rfl rfl (OpV.move (.inl rfl) rfl) ?_
        refine VO.op rfl (OpE.callL rfl hB rfl Tryd.call15 (rf_SlowestOf z1 z2 (by omega)) (ArgsP.cons (ArgP.ev rfl) (ArgsP.cons (ArgP.ev rfl) (ArgsP.cons (ArgP.boxI (i := 0) rfl rfl (by rw [List.length_set]) hcap hmx) (ArgsP.nil)))) ?_)
        rintro _ rfl
        refine VO.val rfl rfl (OpV.move (.inl rfl) rfl) ?_
        first
          | refine VO.val rfl rfl (OpV.extract rfl rfl rfl) ?_
          | refine VO.val rfl rfl (OpV.extract_v rfl rfl rfl) ?_
        first
          | refine VO.val rfl rfl (OpV.extract rfl rfl rfl) ?_
          | refine VO.val rfl rfl (OpV.extract_v rfl rfl rfl) ?_
        refine VO.val rfl rfl (OpV.move (.inr rfl) rfl) ?_
        refine VO.val rfl rfl (OpV.move (.inr rfl) rfl) ?_
        refine VO.nil ?_
        show VC _ _ _ _ _
        refine VC.seq ?_
        refine VC.region ?_
        refine VO.val rfl rfl (OpV.move (.inl rfl) rfl) ?_
        refine VO.val rfl rfl (OpV.move (.inl rfl) rfl) ?_
        refine VO.val rfl rfl (OpV.lss rfl rfl rfl) ?_
        refine VO.nil ?_
        show VC _ _ _ _ _
        refine VC.cond rfl (fun h4b => ?_) (fun h4b => ?_)
        · have h4 := h4b
          try simp only [decide_eq_true_eq, decide_eq_false_iff_not, Bool.not_eq_true', Bool.not_eq_false', Int.not_lt, Int.not_le] at h4
          refine VC.region ?_
          refine VO.val rfl rfl (OpV.move (.inl rfl) rfl) ?_
          refine VO.val rfl rfl (OpV.move (.inl rfl) rfl) ?_
          refine VO.val rfl rfl (OpV.move (.inr rfl) rfl) ?_
          refine VO.val rfl rfl (OpV.move (.inr rfl) rfl) ?_
          refine VO.nil ?_
          show VC _ _ _ _ _
          refine VC.region ?_
          refine VO.val rfl rfl (OpV.add rfl rfl rfl (by unfold fits; omega)) ?_
          refine VO.val rfl rfl (OpV.move (.inl rfl) rfl) ?_
          refine VO.nil ?_
          exact Exists.intro (⟨k + 1, by omega⟩) (And.intro (Le.mk hB [] ⟨rfl, rfl, rfl, rfl, rfl, (by first | (rw [betK_yes ⟨by omega, h4⟩]; rfl) | (rw [betK_no (by omega)]; rfl) | (rw [betK_no (fun h => absurd h.2 (Int.not_lt.2 h4))]; rfl)), (by first | (rw [betK_yes ⟨by omega, h4⟩]; rfl) | (rw [betK_no (by omega)]; rfl) | (rw [betK_no (fun h => absurd h.2 (Int.not_lt.2 h4))]; rfl)), rfl, rfl, rfl, rfl, trivial⟩ rfl rfl (Nat.le_refl _)) (by first | omega | (show _ < _; omega) | (simp only []; omega)))
        · have h4 := h4b
          try simp only [decide_eq_true_eq, decide_eq_false_iff_not, Bool.not_eq_true', Bool.not_eq_false', Int.not_lt, Int.not_le] at h4
          refine VC.skip ?_
          show VC _ _ _ _ _
          refine VC.region ?_
          refine VO.val rfl rfl (OpV.add rfl rfl rfl (by unfold fits; omega)) ?_
          refine VO.val rfl rfl (OpV.move (.inl rfl) rfl) ?_
          refine VO.nil ?_
          exact Exists.intro (⟨k + 1, by omega⟩) (And.intro (Le.mk hB [] ⟨rfl, rfl, rfl, rfl, rfl, (by first | (rw [betK_yes ⟨by omega, h4⟩]; rfl) | (rw [betK_no (by omega)]; rfl) | (rw [betK_no (fun h => absurd h.2 (Int.not_lt.2 h4))]; rfl)), (by first | (rw [betK_yes ⟨by omega, h4⟩]; rfl) | (rw [betK_no (by omega)]; rfl) | (rw [betK_no (fun h => absurd h.2 (Int.not_lt.2 h4))]; rfl)), rfl, rfl, rfl, rfl, trivial⟩ rfl rfl (Nat.le_refl _)) (by first | omega | (show _ < _; omega) | (simp only []; omega)))
    · have aH2 := aH2b
      try simp only [decide_eq_true_eq, decide_eq_false_iff_not, Bool.not_eq_true', Bool.not_eq_false', Int.not_lt, Int.not_le] at aH2
      obtain rfl : k = ms.length := by omega
      refine VC.exit ?_
      show VC _ _ _ _ _
      refine VC.seq ?_
      refine VC.region ?_
      refine VO.val rfl rfl (OpV.move (.inl rfl) rfl) ?_
      refine VO.val rfl rfl (OpV.geq rfl rfl rfl) ?_
      refine VO.nil ?_
      show VC _ _ _ _ _
      refine VC.cond rfl (fun h5b => ?_) (fun h5b => ?_)
      · have h5 := h5b
        try simp only [decide_eq_true_eq, decide_eq_false_iff_not, Bool.not_eq_true', Bool.not_eq_false', Int.not_lt, Int.not_le] at h5
        refine VC.seq ?_
        refine VC.region ?_
        refine VO.val rfl rfl (OpV.move (.inl rfl) rfl) ?_
        refine VO.val rfl rfl (OpV.move (.inl rfl) rfl) ?_
        refine VO.val rfl rfl (OpV.move (.inr rfl) rfl) ?_
        refine VO.val rfl rfl (OpV.move (.inr rfl) rfl) ?_
        refine VO.val rfl rfl (OpV.move (.inr rfl) rfl) ?_
        refine VO.nil ?_
        show VC _ _ _ _ _
        refine VC.ret ?_
        exact Exists.intro _ (And.intro (RetN.three Tryd.results16 (ResN.v rfl) (ResN.v rfl) (ResN.v rfl)) (by rw [betF_at (q := q) (Nat.zero_le _) (by omega) (fun j _ hj => hb j hj) h5]))
      · have h5 := h5b
        try simp only [decide_eq_true_eq, decide_eq_false_iff_not, Bool.not_eq_true', Bool.not_eq_false', Int.not_lt, Int.not_le] at h5
        refine VC.skip ?_
        show VC _ _ _ _ _
        refine VC.region ?_
        refine VO.val rfl rfl (OpV.add rfl rfl rfl (by unfold fits; omega)) ?_
        refine VO.val rfl rfl (OpV.move (.inl rfl) rfl) ?_
        refine VO.nil ?_
        exact Exists.intro (⟨q + 1, by omega, lt_succ_cases hb h5⟩) (And.intro (Le.mk hB [] ⟨rfl, rfl, rfl, rfl, rfl, rfl, trivial⟩ rfl rfl (Nat.le_refl _)) (by first | omega | (show _ < _; omega) | (simp only []; omega)))
  · have aH1 := aH1b
    try simp only [decide_eq_true_eq, decide_eq_false_iff_not, Bool.not_eq_true', Bool.not_eq_false', Int.not_lt, Int.not_le] at aH1
    refine VC.exit ?_
    show VC _ _ _ _ _
    refine VC.seq ?_
    refine VC.region ?_
    refine VO.val rfl rfl (OpV.move (.inr rfl) rfl) ?_
    refine VO.val rfl rfl (OpV.move (.inr rfl) rfl) ?_
    refine VO.val rfl rfl (OpV.move (.inr rfl) rfl) ?_
    refine VO.nil ?_
    show VC _ _ _ _ _
    refine VC.ret ?_
    exact Exists.intro _ (And.intro (RetN.three Tryd.results16 (ResN.v rfl) (ResN.v rfl) (ResN.v rfl)) (by rw [betF_none (fun j _ hj => hb j (by omega))]))
def errsF (xs : List Int) : Int := match xs.find? (fun x => decide (x ≠ 0)) with | some x => x | none => 0
theorem errsF_at {xs : List Int} {q : Nat} (hq : q < xs.length) (hn : ∀ j, j < q → xs.getD j 0 = 0) (h : xs.getD q 0 ≠ 0) : errsF xs = xs.getD q 0 := by
  induction xs generalizing q with
  | nil => simp at hq
  | cons x r ih =>
    cases q with
    | zero => simp at h; simp [errsF, h]
    | succ q =>
      have h0 := hn 0 (by omega)
      simp at h0
      have := ih (q := q) (by simpa using hq) (fun j hj => by simpa using hn (j + 1) (by omega)) (by simpa using h)
      simpa [errsF, h0] using this
theorem errsF_none {xs : List Int} (hn : ∀ j, j < xs.length → xs.getD j 0 = 0) : errsF xs = 0 := by
  induction xs with
  | nil => rfl
  | cons x r ih =>
    have h0 := hn 0 (by simp)
    simp at h0
    have := ih (fun j hj => by simpa using hn (j + 1) (by simpa using hj))
    simpa [errsF, h0] using this
set_option maxRecDepth 100000 in
theorem rf_errs {xs : List Int} (hl : xs.length ≤ 1000000000) :
    SpecN Tryd.prog 10 [avInts xs] (fun y => y = avI (errsF xs)) := by
  refine SpecN.of_VCN Tryd.func10 rfl Tryd.ntmps10 (Nat.le_of_ble_eq_true rfl) fun w A hB => ?_
  have hnew : ∀ b, (B0 w A 15).S b → (B0 w A 15).str b := fun _ h => h.elim
  refine VC.seq ?_
  refine VC.region ?_
  refine VO.val rfl rfl (OpV.move (.inr rfl) rfl) ?_
  refine VO.nil ?_
  show VC _ _ _ _ _
  refine VC.seq ?_
  refine VC.seq ?_
  refine VC.region ?_
  refine VO.val rfl rfl (OpV.move (.inl rfl) rfl) ?_
  first
    | refine VO.val rfl rfl (OpV.len_im rfl Tryd.underlying66 rfl) ?_
    | refine VO.val rfl rfl (OpV.len_v rfl Tryd.underlying66 rfl) ?_
  refine VO.val rfl rfl (OpV.move (.inl rfl) rfl) ?_
  refine VO.nil ?_
  show VC _ _ _ _ _
  refine VC.block ?_
  refine VC.loop' ({q : Nat // q ≤ xs.length ∧ ∀ j, j < q → xs.getD j 0 = 0}) (fun (i : {q : Nat // q ≤ xs.length ∧ ∀ j, j < q → xs.getD j 0 = 0}) => match i with | ⟨q, hq, hn⟩ => ⟨[(5, avInts xs), (6, avI xs.length), (7, avI (q : Int))], [], 0⟩) (fun (i : {q : Nat // q ≤ xs.length ∧ ∀ j, j < q → xs.getD j 0 = 0}) => match i with | ⟨q, hq, hn⟩ => xs.length - q) ⟨0, Nat.zero_le _, fun j hj => absurd hj (Nat.not_lt_zero j)⟩ (Le.mk hB [] ⟨rfl, rfl, rfl, trivial⟩ rfl rfl (Nat.le_refl _)) ?_
  rintro ⟨q, hq, hn⟩
  show VC _ _ _ _ ⟨[(5, avInts xs), (6, avI xs.length), (7, avI (q : Int))], [], 0⟩
  refine VC.seq ?_
  refine VC.region ?_
  refine VO.val rfl rfl (OpV.lss rfl rfl rfl) ?_
  refine VO.nil ?_
  show VC _ _ _ _ _
  refine VC.seq ?_
  refine VC.cond rfl (fun aH1b => ?_) (fun aH1b => ?_)
  · have aH1 := aH1b
    try simp only [decide_eq_true_eq, decide_eq_false_iff_not, Bool.not_eq_true', Bool.not_eq_false', Int.not_lt, Int.not_le] at aH1
    refine VC.skip ?_
    show VC _ _ _ _ _
    refine VC.seq ?_
    refine VC.block ?_
    refine VC.seq ?_
    refine VC.region ?_
    first
      | refine VO.val rfl rfl (OpV.indexAddr_1 rfl Tryd.underlying66 Tryd.sizeOf31 rfl rfl rfl (by omega)) ?_
      | refine VO.val rfl rfl (OpV.indexAddr_1 rfl Tryd.underlying66 Tryd.sizeOf31 rfl rfl (Int.toNat_of_nonneg (by omega)).symm (by omega)) ?_
      | refine VO.val rfl rfl (OpV.indexAddr_o rfl Tryd.underlying66 Tryd.sizeOf31 rfl rfl rfl (by omega)) ?_
      | refine VO.val rfl rfl (OpV.indexAddr_o rfl Tryd.underlying66 Tryd.sizeOf31 rfl rfl (Int.toNat_of_nonneg (by omega)).symm (by omega)) ?_
      | refine VO.val rfl rfl (OpV.indexAddr_q rfl Tryd.underlying66 Tryd.sizeOf31 rfl rfl rfl (by omega)) ?_
      | refine VO.val rfl rfl (OpV.indexAddr_q rfl Tryd.underlying66 Tryd.sizeOf31 rfl rfl (Int.toNat_of_nonneg (by omega)).symm (by omega)) ?_
      | refine VO.val rfl rfl (OpV.indexAddr_im rfl Tryd.underlying66 Tryd.sizeOf31 rfl rfl (by omega) (by omega)) ?_
    refine VO.val rfl rfl (OpV.load_at rfl hB OutW.no Tryd.isAgg31 rfl rfl) ?_
    refine VO.val rfl rfl (OpV.move (.inr rfl) rfl) ?_
    refine VO.nil ?_
    show VC _ _ _ _ _
    refine VC.seq ?_
    refine VC.region ?_
    refine VO.val rfl rfl (OpV.move (.inl rfl) rfl) ?_
    refine VO.val rfl rfl (OpV.neq rfl rfl rfl) ?_
    refine VO.nil ?_
    show VC _ _ _ _ _
    refine VC.cond rfl (fun h1b => ?_) (fun h1b => ?_)
    · have h1 := h1b
      try simp only [decide_eq_true_eq, decide_eq_false_iff_not, Bool.not_eq_true', Bool.not_eq_false', Int.not_lt, Int.not_le] at h1
      refine VC.seq ?_
      refine VC.region ?_
      refine VO.val rfl rfl (OpV.move (.inl rfl) rfl) ?_
      refine VO.val rfl rfl (OpV.move (.inr rfl) rfl) ?_
      refine VO.nil ?_
      show VC _ _ _ _ _
      refine VC.ret ?_
      exact Exists.intro _ (And.intro (RetN.one Tryd.results10 (ResN.v rfl)) (by rw [errsF_at (q := q) (by omega) hn h1]))
    · have h1 := h1b
      try simp only [decide_eq_true_eq, decide_eq_false_iff_not, Bool.not_eq_true', Bool.not_eq_false', Int.not_lt, Int.not_le] at h1
      refine VC.skip ?_
      show VC _ _ _ _ _
      refine VC.region ?_
      refine VO.val rfl rfl (OpV.add rfl rfl rfl (by unfold fits; omega)) ?_
      refine VO.val rfl rfl (OpV.move (.inl rfl) rfl) ?_
      refine VO.nil ?_
      exact Exists.intro (⟨q + 1, by omega, lt_succ_cases hn (by omega)⟩) (And.intro (Le.mk hB [] ⟨rfl, rfl, rfl, trivial⟩ rfl rfl (Nat.le_refl _)) (by first | omega | (show _ < _; omega) | (simp only []; omega)))
  · have aH1 := aH1b
    try simp only [decide_eq_true_eq, decide_eq_false_iff_not, Bool.not_eq_true', Bool.not_eq_false', Int.not_lt, Int.not_le] at aH1
    refine VC.exit ?_
    show VC _ _ _ _ _
    refine VC.seq ?_
    refine VC.region ?_
    refine VO.val rfl rfl (OpV.move (.inr rfl) rfl) ?_
    refine VO.nil ?_
    show VC _ _ _ _ _
    refine VC.ret ?_
    exact Exists.intro _ (And.intro (RetN.one Tryd.results10 (ResN.v rfl)) (by rw [errsF_none (fun j hj => hn j (by omega))]))
end Go.Proofs.YtdemlenodablfaaDoor
