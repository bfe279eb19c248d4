/- Walks: the reference's next setup, setups and totals; the program's Next and Setups. -/
import Derived.Test.YtpajnlcikmhpdaaDoorSetS3
import Derived.Test.YtpajnlcikmhpdaaDoorNextQ
import Derived.Test.YtpajnlcikmhpdaaDoorInsM
namespace Go.Proofs.YtpajnlcikmhpdaaDoor
open Go.RowKit
set_option linter.unusedVariables false
set_option linter.unusedSimpArgs false
theorem strsL_at {xs : List ByteArray} {q : Nat} (h : q < xs.length) : (strsL xs)[q]? = some (avS (xs.getD q ByteArray.empty)) := by simp [strsL, h]
set_option maxRecDepth 100000 in
theorem rf_when1 {l : List ByteArray} {x : ByteArray} (hl : l.length ≤ 1000000000) :
    SpecN Tryd.prog 82 [avStrs l, .at_ 1 (fun _ => avS x)] (fun y => y = avB (has l x)) := by
  refine SpecN.of_VCN Tryd.func82 rfl Tryd.ntmps82 (Nat.le_of_ble_eq_true rfl) fun w A hB => ?_
  have hnew : True := trivial
  refine VC.seq ?_
  refine VC.region ?_
  refine VO.val rfl rfl (OpV.move (.inr rfl) rfl) ?_
  refine VO.nil ?_
  show VC _ _ _ _ _
  refine VC.seq ?_
  refine VC.region ?_
  refine VO.val rfl rfl (OpV.move (.inl rfl) rfl) ?_
  refine VO.val rfl rfl (OpV.load_at rfl hB OutW.no Tryd.isAgg9 rfl rfl) ?_
  refine VO.op rfl (OpE.call rfl hB rfl Tryd.call43 rfl (SpecN.spec (slices_Contains_str hl)) ?_)
  rintro _ rfl
  refine VO.val rfl rfl (OpV.move (.inr rfl) rfl) ?_
  refine VO.nil ?_
  show VC _ _ _ _ _
  refine VC.ret ?_
  exact Exists.intro _ (And.intro (RetN.one Tryd.results82 (ResN.v rfl)) (rfl))
set_option maxRecDepth 100000 in
theorem rf_whenP {x : ByteArray} {later : List (List ByteArray)} (hp : SmSS later) :
    SpecN Tryd.prog 67 [avS x, avM later] (fun y => y = avI (needF x later)) := by
  have hl := hp.1
  refine SpecN.of_VCN Tryd.func67 rfl Tryd.ntmps67 (Nat.le_of_ble_eq_true rfl) fun w A hB => ?_
  have hnew : True := trivial
  refine VC.seq ?_
  refine VC.region ?_
  refine VO.op rfl (OpE.box rfl hB rfl rfl rfl ?_)
  intro g2
  refine VO.val rfl rfl (OpV.move (.inr rfl) rfl) ?_
  refine VO.nil ?_
  show VC _ _ _ _ _
  refine VC.seq ?_
  refine VC.region ?_
  refine VO.val rfl rfl (OpV.move (.inl rfl) rfl) ?_
  refine VO.val rfl rfl (OpV.makeFunc1 rfl rfl) ?_
  refine VO.op rfl (OpE.callL rfl hB rfl Tryd.call81 (slices_IndexFunc_LL (p := fun l => has l x) hl Tryd.call82 (fun i hi => (rf_when1 (hp.2 i).1).spec)) (ArgsP.cons (ArgP.ev rfl) (ArgsP.cons (ArgP.fn1 (i := 0) (m := 1) (f := fun _ => avS x) rfl rfl (Nat.le_of_ble_eq_true rfl) (lt1 rfl)) (ArgsP.nil))) ?_)
  rintro _ rfl
  refine VO.val rfl rfl (OpV.move (.inr rfl) rfl) ?_
  refine VO.nil ?_
  show VC _ _ _ _ _
  refine VC.seq ?_
  refine VC.seq ?_
  refine VC.region ?_
  refine VO.val rfl rfl (OpV.move (.inl rfl) rfl) ?_
  refine VO.val rfl rfl (OpV.lss rfl rfl rfl) ?_
  refine VO.nil ?_
  show VC _ _ _ _ _
  refine VC.cond rfl (fun h0b => ?_) (fun h0b => ?_)
  · have h0 := h0b
    try simp only [decide_eq_true_eq, decide_eq_false_iff_not, Bool.not_eq_true', Bool.not_eq_false', Int.not_lt, Int.not_le] at h0
    refine VC.seq ?_
    refine VC.region ?_
    refine VO.val rfl rfl (OpV.move (.inl rfl) rfl) ?_
    first
      | refine VO.val rfl rfl (OpV.len_im rfl Tryd.underlying30 rfl) ?_
      | refine VO.val rfl rfl (OpV.len_v rfl Tryd.underlying30 rfl) ?_
      | refine VO.val rfl rfl (OpV.len_row (i := 0) rfl Tryd.underlying30 rfl rfl) ?_
    refine VO.val rfl rfl (OpV.move (.inr rfl) rfl) ?_
    refine VO.nil ?_
    show VC _ _ _ _ _
    refine VC.ret ?_
    exact Exists.intro _ (And.intro (RetN.one Tryd.results67 (ResN.v rfl)) (by first | rw [needF, if_neg (by omega)] | rw [needF, if_pos (by omega)]))
  · have h0 := h0b
    try simp only [decide_eq_true_eq, decide_eq_false_iff_not, Bool.not_eq_true', Bool.not_eq_false', Int.not_lt, Int.not_le] at h0
    refine VC.skip ?_
    show VC _ _ _ _ _
    refine VC.seq ?_
    refine VC.region ?_
    refine VO.val rfl rfl (OpV.move (.inl rfl) rfl) ?_
    refine VO.val rfl rfl (OpV.move (.inr rfl) rfl) ?_
    refine VO.nil ?_
    show VC _ _ _ _ _
    refine VC.ret ?_
    exact Exists.intro _ (And.intro (RetN.one Tryd.results67 (ResN.v rfl)) (by first | rw [needF, if_neg (by omega)] | rw [needF, if_pos (by omega)]))
set_option maxRecDepth 100000 in
theorem rf_NextOf {s parts : List ByteArray} {later : List (List ByteArray)} (hg : Good' s) (hp : RightP s.length parts) (hl : SmSS later) :
    SpecN Tryd.prog 38 [avStrs s, avStrs parts, avM later] (fun y => y = avStrs (nextF s parts later)) := by
  have hls := hg.len
  have hlp := hp.len
  have hps := hp.sms (by omega)
  have hml := missF_len s parts
  have hf := hp.fits hg.once
  have hnd := missF_nodup (s := s) hf.pnd
  have hns : ∀ x ∈ missF s parts, x ∉ s := fun x hx => (missF_mem.1 hx).2
  refine SpecN.of_VCN Tryd.func38 rfl Tryd.ntmps38 (Nat.le_of_ble_eq_true rfl) fun w A hB => ?_
  have hnew : True := trivial
  refine VC.seq ?_
  refine VC.region ?_
  refine VO.val rfl rfl (OpV.move (.inr rfl) rfl) ?_
  refine VO.nil ?_
  show VC _ _ _ _ _
  refine VC.seq ?_
  refine VC.region ?_
  refine VO.val rfl rfl (OpV.move (.inl rfl) rfl) ?_
  refine VO.op rfl (OpE.callR rfl hB rfl Tryd.call45 (slices_CloneS_R (by omega)) (ArgsP.cons (ArgP.ev rfl) (ArgsP.nil)) ?_)
  intro u
  refine VO.val rfl rfl (OpV.move (.inr rfl) rfl) ?_
  refine VO.nil ?_
  show VC _ _ _ _ _
  refine VC.seq ?_
  refine VC.seq ?_
  refine VC.region ?_
  refine VO.val rfl rfl (OpV.move (.inl rfl) rfl) ?_
  refine VO.val rfl rfl (OpV.move (.inl rfl) rfl) ?_
  refine VO.op rfl (OpE.call rfl hB rfl Tryd.call18 rfl (SpecN.spec (rf_MissingOf hg.sms hps)) ?_)
  rintro _ rfl
  first
    | refine VO.val rfl rfl (OpV.len_im rfl Tryd.underlying27 rfl) ?_
    | refine VO.val rfl rfl (OpV.len_v rfl Tryd.underlying27 rfl) ?_
    | refine VO.val rfl rfl (OpV.len_row (i := 0) rfl Tryd.underlying27 rfl rfl) ?_
  refine VO.val rfl rfl (OpV.move (.inl rfl) rfl) ?_
  refine VO.nil ?_
  show VC _ _ _ _ _
  refine VC.block ?_
  refine VC.loopK [(1, _), (2, _), (7, _), (18, _), (19, _)] ⟨rfl, rfl, rfl, rfl, rfl, trivial⟩ ({q : Nat // q ≤ (missF s parts).length}) (fun (i : {q : Nat // q ≤ (missF s parts).length}) => match i with | ⟨q, hq⟩ => [(20, avI (q : Int))]) (fun (i : {q : Nat // q ≤ (missF s parts).length}) => match i with | ⟨q, hq⟩ => [.row u s.length 1 (strsL (nextL parts later s ((missF s parts).take q))) 9]) (fun (i : {q : Nat // q ≤ (missF s parts).length}) => match i with | ⟨q, hq⟩ => 0) (fun (i : {q : Nat // q ≤ (missF s parts).length}) => match i with | ⟨q, hq⟩ => (missF s parts).length - q) ⟨0, Nat.zero_le _⟩ (Le.mk hB [0] ⟨rfl, rfl, rfl, rfl, rfl, rfl, trivial⟩ rfl rfl (Nat.le_refl _)) ?_
  rintro ⟨q, hq⟩
  show VC _ _ _ _ ⟨[(20, avI (q : Int))] ++ [(1, _), (2, _), (7, _), (18, _), (19, _)], [.row u s.length 1 (strsL (nextL parts later s ((missF s parts).take q))) 9], 0⟩
  refine VC.seq ?_
  refine VC.region ?_
  refine VO.val rfl rfl (OpV.lss rfl rfl rfl) ?_
  refine VO.nil ?_
  show VC _ _ _ _ _
  refine VC.seq ?_
  refine VC.cond rfl (fun aH1b => ?_) (fun aH1b => ?_)
  · have aH1 := aH1b
    try simp only [decide_eq_true_eq, decide_eq_false_iff_not, Bool.not_eq_true', Bool.not_eq_false', Int.not_lt, Int.not_le] at aH1
    have hq' : q < (missF s parts).length := by omega
    have hcl : (nextL parts later s ((missF s parts).take q)).length = s.length := nextL_len _ _ _ _
    have hx := nextL_not (parts := parts) (later := later) hnd hns hq'
    have hxp : (missF s parts).getD q ByteArray.empty ∈ parts := (missF_mem.1 (by simp [hq'] : (missF s parts).getD q ByteArray.empty ∈ missF s parts)).1
    obtain ⟨k1, k2, k3⟩ := slotF_in (later := later) (nextL_fits (later := later) hf hnd hns q (by omega)) hxp hx
    have hsl : slotF (nextL parts later s ((missF s parts).take q)) parts later = refB (nextL parts later s ((missF s parts).take q)) parts later s.length := by rw [← refB_slot, hcl]
    rw [hcl] at k2
    rw [hsl] at k1 k2
    refine VC.asBox (i := 0) rfl (by omega) (fun g cap hu hcap hmx => ?_)
    subst hu
    refine VC.skip ?_
    show VC _ _ _ _ _
    refine VC.seq ?_
    refine VC.block ?_
    refine VC.seq ?_
    refine VC.region ?_
    first
      | refine VO.val rfl rfl (OpV.indexAddr_1 rfl Tryd.underlying27 Tryd.sizeOf9 rfl rfl rfl (by omega)) ?_
      | refine VO.val rfl rfl (OpV.indexAddr_1 rfl Tryd.underlying27 Tryd.sizeOf9 rfl rfl (Int.toNat_of_nonneg (by omega)).symm (by omega)) ?_
      | refine VO.val rfl rfl (OpV.indexAddr_o rfl Tryd.underlying27 Tryd.sizeOf9 rfl rfl rfl (by omega)) ?_
      | refine VO.val rfl rfl (OpV.indexAddr_o rfl Tryd.underlying27 Tryd.sizeOf9 rfl rfl (Int.toNat_of_nonneg (by omega)).symm (by omega)) ?_
      | refine VO.val rfl rfl (OpV.indexAddr_q rfl Tryd.underlying27 Tryd.sizeOf9 rfl rfl rfl (by omega)) ?_
      | refine VO.val rfl rfl (OpV.indexAddr_q rfl Tryd.underlying27 Tryd.sizeOf9 rfl rfl (Int.toNat_of_nonneg (by omega)).symm (by omega)) ?_
      | refine VO.val rfl rfl (OpV.indexAddr_im rfl Tryd.underlying27 Tryd.sizeOf9 rfl rfl (by omega) (by omega)) ?_
    first
      | refine VO.val rfl rfl (OpV.load_at rfl hB OutW.no Tryd.isAgg9 rfl rfl) ?_
      | refine VO.val rfl rfl (OpV.load_own (i := 0) rfl hB Tryd.isAgg9 rfl rfl rfl (fun h => h)) ?_
    refine VO.val rfl rfl (OpV.move (.inr rfl) rfl) ?_
    refine VO.nil ?_
    show VC _ _ _ _ _
    refine VC.seq ?_
    refine VC.region ?_
    refine VO.val rfl rfl (OpV.move (.inr rfl) rfl) ?_
    refine VO.nil ?_
    show VC _ _ _ _ _
    refine VC.seq ?_
    refine VC.seq ?_
    refine VC.region ?_
    refine VO.val rfl rfl (OpV.move (.inl rfl) rfl) ?_
    first
      | refine VO.val rfl rfl (OpV.len_im rfl Tryd.underlying27 rfl) ?_
      | refine VO.val rfl rfl (OpV.len_v rfl Tryd.underlying27 rfl) ?_
      | refine VO.val rfl rfl (OpV.len_row (i := 0) rfl Tryd.underlying27 rfl rfl) ?_
    refine VO.val rfl rfl (OpV.move (.inl rfl) rfl) ?_
    refine VO.nil ?_
    show VC _ _ _ _ _
    refine VC.block ?_
    refine VC.loopK [(1, _), (2, _), (7, _), (9, _), (18, _), (19, _), (20, _), (24, _), (25, _)] ⟨rfl, rfl, rfl, rfl, rfl, rfl, rfl, rfl, rfl, trivial⟩ ({r : Nat // r ≤ s.length}) (fun (i : {r : Nat // r ≤ s.length}) => match i with | ⟨r, hq1⟩ => [(10, avI (refB (nextL parts later s ((missF s parts).take q)) parts later r)), (26, avI (r : Int))]) (fun (i : {r : Nat // r ≤ s.length}) => match i with | ⟨r, hq1⟩ => [.box g ⟨strsL (nextL parts later s ((missF s parts).take q)), 9, cap * 1⟩]) (fun (i : {r : Nat // r ≤ s.length}) => match i with | ⟨r, hq1⟩ => 0) (fun (i : {r : Nat // r ≤ s.length}) => match i with | ⟨r, hq1⟩ => s.length - r) ⟨0, Nat.zero_le _⟩ (Le.mk hB [0] ⟨rfl, rfl, rfl, rfl, rfl, rfl, rfl, rfl, rfl, rfl, rfl, trivial⟩ rfl rfl (Nat.le_refl _)) ?_
    rintro ⟨r, hq1⟩
    show VC _ _ _ _ ⟨[(10, avI (refB (nextL parts later s ((missF s parts).take q)) parts later r)), (26, avI (r : Int))] ++ [(1, _), (2, _), (7, _), (9, _), (18, _), (19, _), (20, _), (24, _), (25, _)], [.box g ⟨strsL (nextL parts later s ((missF s parts).take q)), 9, cap * 1⟩], 0⟩
    have hri := refB_in (s := nextL parts later s ((missF s parts).take q)) (parts := parts) (later := later) r
    refine VC.seq ?_
    refine VC.region ?_
    refine VO.val rfl rfl (OpV.lss rfl rfl rfl) ?_
    refine VO.nil ?_
    show VC _ _ _ _ _
    refine VC.seq ?_
    refine VC.cond rfl (fun aH2b => ?_) (fun aH2b => ?_)
    · have aH2 := aH2b
      try simp only [decide_eq_true_eq, decide_eq_false_iff_not, Bool.not_eq_true', Bool.not_eq_false', Int.not_lt, Int.not_le] at aH2
      refine VC.skip ?_
      show VC _ _ _ _ _
      refine VC.seq ?_
      refine VC.block ?_
      refine VC.seq ?_
      refine VC.region ?_
      refine VO.val rfl rfl (OpV.move (.inl rfl) rfl) ?_
      first
        | refine VO.val rfl rfl (OpV.indexAddr_1 rfl Tryd.underlying27 Tryd.sizeOf9 rfl rfl rfl (by omega)) ?_
        | refine VO.val rfl rfl (OpV.indexAddr_1 rfl Tryd.underlying27 Tryd.sizeOf9 rfl rfl (Int.toNat_of_nonneg (by omega)).symm (by omega)) ?_
        | refine VO.val rfl rfl (OpV.indexAddr_o rfl Tryd.underlying27 Tryd.sizeOf9 rfl rfl rfl (by omega)) ?_
        | refine VO.val rfl rfl (OpV.indexAddr_o rfl Tryd.underlying27 Tryd.sizeOf9 rfl rfl (Int.toNat_of_nonneg (by omega)).symm (by omega)) ?_
        | refine VO.val rfl rfl (OpV.indexAddr_q rfl Tryd.underlying27 Tryd.sizeOf9 rfl rfl rfl (by omega)) ?_
        | refine VO.val rfl rfl (OpV.indexAddr_q rfl Tryd.underlying27 Tryd.sizeOf9 rfl rfl (Int.toNat_of_nonneg (by omega)).symm (by omega)) ?_
        | refine VO.val rfl rfl (OpV.indexAddr_im rfl Tryd.underlying27 Tryd.sizeOf9 rfl rfl (by omega) (by omega)) ?_
      first
        | refine VO.val rfl rfl (OpV.load_at rfl hB OutW.no Tryd.isAgg9 rfl rfl) ?_
        | refine VO.val rfl rfl (OpV.load_own (i := 0) rfl hB Tryd.isAgg9 rfl rfl (strsL_at (q := r) (by rw [hcl]; omega)) (fun h => h)) ?_
      refine VO.val rfl rfl (OpV.move (.inr rfl) rfl) ?_
      refine VO.val rfl rfl (OpV.move (.inr rfl) rfl) ?_
      refine VO.nil ?_
      show VC _ _ _ _ _
      refine VC.seq ?_
      refine VC.seq ?_
      refine VC.region ?_
      refine VO.val rfl rfl (OpV.move (.inl rfl) rfl) ?_
      refine VO.val rfl rfl (OpV.move (.inl rfl) rfl) ?_
      refine VO.op rfl (OpE.call rfl hB rfl Tryd.call43 rfl (SpecN.spec (slices_Contains_str hps.1)) ?_)
      rintro _ rfl
      refine VO.val rfl rfl (OpV.move (.inl rfl) rfl) ?_
      refine VO.opG rfl rfl rfl rfl (fun aK3b => ?_) (fun aK3b => ?_)
      · replace aK3b : _ = true := aK3b
        have aK3 := aK3b
        try simp only [decide_eq_true_eq, decide_eq_false_iff_not, Bool.not_eq_true', Bool.not_eq_false', Int.not_lt, Int.not_le] at aK3
        refine OpE.val (W := NoB) (OpV.move (.inl rfl) rfl) rfl ?_
        refine VO.opY rfl rfl rfl rfl aK3b ?_
        refine OpE.val (W := NoB) (OpV.sneq rfl rfl rfl) rfl ?_
        refine VO.val rfl rfl (OpV.pickT rfl rfl rfl rfl aK3b) ?_
        refine VO.nil ?_
        show VC _ _ _ _ _
        refine VC.cond rfl (fun h2b => ?_) (fun h2b => ?_)
        · have h2 := h2b
          try simp only [decide_eq_true_eq, decide_eq_false_iff_not, Bool.not_eq_true', Bool.not_eq_false', Int.not_lt, Int.not_le] at h2
          refine VC.exit ?_
          show VC _ _ _ _ _
          refine VC.region ?_
          refine VO.val rfl rfl (OpV.add rfl rfl rfl (by unfold fits; omega)) ?_
          refine VO.val rfl rfl (OpV.move (.inl rfl) rfl) ?_
          refine VO.nil ?_
          exact Exists.intro (⟨r + 1, by omega⟩) (And.intro (Le.mk hB [0] ⟨(by dsimp only; first | (rw [refB_skip (by assumption) (not_true_false h2b)]; rfl) | (rw [refB_first hc (by assumption)]; rfl) | (rw [refB_free hc (by omega) (by assumption)]; rfl) | (rw [refB_empty hc (by omega) (by assumption) (by assumption)]; rfl) | (rw [refB_new hc (by omega) (by assumption) (by assumption) (.inl (by omega))]; rfl) | (rw [refB_new hc (by omega) (by assumption) (by assumption) (.inr ⟨by omega, not_true_false h6b⟩)]; rfl) | (rw [refB_old hc (by omega) (by assumption) (by assumption) (by rintro (h8 | ⟨h8, h9⟩); omega; exact absurd (h9.symm.trans (not_false_true h6b)) Bool.false_ne_true)]; rfl) | (rw [refB_old hc (by omega) (by assumption) (by assumption) (by rintro (h8 | ⟨h8, h9⟩); omega; omega)]; rfl)), rfl, rfl, rfl, rfl, rfl, rfl, rfl, rfl, rfl, rfl, trivial⟩ rfl rfl (Nat.le_refl _)) (by first | omega | (show _ < _; omega) | (simp only []; omega)))
        · have h2 := h2b
          try simp only [decide_eq_true_eq, decide_eq_false_iff_not, Bool.not_eq_true', Bool.not_eq_false', Int.not_lt, Int.not_le] at h2
          refine VC.skip ?_
          show VC _ _ _ _ _
          refine VC.seq ?_
          refine VC.seq ?_
          have hc : ¬ (has parts ((nextL parts later s ((missF s parts).take q)).getD r ByteArray.empty) = true ∧ sEq ((nextL parts later s ((missF s parts).take q)).getD r ByteArray.empty) ε = false) := by
            rintro ⟨h8, h9⟩
            first
              | exact absurd h8 (Bool.eq_false_iff.1 (by assumption))
              | exact absurd (h9.symm.trans (not_false_true h2b)) Bool.false_ne_true
          refine VC.region ?_
          refine VO.val rfl rfl (OpV.move (.inl rfl) rfl) ?_
          refine VO.val rfl rfl (OpV.lss rfl rfl rfl) ?_
          refine VO.nil ?_
          show VC _ _ _ _ _
          refine VC.cond rfl (fun h3b => ?_) (fun h3b => ?_)
          · have h3 := h3b
            try simp only [decide_eq_true_eq, decide_eq_false_iff_not, Bool.not_eq_true', Bool.not_eq_false', Int.not_lt, Int.not_le] at h3
            refine VC.seq ?_
            refine VC.region ?_
            refine VO.val rfl rfl (OpV.move (.inl rfl) rfl) ?_
            refine VO.val rfl rfl (OpV.move (.inr rfl) rfl) ?_
            refine VO.nil ?_
            show VC _ _ _ _ _
            refine VC.exit ?_
            show VC _ _ _ _ _
            refine VC.region ?_
            refine VO.val rfl rfl (OpV.add rfl rfl rfl (by unfold fits; omega)) ?_
            refine VO.val rfl rfl (OpV.move (.inl rfl) rfl) ?_
            refine VO.nil ?_
            exact Exists.intro (⟨r + 1, by omega⟩) (And.intro (Le.mk hB [0] ⟨(by dsimp only; first | (rw [refB_skip (by assumption) (not_true_false h2b)]; rfl) | (rw [refB_first hc (by assumption)]; rfl) | (rw [refB_free hc (by omega) (by assumption)]; rfl) | (rw [refB_empty hc (by omega) (by assumption) (by assumption)]; rfl) | (rw [refB_new hc (by omega) (by assumption) (by assumption) (.inl (by omega))]; rfl) | (rw [refB_new hc (by omega) (by assumption) (by assumption) (.inr ⟨by omega, not_true_false h6b⟩)]; rfl) | (rw [refB_old hc (by omega) (by assumption) (by assumption) (by rintro (h8 | ⟨h8, h9⟩); omega; exact absurd (h9.symm.trans (not_false_true h6b)) Bool.false_ne_true)]; rfl) | (rw [refB_old hc (by omega) (by assumption) (by assumption) (by rintro (h8 | ⟨h8, h9⟩); omega; omega)]; rfl)), rfl, rfl, rfl, rfl, rfl, rfl, rfl, rfl, rfl, rfl, trivial⟩ rfl rfl (Nat.le_refl _)) (by first | omega | (show _ < _; omega) | (simp only []; omega)))
          · have h3 := h3b
            try simp only [decide_eq_true_eq, decide_eq_false_iff_not, Bool.not_eq_true', Bool.not_eq_false', Int.not_lt, Int.not_le] at h3
            refine VC.skip ?_
            show VC _ _ _ _ _
            refine VC.seq ?_
            refine VC.region ?_
            refine VO.val rfl rfl (OpV.move (.inl rfl) rfl) ?_
            refine VO.val rfl rfl (OpV.move (.inl rfl) rfl) ?_
            first
              | refine VO.val rfl rfl (OpV.indexAddr_1 rfl Tryd.underlying27 Tryd.sizeOf9 rfl rfl (Int.toNat_of_nonneg (by omega)).symm (by omega)) ?_
              | refine VO.val rfl rfl (OpV.indexAddr_o rfl Tryd.underlying27 Tryd.sizeOf9 rfl rfl (Int.toNat_of_nonneg (by omega)).symm (by omega)) ?_
              | refine VO.val rfl rfl (OpV.indexAddr_q rfl Tryd.underlying27 Tryd.sizeOf9 rfl rfl (Int.toNat_of_nonneg (by omega)).symm (by omega)) ?_
              | refine VO.val rfl rfl (OpV.indexAddr_im rfl Tryd.underlying27 Tryd.sizeOf9 rfl rfl (by omega) (by omega)) ?_
            first
              | refine VO.val rfl rfl (OpV.load_at rfl hB OutW.no Tryd.isAgg9 rfl rfl) ?_
              | refine VO.val rfl rfl (OpV.load_own (i := 0) rfl hB Tryd.isAgg9 rfl rfl (strsL_at (q := (refB (nextL parts later s ((missF s parts).take q)) parts later r).toNat) (by rw [hcl]; omega)) (fun h => h)) ?_
            refine VO.val rfl rfl (OpV.move (.inr rfl) rfl) ?_
            refine VO.nil ?_
            show VC _ _ _ _ _
            refine VC.block ?_
            refine VC.seq ?_
            refine VC.region ?_
            refine VO.val rfl rfl (OpV.move (.inl rfl) rfl) ?_
            refine VO.val rfl rfl (OpV.seql rfl rfl rfl) ?_
            refine VO.val rfl rfl (OpV.move (.inr rfl) rfl) ?_
            refine VO.nil ?_
            show VC _ _ _ _ _
            refine VC.cond rfl (fun aH4b => ?_) (fun aH4b => ?_)
            · have aH4 := aH4b
              try simp only [decide_eq_true_eq, decide_eq_false_iff_not, Bool.not_eq_true', Bool.not_eq_false', Int.not_lt, Int.not_le] at aH4
              refine VC.skip ?_
              show VC _ _ _ _ _
              refine VC.region ?_
              refine VO.val rfl rfl (OpV.add rfl rfl rfl (by unfold fits; omega)) ?_
              refine VO.val rfl rfl (OpV.move (.inl rfl) rfl) ?_
              refine VO.nil ?_
              exact Exists.intro (⟨r + 1, by omega⟩) (And.intro (Le.mk hB [0] ⟨(by dsimp only; first | (rw [refB_skip (by assumption) (not_true_false h2b)]; rfl) | (rw [refB_first hc (by assumption)]; rfl) | (rw [refB_free hc (by omega) (by assumption)]; rfl) | (rw [refB_empty hc (by omega) (by assumption) (by assumption)]; rfl) | (rw [refB_new hc (by omega) (by assumption) (by assumption) (.inl (by omega))]; rfl) | (rw [refB_new hc (by omega) (by assumption) (by assumption) (.inr ⟨by omega, not_true_false h6b⟩)]; rfl) | (rw [refB_old hc (by omega) (by assumption) (by assumption) (by rintro (h8 | ⟨h8, h9⟩); omega; exact absurd (h9.symm.trans (not_false_true h6b)) Bool.false_ne_true)]; rfl) | (rw [refB_old hc (by omega) (by assumption) (by assumption) (by rintro (h8 | ⟨h8, h9⟩); omega; omega)]; rfl)), rfl, rfl, rfl, rfl, rfl, rfl, rfl, rfl, rfl, rfl, trivial⟩ rfl rfl (Nat.le_refl _)) (by first | omega | (show _ < _; omega) | (simp only []; omega)))
            · have aH4 := aH4b
              try simp only [decide_eq_true_eq, decide_eq_false_iff_not, Bool.not_eq_true', Bool.not_eq_false', Int.not_lt, Int.not_le] at aH4
              refine VC.seq ?_
              refine VC.region ?_
              refine VO.val rfl rfl (OpV.move (.inl rfl) rfl) ?_
              refine VO.val rfl rfl (OpV.seql rfl rfl rfl) ?_
              refine VO.val rfl rfl (OpV.move (.inr rfl) rfl) ?_
              refine VO.nil ?_
              show VC _ _ _ _ _
              refine VC.cond rfl (fun aH5b => ?_) (fun aH5b => ?_)
              · have aH5 := aH5b
                try simp only [decide_eq_true_eq, decide_eq_false_iff_not, Bool.not_eq_true', Bool.not_eq_false', Int.not_lt, Int.not_le] at aH5
                refine VC.region ?_
                refine VO.val rfl rfl (OpV.move (.inl rfl) rfl) ?_
                refine VO.val rfl rfl (OpV.move (.inr rfl) rfl) ?_
                refine VO.nil ?_
                show VC _ _ _ _ _
                refine VC.region ?_
                refine VO.val rfl rfl (OpV.add rfl rfl rfl (by unfold fits; omega)) ?_
                refine VO.val rfl rfl (OpV.move (.inl rfl) rfl) ?_
                refine VO.nil ?_
                exact Exists.intro (⟨r + 1, by omega⟩) (And.intro (Le.mk hB [0] ⟨(by dsimp only; first | (rw [refB_skip (by assumption) (not_true_false h2b)]; rfl) | (rw [refB_first hc (by assumption)]; rfl) | (rw [refB_free hc (by omega) (by assumption)]; rfl) | (rw [refB_empty hc (by omega) (by assumption) (by assumption)]; rfl) | (rw [refB_new hc (by omega) (by assumption) (by assumption) (.inl (by omega))]; rfl) | (rw [refB_new hc (by omega) (by assumption) (by assumption) (.inr ⟨by omega, not_true_false h6b⟩)]; rfl) | (rw [refB_old hc (by omega) (by assumption) (by assumption) (by rintro (h8 | ⟨h8, h9⟩); omega; exact absurd (h9.symm.trans (not_false_true h6b)) Bool.false_ne_true)]; rfl) | (rw [refB_old hc (by omega) (by assumption) (by assumption) (by rintro (h8 | ⟨h8, h9⟩); omega; omega)]; rfl)), rfl, rfl, rfl, rfl, rfl, rfl, rfl, rfl, rfl, rfl, trivial⟩ rfl rfl (Nat.le_refl _)) (by first | omega | (show _ < _; omega) | (simp only []; omega)))
              · have aH5 := aH5b
                try simp only [decide_eq_true_eq, decide_eq_false_iff_not, Bool.not_eq_true', Bool.not_eq_false', Int.not_lt, Int.not_le] at aH5
                refine VC.seq ?_
                refine VC.region ?_
                refine VO.val rfl rfl (OpV.move (.inl rfl) rfl) ?_
                refine VO.val rfl rfl (OpV.move (.inl rfl) rfl) ?_
                refine VO.op rfl (OpE.call rfl hB rfl Tryd.call67 rfl (SpecN.spec (rf_whenP hl)) ?_)
                rintro _ rfl
                refine VO.val rfl rfl (OpV.move (.inl rfl) rfl) ?_
                refine VO.val rfl rfl (OpV.move (.inl rfl) rfl) ?_
                refine VO.op rfl (OpE.call rfl hB rfl Tryd.call67 rfl (SpecN.spec (rf_whenP hl)) ?_)
                rintro _ rfl
                refine VO.val rfl rfl (OpV.gtr rfl rfl rfl) ?_
                refine VO.val rfl rfl (OpV.move (.inl rfl) rfl) ?_
                refine VO.opG rfl rfl rfl rfl (fun aK6b => ?_) (fun aK6b => ?_)
                · replace aK6b : _ = false := aK6b
                  have aK6 := aK6b
                  try simp only [decide_eq_true_eq, decide_eq_false_iff_not, Bool.not_eq_true', Bool.not_eq_false', Int.not_lt, Int.not_le] at aK6
                  refine OpE.val (W := NoB) (OpV.move (.inl rfl) rfl) rfl ?_
                  refine VO.opY rfl rfl rfl rfl aK6b ?_
                  refine OpE.val (W := NoB) (OpV.move (.inl rfl) rfl) rfl ?_
                  refine VO.opY rfl rfl rfl rfl aK6b ?_
                  refine OpE.call rfl hB rfl Tryd.call67 rfl (SpecN.spec (rf_whenP hl)) ?_
                  rintro _ rfl
                  refine VO.opY rfl rfl rfl rfl aK6b ?_
                  refine OpE.val (W := NoB) (OpV.move (.inl rfl) rfl) rfl ?_
                  refine VO.opY rfl rfl rfl rfl aK6b ?_
                  refine OpE.val (W := NoB) (OpV.move (.inl rfl) rfl) rfl ?_
                  refine VO.opY rfl rfl rfl rfl aK6b ?_
                  refine OpE.call rfl hB rfl Tryd.call67 rfl (SpecN.spec (rf_whenP hl)) ?_
                  rintro _ rfl
                  refine VO.opY rfl rfl rfl rfl aK6b ?_
                  refine OpE.val (W := NoB) (OpV.eql rfl rfl rfl) rfl ?_
                  refine VO.opY rfl rfl rfl rfl aK6b ?_
                  refine OpE.val (W := NoB) (OpV.move (.inl rfl) rfl) rfl ?_
                  refine VO.opG rfl rfl rfl rfl (fun aK7b => ?_) (fun aK7b => ?_)
                  · replace aK7b : _ = true := aK7b
                    have aK7 := aK7b
                    try simp only [decide_eq_true_eq, decide_eq_false_iff_not, Bool.not_eq_true', Bool.not_eq_false', Int.not_lt, Int.not_le] at aK7
                    refine OpE.val (W := NoB) (OpV.move (.inl rfl) rfl) rfl ?_
                    refine VO.opY rfl rfl rfl rfl aK7b ?_
                    refine OpE.val (W := NoB) (OpV.move (.inl rfl) rfl) rfl ?_
                    refine VO.opY rfl rfl rfl rfl aK7b ?_
                    refine OpE.val (W := NoB) (OpV.sgtr rfl rfl rfl) rfl ?_
                    refine VO.opY rfl rfl rfl rfl aK6b ?_
                    refine OpE.val (W := NoB) (OpV.pickT rfl rfl rfl rfl aK7b) rfl ?_
                    refine VO.val rfl rfl (OpV.pickF rfl rfl rfl rfl aK6b) ?_
                    refine VO.val rfl rfl (OpV.move (.inr rfl) rfl) ?_
                    refine VO.nil ?_
                    show VC _ _ _ _ _
                    refine VC.cond rfl (fun h6b => ?_) (fun h6b => ?_)
                    · have h6 := h6b
                      try simp only [decide_eq_true_eq, decide_eq_false_iff_not, Bool.not_eq_true', Bool.not_eq_false', Int.not_lt, Int.not_le] at h6
                      refine VC.region ?_
                      refine VO.val rfl rfl (OpV.move (.inl rfl) rfl) ?_
                      refine VO.val rfl rfl (OpV.move (.inr rfl) rfl) ?_
                      refine VO.nil ?_
                      show VC _ _ _ _ _
                      refine VC.region ?_
                      refine VO.val rfl rfl (OpV.add rfl rfl rfl (by unfold fits; omega)) ?_
                      refine VO.val rfl rfl (OpV.move (.inl rfl) rfl) ?_
                      refine VO.nil ?_
                      exact Exists.intro (⟨r + 1, by omega⟩) (And.intro (Le.mk hB [0] ⟨(by dsimp only; first | (rw [refB_skip (by assumption) (not_true_false h2b)]; rfl) | (rw [refB_first hc (by assumption)]; rfl) | (rw [refB_free hc (by omega) (by assumption)]; rfl) | (rw [refB_empty hc (by omega) (by assumption) (by assumption)]; rfl) | (rw [refB_new hc (by omega) (by assumption) (by assumption) (.inl (by omega))]; rfl) | (rw [refB_new hc (by omega) (by assumption) (by assumption) (.inr ⟨by omega, not_true_false h6b⟩)]; rfl) | (rw [refB_old hc (by omega) (by assumption) (by assumption) (by rintro (h8 | ⟨h8, h9⟩); omega; exact absurd (h9.symm.trans (not_false_true h6b)) Bool.false_ne_true)]; rfl) | (rw [refB_old hc (by omega) (by assumption) (by assumption) (by rintro (h8 | ⟨h8, h9⟩); omega; omega)]; rfl)), rfl, rfl, rfl, rfl, rfl, rfl, rfl, rfl, rfl, rfl, trivial⟩ rfl rfl (Nat.le_refl _)) (by first | omega | (show _ < _; omega) | (simp only []; omega)))
                    · have h6 := h6b
                      try simp only [decide_eq_true_eq, decide_eq_false_iff_not, Bool.not_eq_true', Bool.not_eq_false', Int.not_lt, Int.not_le] at h6
                      refine VC.skip ?_
                      show VC _ _ _ _ _
                      refine VC.region ?_
                      refine VO.val rfl rfl (OpV.add rfl rfl rfl (by unfold fits; omega)) ?_
                      refine VO.val rfl rfl (OpV.move (.inl rfl) rfl) ?_
                      refine VO.nil ?_
                      exact Exists.intro (⟨r + 1, by omega⟩) (And.intro (Le.mk hB [0] ⟨(by dsimp only; first | (rw [refB_skip (by assumption) (not_true_false h2b)]; rfl) | (rw [refB_first hc (by assumption)]; rfl) | (rw [refB_free hc (by omega) (by assumption)]; rfl) | (rw [refB_empty hc (by omega) (by assumption) (by assumption)]; rfl) | (rw [refB_new hc (by omega) (by assumption) (by assumption) (.inl (by omega))]; rfl) | (rw [refB_new hc (by omega) (by assumption) (by assumption) (.inr ⟨by omega, not_true_false h6b⟩)]; rfl) | (rw [refB_old hc (by omega) (by assumption) (by assumption) (by rintro (h8 | ⟨h8, h9⟩); omega; exact absurd (h9.symm.trans (not_false_true h6b)) Bool.false_ne_true)]; rfl) | (rw [refB_old hc (by omega) (by assumption) (by assumption) (by rintro (h8 | ⟨h8, h9⟩); omega; omega)]; rfl)), rfl, rfl, rfl, rfl, rfl, rfl, rfl, rfl, rfl, rfl, trivial⟩ rfl rfl (Nat.le_refl _)) (by first | omega | (show _ < _; omega) | (simp only []; omega)))
                  · replace aK7b : _ = false := aK7b
                    have aK7 := aK7b
                    try simp only [decide_eq_true_eq, decide_eq_false_iff_not, Bool.not_eq_true', Bool.not_eq_false', Int.not_lt, Int.not_le] at aK7
                    refine VO.opX rfl rfl rfl rfl aK7b ?_
                    refine VO.opX rfl rfl rfl rfl aK7b ?_
                    refine VO.opY rfl rfl rfl rfl aK6b ?_
                    refine OpE.val (W := NoB) (OpV.pickF rfl rfl rfl rfl aK7b) rfl ?_
                    refine VO.val rfl rfl (OpV.pickF rfl rfl rfl rfl aK6b) ?_
                    refine VO.val rfl rfl (OpV.move (.inr rfl) rfl) ?_
                    refine VO.nil ?_
                    show VC _ _ _ _ _
                    refine VC.condF rfl rfl ?_
                    refine VC.skip ?_
                    show VC _ _ _ _ _
                    refine VC.region ?_
                    refine VO.val rfl rfl (OpV.add rfl rfl rfl (by unfold fits; omega)) ?_
                    refine VO.val rfl rfl (OpV.move (.inl rfl) rfl) ?_
                    refine VO.nil ?_
                    exact Exists.intro (⟨r + 1, by omega⟩) (And.intro (Le.mk hB [0] ⟨(by dsimp only; first | (rw [refB_skip (by assumption) (not_true_false h2b)]; rfl) | (rw [refB_first hc (by assumption)]; rfl) | (rw [refB_free hc (by omega) (by assumption)]; rfl) | (rw [refB_empty hc (by omega) (by assumption) (by assumption)]; rfl) | (rw [refB_new hc (by omega) (by assumption) (by assumption) (.inl (by omega))]; rfl) | (rw [refB_new hc (by omega) (by assumption) (by assumption) (.inr ⟨by omega, not_true_false h6b⟩)]; rfl) | (rw [refB_old hc (by omega) (by assumption) (by assumption) (by rintro (h8 | ⟨h8, h9⟩); omega; exact absurd (h9.symm.trans (not_false_true h6b)) Bool.false_ne_true)]; rfl) | (rw [refB_old hc (by omega) (by assumption) (by assumption) (by rintro (h8 | ⟨h8, h9⟩); omega; omega)]; rfl)), rfl, rfl, rfl, rfl, rfl, rfl, rfl, rfl, rfl, rfl, trivial⟩ rfl rfl (Nat.le_refl _)) (by first | omega | (show _ < _; omega) | (simp only []; omega)))
                · replace aK6b : _ = true := aK6b
                  have aK6 := aK6b
                  try simp only [decide_eq_true_eq, decide_eq_false_iff_not, Bool.not_eq_true', Bool.not_eq_false', Int.not_lt, Int.not_le] at aK6
                  refine VO.opX rfl rfl rfl rfl aK6b ?_
                  refine VO.opX rfl rfl rfl rfl aK6b ?_
                  refine VO.opX rfl rfl rfl rfl aK6b ?_
                  refine VO.opX rfl rfl rfl rfl aK6b ?_
                  refine VO.opX rfl rfl rfl rfl aK6b ?_
                  refine VO.opX rfl rfl rfl rfl aK6b ?_
                  refine VO.opX rfl rfl rfl rfl aK6b ?_
                  refine VO.opU rfl rfl rfl rfl ?_
                  refine VO.opU rfl rfl rfl rfl ?_
                  refine VO.opU rfl rfl rfl rfl ?_
                  refine VO.opX rfl rfl rfl rfl aK6b ?_
                  refine VO.val rfl rfl (OpV.pickT rfl rfl rfl rfl aK6b) ?_
                  refine VO.val rfl rfl (OpV.move (.inr rfl) rfl) ?_
                  refine VO.nil ?_
                  show VC _ _ _ _ _
                  refine VC.condT rfl rfl ?_
                  refine VC.region ?_
                  refine VO.val rfl rfl (OpV.move (.inl rfl) rfl) ?_
                  refine VO.val rfl rfl (OpV.move (.inr rfl) rfl) ?_
                  refine VO.nil ?_
                  show VC _ _ _ _ _
                  refine VC.region ?_
                  refine VO.val rfl rfl (OpV.add rfl rfl rfl (by unfold fits; omega)) ?_
                  refine VO.val rfl rfl (OpV.move (.inl rfl) rfl) ?_
                  refine VO.nil ?_
                  exact Exists.intro (⟨r + 1, by omega⟩) (And.intro (Le.mk hB [0] ⟨(by dsimp only; first | (rw [refB_skip (by assumption) (not_true_false h2b)]; rfl) | (rw [refB_first hc (by assumption)]; rfl) | (rw [refB_free hc (by omega) (by assumption)]; rfl) | (rw [refB_empty hc (by omega) (by assumption) (by assumption)]; rfl) | (rw [refB_new hc (by omega) (by assumption) (by assumption) (.inl (by omega))]; rfl) | (rw [refB_new hc (by omega) (by assumption) (by assumption) (.inr ⟨by omega, not_true_false h6b⟩)]; rfl) | (rw [refB_old hc (by omega) (by assumption) (by assumption) (by rintro (h8 | ⟨h8, h9⟩); omega; exact absurd (h9.symm.trans (not_false_true h6b)) Bool.false_ne_true)]; rfl) | (rw [refB_old hc (by omega) (by assumption) (by assumption) (by rintro (h8 | ⟨h8, h9⟩); omega; omega)]; rfl)), rfl, rfl, rfl, rfl, rfl, rfl, rfl, rfl, rfl, rfl, trivial⟩ rfl rfl (Nat.le_refl _)) (by first | omega | (show _ < _; omega) | (simp only []; omega)))
      · replace aK3b : _ = false := aK3b
        have aK3 := aK3b
        try simp only [decide_eq_true_eq, decide_eq_false_iff_not, Bool.not_eq_true', Bool.not_eq_false', Int.not_lt, Int.not_le] at aK3
        refine VO.opX rfl rfl rfl rfl aK3b ?_
        refine VO.val rfl rfl (OpV.pickF rfl rfl rfl rfl aK3b) ?_
        refine VO.nil ?_
        show VC _ _ _ _ _
        refine VC.condF rfl rfl ?_
        refine VC.skip ?_
        show VC _ _ _ _ _
        refine VC.seq ?_
        refine VC.seq ?_
        have hc : ¬ (has parts ((nextL parts later s ((missF s parts).take q)).getD r ByteArray.empty) = true ∧ sEq ((nextL parts later s ((missF s parts).take q)).getD r ByteArray.empty) ε = false) := by
          rintro ⟨h8, h9⟩
          first
            | exact absurd h8 (Bool.eq_false_iff.1 (by assumption))
            | exact absurd (h9.symm.trans (not_false_true h2b)) Bool.false_ne_true
        refine VC.region ?_
        refine VO.val rfl rfl (OpV.move (.inl rfl) rfl) ?_
        refine VO.val rfl rfl (OpV.lss rfl rfl rfl) ?_
        refine VO.nil ?_
        show VC _ _ _ _ _
        refine VC.cond rfl (fun h3b => ?_) (fun h3b => ?_)
        · have h3 := h3b
          try simp only [decide_eq_true_eq, decide_eq_false_iff_not, Bool.not_eq_true', Bool.not_eq_false', Int.not_lt, Int.not_le] at h3
          refine VC.seq ?_
          refine VC.region ?_
          refine VO.val rfl rfl (OpV.move (.inl rfl) rfl) ?_
          refine VO.val rfl rfl (OpV.move (.inr rfl) rfl) ?_
          refine VO.nil ?_
          show VC _ _ _ _ _
          refine VC.exit ?_
          show VC _ _ _ _ _
          refine VC.region ?_
          refine VO.val rfl rfl (OpV.add rfl rfl rfl (by unfold fits; omega)) ?_
          refine VO.val rfl rfl (OpV.move (.inl rfl) rfl) ?_
          refine VO.nil ?_
          exact Exists.intro (⟨r + 1, by omega⟩) (And.intro (Le.mk hB [0] ⟨(by dsimp only; first | (rw [refB_skip (by assumption) (not_true_false h2b)]; rfl) | (rw [refB_first hc (by assumption)]; rfl) | (rw [refB_free hc (by omega) (by assumption)]; rfl) | (rw [refB_empty hc (by omega) (by assumption) (by assumption)]; rfl) | (rw [refB_new hc (by omega) (by assumption) (by assumption) (.inl (by omega))]; rfl) | (rw [refB_new hc (by omega) (by assumption) (by assumption) (.inr ⟨by omega, not_true_false h6b⟩)]; rfl) | (rw [refB_old hc (by omega) (by assumption) (by assumption) (by rintro (h8 | ⟨h8, h9⟩); omega; exact absurd (h9.symm.trans (not_false_true h6b)) Bool.false_ne_true)]; rfl) | (rw [refB_old hc (by omega) (by assumption) (by assumption) (by rintro (h8 | ⟨h8, h9⟩); omega; omega)]; rfl)), rfl, rfl, rfl, rfl, rfl, rfl, rfl, rfl, rfl, rfl, trivial⟩ rfl rfl (Nat.le_refl _)) (by first | omega | (show _ < _; omega) | (simp only []; omega)))
        · have h3 := h3b
          try simp only [decide_eq_true_eq, decide_eq_false_iff_not, Bool.not_eq_true', Bool.not_eq_false', Int.not_lt, Int.not_le] at h3
          refine VC.skip ?_
          show VC _ _ _ _ _
          refine VC.seq ?_
          refine VC.region ?_
          refine VO.val rfl rfl (OpV.move (.inl rfl) rfl) ?_
          refine VO.val rfl rfl (OpV.move (.inl rfl) rfl) ?_
          first
            | refine VO.val rfl rfl (OpV.indexAddr_1 rfl Tryd.underlying27 Tryd.sizeOf9 rfl rfl (Int.toNat_of_nonneg (by omega)).symm (by omega)) ?_
            | refine VO.val rfl rfl (OpV.indexAddr_o rfl Tryd.underlying27 Tryd.sizeOf9 rfl rfl (Int.toNat_of_nonneg (by omega)).symm (by omega)) ?_
            | refine VO.val rfl rfl (OpV.indexAddr_q rfl Tryd.underlying27 Tryd.sizeOf9 rfl rfl (Int.toNat_of_nonneg (by omega)).symm (by omega)) ?_
            | refine VO.val rfl rfl (OpV.indexAddr_im rfl Tryd.underlying27 Tryd.sizeOf9 rfl rfl (by omega) (by omega)) ?_
          first
            | refine VO.val rfl rfl (OpV.load_at rfl hB OutW.no Tryd.isAgg9 rfl rfl) ?_
            | refine VO.val rfl rfl (OpV.load_own (i := 0) rfl hB Tryd.isAgg9 rfl rfl (strsL_at (q := (refB (nextL parts later s ((missF s parts).take q)) parts later r).toNat) (by rw [hcl]; omega)) (fun h => h)) ?_
          refine VO.val rfl rfl (OpV.move (.inr rfl) rfl) ?_
          refine VO.nil ?_
          show VC _ _ _ _ _
          refine VC.block ?_
          refine VC.seq ?_
          refine VC.region ?_
          refine VO.val rfl rfl (OpV.move (.inl rfl) rfl) ?_
          refine VO.val rfl rfl (OpV.seql rfl rfl rfl) ?_
          refine VO.val rfl rfl (OpV.move (.inr rfl) rfl) ?_
          refine VO.nil ?_
          show VC _ _ _ _ _
          refine VC.cond rfl (fun aH8b => ?_) (fun aH8b => ?_)
          · have aH8 := aH8b
            try simp only [decide_eq_true_eq, decide_eq_false_iff_not, Bool.not_eq_true', Bool.not_eq_false', Int.not_lt, Int.not_le] at aH8
            refine VC.skip ?_
            show VC _ _ _ _ _
            refine VC.region ?_
            refine VO.val rfl rfl (OpV.add rfl rfl rfl (by unfold fits; omega)) ?_
            refine VO.val rfl rfl (OpV.move (.inl rfl) rfl) ?_
            refine VO.nil ?_
            exact Exists.intro (⟨r + 1, by omega⟩) (And.intro (Le.mk hB [0] ⟨(by dsimp only; first | (rw [refB_skip (by assumption) (not_true_false h2b)]; rfl) | (rw [refB_first hc (by assumption)]; rfl) | (rw [refB_free hc (by omega) (by assumption)]; rfl) | (rw [refB_empty hc (by omega) (by assumption) (by assumption)]; rfl) | (rw [refB_new hc (by omega) (by assumption) (by assumption) (.inl (by omega))]; rfl) | (rw [refB_new hc (by omega) (by assumption) (by assumption) (.inr ⟨by omega, not_true_false h6b⟩)]; rfl) | (rw [refB_old hc (by omega) (by assumption) (by assumption) (by rintro (h8 | ⟨h8, h9⟩); omega; exact absurd (h9.symm.trans (not_false_true h6b)) Bool.false_ne_true)]; rfl) | (rw [refB_old hc (by omega) (by assumption) (by assumption) (by rintro (h8 | ⟨h8, h9⟩); omega; omega)]; rfl)), rfl, rfl, rfl, rfl, rfl, rfl, rfl, rfl, rfl, rfl, trivial⟩ rfl rfl (Nat.le_refl _)) (by first | omega | (show _ < _; omega) | (simp only []; omega)))
          · have aH8 := aH8b
            try simp only [decide_eq_true_eq, decide_eq_false_iff_not, Bool.not_eq_true', Bool.not_eq_false', Int.not_lt, Int.not_le] at aH8
            refine VC.seq ?_
            refine VC.region ?_
            refine VO.val rfl rfl (OpV.move (.inl rfl) rfl) ?_
            refine VO.val rfl rfl (OpV.seql rfl rfl rfl) ?_
            refine VO.val rfl rfl (OpV.move (.inr rfl) rfl) ?_
            refine VO.nil ?_
            show VC _ _ _ _ _
            refine VC.cond rfl (fun aH9b => ?_) (fun aH9b => ?_)
            · have aH9 := aH9b
              try simp only [decide_eq_true_eq, decide_eq_false_iff_not, Bool.not_eq_true', Bool.not_eq_false', Int.not_lt, Int.not_le] at aH9
              refine VC.region ?_
              refine VO.val rfl rfl (OpV.move (.inl rfl) rfl) ?_
              refine VO.val rfl rfl (OpV.move (.inr rfl) rfl) ?_
              refine VO.nil ?_
              show VC _ _ _ _ _
              refine VC.region ?_
              refine VO.val rfl rfl (OpV.add rfl rfl rfl (by unfold fits; omega)) ?_
              refine VO.val rfl rfl (OpV.move (.inl rfl) rfl) ?_
              refine VO.nil ?_
              exact Exists.intro (⟨r + 1, by omega⟩) (And.intro (Le.mk hB [0] ⟨(by dsimp only; first | (rw [refB_skip (by assumption) (not_true_false h2b)]; rfl) | (rw [refB_first hc (by assumption)]; rfl) | (rw [refB_free hc (by omega) (by assumption)]; rfl) | (rw [refB_empty hc (by omega) (by assumption) (by assumption)]; rfl) | (rw [refB_new hc (by omega) (by assumption) (by assumption) (.inl (by omega))]; rfl) | (rw [refB_new hc (by omega) (by assumption) (by assumption) (.inr ⟨by omega, not_true_false h6b⟩)]; rfl) | (rw [refB_old hc (by omega) (by assumption) (by assumption) (by rintro (h8 | ⟨h8, h9⟩); omega; exact absurd (h9.symm.trans (not_false_true h6b)) Bool.false_ne_true)]; rfl) | (rw [refB_old hc (by omega) (by assumption) (by assumption) (by rintro (h8 | ⟨h8, h9⟩); omega; omega)]; rfl)), rfl, rfl, rfl, rfl, rfl, rfl, rfl, rfl, rfl, rfl, trivial⟩ rfl rfl (Nat.le_refl _)) (by first | omega | (show _ < _; omega) | (simp only []; omega)))
            · have aH9 := aH9b
              try simp only [decide_eq_true_eq, decide_eq_false_iff_not, Bool.not_eq_true', Bool.not_eq_false', Int.not_lt, Int.not_le] at aH9
              refine VC.seq ?_
              refine VC.region ?_
              refine VO.val rfl rfl (OpV.move (.inl rfl) rfl) ?_
              refine VO.val rfl rfl (OpV.move (.inl rfl) rfl) ?_
              refine VO.op rfl (OpE.call rfl hB rfl Tryd.call67 rfl (SpecN.spec (rf_whenP hl)) ?_)
              rintro _ rfl
              refine VO.val rfl rfl (OpV.move (.inl rfl) rfl) ?_
              refine VO.val rfl rfl (OpV.move (.inl rfl) rfl) ?_
              refine VO.op rfl (OpE.call rfl hB rfl Tryd.call67 rfl (SpecN.spec (rf_whenP hl)) ?_)
              rintro _ rfl
              refine VO.val rfl rfl (OpV.gtr rfl rfl rfl) ?_
              refine VO.val rfl rfl (OpV.move (.inl rfl) rfl) ?_
              refine VO.opG rfl rfl rfl rfl (fun aK10b => ?_) (fun aK10b => ?_)
              · replace aK10b : _ = false := aK10b
                have aK10 := aK10b
                try simp only [decide_eq_true_eq, decide_eq_false_iff_not, Bool.not_eq_true', Bool.not_eq_false', Int.not_lt, Int.not_le] at aK10
                refine OpE.val (W := NoB) (OpV.move (.inl rfl) rfl) rfl ?_
                refine VO.opY rfl rfl rfl rfl aK10b ?_
                refine OpE.val (W := NoB) (OpV.move (.inl rfl) rfl) rfl ?_
                refine VO.opY rfl rfl rfl rfl aK10b ?_
                refine OpE.call rfl hB rfl Tryd.call67 rfl (SpecN.spec (rf_whenP hl)) ?_
                rintro _ rfl
                refine VO.opY rfl rfl rfl rfl aK10b ?_
                refine OpE.val (W := NoB) (OpV.move (.inl rfl) rfl) rfl ?_
                refine VO.opY rfl rfl rfl rfl aK10b ?_
                refine OpE.val (W := NoB) (OpV.move (.inl rfl) rfl) rfl ?_
                refine VO.opY rfl rfl rfl rfl aK10b ?_
                refine OpE.call rfl hB rfl Tryd.call67 rfl (SpecN.spec (rf_whenP hl)) ?_
                rintro _ rfl
                refine VO.opY rfl rfl rfl rfl aK10b ?_
                refine OpE.val (W := NoB) (OpV.eql rfl rfl rfl) rfl ?_
                refine VO.opY rfl rfl rfl rfl aK10b ?_
                refine OpE.val (W := NoB) (OpV.move (.inl rfl) rfl) rfl ?_
                refine VO.opG rfl rfl rfl rfl (fun aK11b => ?_) (fun aK11b => ?_)
                · replace aK11b : _ = true := aK11b
                  have aK11 := aK11b
                  try simp only [decide_eq_true_eq, decide_eq_false_iff_not, Bool.not_eq_true', Bool.not_eq_false', Int.not_lt, Int.not_le] at aK11
                  refine OpE.val (W := NoB) (OpV.move (.inl rfl) rfl) rfl ?_
                  refine VO.opY rfl rfl rfl rfl aK11b ?_
                  refine OpE.val (W := NoB) (OpV.move (.inl rfl) rfl) rfl ?_
                  refine VO.opY rfl rfl rfl rfl aK11b ?_
                  refine OpE.val (W := NoB) (OpV.sgtr rfl rfl rfl) rfl ?_
                  refine VO.opY rfl rfl rfl rfl aK10b ?_
                  refine OpE.val (W := NoB) (OpV.pickT rfl rfl rfl rfl aK11b) rfl ?_
                  refine VO.val rfl rfl (OpV.pickF rfl rfl rfl rfl aK10b) ?_
                  refine VO.val rfl rfl (OpV.move (.inr rfl) rfl) ?_
                  refine VO.nil ?_
                  show VC _ _ _ _ _
                  refine VC.cond rfl (fun h6b => ?_) (fun h6b => ?_)
                  · have h6 := h6b
                    try simp only [decide_eq_true_eq, decide_eq_false_iff_not, Bool.not_eq_true', Bool.not_eq_false', Int.not_lt, Int.not_le] at h6
                    refine VC.region ?_
                    refine VO.val rfl rfl (OpV.move (.inl rfl) rfl) ?_
                    refine VO.val rfl rfl (OpV.move (.inr rfl) rfl) ?_
                    refine VO.nil ?_
                    show VC _ _ _ _ _
                    refine VC.region ?_
                    refine VO.val rfl rfl (OpV.add rfl rfl rfl (by unfold fits; omega)) ?_
                    refine VO.val rfl rfl (OpV.move (.inl rfl) rfl) ?_
                    refine VO.nil ?_
                    exact Exists.intro (⟨r + 1, by omega⟩) (And.intro (Le.mk hB [0] ⟨(by dsimp only; first | (rw [refB_skip (by assumption) (not_true_false h2b)]; rfl) | (rw [refB_first hc (by assumption)]; rfl) | (rw [refB_free hc (by omega) (by assumption)]; rfl) | (rw [refB_empty hc (by omega) (by assumption) (by assumption)]; rfl) | (rw [refB_new hc (by omega) (by assumption) (by assumption) (.inl (by omega))]; rfl) | (rw [refB_new hc (by omega) (by assumption) (by assumption) (.inr ⟨by omega, not_true_false h6b⟩)]; rfl) | (rw [refB_old hc (by omega) (by assumption) (by assumption) (by rintro (h8 | ⟨h8, h9⟩); omega; exact absurd (h9.symm.trans (not_false_true h6b)) Bool.false_ne_true)]; rfl) | (rw [refB_old hc (by omega) (by assumption) (by assumption) (by rintro (h8 | ⟨h8, h9⟩); omega; omega)]; rfl)), rfl, rfl, rfl, rfl, rfl, rfl, rfl, rfl, rfl, rfl, trivial⟩ rfl rfl (Nat.le_refl _)) (by first | omega | (show _ < _; omega) | (simp only []; omega)))
                  · have h6 := h6b
                    try simp only [decide_eq_true_eq, decide_eq_false_iff_not, Bool.not_eq_true', Bool.not_eq_false', Int.not_lt, Int.not_le] at h6
                    refine VC.skip ?_
                    show VC _ _ _ _ _
                    refine VC.region ?_
                    refine VO.val rfl rfl (OpV.add rfl rfl rfl (by unfold fits; omega)) ?_
                    refine VO.val rfl rfl (OpV.move (.inl rfl) rfl) ?_
                    refine VO.nil ?_
                    exact Exists.intro (⟨r + 1, by omega⟩) (And.intro (Le.mk hB [0] ⟨(by dsimp only; first | (rw [refB_skip (by assumption) (not_true_false h2b)]; rfl) | (rw [refB_first hc (by assumption)]; rfl) | (rw [refB_free hc (by omega) (by assumption)]; rfl) | (rw [refB_empty hc (by omega) (by assumption) (by assumption)]; rfl) | (rw [refB_new hc (by omega) (by assumption) (by assumption) (.inl (by omega))]; rfl) | (rw [refB_new hc (by omega) (by assumption) (by assumption) (.inr ⟨by omega, not_true_false h6b⟩)]; rfl) | (rw [refB_old hc (by omega) (by assumption) (by assumption) (by rintro (h8 | ⟨h8, h9⟩); omega; exact absurd (h9.symm.trans (not_false_true h6b)) Bool.false_ne_true)]; rfl) | (rw [refB_old hc (by omega) (by assumption) (by assumption) (by rintro (h8 | ⟨h8, h9⟩); omega; omega)]; rfl)), rfl, rfl, rfl, rfl, rfl, rfl, rfl, rfl, rfl, rfl, trivial⟩ rfl rfl (Nat.le_refl _)) (by first | omega | (show _ < _; omega) | (simp only []; omega)))
                · replace aK11b : _ = false := aK11b
                  have aK11 := aK11b
                  try simp only [decide_eq_true_eq, decide_eq_false_iff_not, Bool.not_eq_true', Bool.not_eq_false', Int.not_lt, Int.not_le] at aK11
                  refine VO.opX rfl rfl rfl rfl aK11b ?_
                  refine VO.opX rfl rfl rfl rfl aK11b ?_
                  refine VO.opY rfl rfl rfl rfl aK10b ?_
                  refine OpE.val (W := NoB) (OpV.pickF rfl rfl rfl rfl aK11b) rfl ?_
                  refine VO.val rfl rfl (OpV.pickF rfl rfl rfl rfl aK10b) ?_
                  refine VO.val rfl rfl (OpV.move (.inr rfl) rfl) ?_
                  refine VO.nil ?_
                  show VC _ _ _ _ _
                  refine VC.condF rfl rfl ?_
                  refine VC.skip ?_
                  show VC _ _ _ _ _
                  refine VC.region ?_
                  refine VO.val rfl rfl (OpV.add rfl rfl rfl (by unfold fits; omega)) ?_
                  refine VO.val rfl rfl (OpV.move (.inl rfl) rfl) ?_
                  refine VO.nil ?_
                  exact Exists.intro (⟨r + 1, by omega⟩) (And.intro (Le.mk hB [0] ⟨(by dsimp only; first | (rw [refB_skip (by assumption) (not_true_false h2b)]; rfl) | (rw [refB_first hc (by assumption)]; rfl) | (rw [refB_free hc (by omega) (by assumption)]; rfl) | (rw [refB_empty hc (by omega) (by assumption) (by assumption)]; rfl) | (rw [refB_new hc (by omega) (by assumption) (by assumption) (.inl (by omega))]; rfl) | (rw [refB_new hc (by omega) (by assumption) (by assumption) (.inr ⟨by omega, not_true_false h6b⟩)]; rfl) | (rw [refB_old hc (by omega) (by assumption) (by assumption) (by rintro (h8 | ⟨h8, h9⟩); omega; exact absurd (h9.symm.trans (not_false_true h6b)) Bool.false_ne_true)]; rfl) | (rw [refB_old hc (by omega) (by assumption) (by assumption) (by rintro (h8 | ⟨h8, h9⟩); omega; omega)]; rfl)), rfl, rfl, rfl, rfl, rfl, rfl, rfl, rfl, rfl, rfl, trivial⟩ rfl rfl (Nat.le_refl _)) (by first | omega | (show _ < _; omega) | (simp only []; omega)))
              · replace aK10b : _ = true := aK10b
                have aK10 := aK10b
                try simp only [decide_eq_true_eq, decide_eq_false_iff_not, Bool.not_eq_true', Bool.not_eq_false', Int.not_lt, Int.not_le] at aK10
                refine VO.opX rfl rfl rfl rfl aK10b ?_
                refine VO.opX rfl rfl rfl rfl aK10b ?_
                refine VO.opX rfl rfl rfl rfl aK10b ?_
                refine VO.opX rfl rfl rfl rfl aK10b ?_
                refine VO.opX rfl rfl rfl rfl aK10b ?_
                refine VO.opX rfl rfl rfl rfl aK10b ?_
                refine VO.opX rfl rfl rfl rfl aK10b ?_
                refine VO.opU rfl rfl rfl rfl ?_
                refine VO.opU rfl rfl rfl rfl ?_
                refine VO.opU rfl rfl rfl rfl ?_
                refine VO.opX rfl rfl rfl rfl aK10b ?_
                refine VO.val rfl rfl (OpV.pickT rfl rfl rfl rfl aK10b) ?_
                refine VO.val rfl rfl (OpV.move (.inr rfl) rfl) ?_
                refine VO.nil ?_
                show VC _ _ _ _ _
                refine VC.condT rfl rfl ?_
                refine VC.region ?_
                refine VO.val rfl rfl (OpV.move (.inl rfl) rfl) ?_
                refine VO.val rfl rfl (OpV.move (.inr rfl) rfl) ?_
                refine VO.nil ?_
                show VC _ _ _ _ _
                refine VC.region ?_
                refine VO.val rfl rfl (OpV.add rfl rfl rfl (by unfold fits; omega)) ?_
                refine VO.val rfl rfl (OpV.move (.inl rfl) rfl) ?_
                refine VO.nil ?_
                exact Exists.intro (⟨r + 1, by omega⟩) (And.intro (Le.mk hB [0] ⟨(by dsimp only; first | (rw [refB_skip (by assumption) (not_true_false h2b)]; rfl) | (rw [refB_first hc (by assumption)]; rfl) | (rw [refB_free hc (by omega) (by assumption)]; rfl) | (rw [refB_empty hc (by omega) (by assumption) (by assumption)]; rfl) | (rw [refB_new hc (by omega) (by assumption) (by assumption) (.inl (by omega))]; rfl) | (rw [refB_new hc (by omega) (by assumption) (by assumption) (.inr ⟨by omega, not_true_false h6b⟩)]; rfl) | (rw [refB_old hc (by omega) (by assumption) (by assumption) (by rintro (h8 | ⟨h8, h9⟩); omega; exact absurd (h9.symm.trans (not_false_true h6b)) Bool.false_ne_true)]; rfl) | (rw [refB_old hc (by omega) (by assumption) (by assumption) (by rintro (h8 | ⟨h8, h9⟩); omega; omega)]; rfl)), rfl, rfl, rfl, rfl, rfl, rfl, rfl, rfl, rfl, rfl, trivial⟩ rfl rfl (Nat.le_refl _)) (by first | omega | (show _ < _; omega) | (simp only []; omega)))
    · have aH2 := aH2b
      try simp only [decide_eq_true_eq, decide_eq_false_iff_not, Bool.not_eq_true', Bool.not_eq_false', Int.not_lt, Int.not_le] at aH2
      refine VC.exit ?_
      show VC _ _ _ _ _
      obtain rfl : r = s.length := by omega
      refine VC.region ?_
      refine VO.val rfl rfl (OpV.move (.inl rfl) rfl) ?_
      refine VO.val rfl rfl (OpV.move (.inl rfl) rfl) ?_
      refine VO.val rfl rfl (OpV.move (.inl rfl) rfl) ?_
      first
        | refine VO.val rfl rfl (OpV.indexAddr_1 rfl Tryd.underlying27 Tryd.sizeOf9 rfl rfl (Int.toNat_of_nonneg k1).symm (by omega)) ?_
        | refine VO.val rfl rfl (OpV.indexAddr_o rfl Tryd.underlying27 Tryd.sizeOf9 rfl rfl (Int.toNat_of_nonneg k1).symm (by omega)) ?_
        | refine VO.val rfl rfl (OpV.indexAddr_q rfl Tryd.underlying27 Tryd.sizeOf9 rfl rfl (Int.toNat_of_nonneg k1).symm (by omega)) ?_
        | refine VO.val rfl rfl (OpV.indexAddr_im rfl Tryd.underlying27 Tryd.sizeOf9 rfl rfl (by omega) (by omega)) ?_
      refine VO.op rfl (OpE.store1 (i := 0) rfl hB rfl Tryd.sizeOf9 rfl rfl rfl rfl rfl rfl (by rw [strsL_len]; omega) (strsL_set _ _ _) trivial ?_)
      refine VO.nil ?_
      show VC _ _ _ _ _
      refine VC.le _ (Le.boxRow (i := 0) (n := s.length) (sz := 1) (cap := cap) rfl (by rw [strsL_len, List.length_set]; omega) hcap hmx) ?_
      have e1 := nextL_take_succ (parts := parts) (later := later) (s := s) hq'
      rw [hsl] at e1
      refine VC.region ?_
      refine VO.val rfl rfl (OpV.add rfl rfl rfl (by unfold fits; omega)) ?_
      refine VO.val rfl rfl (OpV.move (.inl rfl) rfl) ?_
      refine VO.nil ?_
      exact Exists.intro (⟨q + 1, by omega⟩) (And.intro (Le.mk hB [0] ⟨rfl, rfl, rfl, rfl, rfl, rfl, trivial⟩ rfl (by dsimp only; rw [e1]; first | rfl | (rw [hcl]; rfl)) (Nat.le_refl _)) (by first | omega | (show _ < _; omega) | (simp only []; omega)))
  · have aH1 := aH1b
    try simp only [decide_eq_true_eq, decide_eq_false_iff_not, Bool.not_eq_true', Bool.not_eq_false', Int.not_lt, Int.not_le] at aH1
    obtain rfl : q = (missF s parts).length := by omega
    refine VC.exit ?_
    show VC _ _ _ _ _
    refine VC.seq ?_
    refine VC.region ?_
    refine VO.val rfl rfl (OpV.move (.inl rfl) rfl) ?_
    refine VO.val rfl rfl (OpV.move (.inr rfl) rfl) ?_
    refine VO.nil ?_
    show VC _ _ _ _ _
    refine VC.ret ?_
    exact Exists.intro _ (And.intro (RetN.one Tryd.results38 (ResN.rowS (i := 0) rfl rfl (by rw [nextL_len]))) (by rw [nextF, List.take_length]))
set_option maxRecDepth 100000 in
theorem rf_SetupsOf {s : List ByteArray} {p : List (List ByteArray)} (hg : Good' s) (hp : ∀ q, q < p.length → RightP s.length (p.getD q default)) (hl : SmSS p) :
    Spec Tryd.prog 39 [avStrs s, avM p] (fun y => y = avM (stsF s p p.length)) := by
  have hll := hl.1
  refine Spec.of_VC Tryd.func39 rfl Tryd.ntmps39 (Nat.le_of_ble_eq_true rfl) fun w A hB => ?_
  have hnew : True := trivial
  refine VC.seq ?_
  refine VC.region ?_
  refine VO.val rfl rfl (OpV.move (.inr rfl) rfl) ?_
  refine VO.nil ?_
  show VC _ _ _ _ _
  refine VC.seq ?_
  refine VC.region ?_
  refine VO.val rfl rfl (OpV.move (.inr rfl) rfl) ?_
  refine VO.nil ?_
  show VC _ _ _ _ _
  refine VC.seq ?_
  refine VC.seq ?_
  refine VC.region ?_
  refine VO.val rfl rfl (OpV.move (.inl rfl) rfl) ?_
  first
    | refine VO.val rfl rfl (OpV.len_im rfl Tryd.underlying30 rfl) ?_
    | refine VO.val rfl rfl (OpV.len_v rfl Tryd.underlying30 rfl) ?_
  refine VO.val rfl rfl (OpV.move (.inl rfl) rfl) ?_
  refine VO.nil ?_
  show VC _ _ _ _ _
  refine VC.block ?_
  refine VC.le _ (Le.nilRow 1 27) ?_
  refine VC.loopK [(1, _), (8, _), (9, _)] ⟨rfl, rfl, rfl, trivial⟩ ({zz : Value × Nat // zz.2 ≤ p.length}) (fun (i : {zz : Value × Nat // zz.2 ≤ p.length}) => match i with | ⟨⟨u, q⟩, hq⟩ => [(0, avStrs (stF s p q)), (5, .v u), (10, avI (q : Int))]) (fun (i : {zz : Value × Nat // zz.2 ≤ p.length}) => match i with | ⟨⟨u, q⟩, hq⟩ => [.row u (stsF s p q).length 1 (listM (stsF s p q)) 27]) (fun (i : {zz : Value × Nat // zz.2 ≤ p.length}) => match i with | ⟨⟨u, q⟩, hq⟩ => 0) (fun (i : {zz : Value × Nat // zz.2 ≤ p.length}) => match i with | ⟨⟨u, q⟩, hq⟩ => p.length - q) ⟨(.slice none 0 0, 0), Nat.zero_le _⟩ (Le.mk hB [0] ⟨rfl, rfl, rfl, rfl, rfl, rfl, trivial⟩ rfl rfl (Nat.le_refl _)) ?_
  rintro ⟨⟨u, q⟩, hq⟩
  show VC _ _ _ _ ⟨[(0, avStrs (stF s p q)), (5, .v u), (10, avI (q : Int))] ++ [(1, _), (8, _), (9, _)], [.row u (stsF s p q).length 1 (listM (stsF s p q)) 27], 0⟩
  simp only at hq
  refine VC.seq ?_
  refine VC.region ?_
  refine VO.val rfl rfl (OpV.lss rfl rfl rfl) ?_
  refine VO.nil ?_
  show VC _ _ _ _ _
  refine VC.seq ?_
  refine VC.cond rfl (fun aH1b => ?_) (fun aH1b => ?_)
  · have aH1 := aH1b
    try simp only [decide_eq_true_eq, decide_eq_false_iff_not, Bool.not_eq_true', Bool.not_eq_false', Int.not_lt, Int.not_le] at aH1
    have hst := stF_good hg hp q (by omega)
    have hsl := stF_len s p q
    have hol := stsF_len s p q
    refine VC.skip ?_
    show VC _ _ _ _ _
    refine VC.seq ?_
    refine VC.block ?_
    refine VC.seq ?_
    refine VC.region ?_
    refine VO.val rfl rfl (OpV.move (.inl rfl) rfl) ?_
    first
      | refine VO.val rfl rfl (OpV.indexAddr_1 rfl Tryd.underlying30 Tryd.sizeOf27 rfl rfl rfl (by omega)) ?_
      | refine VO.val rfl rfl (OpV.indexAddr_1 rfl Tryd.underlying30 Tryd.sizeOf27 rfl rfl (Int.toNat_of_nonneg (by omega)).symm (by omega)) ?_
      | refine VO.val rfl rfl (OpV.indexAddr_o rfl Tryd.underlying30 Tryd.sizeOf27 rfl rfl rfl (by omega)) ?_
      | refine VO.val rfl rfl (OpV.indexAddr_o rfl Tryd.underlying30 Tryd.sizeOf27 rfl rfl (Int.toNat_of_nonneg (by omega)).symm (by omega)) ?_
      | refine VO.val rfl rfl (OpV.indexAddr_q rfl Tryd.underlying30 Tryd.sizeOf27 rfl rfl rfl (by omega)) ?_
      | refine VO.val rfl rfl (OpV.indexAddr_q rfl Tryd.underlying30 Tryd.sizeOf27 rfl rfl (Int.toNat_of_nonneg (by omega)).symm (by omega)) ?_
      | refine VO.val rfl rfl (OpV.indexAddr_im rfl Tryd.underlying30 Tryd.sizeOf27 rfl rfl (by omega) (by omega)) ?_
    first
      | refine VO.val rfl rfl (OpV.load_at rfl hB OutW.no Tryd.isAgg27 rfl rfl) ?_
      | refine VO.val rfl rfl (OpV.load_own (i := 0) rfl hB Tryd.isAgg27 rfl rfl rfl (fun h => h)) ?_
    refine VO.val rfl rfl (OpV.move (.inr rfl) rfl) ?_
    refine VO.val rfl rfl (OpV.move (.inr rfl) rfl) ?_
    refine VO.nil ?_
    show VC _ _ _ _ _
    refine VC.seq ?_
    refine VC.region ?_
    refine VO.val rfl rfl (OpV.move (.inl rfl) rfl) ?_
    refine VO.val rfl rfl (OpV.move (.inl rfl) rfl) ?_
    refine VO.val rfl rfl (OpV.move (.inl rfl) rfl) ?_
    refine VO.val rfl rfl (OpV.move (.inl rfl) rfl) ?_
    refine VO.val rfl rfl (OpV.add rfl rfl rfl (by unfold fits; omega)) ?_
    first
      | refine VO.val rfl rfl (OpV.slice_ints (l := q + 1) rfl Tryd.underlying30 Tryd.sizeOf27 rfl ⟨_, _, rfl, by omega⟩ rfl (by omega) (by omega)) ?_
      | refine VO.val rfl rfl (OpV.slice_strs (l := q + 1) rfl Tryd.underlying30 Tryd.sizeOf27 rfl ⟨_, _, rfl, by omega⟩ rfl (by omega) (by omega)) ?_
      | refine VO.val rfl rfl (OpV.slice_M (l := q + 1) rfl Tryd.underlying30 Tryd.sizeOf27 rfl ⟨_, _, rfl, by omega⟩ rfl (by omega) (by omega)) ?_
      | refine VO.val rfl rfl (OpV.slice_L (l := q + 1) rfl Tryd.underlying30 Tryd.sizeOf27 rfl ⟨_, _, rfl, by omega⟩ rfl (by omega) (by omega)) ?_
      | refine VO.val rfl rfl (OpV.slice_im (l := q + 1) rfl Tryd.underlying30 Tryd.sizeOf27 rfl ⟨_, _, rfl, by omega⟩ rfl (by omega) (by omega)) ?_
      | refine VO.val rfl rfl (OpV.slice_own (l := q + 1) rfl Tryd.underlying30 Tryd.sizeOf27 rfl ⟨_, _, rfl, by omega⟩ rfl (by omega) (by omega) (by omega)) ?_
    refine VO.op rfl (OpE.call rfl hB rfl Tryd.call38 rfl (SpecN.spec (rf_NextOf hst (by rw [hsl]; exact hp q (by omega)) ((hl.take _).drop _))) ?_)
    rintro _ rfl
    refine VO.val rfl rfl (OpV.move (.inr rfl) rfl) ?_
    refine VO.nil ?_
    show VC _ _ _ _ _
    refine VC.region ?_
    refine VO.val rfl rfl (OpV.move (.inl rfl) rfl) ?_
    refine VO.val rfl rfl (OpV.move (.inl rfl) rfl) ?_
    refine VO.op rfl (OpE.buildSlice (zc := #[.slice none 0 0]) rfl hB rfl Tryd.underlying30 Tryd.sizeOf27 Tryd.zeroValue27 (by decide) (by decide) (by kernel_rfl) rfl rfl ?_)
    refine VO.op rfl (OpE.append1 (i := 0) rfl hB rfl Tryd.underlying30 (infoOf Tryd.t27 1 (by kernel_rfl) rfl rfl) rfl (by decide) (by decide) rfl rfl rfl rfl (listM_snoc _ _) (by omega) (fun _ _ => trivial) ?_)
    intro u2
    refine VO.val rfl rfl (OpV.move (.inr rfl) rfl) ?_
    refine VO.nil ?_
    show VC _ _ _ _ _
    refine VC.region ?_
    refine VO.val rfl rfl (OpV.add rfl rfl rfl (by unfold fits; omega)) ?_
    refine VO.val rfl rfl (OpV.move (.inl rfl) rfl) ?_
    refine VO.nil ?_
    first
      | exact Exists.intro (⟨(u2, q + 1), by show _ ≤ _; omega⟩) (And.intro (Le.mk hB [0] ⟨(by dsimp only; rw [List.take_length]; rfl), rfl, rfl, rfl, rfl, rfl, trivial⟩ rfl (by dsimp only; rw [List.take_length, stsF_succ, List.length_append]; rfl) (Nat.le_refl _)) (by first | omega | (show _ < _; omega) | (simp only []; omega)))
      | exact Exists.intro (⟨(u, q + 1), by show _ ≤ _; omega⟩) (And.intro (Le.mk hB [0] ⟨(by dsimp only; rw [List.take_length]; rfl), rfl, rfl, rfl, rfl, rfl, trivial⟩ rfl (by dsimp only; rw [List.take_length, stsF_succ, List.length_append]; rfl) (Nat.le_refl _)) (by first | omega | (show _ < _; omega) | (simp only []; omega)))
  · have aH1 := aH1b
    try simp only [decide_eq_true_eq, decide_eq_false_iff_not, Bool.not_eq_true', Bool.not_eq_false', Int.not_lt, Int.not_le] at aH1
    obtain rfl : q = p.length := by omega
    refine VC.exit ?_
    show VC _ _ _ _ _
    refine VC.seq ?_
    refine VC.region ?_
    refine VO.val rfl rfl (OpV.move (.inl rfl) rfl) ?_
    refine VO.val rfl rfl (OpV.move (.inr rfl) rfl) ?_
    refine VO.nil ?_
    show VC _ _ _ _ _
    refine VC.le _ (Le.rowsM (t := 4) (i := 0) hB hnew rfl rfl rfl) ?_
    refine VC.ret ?_
    exact Exists.intro _ (And.intro (RetV.one Tryd.results39 (ResV.tmp rfl)) (rfl))
set_option maxRecDepth 100000 in
theorem rf_TotalOf {s : List ByteArray} {p : List (List ByteArray)} (hg : Good' s) (hp : ∀ q, q < p.length → RightP s.length (p.getD q default)) (hl : SmSS p) (hl2 : p.length ≤ 200) :
    SpecN Tryd.prog 40 [avStrs s, avM p] (fun y => y = avI (totF s p p.length)) := by
  have hls := hg.len
  have hsn := stsF_len s p p.length
  refine SpecN.of_VCN Tryd.func40 rfl Tryd.ntmps40 (Nat.le_of_ble_eq_true rfl) fun w A hB => ?_
  have hnew : True := trivial
  refine VC.seq ?_
  refine VC.region ?_
  refine VO.val rfl rfl (OpV.move (.inr rfl) rfl) ?_
  refine VO.nil ?_
  show VC _ _ _ _ _
  refine VC.seq ?_
  refine VC.region ?_
  refine VO.val rfl rfl (OpV.move (.inr rfl) rfl) ?_
  refine VO.nil ?_
  show VC _ _ _ _ _
  refine VC.seq ?_
  refine VC.seq ?_
  refine VC.region ?_
  refine VO.val rfl rfl (OpV.move (.inl rfl) rfl) ?_
  refine VO.val rfl rfl (OpV.move (.inl rfl) rfl) ?_
  refine VO.op rfl (OpE.call rfl hB rfl Tryd.call39 rfl (rf_SetupsOf hg hp hl) ?_)
  rintro _ rfl
  first
    | refine VO.val rfl rfl (OpV.len_im rfl Tryd.underlying30 rfl) ?_
    | refine VO.val rfl rfl (OpV.len_v rfl Tryd.underlying30 rfl) ?_
  refine VO.val rfl rfl (OpV.move (.inl rfl) rfl) ?_
  refine VO.nil ?_
  show VC _ _ _ _ _
  refine VC.block ?_
  refine VC.loopK [(10, _), (11, _)] ⟨rfl, rfl, trivial⟩ ({q : Nat // q ≤ (stsF s p p.length).length}) (fun (i : {q : Nat // q ≤ (stsF s p p.length).length}) => match i with | ⟨q, hq⟩ => [(0, avStrs (stF s p q)), (5, avI (totF s p q)), (12, avI (q : Int))]) (fun (i : {q : Nat // q ≤ (stsF s p p.length).length}) => match i with | ⟨q, hq⟩ => []) (fun (i : {q : Nat // q ≤ (stsF s p p.length).length}) => match i with | ⟨q, hq⟩ => 0) (fun (i : {q : Nat // q ≤ (stsF s p p.length).length}) => match i with | ⟨q, hq⟩ => (stsF s p p.length).length - q) ⟨0, Nat.zero_le _⟩ (Le.mk hB [] ⟨rfl, rfl, rfl, rfl, rfl, trivial⟩ rfl rfl (Nat.le_refl _)) ?_
  rintro ⟨q, hq⟩
  show VC _ _ _ _ ⟨[(0, avStrs (stF s p q)), (5, avI (totF s p q)), (12, avI (q : Int))] ++ [(10, _), (11, _)], [], 0⟩
  refine VC.seq ?_
  refine VC.region ?_
  refine VO.val rfl rfl (OpV.lss rfl rfl rfl) ?_
  refine VO.nil ?_
  show VC _ _ _ _ _
  refine VC.seq ?_
  refine VC.cond rfl (fun aH1b => ?_) (fun aH1b => ?_)
  · have aH1 := aH1b
    try simp only [decide_eq_true_eq, decide_eq_false_iff_not, Bool.not_eq_true', Bool.not_eq_false', Int.not_lt, Int.not_le] at aH1
    have hq' : q < p.length := by omega
    have hst := stF_good hg hp q (by omega)
    have hsl := stF_len s p q
    have hsl2 := stF_len s p (q + 1)
    have hti := totF_in hls hp q (by omega)
    have hms := missF_len (stF s p q) (p.getD q default)
    have hpl := (hp q (by omega)).len
    have e1 : (stsF s p p.length).getD q default = stF s p (q + 1) := stsF_get hq'
    have e2 : loadN (chgF (stF s p q) (stF s p (q + 1)) (stF s p q).length) = (missF (stF s p q) (p.getD q default)).length := nextF_loads ((by rw [hsl]; exact hp q hq' : RightP (stF s p q).length (p.getD q default)).fits hst.once)
    have e3 := e2
    rw [← e1] at e3
    refine VC.skip ?_
    show VC _ _ _ _ _
    refine VC.seq ?_
    refine VC.block ?_
    refine VC.seq ?_
    refine VC.region ?_
    first
      | refine VO.val rfl rfl (OpV.indexAddr_1 rfl Tryd.underlying30 Tryd.sizeOf27 rfl rfl rfl (by omega)) ?_
      | refine VO.val rfl rfl (OpV.indexAddr_1 rfl Tryd.underlying30 Tryd.sizeOf27 rfl rfl (Int.toNat_of_nonneg (by omega)).symm (by omega)) ?_
      | refine VO.val rfl rfl (OpV.indexAddr_o rfl Tryd.underlying30 Tryd.sizeOf27 rfl rfl rfl (by omega)) ?_
      | refine VO.val rfl rfl (OpV.indexAddr_o rfl Tryd.underlying30 Tryd.sizeOf27 rfl rfl (Int.toNat_of_nonneg (by omega)).symm (by omega)) ?_
      | refine VO.val rfl rfl (OpV.indexAddr_q rfl Tryd.underlying30 Tryd.sizeOf27 rfl rfl rfl (by omega)) ?_
      | refine VO.val rfl rfl (OpV.indexAddr_q rfl Tryd.underlying30 Tryd.sizeOf27 rfl rfl (Int.toNat_of_nonneg (by omega)).symm (by omega)) ?_
      | refine VO.val rfl rfl (OpV.indexAddr_im rfl Tryd.underlying30 Tryd.sizeOf27 rfl rfl (by omega) (by omega)) ?_
    refine VO.val rfl rfl (OpV.load_at rfl hB OutW.no Tryd.isAgg27 rfl rfl) ?_
    refine VO.val rfl rfl (OpV.move (.inr rfl) rfl) ?_
    refine VO.nil ?_
    show VC _ _ _ _ _
    refine VC.seq ?_
    refine VC.region ?_
    refine VO.val rfl rfl (OpV.move (.inl rfl) rfl) ?_
    refine VO.val rfl rfl (OpV.move (.inl rfl) rfl) ?_
    refine VO.val rfl rfl (OpV.move (.inl rfl) rfl) ?_
    refine VO.op rfl (OpE.call rfl hB rfl Tryd.call20 rfl (SpecN.spec (rf_LoadsOf (by omega) (by rw [e1]; omega))) ?_)
    rintro _ rfl
    refine VO.val rfl rfl (OpV.add rfl rfl rfl (by unfold fits; omega)) ?_
    refine VO.val rfl rfl (OpV.move (.inr rfl) rfl) ?_
    refine VO.nil ?_
    show VC _ _ _ _ _
    refine VC.region ?_
    refine VO.val rfl rfl (OpV.move (.inl rfl) rfl) ?_
    refine VO.val rfl rfl (OpV.move (.inr rfl) rfl) ?_
    refine VO.nil ?_
    show VC _ _ _ _ _
    refine VC.region ?_
    refine VO.val rfl rfl (OpV.add rfl rfl rfl (by unfold fits; omega)) ?_
    refine VO.val rfl rfl (OpV.move (.inl rfl) rfl) ?_
    refine VO.nil ?_
    exact Exists.intro (⟨q + 1, by omega⟩) (And.intro (Le.mk hB [] ⟨(by dsimp only; rw [e1]; rfl), (by dsimp only; rw [e1, e2]; rfl), rfl, rfl, rfl, trivial⟩ rfl rfl (Nat.le_refl _)) (by first | omega | (show _ < _; omega) | (simp only []; omega)))
  · have aH1 := aH1b
    try simp only [decide_eq_true_eq, decide_eq_false_iff_not, Bool.not_eq_true', Bool.not_eq_false', Int.not_lt, Int.not_le] at aH1
    obtain rfl : q = p.length := by omega
    refine VC.exit ?_
    show VC _ _ _ _ _
    refine VC.seq ?_
    refine VC.region ?_
    refine VO.val rfl rfl (OpV.move (.inl rfl) rfl) ?_
    refine VO.val rfl rfl (OpV.move (.inr rfl) rfl) ?_
    refine VO.nil ?_
    show VC _ _ _ _ _
    refine VC.ret ?_
    exact Exists.intro _ (And.intro (RetN.one Tryd.results40 (ResN.v rfl)) (rfl))
def nextE (s parts : List ByteArray) (later : List (List ByteArray)) : Int := if setupF s ≠ 0 then setupF s else partsF s.length (parts :: later)
def nextR (s parts : List ByteArray) (later : List (List ByteArray)) : List ByteArray := if nextE s parts later = 0 then nextF s parts later else []
set_option maxRecDepth 100000 in
theorem setup_Next {s parts : List ByteArray} {later : List (List ByteArray)} (hs : SmS s) (hp : SmSS (parts :: later)) (hl : SmSS later) :
    SpecH Tryd.prog 34 [avStrs s, avStrs parts, avM later] [] (fun y hp' => ∃ u, y = .tup [.v u, avI (nextE s parts later)] ∧ hp' = [.row u ((nextR s parts later).length) (1) (strsL (nextR s parts later)) (9)]) := by
  have hl1 := hl.1
  refine SpecH.of_VC Tryd.func34 rfl Tryd.ntmps34 (Nat.le_of_ble_eq_true rfl) fun w A hB => ?_
  have hnew : True := trivial
  refine VC.seq ?_
  refine VC.region ?_
  refine VO.val rfl rfl (OpV.move (.inr rfl) rfl) ?_
  refine VO.val rfl rfl (OpV.move (.inr rfl) rfl) ?_
  refine VO.nil ?_
  show VC _ _ _ _ _
  refine VC.seq ?_
  refine VC.seq ?_
  refine VC.region ?_
  refine VO.val rfl rfl (OpV.move (.inl rfl) rfl) ?_
  refine VO.op rfl (OpE.call rfl hB rfl Tryd.call21 rfl (SpecN.spec (setup_CheckSetup hs)) ?_)
  rintro _ rfl
  refine VO.val rfl rfl (OpV.move (.inr rfl) rfl) ?_
  refine VO.nil ?_
  show VC _ _ _ _ _
  refine VC.seq ?_
  refine VC.region ?_
  refine VO.val rfl rfl (OpV.move (.inl rfl) rfl) ?_
  refine VO.val rfl rfl (OpV.neq rfl rfl rfl) ?_
  refine VO.nil ?_
  show VC _ _ _ _ _
  refine VC.cond rfl (fun h0b => ?_) (fun h0b => ?_)
  · have h0 := h0b
    try simp only [decide_eq_true_eq, decide_eq_false_iff_not, Bool.not_eq_true', Bool.not_eq_false', Int.not_lt, Int.not_le] at h0
    have he : nextE s parts later = setupF s := by rw [nextE, if_pos h0]
    have hR : nextR s parts later = [] := by rw [nextR, if_neg (by rw [he]; exact h0)]
    rw [hR, he]
    refine VC.seq ?_
    refine VC.region ?_
    refine VO.val rfl rfl (OpV.move (.inl rfl) rfl) ?_
    refine VO.val rfl rfl (OpV.move (.inr rfl) rfl) ?_
    refine VO.val rfl rfl (OpV.move (.inr rfl) rfl) ?_
    refine VO.nil ?_
    show VC _ _ _ _ _
    refine VC.le _ (Le.nilRow 1 9) ?_
    refine VC.le ⟨[(6, _), (7, _)], [_], 0⟩ (Le.pick hB [0] ⟨rfl, rfl, trivial⟩ rfl rfl (Nat.le_refl _)) ?_
    refine VC.ret ?_
    exact Exists.intro _ (And.intro (RetV.two Tryd.results34 (ResV.tmp rfl) (ResV.tmp rfl)) (⟨_, rfl, rfl⟩))
  · have h0 := h0b
    try simp only [decide_eq_true_eq, decide_eq_false_iff_not, Bool.not_eq_true', Bool.not_eq_false', Int.not_lt, Int.not_le] at h0
    have h00 : setupF s = 0 := by omega
    refine VC.skip ?_
    show VC _ _ _ _ _
    refine VC.seq ?_
    refine VC.seq ?_
    refine VC.region ?_
    refine VO.val rfl rfl (OpV.move (.inl rfl) rfl) ?_
    first
      | refine VO.val rfl rfl (OpV.len_im rfl Tryd.underlying27 rfl) ?_
      | refine VO.val rfl rfl (OpV.len_v rfl Tryd.underlying27 rfl) ?_
    refine VO.val rfl rfl (OpV.move (.inl rfl) rfl) ?_
    refine VO.op rfl (OpE.callH (hp := []) (rest := _) rfl hB rfl Tryd.call65 rfl rfl (slices_CloneM hl.1) (List.Perm.refl _) (fun _ h => by obtain ⟨e, he, _⟩ := h; cases he) ?_)
    rintro _ _ ⟨u18, rfl, rfl⟩
    refine VO.val rfl rfl (OpV.move (.inl rfl) rfl) ?_
    refine VO.op rfl (OpE.buildSlice (zc := #[.slice none 0 0]) rfl hB rfl Tryd.underlying30 Tryd.sizeOf27 Tryd.zeroValue27 (by decide) (by decide) (by kernel_rfl) rfl rfl ?_)
    refine VO.le _ (Le.recast (t := 20) (y := avM [parts]) rfl (fun w Z u h => Rep.listM (xs := [parts]) rfl h)) ?_
    refine VO.op rfl (OpE.callH0 rfl hB rfl Tryd.call64 rfl rfl (slices_InsertM hl.1) (List.Perm.refl _) (fun _ _ => trivial) ?_)
    rintro _ _ ⟨u21, rfl, rfl⟩
    refine VO.le _ (Le.rowsM (t := 21) (i := 0) hB hnew rfl rfl (by first | rfl | simp)) ?_
    refine VO.op rfl (OpE.call rfl hB rfl Tryd.call22 rfl (SpecN.spec (setup_CheckParts hp)) ?_)
    rintro _ rfl
    refine VO.val rfl rfl (OpV.move (.inr rfl) rfl) ?_
    refine VO.nil ?_
    show VC _ _ _ _ _
    refine VC.seq ?_
    refine VC.region ?_
    refine VO.val rfl rfl (OpV.move (.inl rfl) rfl) ?_
    refine VO.val rfl rfl (OpV.neq rfl rfl rfl) ?_
    refine VO.nil ?_
    show VC _ _ _ _ _
    refine VC.cond rfl (fun h1b => ?_) (fun h1b => ?_)
    · have h1 := h1b
      try simp only [decide_eq_true_eq, decide_eq_false_iff_not, Bool.not_eq_true', Bool.not_eq_false', Int.not_lt, Int.not_le] at h1
      have he : nextE s parts later = partsF s.length (parts :: later) := by rw [nextE, if_neg (by omega)]
      have hR : nextR s parts later = [] := by rw [nextR, if_neg (by rw [he]; exact h1)]
      rw [hR, he]
      refine VC.seq ?_
      refine VC.region ?_
      refine VO.val rfl rfl (OpV.move (.inl rfl) rfl) ?_
      refine VO.val rfl rfl (OpV.move (.inr rfl) rfl) ?_
      refine VO.val rfl rfl (OpV.move (.inr rfl) rfl) ?_
      refine VO.nil ?_
      show VC _ _ _ _ _
      refine VC.le _ (Le.nilRow 1 9) ?_
      refine VC.le ⟨[(6, _), (7, _)], [_], 0⟩ (Le.pick hB [0] ⟨rfl, rfl, trivial⟩ rfl rfl (Nat.le_refl _)) ?_
      refine VC.ret ?_
      exact Exists.intro _ (And.intro (RetV.two Tryd.results34 (ResV.tmp rfl) (ResV.tmp rfl)) (⟨_, rfl, rfl⟩))
    · have h1 := h1b
      try simp only [decide_eq_true_eq, decide_eq_false_iff_not, Bool.not_eq_true', Bool.not_eq_false', Int.not_lt, Int.not_le] at h1
      have hpa : partsF s.length (parts :: later) = 0 := by omega
      have he : nextE s parts later = 0 := by rw [nextE, if_neg (by omega), hpa]
      have hR : nextR s parts later = nextF s parts later := by rw [nextR, if_pos he]
      have hr0 : RightP s.length parts := RightP.of (q := 0) rfl hpa (by simp)
      rw [hR, he, nextF_len]
      refine VC.skip ?_
      show VC _ _ _ _ _
      refine VC.seq ?_
      refine VC.region ?_
      refine VO.val rfl rfl (OpV.move (.inl rfl) rfl) ?_
      refine VO.op rfl (OpE.callR rfl hB rfl Tryd.call45 (slices_CloneS_R hs.1) (ArgsP.cons (ArgP.ev rfl) (ArgsP.nil)) ?_)
      intro u
      refine VO.val rfl rfl (OpV.move (.inr rfl) rfl) ?_
      refine VO.nil ?_
      show VC _ _ _ _ _
      refine VC.seq ?_
      refine VC.region ?_
      refine VO.val rfl rfl (OpV.move (.inl rfl) rfl) ?_
      refine VO.val rfl rfl (OpV.move (.inl rfl) rfl) ?_
      refine VO.val rfl rfl (OpV.move (.inl rfl) rfl) ?_
      refine VO.op rfl (OpE.callH0 rfl hB rfl Tryd.call60 rfl rfl (setup_next (Good'.of h00) hr0 hl) (List.Perm.refl _) (fun _ _ => trivial) ?_)
      rintro _ _ ⟨rfl, rfl⟩
      refine VO.nil ?_
      show VC _ _ _ _ _
      refine VC.seq ?_
      refine VC.region ?_
      refine VO.val rfl rfl (OpV.move (.inl rfl) rfl) ?_
      refine VO.val rfl rfl (OpV.move (.inr rfl) rfl) ?_
      refine VO.val rfl rfl (OpV.move (.inr rfl) rfl) ?_
      refine VO.nil ?_
      show VC _ _ _ _ _
      refine VC.le ⟨[(6, _), (7, _)], [_], 0⟩ (Le.pick hB [0] ⟨rfl, rfl, trivial⟩ rfl rfl (Nat.le_refl _)) ?_
      refine VC.ret ?_
      exact Exists.intro _ (And.intro (RetV.two Tryd.results34 (ResV.tmp rfl) (ResV.tmp rfl)) (⟨_, rfl, rfl⟩))
def setsR (s : List ByteArray) (p : List (List ByteArray)) : List (List ByteArray) := if setsF s p = 0 then stsF s p p.length else []
set_option maxRecDepth 100000 in
theorem setup_Setups {s : List ByteArray} {p : List (List ByteArray)} (hs : SmS s) (hl : SmSS p) :
    Spec Tryd.prog 35 [avStrs s, avM p] (fun y => y = .tup [avM (setsR s p), avI (setsF s p)]) := by
  have hll := hl.1
  refine Spec.of_VC Tryd.func35 rfl Tryd.ntmps35 (Nat.le_of_ble_eq_true rfl) fun w A hB => ?_
  have hnew : True := trivial
  refine VC.seq ?_
  refine VC.region ?_
  refine VO.val rfl rfl (OpV.move (.inr rfl) rfl) ?_
  refine VO.val rfl rfl (OpV.move (.inr rfl) rfl) ?_
  refine VO.nil ?_
  show VC _ _ _ _ _
  refine VC.seq ?_
  refine VC.seq ?_
  refine VC.region ?_
  refine VO.val rfl rfl (OpV.move (.inl rfl) rfl) ?_
  refine VO.val rfl rfl (OpV.move (.inl rfl) rfl) ?_
  refine VO.op rfl (OpE.call rfl hB rfl Tryd.call47 rfl (SpecN.spec (setup_fault hs hl)) ?_)
  rintro _ rfl
  refine VO.val rfl rfl (OpV.move (.inr rfl) rfl) ?_
  refine VO.nil ?_
  show VC _ _ _ _ _
  refine VC.seq ?_
  refine VC.region ?_
  refine VO.val rfl rfl (OpV.move (.inl rfl) rfl) ?_
  refine VO.val rfl rfl (OpV.neq rfl rfl rfl) ?_
  refine VO.nil ?_
  show VC _ _ _ _ _
  refine VC.cond rfl (fun h0b => ?_) (fun h0b => ?_)
  · have h0 := h0b
    try simp only [decide_eq_true_eq, decide_eq_false_iff_not, Bool.not_eq_true', Bool.not_eq_false', Int.not_lt, Int.not_le] at h0
    have hR : setsR s p = [] := by rw [setsR, if_neg h0]
    rw [hR]
    refine VC.seq ?_
    refine VC.region ?_
    refine VO.val rfl rfl (OpV.move (.inl rfl) rfl) ?_
    refine VO.val rfl rfl (OpV.move (.inr rfl) rfl) ?_
    refine VO.val rfl rfl (OpV.move (.inr rfl) rfl) ?_
    refine VO.nil ?_
    show VC _ _ _ _ _
    refine VC.le _ (Le.recast (t := 4) (y := avM ([] : List (List ByteArray))) rfl (fun w Z u h => by rw [h.eq_v]; exact .nil _ _)) ?_
    refine VC.ret ?_
    exact Exists.intro _ (And.intro (RetV.two Tryd.results35 (ResV.tmp rfl) (ResV.tmp rfl)) (rfl))
  · have h0 := h0b
    try simp only [decide_eq_true_eq, decide_eq_false_iff_not, Bool.not_eq_true', Bool.not_eq_false', Int.not_lt, Int.not_le] at h0
    obtain ⟨z1, hg, z3, hp, z5⟩ := setsF_zero (s := s) (p := p) (by omega)
    have hR : setsR s p = stsF s p p.length := by rw [setsR, if_pos (by omega)]
    have hls := hg.len
    rw [hR, show setsF s p = 0 by omega]
    refine VC.skip ?_
    show VC _ _ _ _ _
    refine VC.seq ?_
    refine VC.region ?_
    refine VO.val rfl rfl (OpV.move (.inl rfl) rfl) ?_
    refine VO.op rfl (OpE.callR rfl hB rfl Tryd.call45 (slices_CloneS_R hs.1) (ArgsP.cons (ArgP.ev rfl) (ArgsP.nil)) ?_)
    intro u
    refine VO.val rfl rfl (OpV.move (.inr rfl) rfl) ?_
    refine VO.nil ?_
    show VC _ _ _ _ _
    refine VC.seq ?_
    refine VC.region ?_
    refine VO.val rfl rfl (OpV.move (.inr rfl) rfl) ?_
    refine VO.nil ?_
    show VC _ _ _ _ _
    refine VC.seq ?_
    refine VC.seq ?_
    refine VC.region ?_
    refine VO.val rfl rfl (OpV.move (.inl rfl) rfl) ?_
    first
      | refine VO.val rfl rfl (OpV.len_im rfl Tryd.underlying30 rfl) ?_
      | refine VO.val rfl rfl (OpV.len_v rfl Tryd.underlying30 rfl) ?_
      | refine VO.val rfl rfl (OpV.len_row (i := 0) rfl Tryd.underlying30 rfl rfl) ?_
    refine VO.val rfl rfl (OpV.move (.inl rfl) rfl) ?_
    refine VO.nil ?_
    show VC _ _ _ _ _
    refine VC.block ?_
    refine VC.le _ (Le.nilRow 1 27) ?_
    refine VC.loopK [(0, _), (1, _), (18, _), (19, _)] ⟨rfl, rfl, rfl, rfl, trivial⟩ ({zz : Value × Nat // zz.2 ≤ p.length}) (fun (i : {zz : Value × Nat // zz.2 ≤ p.length}) => match i with | ⟨⟨uo, q⟩, hq⟩ => [(7, .v uo), (20, avI (q : Int))]) (fun (i : {zz : Value × Nat // zz.2 ≤ p.length}) => match i with | ⟨⟨uo, q⟩, hq⟩ => [.row u (stF s p q).length 1 (strsL (stF s p q)) 9, .row uo (stsF s p q).length 1 (listM (stsF s p q)) 27]) (fun (i : {zz : Value × Nat // zz.2 ≤ p.length}) => match i with | ⟨⟨uo, q⟩, hq⟩ => 0) (fun (i : {zz : Value × Nat // zz.2 ≤ p.length}) => match i with | ⟨⟨uo, q⟩, hq⟩ => p.length - q) ⟨(.slice none 0 0, 0), Nat.zero_le _⟩ (Le.mk hB [0, 1] ⟨rfl, rfl, rfl, rfl, rfl, rfl, trivial⟩ rfl rfl (Nat.le_refl _)) ?_
    rintro ⟨⟨uo, q⟩, hq⟩
    show VC _ _ _ _ ⟨[(7, .v uo), (20, avI (q : Int))] ++ [(0, _), (1, _), (18, _), (19, _)], [.row u (stF s p q).length 1 (strsL (stF s p q)) 9, .row uo (stsF s p q).length 1 (listM (stsF s p q)) 27], 0⟩
    simp only at hq
    refine VC.seq ?_
    refine VC.region ?_
    refine VO.val rfl rfl (OpV.lss rfl rfl rfl) ?_
    refine VO.nil ?_
    show VC _ _ _ _ _
    refine VC.seq ?_
    refine VC.cond rfl (fun aH1b => ?_) (fun aH1b => ?_)
    · have aH1 := aH1b
      try simp only [decide_eq_true_eq, decide_eq_false_iff_not, Bool.not_eq_true', Bool.not_eq_false', Int.not_lt, Int.not_le] at aH1
      have hst := stF_good hg hp q (by omega)
      have hsl := stF_len s p q
      have hol := stsF_len s p q
      refine VC.skip ?_
      show VC _ _ _ _ _
      refine VC.seq ?_
      refine VC.block ?_
      refine VC.seq ?_
      refine VC.region ?_
      refine VO.val rfl rfl (OpV.move (.inl rfl) rfl) ?_
      first
        | refine VO.val rfl rfl (OpV.indexAddr_1 rfl Tryd.underlying30 Tryd.sizeOf27 rfl rfl rfl (by omega)) ?_
        | refine VO.val rfl rfl (OpV.indexAddr_1 rfl Tryd.underlying30 Tryd.sizeOf27 rfl rfl (Int.toNat_of_nonneg (by omega)).symm (by omega)) ?_
        | refine VO.val rfl rfl (OpV.indexAddr_o rfl Tryd.underlying30 Tryd.sizeOf27 rfl rfl rfl (by omega)) ?_
        | refine VO.val rfl rfl (OpV.indexAddr_o rfl Tryd.underlying30 Tryd.sizeOf27 rfl rfl (Int.toNat_of_nonneg (by omega)).symm (by omega)) ?_
        | refine VO.val rfl rfl (OpV.indexAddr_q rfl Tryd.underlying30 Tryd.sizeOf27 rfl rfl rfl (by omega)) ?_
        | refine VO.val rfl rfl (OpV.indexAddr_q rfl Tryd.underlying30 Tryd.sizeOf27 rfl rfl (Int.toNat_of_nonneg (by omega)).symm (by omega)) ?_
        | refine VO.val rfl rfl (OpV.indexAddr_im rfl Tryd.underlying30 Tryd.sizeOf27 rfl rfl (by omega) (by omega)) ?_
      first
        | refine VO.val rfl rfl (OpV.load_at rfl hB OutW.no Tryd.isAgg27 rfl rfl) ?_
        | refine VO.val rfl rfl (OpV.load_own (i := 0) rfl hB Tryd.isAgg27 rfl rfl rfl (fun h => h)) ?_
        | refine VO.val rfl rfl (OpV.load_own (i := 1) rfl hB Tryd.isAgg27 rfl rfl rfl (fun h => h)) ?_
      refine VO.val rfl rfl (OpV.move (.inr rfl) rfl) ?_
      refine VO.val rfl rfl (OpV.move (.inr rfl) rfl) ?_
      refine VO.nil ?_
      show VC _ _ _ _ _
      refine VC.seq ?_
      refine VC.region ?_
      refine VO.val rfl rfl (OpV.move (.inl rfl) rfl) ?_
      refine VO.val rfl rfl (OpV.move (.inl rfl) rfl) ?_
      refine VO.val rfl rfl (OpV.move (.inl rfl) rfl) ?_
      refine VO.val rfl rfl (OpV.move (.inl rfl) rfl) ?_
      refine VO.val rfl rfl (OpV.add rfl rfl rfl (by unfold fits; omega)) ?_
      first
        | refine VO.val rfl rfl (OpV.slice_ints (l := q + 1) rfl Tryd.underlying30 Tryd.sizeOf27 rfl ⟨_, _, rfl, by omega⟩ rfl (by omega) (by omega)) ?_
        | refine VO.val rfl rfl (OpV.slice_strs (l := q + 1) rfl Tryd.underlying30 Tryd.sizeOf27 rfl ⟨_, _, rfl, by omega⟩ rfl (by omega) (by omega)) ?_
        | refine VO.val rfl rfl (OpV.slice_M (l := q + 1) rfl Tryd.underlying30 Tryd.sizeOf27 rfl ⟨_, _, rfl, by omega⟩ rfl (by omega) (by omega)) ?_
        | refine VO.val rfl rfl (OpV.slice_L (l := q + 1) rfl Tryd.underlying30 Tryd.sizeOf27 rfl ⟨_, _, rfl, by omega⟩ rfl (by omega) (by omega)) ?_
        | refine VO.val rfl rfl (OpV.slice_im (l := q + 1) rfl Tryd.underlying30 Tryd.sizeOf27 rfl ⟨_, _, rfl, by omega⟩ rfl (by omega) (by omega)) ?_
        | refine VO.val rfl rfl (OpV.slice_own (l := q + 1) rfl Tryd.underlying30 Tryd.sizeOf27 rfl ⟨_, _, rfl, by omega⟩ rfl (by omega) (by omega) (by omega)) ?_
      refine VO.op rfl (OpE.callH rfl hB rfl Tryd.call60 rfl rfl (setup_next hst (by rw [hsl]; exact hp q (by omega)) ((hl.take _).drop _)) (List.Perm.refl _) (fun _ _ => trivial) ?_)
      rintro _ _ ⟨rfl, rfl⟩
      refine VO.nil ?_
      show VC _ _ _ _ _
      refine VC.region ?_
      refine VO.val rfl rfl (OpV.move (.inl rfl) rfl) ?_
      refine VO.val rfl rfl (OpV.move (.inl rfl) rfl) ?_
      refine VO.op rfl (OpE.callR rfl hB rfl Tryd.call45 (slices_CloneS_R (by rw [nextF_len]; omega)) (ArgsP.cons (ArgP.rowS (i := 0) rfl rfl (by rw [nextF_len])) (ArgsP.nil)) ?_)
      intro uc
      refine VO.le _ (Le.rowS (t := 34) (i := 2) hB hnew rfl rfl (by first | rfl | simp)) ?_
      refine VO.op rfl (OpE.buildSlice (zc := #[.slice none 0 0]) rfl hB rfl Tryd.underlying30 Tryd.sizeOf27 Tryd.zeroValue27 (by decide) (by decide) (by kernel_rfl) rfl rfl ?_)
      first
        | refine VO.op rfl (OpE.append1 (i := 0) rfl hB rfl Tryd.underlying30 (infoOf Tryd.t27 1 (by kernel_rfl) rfl rfl) rfl (by decide) (by decide) rfl rfl rfl rfl (listM_snoc _ _) (by omega) (fun _ _ => trivial) ?_)
        | refine VO.op rfl (OpE.append1 (i := 1) rfl hB rfl Tryd.underlying30 (infoOf Tryd.t27 1 (by kernel_rfl) rfl rfl) rfl (by decide) (by decide) rfl rfl rfl rfl (listM_snoc _ _) (by omega) (fun _ _ => trivial) ?_)
        | refine VO.op rfl (OpE.append1 (i := 2) rfl hB rfl Tryd.underlying30 (infoOf Tryd.t27 1 (by kernel_rfl) rfl rfl) rfl (by decide) (by decide) rfl rfl rfl rfl (listM_snoc _ _) (by omega) (fun _ _ => trivial) ?_)
      intro uo2
      refine VO.val rfl rfl (OpV.move (.inr rfl) rfl) ?_
      refine VO.nil ?_
      show VC _ _ _ _ _
      refine VC.region ?_
      refine VO.val rfl rfl (OpV.add rfl rfl rfl (by unfold fits; omega)) ?_
      refine VO.val rfl rfl (OpV.move (.inl rfl) rfl) ?_
      refine VO.nil ?_
      exact Exists.intro (⟨(uo2, q + 1), by show _ ≤ _; omega⟩) (And.intro (Le.mk hB [0, 1] ⟨rfl, rfl, rfl, rfl, rfl, rfl, trivial⟩ rfl (by dsimp only; rw [List.take_length, show (stF s p (q + 1)).length = (stF s p q).length by rw [stF_len, stF_len], stsF_succ, List.length_append]; rfl) (Nat.le_refl _)) (by first | omega | (show _ < _; omega) | (simp only []; omega)))
    · have aH1 := aH1b
      try simp only [decide_eq_true_eq, decide_eq_false_iff_not, Bool.not_eq_true', Bool.not_eq_false', Int.not_lt, Int.not_le] at aH1
      obtain rfl : q = p.length := by omega
      refine VC.exit ?_
      show VC _ _ _ _ _
      refine VC.seq ?_
      refine VC.region ?_
      refine VO.val rfl rfl (OpV.move (.inl rfl) rfl) ?_
      refine VO.val rfl rfl (OpV.move (.inr rfl) rfl) ?_
      refine VO.val rfl rfl (OpV.move (.inr rfl) rfl) ?_
      refine VO.nil ?_
      show VC _ _ _ _ _
      refine VC.le _ (Le.rowsM (t := 4) (i := 1) hB hnew rfl rfl rfl) ?_
      refine VC.ret ?_
      exact Exists.intro _ (And.intro (RetV.two Tryd.results35 (ResV.tmp rfl) (ResV.tmp rfl)) (rfl))
set_option maxRecDepth 100000 in
theorem rf_setsFault {s : List ByteArray} {p : List (List ByteArray)} (hs : SmS s) (hp : SmSS p) :
    SpecN Tryd.prog 30 [avStrs s, avM p] (fun y => y = avI (setsF s p)) := by
  refine SpecN.of_VCN Tryd.func30 rfl Tryd.ntmps30 (Nat.le_of_ble_eq_true rfl) fun w A hB => ?_
  have hnew : True := trivial
  refine VC.seq ?_
  refine VC.region ?_
  refine VO.val rfl rfl (OpV.move (.inr rfl) rfl) ?_
  refine VO.nil ?_
  show VC _ _ _ _ _
  refine VC.seq ?_
  refine VC.seq ?_
  refine VC.region ?_
  refine VO.val rfl rfl (OpV.move (.inl rfl) rfl) ?_
  refine VO.op rfl (OpE.call rfl hB rfl Tryd.call14 rfl (SpecN.spec (rf_SetupFault hs)) ?_)
  rintro _ rfl
  refine VO.val rfl rfl (OpV.move (.inr rfl) rfl) ?_
  refine VO.nil ?_
  show VC _ _ _ _ _
  refine VC.seq ?_
  refine VC.region ?_
  refine VO.val rfl rfl (OpV.move (.inl rfl) rfl) ?_
  refine VO.val rfl rfl (OpV.neq rfl rfl rfl) ?_
  refine VO.nil ?_
  show VC _ _ _ _ _
  refine VC.cond rfl (fun h0b => ?_) (fun h0b => ?_)
  · have h0 := h0b
    try simp only [decide_eq_true_eq, decide_eq_false_iff_not, Bool.not_eq_true', Bool.not_eq_false', Int.not_lt, Int.not_le] at h0
    refine VC.seq ?_
    refine VC.region ?_
    refine VO.val rfl rfl (OpV.move (.inl rfl) rfl) ?_
    refine VO.val rfl rfl (OpV.move (.inr rfl) rfl) ?_
    refine VO.nil ?_
    show VC _ _ _ _ _
    refine VC.ret ?_
    exact Exists.intro _ (And.intro (RetN.one Tryd.results30 (ResN.v rfl)) (by first | rw [setsF, if_pos h0] | rw [setsF, if_neg (by omega)]))
  · have h0 := h0b
    try simp only [decide_eq_true_eq, decide_eq_false_iff_not, Bool.not_eq_true', Bool.not_eq_false', Int.not_lt, Int.not_le] at h0
    refine VC.skip ?_
    show VC _ _ _ _ _
    refine VC.seq ?_
    refine VC.region ?_
    refine VO.val rfl rfl (OpV.move (.inl rfl) rfl) ?_
    first
      | refine VO.val rfl rfl (OpV.len_im rfl Tryd.underlying27 rfl) ?_
      | refine VO.val rfl rfl (OpV.len_v rfl Tryd.underlying27 rfl) ?_
    refine VO.val rfl rfl (OpV.move (.inl rfl) rfl) ?_
    refine VO.op rfl (OpE.call rfl hB rfl Tryd.call16 rfl (SpecN.spec (rf_PartsFault hp)) ?_)
    rintro _ rfl
    refine VO.val rfl rfl (OpV.move (.inr rfl) rfl) ?_
    refine VO.nil ?_
    show VC _ _ _ _ _
    refine VC.ret ?_
    exact Exists.intro _ (And.intro (RetN.one Tryd.results30 (ResN.v rfl)) (by first | rw [setsF, if_pos h0] | rw [setsF, if_neg (by omega)]))
set_option maxRecDepth 100000 in
theorem slices_EqualFunc_LL {xs ys : List (List ByteArray)} {F : FuncId} {cs : List AV} {e : List ByteArray → List ByteArray → Bool} (hl : xs.length ≤ 1000000000) (hl' : ys.length ≤ 1000000000) (hcall : ∀ us w, (callFunc F us).run Tryd.prog w = .ok (.enter F us) w) (hF : ∀ i, i < xs.length → Spec Tryd.prog F ([avStrs (xs.getD i default), avStrs (ys.getD i default)] ++ cs) (fun y => y = avB (e (xs.getD i default) (ys.getD i default)))) :
    SpecN Tryd.prog 41 [avM xs, avM ys, .fn F cs] (fun y => y = avB (eqLs e xs ys)) := by
  refine SpecN.of_VCN Tryd.func41 rfl Tryd.ntmps41 (Nat.le_of_ble_eq_true rfl) fun w A hB => ?_
  have hnew : True := trivial
  refine VC.seq ?_
  refine VC.region ?_
  refine VO.val rfl rfl (OpV.move (.inr rfl) rfl) ?_
  refine VO.nil ?_
  show VC _ _ _ _ _
  refine VC.seq ?_
  refine VC.seq ?_
  refine VC.region ?_
  refine VO.val rfl rfl (OpV.move (.inl rfl) rfl) ?_
  first
    | refine VO.val rfl rfl (OpV.len_im rfl Tryd.underlying30 rfl) ?_
    | refine VO.val rfl rfl (OpV.len_v rfl Tryd.underlying30 rfl) ?_
  refine VO.val rfl rfl (OpV.move (.inl rfl) rfl) ?_
  first
    | refine VO.val rfl rfl (OpV.len_im rfl Tryd.underlying30 rfl) ?_
    | refine VO.val rfl rfl (OpV.len_v rfl Tryd.underlying30 rfl) ?_
  refine VO.val rfl rfl (OpV.neq rfl rfl rfl) ?_
  refine VO.nil ?_
  show VC _ _ _ _ _
  refine VC.cond rfl (fun aH1b => ?_) (fun aH1b => ?_)
  · have aH1 := aH1b
    try simp only [decide_eq_true_eq, decide_eq_false_iff_not, Bool.not_eq_true', Bool.not_eq_false', Int.not_lt, Int.not_le] at aH1
    refine VC.seq ?_
    refine VC.region ?_
    refine VO.val rfl rfl (OpV.move (.inr rfl) rfl) ?_
    refine VO.nil ?_
    show VC _ _ _ _ _
    refine VC.ret ?_
    exact Exists.intro _ (And.intro (RetN.one Tryd.results41 (ResN.v rfl)) (by first | rw [eqLs_len (by omega)] | rw [eqLs_at (d := default) (q := q) (by omega) (not_true_false h2b)] | rw [eqLs_all (d := default) (by omega) (fun j hj => hn j (by omega))]))
  · have aH1 := aH1b
    try simp only [decide_eq_true_eq, decide_eq_false_iff_not, Bool.not_eq_true', Bool.not_eq_false', Int.not_lt, Int.not_le] at aH1
    refine VC.skip ?_
    show VC _ _ _ _ _
    refine VC.seq ?_
    refine VC.seq ?_
    refine VC.region ?_
    refine VO.val rfl rfl (OpV.move (.inl rfl) rfl) ?_
    first
      | refine VO.val rfl rfl (OpV.len_im rfl Tryd.underlying30 rfl) ?_
      | refine VO.val rfl rfl (OpV.len_v rfl Tryd.underlying30 rfl) ?_
    refine VO.val rfl rfl (OpV.move (.inl rfl) rfl) ?_
    refine VO.nil ?_
    show VC _ _ _ _ _
    refine VC.block ?_
    refine VC.loopK [(1, _), (2, _), (15, _), (16, _)] ⟨rfl, rfl, rfl, rfl, trivial⟩ ({q : Nat // q ≤ xs.length ∧ ∀ j, j < q → e (xs.getD j default) (ys.getD j default) = true}) (fun (i : {q : Nat // q ≤ xs.length ∧ ∀ j, j < q → e (xs.getD j default) (ys.getD j default) = true}) => match i with | ⟨q, hq, hn⟩ => [(17, avI (q : Int))]) (fun (i : {q : Nat // q ≤ xs.length ∧ ∀ j, j < q → e (xs.getD j default) (ys.getD j default) = true}) => match i with | ⟨q, hq, hn⟩ => []) (fun (i : {q : Nat // q ≤ xs.length ∧ ∀ j, j < q → e (xs.getD j default) (ys.getD j default) = true}) => match i with | ⟨q, hq, hn⟩ => 0) (fun (i : {q : Nat // q ≤ xs.length ∧ ∀ j, j < q → e (xs.getD j default) (ys.getD j default) = true}) => match i with | ⟨q, hq, hn⟩ => xs.length - q) ⟨0, Nat.zero_le _, fun j hj => absurd hj (Nat.not_lt_zero j)⟩ (Le.mk hB [] ⟨rfl, rfl, rfl, rfl, rfl, trivial⟩ rfl rfl (Nat.le_refl _)) ?_
    rintro ⟨q, hq, hn⟩
    show VC _ _ _ _ ⟨[(17, avI (q : Int))] ++ [(1, _), (2, _), (15, _), (16, _)], [], 0⟩
    refine VC.seq ?_
    refine VC.region ?_
    refine VO.val rfl rfl (OpV.lss rfl rfl rfl) ?_
    refine VO.nil ?_
    show VC _ _ _ _ _
    refine VC.seq ?_
    refine VC.cond rfl (fun aH2b => ?_) (fun aH2b => ?_)
    · have aH2 := aH2b
      try simp only [decide_eq_true_eq, decide_eq_false_iff_not, Bool.not_eq_true', Bool.not_eq_false', Int.not_lt, Int.not_le] at aH2
      refine VC.skip ?_
      show VC _ _ _ _ _
      refine VC.seq ?_
      refine VC.block ?_
      refine VC.seq ?_
      refine VC.region ?_
      refine VO.val rfl rfl (OpV.move (.inl rfl) rfl) ?_
      first
        | refine VO.val rfl rfl (OpV.indexAddr_1 rfl Tryd.underlying30 Tryd.sizeOf27 rfl rfl rfl (by omega)) ?_
        | refine VO.val rfl rfl (OpV.indexAddr_1 rfl Tryd.underlying30 Tryd.sizeOf27 rfl rfl (Int.toNat_of_nonneg (by omega)).symm (by omega)) ?_
        | refine VO.val rfl rfl (OpV.indexAddr_o rfl Tryd.underlying30 Tryd.sizeOf27 rfl rfl rfl (by omega)) ?_
        | refine VO.val rfl rfl (OpV.indexAddr_o rfl Tryd.underlying30 Tryd.sizeOf27 rfl rfl (Int.toNat_of_nonneg (by omega)).symm (by omega)) ?_
        | refine VO.val rfl rfl (OpV.indexAddr_q rfl Tryd.underlying30 Tryd.sizeOf27 rfl rfl rfl (by omega)) ?_
        | refine VO.val rfl rfl (OpV.indexAddr_q rfl Tryd.underlying30 Tryd.sizeOf27 rfl rfl (Int.toNat_of_nonneg (by omega)).symm (by omega)) ?_
        | refine VO.val rfl rfl (OpV.indexAddr_im rfl Tryd.underlying30 Tryd.sizeOf27 rfl rfl (by omega) (by omega)) ?_
      refine VO.val rfl rfl (OpV.load_at rfl hB OutW.no Tryd.isAgg27 rfl rfl) ?_
      refine VO.val rfl rfl (OpV.move (.inr rfl) rfl) ?_
      refine VO.val rfl rfl (OpV.move (.inr rfl) rfl) ?_
      refine VO.nil ?_
      show VC _ _ _ _ _
      refine VC.seq ?_
      refine VC.region ?_
      refine VO.val rfl rfl (OpV.move (.inl rfl) rfl) ?_
      refine VO.val rfl rfl (OpV.move (.inl rfl) rfl) ?_
      first
        | refine VO.val rfl rfl (OpV.indexAddr_1 rfl Tryd.underlying30 Tryd.sizeOf27 rfl rfl rfl (by omega)) ?_
        | refine VO.val rfl rfl (OpV.indexAddr_1 rfl Tryd.underlying30 Tryd.sizeOf27 rfl rfl (Int.toNat_of_nonneg (by omega)).symm (by omega)) ?_
        | refine VO.val rfl rfl (OpV.indexAddr_o rfl Tryd.underlying30 Tryd.sizeOf27 rfl rfl rfl (by omega)) ?_
        | refine VO.val rfl rfl (OpV.indexAddr_o rfl Tryd.underlying30 Tryd.sizeOf27 rfl rfl (Int.toNat_of_nonneg (by omega)).symm (by omega)) ?_
        | refine VO.val rfl rfl (OpV.indexAddr_q rfl Tryd.underlying30 Tryd.sizeOf27 rfl rfl rfl (by omega)) ?_
        | refine VO.val rfl rfl (OpV.indexAddr_q rfl Tryd.underlying30 Tryd.sizeOf27 rfl rfl (Int.toNat_of_nonneg (by omega)).symm (by omega)) ?_
        | refine VO.val rfl rfl (OpV.indexAddr_im rfl Tryd.underlying30 Tryd.sizeOf27 rfl rfl (by omega) (by omega)) ?_
      refine VO.val rfl rfl (OpV.load_at rfl hB OutW.no Tryd.isAgg27 rfl rfl) ?_
      refine VO.val rfl rfl (OpV.move (.inr rfl) rfl) ?_
      refine VO.nil ?_
      show VC _ _ _ _ _
      refine VC.seq ?_
      refine VC.region ?_
      refine VO.val rfl rfl (OpV.move (.inl rfl) rfl) ?_
      refine VO.val rfl rfl (OpV.move (.inl rfl) rfl) ?_
      refine VO.val rfl rfl (OpV.move (.inl rfl) rfl) ?_
      refine VO.op rfl (OpE.callF rfl hB rfl hcall rfl rfl (hF q (by omega)) ?_)
      rintro _ rfl
      refine VO.val rfl rfl (OpV.not rfl rfl) ?_
      refine VO.nil ?_
      show VC _ _ _ _ _
      refine VC.cond rfl (fun h2b => ?_) (fun h2b => ?_)
      · have h2 := h2b
        try simp only [decide_eq_true_eq, decide_eq_false_iff_not, Bool.not_eq_true', Bool.not_eq_false', Int.not_lt, Int.not_le] at h2
        refine VC.seq ?_
        refine VC.region ?_
        refine VO.val rfl rfl (OpV.move (.inr rfl) rfl) ?_
        refine VO.nil ?_
        show VC _ _ _ _ _
        refine VC.ret ?_
        exact Exists.intro _ (And.intro (RetN.one Tryd.results41 (ResN.v rfl)) (by first | rw [eqLs_len (by omega)] | rw [eqLs_at (d := default) (q := q) (by omega) (not_true_false h2b)] | rw [eqLs_all (d := default) (by omega) (fun j hj => hn j (by omega))]))
      · have h2 := h2b
        try simp only [decide_eq_true_eq, decide_eq_false_iff_not, Bool.not_eq_true', Bool.not_eq_false', Int.not_lt, Int.not_le] at h2
        refine VC.skip ?_
        show VC _ _ _ _ _
        refine VC.region ?_
        refine VO.val rfl rfl (OpV.add rfl rfl rfl (by unfold fits; omega)) ?_
        refine VO.val rfl rfl (OpV.move (.inl rfl) rfl) ?_
        refine VO.nil ?_
        exact Exists.intro (⟨q + 1, by omega, lt_succ_cases hn (not_false_true h2b)⟩) (And.intro (Le.mk hB [] ⟨rfl, rfl, rfl, rfl, rfl, trivial⟩ rfl rfl (Nat.le_refl _)) (by first | omega | (show _ < _; omega) | (simp only []; omega)))
    · have aH2 := aH2b
      try simp only [decide_eq_true_eq, decide_eq_false_iff_not, Bool.not_eq_true', Bool.not_eq_false', Int.not_lt, Int.not_le] at aH2
      refine VC.exit ?_
      show VC _ _ _ _ _
      refine VC.seq ?_
      refine VC.region ?_
      refine VO.val rfl rfl (OpV.move (.inr rfl) rfl) ?_
      refine VO.nil ?_
      show VC _ _ _ _ _
      refine VC.ret ?_
      exact Exists.intro _ (And.intro (RetN.one Tryd.results41 (ResN.v rfl)) (by first | rw [eqLs_len (by omega)] | rw [eqLs_at (d := default) (q := q) (by omega) (not_true_false h2b)] | rw [eqLs_all (d := default) (by omega) (fun j hj => hn j (by omega))]))
end Go.Proofs.YtpajnlcikmhpdaaDoor
