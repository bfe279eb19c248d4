/- Walks: the generators of setups and parts. -/
import Derived.Test.YtpajnlcikmhpdaaDoorRepS
import Derived.Test.YtpajnlcikmhpdaaDoorSlicesS
import Derived.Test.YtpajnlcikmhpdaaDoorStreamS
import Derived.Test.YtpajnlcikmhpdaaDoorSetS
namespace Go.Proofs.YtpajnlcikmhpdaaDoor
open Go.RowKit
set_option linter.unusedVariables false
set_option linter.unusedSimpArgs false

/-- A short list of short strings. -/
def ShS (m : Nat) (l : List ByteArray) : Prop := l.length ≤ m ∧ ∀ x ∈ l, x.size ≤ 1000
theorem ShS.sms {m : Nat} {l : List ByteArray} (h : ShS m l) (hm : m ≤ 1000) : SmS l := ⟨by have := h.1; omega, fun i => by
  by_cases hi : i < l.length
  · have := h.2 _ (List.getElem_mem hi)
    simp only [List.getD_eq_getElem?_getD, List.getElem?_eq_getElem hi, Option.getD_some]; omega
  · simp [List.getD_eq_getElem?_getD, List.getElem?_eq_none (by omega : l.length ≤ i)]⟩
theorem ShS.snoc {m : Nat} {l : List ByteArray} (h : ShS m l) {x : ByteArray} (hx : x.size ≤ 1000) : ShS (m + 1) (l ++ [x]) := ⟨by have := h.1; simp; omega, fun y hy => by
  rcases List.mem_append.1 hy with hy | hy
  · exact h.2 y hy
  · simp at hy; subst hy; exact hx⟩
theorem ShS.mono {m n : Nat} {l : List ByteArray} (h : ShS m l) (hn : m ≤ n) : ShS n l := ⟨Nat.le_trans h.1 hn, h.2⟩
def ShSS (p : List (List ByteArray)) : Prop := p.length ≤ 20 ∧ ∀ l ∈ p, ShS 20 l
theorem ShSS.smss {p : List (List ByteArray)} (h : ShSS p) : SmSS p := ⟨by have := h.1; omega, fun i => by
  by_cases hi : i < p.length
  · have := (h.2 _ (List.getElem_mem hi)).sms (by omega)
    simpa only [List.getD_eq_getElem?_getD, List.getElem?_eq_getElem hi, Option.getD_some] using this
  · simp only [List.getD_eq_getElem?_getD, List.getElem?_eq_none (by omega : p.length ≤ i), Option.getD_none]
    exact ⟨by decide, fun i => by show (([] : List ByteArray).getD i ByteArray.empty).size ≤ _; simp⟩⟩
theorem size_sixF (q : Nat) : (([⟨#[97]⟩, ⟨#[98]⟩, ⟨#[99]⟩, ⟨#[100]⟩, ⟨#[101]⟩, ⟨#[102]⟩] : List ByteArray).getD q ByteArray.empty).size ≤ 1000 := by
  match q with
  | 0 => decide
  | 1 => decide
  | 2 => decide
  | 3 => decide
  | 4 => decide
  | 5 => decide
  | q + 6 => simp
theorem getD_shs {m : Nat} {p : List (List ByteArray)} (h : ∀ l ∈ p, ShS m l) (i : Nat) : ShS m (p.getD i default) := by
  by_cases hi : i < p.length
  · have := h _ (List.getElem_mem hi)
    simpa only [List.getD_eq_getElem?_getD, List.getElem?_eq_getElem hi, Option.getD_some] using this
  · simp only [List.getD_eq_getElem?_getD, List.getElem?_eq_none (by omega : p.length ≤ i), Option.getD_none]
    exact ⟨Nat.zero_le _, fun x h => by cases h⟩
def sixE : List ByteArray := [⟨#[]⟩, ⟨#[97]⟩, ⟨#[98]⟩, ⟨#[99]⟩, ⟨#[100]⟩, ⟨#[101]⟩]
set_option maxRecDepth 100000 in
theorem aSetup_T {p : Nat} {L : List Int} {n : Nat} (hn : n ≤ 20) :
    SpecT Tryd.prog (TT p L) (fun b => b = p) 7 [sp p, avI (n : Int)] 30 (fun y => ∃ l : List ByteArray, ShS 200 l ∧ y = avStrs l) := by
  refine SpecT.of_VC Tryd.func7 rfl Tryd.ntmps7 (Nat.le_of_ble_eq_true rfl) (low := (fun b => b ≤ p)) (fun w A k h => h.ok) fun w A k hk hB => ?_
  have hnew : True := trivial
  refine VC.seq ?_
  refine VC.region ?_
  refine VO.val rfl rfl (OpV.move (.inr rfl) rfl) ?_
  refine VO.nil ?_
  show VC _ _ _ _ _
  refine VC.seq ?_
  refine VC.region ?_
  refine VO.val rfl rfl (OpV.move (.inr rfl) rfl) ?_
  refine VO.nil ?_
  show VC _ _ _ _ _
  refine VC.seq ?_
  refine VC.seq ?_
  refine VC.region ?_
  refine VO.val rfl rfl (OpV.move (.inl rfl) rfl) ?_
  refine VO.val rfl rfl (OpV.move (.inl rfl) rfl) ?_
  refine VO.nil ?_
  show VC _ _ _ _ _
  refine VC.block ?_
  refine VC.le _ (Le.nilRow 1 9) ?_
  refine VC.loopK [(0, _), (7, _)] ⟨rfl, rfl, trivial⟩ ({t : Value × List ByteArray × Nat // t.2.2 ≤ n ∧ ShS t.2.2 t.2.1}) (fun (i : {t : Value × List ByteArray × Nat // t.2.2 ≤ n ∧ ShS t.2.2 t.2.1}) => match i with | ⟨⟨u, l, q⟩, hq, hl⟩ => [(5, .v u), (8, avI (q : Int))]) (fun (i : {t : Value × List ByteArray × Nat // t.2.2 ≤ n ∧ ShS t.2.2 t.2.1}) => match i with | ⟨⟨u, l, q⟩, hq, hl⟩ => [.row u l.length 1 (strsL l) 9]) (fun (i : {t : Value × List ByteArray × Nat // t.2.2 ≤ n ∧ ShS t.2.2 t.2.1}) => match i with | ⟨⟨u, l, q⟩, hq, hl⟩ => k + q) (fun (i : {t : Value × List ByteArray × Nat // t.2.2 ≤ n ∧ ShS t.2.2 t.2.1}) => match i with | ⟨⟨u, l, q⟩, hq, hl⟩ => n - q) ⟨(.slice none 0 0, [], 0), Nat.zero_le _, by decide, fun x h => by simp at h⟩ (Le.mk hB [0] ⟨rfl, rfl, rfl, rfl, trivial⟩ rfl rfl (show k ≤ k + 0 by omega)) ?_
  rintro ⟨⟨u, l, q⟩, hq, hl⟩
  show VC _ _ _ _ ⟨[(5, .v u), (8, avI (q : Int))] ++ [(0, _), (7, _)], [.row u l.length 1 (strsL l) 9], k + q⟩
  simp only at hq hl
  have hll := hl.1
  refine VC.seq ?_
  refine VC.region ?_
  refine VO.val rfl rfl (OpV.lss rfl rfl rfl) ?_
  refine VO.nil ?_
  show VC _ _ _ _ _
  refine VC.seq ?_
  refine VC.cond rfl (fun aH1b => ?_) (fun aH1b => ?_)
  · have aH1 := aH1b
    try simp only [decide_eq_true_eq, decide_eq_false_iff_not, Bool.not_eq_true', Bool.not_eq_false', Int.not_lt, Int.not_le] at aH1
    refine VC.skip ?_
    show VC _ _ _ _ _
    refine VC.seq ?_
    refine VC.block ?_
    refine VC.seq ?_
    refine VC.region ?_
    refine VO.val rfl rfl (OpV.move (.inl rfl) rfl) ?_
    refine VO.op rfl (OpE.buildSlice (zc := #[.string ⟨#[]⟩, .string ⟨#[]⟩, .string ⟨#[]⟩, .string ⟨#[]⟩, .string ⟨#[]⟩, .string ⟨#[]⟩]) rfl hB rfl Tryd.underlying27 Tryd.sizeOf9 Tryd.zeroValue9 (by decide) (by decide) (by kernel_rfl) rfl rfl ?_)
    refine VO.op rfl (OpE.callT' (k + q) rfl rfl hB rfl Tryd.call42 rfl ((some_T 1000 (by rfl) (by decide) (by decide) (by repeat (first | exact AllS.nil | refine AllS.cons (by first | decide | omega) ?_)))) (by omega) ?_)
    rintro _ ⟨r12, hr12, rfl⟩
    refine VO.val rfl rfl (OpV.move (.inr rfl) rfl) ?_
    refine VO.nil ?_
    show VC _ _ _ _ _
    refine VC.seq ?_
    refine VC.seq ?_
    refine VC.region ?_
    refine VO.val rfl rfl (OpV.move (.inl rfl) rfl) ?_
    refine VO.val rfl rfl (OpV.move (.inl rfl) rfl) ?_
    refine VO.op rfl (OpE.callL rfl hB rfl Tryd.call43 (slices_Contains_str (by omega)) (ArgsP.cons (ArgP.rowS (i := 0) rfl rfl rfl) (ArgsP.cons (ArgP.ev rfl) (ArgsP.nil))) ?_)
    rintro _ rfl
    refine VO.nil ?_
    show VC _ _ _ _ _
    refine VC.cond rfl (fun aH2b => ?_) (fun aH2b => ?_)
    · have aH2 := aH2b
      try simp only [decide_eq_true_eq, decide_eq_false_iff_not, Bool.not_eq_true', Bool.not_eq_false', Int.not_lt, Int.not_le] at aH2
      refine VC.region ?_
      refine VO.val rfl rfl (OpV.move (.inr rfl) rfl) ?_
      refine VO.nil ?_
      show VC _ _ _ _ _
      refine VC.region ?_
      refine VO.val rfl rfl (OpV.move (.inl rfl) rfl) ?_
      refine VO.val rfl rfl (OpV.move (.inl rfl) rfl) ?_
      refine VO.op rfl (OpE.buildSlice (zc := #[.string ⟨#[]⟩]) rfl hB rfl Tryd.underlying27 Tryd.sizeOf9 Tryd.zeroValue9 (by decide) (by decide) (by kernel_rfl) rfl rfl ?_)
      refine VO.op rfl (OpE.append1 (i := 0) rfl hB rfl Tryd.underlying27 (infoOf Tryd.t9 1 (by kernel_rfl) rfl rfl) rfl (by decide) (by decide) rfl rfl rfl rfl (strsL_snoc _ _) (by omega) (fun _ _ => trivial) ?_)
      intro u2
      refine VO.val rfl rfl (OpV.move (.inr rfl) rfl) ?_
      refine VO.nil ?_
      show VC _ _ _ _ _
      refine VC.region ?_
      refine VO.val rfl rfl (OpV.add rfl rfl rfl (by unfold fits; omega)) ?_
      refine VO.val rfl rfl (OpV.move (.inl rfl) rfl) ?_
      refine VO.nil ?_
      first
        | exact Exists.intro (⟨(u2, l ++ [r12], q + 1), by show q + 1 ≤ n; omega, hl.snoc hr12⟩) (And.intro (Le.mk hB [0] ⟨rfl, rfl, rfl, rfl, trivial⟩ rfl (by dsimp only; rw [List.length_append]; rfl) (show k + q + 1 ≤ k + (q + 1) by omega)) (by first | omega | (show _ < _; omega) | (simp only []; omega)))
        | exact Exists.intro (⟨(u2, l ++ [⟨#[]⟩], q + 1), by show q + 1 ≤ n; omega, hl.snoc (by decide)⟩) (And.intro (Le.mk hB [0] ⟨rfl, rfl, rfl, rfl, trivial⟩ rfl (by dsimp only; rw [List.length_append]; rfl) (show k + q + 1 ≤ k + (q + 1) by omega)) (by first | omega | (show _ < _; omega) | (simp only []; omega)))
    · have aH2 := aH2b
      try simp only [decide_eq_true_eq, decide_eq_false_iff_not, Bool.not_eq_true', Bool.not_eq_false', Int.not_lt, Int.not_le] at aH2
      refine VC.skip ?_
      show VC _ _ _ _ _
      refine VC.region ?_
      refine VO.val rfl rfl (OpV.move (.inl rfl) rfl) ?_
      refine VO.val rfl rfl (OpV.move (.inl rfl) rfl) ?_
      refine VO.op rfl (OpE.buildSlice (zc := #[.string ⟨#[]⟩]) rfl hB rfl Tryd.underlying27 Tryd.sizeOf9 Tryd.zeroValue9 (by decide) (by decide) (by kernel_rfl) rfl rfl ?_)
      refine VO.op rfl (OpE.append1 (i := 0) rfl hB rfl Tryd.underlying27 (infoOf Tryd.t9 1 (by kernel_rfl) rfl rfl) rfl (by decide) (by decide) rfl rfl rfl rfl (strsL_snoc _ _) (by omega) (fun _ _ => trivial) ?_)
      intro u2
      refine VO.val rfl rfl (OpV.move (.inr rfl) rfl) ?_
      refine VO.nil ?_
      show VC _ _ _ _ _
      refine VC.region ?_
      refine VO.val rfl rfl (OpV.add rfl rfl rfl (by unfold fits; omega)) ?_
      refine VO.val rfl rfl (OpV.move (.inl rfl) rfl) ?_
      refine VO.nil ?_
      first
        | exact Exists.intro (⟨(u2, l ++ [r12], q + 1), by show q + 1 ≤ n; omega, hl.snoc hr12⟩) (And.intro (Le.mk hB [0] ⟨rfl, rfl, rfl, rfl, trivial⟩ rfl (by dsimp only; rw [List.length_append]; rfl) (show k + q + 1 ≤ k + (q + 1) by omega)) (by first | omega | (show _ < _; omega) | (simp only []; omega)))
        | exact Exists.intro (⟨(u2, l ++ [⟨#[]⟩], q + 1), by show q + 1 ≤ n; omega, hl.snoc (by decide)⟩) (And.intro (Le.mk hB [0] ⟨rfl, rfl, rfl, rfl, trivial⟩ rfl (by dsimp only; rw [List.length_append]; rfl) (show k + q + 1 ≤ k + (q + 1) by omega)) (by first | omega | (show _ < _; omega) | (simp only []; omega)))
  · have aH1 := aH1b
    try simp only [decide_eq_true_eq, decide_eq_false_iff_not, Bool.not_eq_true', Bool.not_eq_false', Int.not_lt, Int.not_le] at aH1
    refine VC.exit ?_
    show VC _ _ _ _ _
    refine VC.seq ?_
    refine VC.seq ?_
    refine VC.region ?_
    refine VO.val rfl rfl (OpV.move (.inl rfl) rfl) ?_
    refine VO.op rfl (OpE.callT' (k + q) rfl rfl hB rfl Tryd.call26 rfl ((flip_T (by omega))) (by omega) ?_)
    rintro _ ⟨r22, rfl⟩
    refine VO.nil ?_
    show VC _ _ _ _ _
    refine VC.cond rfl (fun aH3b => ?_) (fun aH3b => ?_)
    · have aH3 := aH3b
      try simp only [decide_eq_true_eq, decide_eq_false_iff_not, Bool.not_eq_true', Bool.not_eq_false', Int.not_lt, Int.not_le] at aH3
      refine VC.seq ?_
      refine VC.region ?_
      refine VO.val rfl rfl (OpV.move (.inl rfl) rfl) ?_
      refine VO.op rfl (OpE.callT' (k + q + 1) rfl rfl hB rfl Tryd.call10 rfl ((next_T (by omega))) (by omega) ?_)
      rintro _ ⟨r24, hr24, rfl⟩
      refine VO.nil ?_
      show VC _ _ _ _ _
      refine VC.block ?_
      refine VC.seq ?_
      refine VC.region ?_
      refine VO.val rfl rfl (OpV.eql rfl rfl rfl) ?_
      refine VO.val rfl rfl (OpV.move (.inr rfl) rfl) ?_
      refine VO.nil ?_
      show VC _ _ _ _ _
      refine VC.cond rfl (fun aH4b => ?_) (fun aH4b => ?_)
      · have aH4 := aH4b
        try simp only [decide_eq_true_eq, decide_eq_false_iff_not, Bool.not_eq_true', Bool.not_eq_false', Int.not_lt, Int.not_le] at aH4
        refine VC.seq ?_
        refine VC.region ?_
        refine VO.val rfl rfl (OpV.move (.inr rfl) rfl) ?_
        refine VO.nil ?_
        show VC _ _ _ _ _
        refine VC.le _ (Le.recast (t := 4) (y := avStrs []) rfl (fun w Z u h => by rw [h.eq_v]; exact .nil _ _)) ?_
        refine VC.ret ?_
        exact Exists.intro _ (And.intro (RetV.one Tryd.results7 (ResV.tmp rfl)) (And.intro (⟨[], ⟨by decide, fun x h => by simp at h⟩, rfl⟩) ((show k + q + 1 + 1 ≤ k + 30 by omega))))
      · have aH4 := aH4b
        try simp only [decide_eq_true_eq, decide_eq_false_iff_not, Bool.not_eq_true', Bool.not_eq_false', Int.not_lt, Int.not_le] at aH4
        refine VC.seq ?_
        refine VC.region ?_
        refine VO.val rfl rfl (OpV.eql rfl rfl rfl) ?_
        refine VO.val rfl rfl (OpV.move (.inr rfl) rfl) ?_
        refine VO.nil ?_
        show VC _ _ _ _ _
        refine VC.cond rfl (fun aH5b => ?_) (fun aH5b => ?_)
        · have aH5 := aH5b
          try simp only [decide_eq_true_eq, decide_eq_false_iff_not, Bool.not_eq_true', Bool.not_eq_false', Int.not_lt, Int.not_le] at aH5
          refine VC.seq ?_
          refine VC.region ?_
          refine VO.val rfl rfl (OpV.move (.inl rfl) rfl) ?_
          refine VO.val rfl rfl (OpV.move (.inl rfl) rfl) ?_
          refine VO.op rfl (OpE.buildSlice (zc := #[.string ⟨#[]⟩, .string ⟨#[]⟩, .string ⟨#[]⟩]) rfl hB rfl Tryd.underlying27 Tryd.sizeOf9 Tryd.zeroValue9 (by decide) (by decide) (by kernel_rfl) rfl rfl ?_)
          refine VO.op rfl (OpE.callT' (k + q + 1 + 1) rfl rfl hB rfl Tryd.call42 rfl ((some_T 1000 (by rfl) (by decide) (by decide) (by repeat (first | exact AllS.nil | refine AllS.cons (by first | decide | omega) ?_)))) (by omega) ?_)
          rintro _ ⟨r37, hr37, rfl⟩
          refine VO.op rfl (OpE.buildSlice (zc := #[.string ⟨#[]⟩]) rfl hB rfl Tryd.underlying27 Tryd.sizeOf9 Tryd.zeroValue9 (by decide) (by decide) (by kernel_rfl) rfl rfl ?_)
          refine VO.op rfl (OpE.append1 (i := 0) rfl hB rfl Tryd.underlying27 (infoOf Tryd.t9 1 (by kernel_rfl) rfl rfl) rfl (by decide) (by decide) rfl rfl rfl rfl (strsL_snoc _ _) (by omega) (fun _ _ => trivial) ?_)
          intro u3
          refine VO.val rfl rfl (OpV.move (.inr rfl) rfl) ?_
          refine VO.nil ?_
          show VC _ _ _ _ _
          refine VC.le _ (Le.rowS (t := 4) (i := 0) hB hnew rfl rfl (by simp)) ?_
          refine VC.ret ?_
          exact Exists.intro _ (And.intro (RetV.one Tryd.results7 (ResV.tmp rfl)) (And.intro (⟨l ++ [r37], (hl.snoc hr37).mono (by omega), rfl⟩) ((show k + q + 1 + 1 + 1 ≤ k + 30 by omega))))
        · have aH5 := aH5b
          try simp only [decide_eq_true_eq, decide_eq_false_iff_not, Bool.not_eq_true', Bool.not_eq_false', Int.not_lt, Int.not_le] at aH5
          refine VC.seq ?_
          refine VC.region ?_
          refine VO.op rfl (OpE.buildSlice (zc := #[.string ⟨#[]⟩]) rfl hB rfl Tryd.underlying27 Tryd.sizeOf9 Tryd.zeroValue9 (by decide) (by decide) (by kernel_rfl) rfl rfl ?_)
          refine VO.le _ (Le.recast (t := 25) (y := avStrs [⟨#[]⟩]) rfl (fun w Z u h => Rep.strs (xs := [⟨#[]⟩]) rfl h)) ?_
          refine VO.val rfl rfl (OpV.move (.inl rfl) rfl) ?_
          refine VO.op rfl (OpE.callT' (k + q + 1 + 1) rfl rfl hB rfl Tryd.call6 rfl ((range_T (by omega) (by omega) (by omega))) (by omega) ?_)
          rintro _ ⟨r27, hr27, rfl⟩
          obtain ⟨m, rfl⟩ : ∃ m : Nat, r27 = m := ⟨r27.toNat, by omega⟩
          refine VO.val rfl rfl (OpV.add rfl rfl rfl (by unfold fits; omega)) ?_
          refine VO.op rfl (OpE.call rfl hB rfl Tryd.call44 rfl (slices_Repeat_str (x := ⟨#[]⟩) (n := 100 + m) (by omega)) ?_)
          rintro _ rfl
          refine VO.val rfl rfl (OpV.move (.inr rfl) rfl) ?_
          refine VO.nil ?_
          show VC _ _ _ _ _
          refine VC.ret ?_
          exact Exists.intro _ (And.intro (RetV.one Tryd.results7 (ResV.tmp rfl)) (And.intro (⟨List.replicate (100 + m) ⟨#[]⟩, ⟨by simp; omega, fun x h => by rw [List.eq_of_mem_replicate h]; decide⟩, rfl⟩) ((show k + q + 1 + 1 + 1 ≤ k + 30 by omega))))
    · have aH3 := aH3b
      try simp only [decide_eq_true_eq, decide_eq_false_iff_not, Bool.not_eq_true', Bool.not_eq_false', Int.not_lt, Int.not_le] at aH3
      refine VC.skip ?_
      show VC _ _ _ _ _
      refine VC.seq ?_
      refine VC.region ?_
      refine VO.val rfl rfl (OpV.move (.inl rfl) rfl) ?_
      refine VO.val rfl rfl (OpV.move (.inr rfl) rfl) ?_
      refine VO.nil ?_
      show VC _ _ _ _ _
      refine VC.le _ (Le.rowS (t := 4) (i := 0) hB hnew rfl rfl rfl) ?_
      refine VC.ret ?_
      exact Exists.intro _ (And.intro (RetV.one Tryd.results7 (ResV.tmp rfl)) (And.intro (⟨l, hl.mono (by omega), rfl⟩) ((show k + q + 1 ≤ k + 30 by omega))))
def sixF : List ByteArray := [⟨#[97]⟩, ⟨#[98]⟩, ⟨#[99]⟩, ⟨#[100]⟩, ⟨#[101]⟩, ⟨#[102]⟩]
theorem sixF_size (q : Nat) : (sixF.getD q ByteArray.empty).size ≤ 1000 := size_sixF q
set_option maxRecDepth 100000 in
theorem partLists_T {p : Nat} {L : List Int} {n m : Int} (hn : 0 ≤ n ∧ n ≤ 1000) (hm : 0 ≤ m ∧ m ≤ 10) :
    SpecT Tryd.prog (TT p L) (fun b => b = p) 9 [sp p, avI n, avI m] 100 (fun y => ∃ l : List (List ByteArray), ShSS l ∧ y = avM l) := by
  have h6 : sixF.length = 6 := rfl
  refine SpecT.of_VC Tryd.func9 rfl Tryd.ntmps9 (Nat.le_of_ble_eq_true rfl) (low := (fun b => b ≤ p)) (fun w A k h => h.ok) fun w A k hk hB => ?_
  have hnew : True := trivial
  refine VC.seq ?_
  refine VC.region ?_
  refine VO.val rfl rfl (OpV.move (.inr rfl) rfl) ?_
  refine VO.nil ?_
  show VC _ _ _ _ _
  refine VC.seq ?_
  refine VC.region ?_
  refine VO.val rfl rfl (OpV.move (.inr rfl) rfl) ?_
  refine VO.nil ?_
  show VC _ _ _ _ _
  refine VC.seq ?_
  refine VC.seq ?_
  refine VC.region ?_
  refine VO.val rfl rfl (OpV.move (.inl rfl) rfl) ?_
  refine VO.val rfl rfl (OpV.move (.inl rfl) rfl) ?_
  refine VO.op rfl (OpE.callT' (k) rfl rfl hB rfl Tryd.call6 rfl ((range_T (by omega) (by omega) (by omega))) (by omega) ?_)
  rintro _ ⟨r14, hr14, rfl⟩
  obtain ⟨N, rfl⟩ : ∃ N : Nat, r14 = N := ⟨r14.toNat, by omega⟩
  refine VO.val rfl rfl (OpV.move (.inl rfl) rfl) ?_
  refine VO.nil ?_
  show VC _ _ _ _ _
  refine VC.block ?_
  refine VC.le _ (Le.nilRow 1 27) ?_
  refine VC.loopK [(0, _), (1, _), (14, _)] ⟨rfl, rfl, rfl, trivial⟩ ({t : Value × List (List ByteArray) × Nat // t.2.2 ≤ N ∧ t.2.1.length = t.2.2 ∧ ∀ l ∈ t.2.1, ShS 10 l}) (fun (i : {t : Value × List (List ByteArray) × Nat // t.2.2 ≤ N ∧ t.2.1.length = t.2.2 ∧ ∀ l ∈ t.2.1, ShS 10 l}) => match i with | ⟨⟨uo, out, q⟩, hq, hol, hos⟩ => [(7, .v uo), (15, avI (q : Int))]) (fun (i : {t : Value × List (List ByteArray) × Nat // t.2.2 ≤ N ∧ t.2.1.length = t.2.2 ∧ ∀ l ∈ t.2.1, ShS 10 l}) => match i with | ⟨⟨uo, out, q⟩, hq, hol, hos⟩ => [.row uo out.length 1 (listM out) 27]) (fun (i : {t : Value × List (List ByteArray) × Nat // t.2.2 ≤ N ∧ t.2.1.length = t.2.2 ∧ ∀ l ∈ t.2.1, ShS 10 l}) => match i with | ⟨⟨uo, out, q⟩, hq, hol, hos⟩ => k + 1 + 6 * q) (fun (i : {t : Value × List (List ByteArray) × Nat // t.2.2 ≤ N ∧ t.2.1.length = t.2.2 ∧ ∀ l ∈ t.2.1, ShS 10 l}) => match i with | ⟨⟨uo, out, q⟩, hq, hol, hos⟩ => N - q) ⟨(.slice none 0 0, [], 0), Nat.zero_le _, rfl, fun x h => by simp at h⟩ (Le.mk hB [0] ⟨rfl, rfl, rfl, rfl, rfl, trivial⟩ rfl rfl (show k + 1 ≤ k + 1 + 6 * 0 by omega)) ?_
  rintro ⟨⟨uo, out, q⟩, hq, hol, hos⟩
  show VC _ _ _ _ ⟨[(7, .v uo), (15, avI (q : Int))] ++ [(0, _), (1, _), (14, _)], [.row uo out.length 1 (listM out) 27], k + 1 + 6 * q⟩
  simp only at hq hol hos
  refine VC.seq ?_
  refine VC.region ?_
  refine VO.val rfl rfl (OpV.lss rfl rfl rfl) ?_
  refine VO.nil ?_
  show VC _ _ _ _ _
  refine VC.seq ?_
  refine VC.cond rfl (fun aH1b => ?_) (fun aH1b => ?_)
  · have aH1 := aH1b
    try simp only [decide_eq_true_eq, decide_eq_false_iff_not, Bool.not_eq_true', Bool.not_eq_false', Int.not_lt, Int.not_le] at aH1
    refine VC.skip ?_
    show VC _ _ _ _ _
    refine VC.seq ?_
    refine VC.block ?_
    refine VC.seq ?_
    refine VC.region ?_
    refine VO.val rfl rfl (OpV.move (.inr rfl) rfl) ?_
    refine VO.nil ?_
    show VC _ _ _ _ _
    refine VC.seq ?_
    refine VC.seq ?_
    refine VC.region ?_
    refine VO.op rfl (OpE.buildSlice (zc := #[.string ⟨#[]⟩, .string ⟨#[]⟩, .string ⟨#[]⟩, .string ⟨#[]⟩, .string ⟨#[]⟩, .string ⟨#[]⟩]) rfl hB rfl Tryd.underlying27 Tryd.sizeOf9 Tryd.zeroValue9 (by decide) (by decide) (by kernel_rfl) rfl rfl ?_)
    refine VO.le _ (Le.recast (t := 17) (y := avStrs sixF) rfl (fun w Z u h => Rep.strs (xs := sixF) rfl h)) ?_
    first
      | refine VO.val rfl rfl (OpV.len_im rfl Tryd.underlying27 rfl) ?_
      | refine VO.val rfl rfl (OpV.len_v rfl Tryd.underlying27 rfl) ?_
      | refine VO.val rfl rfl (OpV.len_row (i := 0) rfl Tryd.underlying27 rfl rfl) ?_
    refine VO.val rfl rfl (OpV.move (.inl rfl) rfl) ?_
    refine VO.nil ?_
    show VC _ _ _ _ _
    refine VC.block ?_
    refine VC.le _ (Le.nilRow 1 9) ?_
    refine VC.loopK [(0, _), (1, _), (7, _), (14, _), (15, _), (17, _), (18, _)] ⟨rfl, rfl, rfl, rfl, rfl, rfl, rfl, trivial⟩ ({t : Value × List ByteArray × Nat // t.2.2 ≤ 6 ∧ ShS t.2.2 t.2.1}) (fun (i : {t : Value × List ByteArray × Nat // t.2.2 ≤ 6 ∧ ShS t.2.2 t.2.1}) => match i with | ⟨⟨u, l, r⟩, hr, hl⟩ => [(8, .v u), (19, avI (r : Int))]) (fun (i : {t : Value × List ByteArray × Nat // t.2.2 ≤ 6 ∧ ShS t.2.2 t.2.1}) => match i with | ⟨⟨u, l, r⟩, hr, hl⟩ => [.row uo out.length 1 (listM out) 27, .row u l.length 1 (strsL l) 9]) (fun (i : {t : Value × List ByteArray × Nat // t.2.2 ≤ 6 ∧ ShS t.2.2 t.2.1}) => match i with | ⟨⟨u, l, r⟩, hr, hl⟩ => k + 1 + 6 * q + r) (fun (i : {t : Value × List ByteArray × Nat // t.2.2 ≤ 6 ∧ ShS t.2.2 t.2.1}) => match i with | ⟨⟨u, l, r⟩, hr, hl⟩ => 6 - r) ⟨(.slice none 0 0, [], 0), Nat.zero_le _, by decide, fun x h => by simp at h⟩ (Le.mk hB [0, 1] ⟨rfl, rfl, rfl, rfl, rfl, rfl, rfl, rfl, rfl, trivial⟩ rfl rfl (show k + 1 + 6 * q ≤ k + 1 + 6 * q + 0 by omega)) ?_
    rintro ⟨⟨u, l, r⟩, hr, hl⟩
    show VC _ _ _ _ ⟨[(8, .v u), (19, avI (r : Int))] ++ [(0, _), (1, _), (7, _), (14, _), (15, _), (17, _), (18, _)], [.row uo out.length 1 (listM out) 27, .row u l.length 1 (strsL l) 9], k + 1 + 6 * q + r⟩
    simp only at hr hl
    have hll := hl.1
    refine VC.seq ?_
    refine VC.region ?_
    refine VO.val rfl rfl (OpV.lss rfl rfl rfl) ?_
    refine VO.nil ?_
    show VC _ _ _ _ _
    refine VC.seq ?_
    refine VC.cond rfl (fun aH2b => ?_) (fun aH2b => ?_)
    · have aH2 := aH2b
      try simp only [decide_eq_true_eq, decide_eq_false_iff_not, Bool.not_eq_true', Bool.not_eq_false', Int.not_lt, Int.not_le] at aH2
      refine VC.skip ?_
      show VC _ _ _ _ _
      refine VC.seq ?_
      refine VC.block ?_
      refine VC.seq ?_
      refine VC.region ?_
      first
        | refine VO.val rfl rfl (OpV.indexAddr_1 rfl Tryd.underlying27 Tryd.sizeOf9 rfl rfl rfl (by show _ < sixF.length; omega)) ?_
        | refine VO.val rfl rfl (OpV.indexAddr_1 rfl Tryd.underlying27 Tryd.sizeOf9 rfl rfl (Int.toNat_of_nonneg (by omega)).symm (by show _ < sixF.length; omega)) ?_
        | refine VO.val rfl rfl (OpV.indexAddr_o rfl Tryd.underlying27 Tryd.sizeOf9 rfl rfl rfl (by show _ < sixF.length; omega)) ?_
        | refine VO.val rfl rfl (OpV.indexAddr_o rfl Tryd.underlying27 Tryd.sizeOf9 rfl rfl (Int.toNat_of_nonneg (by omega)).symm (by show _ < sixF.length; omega)) ?_
        | refine VO.val rfl rfl (OpV.indexAddr_q rfl Tryd.underlying27 Tryd.sizeOf9 rfl rfl rfl (by show _ < sixF.length; omega)) ?_
        | refine VO.val rfl rfl (OpV.indexAddr_q rfl Tryd.underlying27 Tryd.sizeOf9 rfl rfl (Int.toNat_of_nonneg (by omega)).symm (by show _ < sixF.length; omega)) ?_
        | refine VO.val rfl rfl (OpV.indexAddr_im rfl Tryd.underlying27 Tryd.sizeOf9 rfl rfl (by omega) (by show _ < sixF.length; omega)) ?_
      first
        | refine VO.val rfl rfl (OpV.load_at rfl hB OutW.no Tryd.isAgg9 rfl rfl) ?_
        | refine VO.val rfl rfl (OpV.load_own (i := 0) rfl hB Tryd.isAgg9 rfl rfl rfl (fun h => h)) ?_
        | refine VO.val rfl rfl (OpV.load_own (i := 1) rfl hB Tryd.isAgg9 rfl rfl rfl (fun h => h)) ?_
      refine VO.val rfl rfl (OpV.move (.inr rfl) rfl) ?_
      refine VO.nil ?_
      show VC _ _ _ _ _
      refine VC.seq ?_
      refine VC.region ?_
      refine VO.val rfl rfl (OpV.move (.inl rfl) rfl) ?_
      refine VO.op rfl (OpE.callT' (k + 1 + 6 * q + r) rfl rfl hB rfl Tryd.call26 rfl ((flip_T (by omega))) (by omega) ?_)
      rintro _ ⟨r24, rfl⟩
      refine VO.val rfl rfl (OpV.move (.inl rfl) rfl) ?_
      refine VO.opG rfl rfl rfl rfl (fun aK3b => ?_) (fun aK3b => ?_)
      · replace aK3b : _ = true := aK3b
        have aK3 := aK3b
        try simp only [decide_eq_true_eq, decide_eq_false_iff_not, Bool.not_eq_true', Bool.not_eq_false', Int.not_lt, Int.not_le] at aK3
        refine OpE.val (W := NoB) (OpV.move (.inl rfl) rfl) rfl ?_
        refine VO.opY rfl rfl rfl rfl aK3b ?_
        first
          | refine OpE.val (W := NoB) (OpV.len_im rfl Tryd.underlying27 rfl) rfl ?_
          | refine OpE.val (W := NoB) (OpV.len_v rfl Tryd.underlying27 rfl) rfl ?_
          | refine OpE.val (W := NoB) (OpV.len_row (i := 0) rfl Tryd.underlying27 rfl rfl) rfl ?_
          | refine OpE.val (W := NoB) (OpV.len_row (i := 1) rfl Tryd.underlying27 rfl rfl) rfl ?_
        refine VO.opY rfl rfl rfl rfl aK3b ?_
        refine OpE.val (W := NoB) (OpV.move (.inl rfl) rfl) rfl ?_
        refine VO.opY rfl rfl rfl rfl aK3b ?_
        refine OpE.val (W := NoB) (OpV.lss rfl rfl rfl) rfl ?_
        refine VO.val rfl rfl (OpV.pickT rfl rfl rfl rfl aK3b) ?_
        refine VO.nil ?_
        show VC _ _ _ _ _
        refine VC.cond rfl (fun aH4b => ?_) (fun aH4b => ?_)
        · have aH4 := aH4b
          try simp only [decide_eq_true_eq, decide_eq_false_iff_not, Bool.not_eq_true', Bool.not_eq_false', Int.not_lt, Int.not_le] at aH4
          refine VC.region ?_
          refine VO.val rfl rfl (OpV.move (.inl rfl) rfl) ?_
          refine VO.val rfl rfl (OpV.move (.inl rfl) rfl) ?_
          refine VO.op rfl (OpE.buildSlice (zc := #[.string ⟨#[]⟩]) rfl hB rfl Tryd.underlying27 Tryd.sizeOf9 Tryd.zeroValue9 (by decide) (by decide) (by kernel_rfl) rfl rfl ?_)
          first
            | refine VO.op rfl (OpE.append1 (i := 0) rfl hB rfl Tryd.underlying27 (infoOf Tryd.t9 1 (by kernel_rfl) rfl rfl) rfl (by decide) (by decide) rfl rfl rfl rfl (strsL_snoc _ _) (by omega) (fun _ _ => trivial) ?_)
            | refine VO.op rfl (OpE.append1 (i := 1) rfl hB rfl Tryd.underlying27 (infoOf Tryd.t9 1 (by kernel_rfl) rfl rfl) rfl (by decide) (by decide) rfl rfl rfl rfl (strsL_snoc _ _) (by omega) (fun _ _ => trivial) ?_)
          intro u2
          refine VO.val rfl rfl (OpV.move (.inr rfl) rfl) ?_
          refine VO.nil ?_
          show VC _ _ _ _ _
          refine VC.region ?_
          refine VO.val rfl rfl (OpV.add rfl rfl rfl (by unfold fits; omega)) ?_
          refine VO.val rfl rfl (OpV.move (.inl rfl) rfl) ?_
          refine VO.nil ?_
          first
            | exact Exists.intro (⟨(u2, l ++ [sixF.getD r ByteArray.empty], r + 1), by show r + 1 ≤ 6; omega, hl.snoc (sixF_size r)⟩) (And.intro (Le.mk hB [0, 1] ⟨rfl, rfl, rfl, rfl, rfl, rfl, rfl, rfl, rfl, trivial⟩ rfl (by dsimp only; first | rfl | (rw [List.length_append]; rfl)) (show k + 1 + 6 * q + r + 1 ≤ k + 1 + 6 * q + (r + 1) by omega)) (by first | omega | (show _ < _; omega) | (simp only []; omega)))
            | exact Exists.intro (⟨(u, l, r + 1), by show r + 1 ≤ 6; omega, hl.mono (by show r ≤ r + 1; omega)⟩) (And.intro (Le.mk hB [0, 1] ⟨rfl, rfl, rfl, rfl, rfl, rfl, rfl, rfl, rfl, trivial⟩ rfl (by dsimp only; first | rfl | (rw [List.length_append]; rfl)) (show k + 1 + 6 * q + r + 1 ≤ k + 1 + 6 * q + (r + 1) by omega)) (by first | omega | (show _ < _; omega) | (simp only []; omega)))
        · have aH4 := aH4b
          try simp only [decide_eq_true_eq, decide_eq_false_iff_not, Bool.not_eq_true', Bool.not_eq_false', Int.not_lt, Int.not_le] at aH4
          refine VC.skip ?_
          show VC _ _ _ _ _
          refine VC.region ?_
          refine VO.val rfl rfl (OpV.add rfl rfl rfl (by unfold fits; omega)) ?_
          refine VO.val rfl rfl (OpV.move (.inl rfl) rfl) ?_
          refine VO.nil ?_
          first
            | exact Exists.intro (⟨(u2, l ++ [sixF.getD r ByteArray.empty], r + 1), by show r + 1 ≤ 6; omega, hl.snoc (sixF_size r)⟩) (And.intro (Le.mk hB [0, 1] ⟨rfl, rfl, rfl, rfl, rfl, rfl, rfl, rfl, rfl, trivial⟩ rfl (by dsimp only; first | rfl | (rw [List.length_append]; rfl)) (show k + 1 + 6 * q + r + 1 ≤ k + 1 + 6 * q + (r + 1) by omega)) (by first | omega | (show _ < _; omega) | (simp only []; omega)))
            | exact Exists.intro (⟨(u, l, r + 1), by show r + 1 ≤ 6; omega, hl.mono (by show r ≤ r + 1; omega)⟩) (And.intro (Le.mk hB [0, 1] ⟨rfl, rfl, rfl, rfl, rfl, rfl, rfl, rfl, rfl, trivial⟩ rfl (by dsimp only; first | rfl | (rw [List.length_append]; rfl)) (show k + 1 + 6 * q + r + 1 ≤ k + 1 + 6 * q + (r + 1) by omega)) (by first | omega | (show _ < _; omega) | (simp only []; omega)))
      · replace aK3b : _ = false := aK3b
        have aK3 := aK3b
        try simp only [decide_eq_true_eq, decide_eq_false_iff_not, Bool.not_eq_true', Bool.not_eq_false', Int.not_lt, Int.not_le] at aK3
        refine VO.opX rfl rfl rfl rfl aK3b ?_
        refine VO.opX rfl rfl rfl rfl aK3b ?_
        refine VO.opX rfl rfl rfl rfl aK3b ?_
        refine VO.val rfl rfl (OpV.pickF rfl rfl rfl rfl aK3b) ?_
        refine VO.nil ?_
        show VC _ _ _ _ _
        refine VC.condF rfl rfl ?_
        refine VC.skip ?_
        show VC _ _ _ _ _
        refine VC.region ?_
        refine VO.val rfl rfl (OpV.add rfl rfl rfl (by unfold fits; omega)) ?_
        refine VO.val rfl rfl (OpV.move (.inl rfl) rfl) ?_
        refine VO.nil ?_
        first
          | exact Exists.intro (⟨(u2, l ++ [sixF.getD r ByteArray.empty], r + 1), by show r + 1 ≤ 6; omega, hl.snoc (sixF_size r)⟩) (And.intro (Le.mk hB [0, 1] ⟨rfl, rfl, rfl, rfl, rfl, rfl, rfl, rfl, rfl, trivial⟩ rfl (by dsimp only; first | rfl | (rw [List.length_append]; rfl)) (show k + 1 + 6 * q + r + 1 ≤ k + 1 + 6 * q + (r + 1) by omega)) (by first | omega | (show _ < _; omega) | (simp only []; omega)))
          | exact Exists.intro (⟨(u, l, r + 1), by show r + 1 ≤ 6; omega, hl.mono (by show r ≤ r + 1; omega)⟩) (And.intro (Le.mk hB [0, 1] ⟨rfl, rfl, rfl, rfl, rfl, rfl, rfl, rfl, rfl, trivial⟩ rfl (by dsimp only; first | rfl | (rw [List.length_append]; rfl)) (show k + 1 + 6 * q + r + 1 ≤ k + 1 + 6 * q + (r + 1) by omega)) (by first | omega | (show _ < _; omega) | (simp only []; omega)))
    · have aH2 := aH2b
      try simp only [decide_eq_true_eq, decide_eq_false_iff_not, Bool.not_eq_true', Bool.not_eq_false', Int.not_lt, Int.not_le] at aH2
      refine VC.exit ?_
      show VC _ _ _ _ _
      refine VC.region ?_
      refine VO.val rfl rfl (OpV.move (.inl rfl) rfl) ?_
      refine VO.le _ (Le.recast (t := 36) (y := .v uo) rfl (fun w Z u h => h)) ?_
      refine VO.val rfl rfl (OpV.move (.inl rfl) rfl) ?_
      refine VO.le _ (Le.rowS (t := 37) (i := 1) hB hnew rfl rfl (by first | rfl | simp)) ?_
      refine VO.op rfl (OpE.buildSlice (zc := #[.slice none 0 0]) rfl hB rfl Tryd.underlying30 Tryd.sizeOf27 Tryd.zeroValue27 (by decide) (by decide) (by kernel_rfl) rfl rfl ?_)
      first
        | refine VO.op rfl (OpE.append1 (i := 0) rfl hB rfl Tryd.underlying30 (infoOf Tryd.t27 1 (by kernel_rfl) rfl rfl) rfl (by decide) (by decide) rfl rfl rfl rfl (listM_snoc out _) (by omega) (fun _ _ => trivial) ?_)
        | refine VO.op rfl (OpE.append1 (i := 1) rfl hB rfl Tryd.underlying30 (infoOf Tryd.t27 1 (by kernel_rfl) rfl rfl) rfl (by decide) (by decide) rfl rfl rfl rfl (listM_snoc out _) (by omega) (fun _ _ => trivial) ?_)
      intro uo2
      refine VO.val rfl rfl (OpV.move (.inr rfl) rfl) ?_
      refine VO.nil ?_
      show VC _ _ _ _ _
      refine VC.region ?_
      refine VO.val rfl rfl (OpV.add rfl rfl rfl (by unfold fits; omega)) ?_
      refine VO.val rfl rfl (OpV.move (.inl rfl) rfl) ?_
      refine VO.nil ?_
      exact Exists.intro (⟨(uo2, out ++ [l], q + 1), by show q + 1 ≤ N; omega, by show (out ++ [l]).length = q + 1; simp; omega, fun x hx => by rcases List.mem_append.1 hx with hx | hx; exact hos x hx; (simp at hx; subst hx; exact hl.mono (by omega))⟩) (And.intro (Le.mk hB [0] ⟨rfl, rfl, rfl, rfl, rfl, trivial⟩ rfl (by dsimp only; rw [List.length_append]; rfl) (show k + 1 + 6 * q + r ≤ k + 1 + 6 * (q + 1) by omega)) (by first | omega | (show _ < _; omega) | (simp only []; omega)))
  · have aH1 := aH1b
    try simp only [decide_eq_true_eq, decide_eq_false_iff_not, Bool.not_eq_true', Bool.not_eq_false', Int.not_lt, Int.not_le] at aH1
    refine VC.exit ?_
    show VC _ _ _ _ _
    refine VC.seq ?_
    refine VC.seq ?_
    refine VC.region ?_
    refine VO.val rfl rfl (OpV.move (.inl rfl) rfl) ?_
    first
      | refine VO.val rfl rfl (OpV.len_im rfl Tryd.underlying30 rfl) ?_
      | refine VO.val rfl rfl (OpV.len_v rfl Tryd.underlying30 rfl) ?_
      | refine VO.val rfl rfl (OpV.len_row (i := 0) rfl Tryd.underlying30 rfl rfl) ?_
    refine VO.val rfl rfl (OpV.gtr rfl rfl rfl) ?_
    refine VO.val rfl rfl (OpV.move (.inl rfl) rfl) ?_
    refine VO.opG rfl rfl rfl rfl (fun aK5b => ?_) (fun aK5b => ?_)
    · replace aK5b : _ = true := aK5b
      have aK5 := aK5b
      try simp only [decide_eq_true_eq, decide_eq_false_iff_not, Bool.not_eq_true', Bool.not_eq_false', Int.not_lt, Int.not_le] at aK5
      refine OpE.val (W := NoB) (OpV.move (.inl rfl) rfl) rfl ?_
      refine VO.opY rfl rfl rfl rfl aK5b ?_
      refine OpE.callT' (k + 1 + 6 * q) rfl rfl hB rfl Tryd.call26 rfl ((flip_T (by omega))) (by omega) ?_
      rintro _ ⟨r46, rfl⟩
      refine VO.val rfl rfl (OpV.pickT rfl rfl rfl rfl aK5b) ?_
      refine VO.nil ?_
      show VC _ _ _ _ _
      refine VC.cond rfl (fun aH6b => ?_) (fun aH6b => ?_)
      · have aH6 := aH6b
        try simp only [decide_eq_true_eq, decide_eq_false_iff_not, Bool.not_eq_true', Bool.not_eq_false', Int.not_lt, Int.not_le] at aH6
        refine VC.seq ?_
        refine VC.asBox (i := 0) rfl (by omega) (fun g cap hu hcap hmx => ?_)
        subst hu
        refine VC.region ?_
        refine VO.val rfl rfl (OpV.move (.inl rfl) rfl) ?_
        refine VO.val rfl rfl (OpV.move (.inl rfl) rfl) ?_
        refine VO.val rfl rfl (OpV.move (.inl rfl) rfl) ?_
        first
          | refine VO.val rfl rfl (OpV.len_im rfl Tryd.underlying30 rfl) ?_
          | refine VO.val rfl rfl (OpV.len_v rfl Tryd.underlying30 rfl) ?_
          | refine VO.val rfl rfl (OpV.len_row (i := 0) rfl Tryd.underlying30 rfl rfl) ?_
        refine VO.op rfl (OpE.callT' (k + 1 + 6 * q + 1) rfl rfl hB rfl Tryd.call10 rfl ((next_T (by omega))) (by omega) ?_)
        rintro _ ⟨r52, hr52, rfl⟩
        obtain ⟨mm, rfl⟩ : ∃ mm : Nat, r52 = mm := ⟨r52.toNat, by omega⟩
        first
          | refine VO.val rfl rfl (OpV.indexAddr_1 rfl Tryd.underlying30 Tryd.sizeOf27 rfl rfl rfl (by omega)) ?_
          | refine VO.val rfl rfl (OpV.indexAddr_1 rfl Tryd.underlying30 Tryd.sizeOf27 rfl rfl (Int.toNat_of_nonneg (by omega)).symm (by omega)) ?_
          | refine VO.val rfl rfl (OpV.indexAddr_o rfl Tryd.underlying30 Tryd.sizeOf27 rfl rfl rfl (by omega)) ?_
          | refine VO.val rfl rfl (OpV.indexAddr_o rfl Tryd.underlying30 Tryd.sizeOf27 rfl rfl (Int.toNat_of_nonneg (by omega)).symm (by omega)) ?_
          | refine VO.val rfl rfl (OpV.indexAddr_q rfl Tryd.underlying30 Tryd.sizeOf27 rfl rfl rfl (by omega)) ?_
          | refine VO.val rfl rfl (OpV.indexAddr_q rfl Tryd.underlying30 Tryd.sizeOf27 rfl rfl (Int.toNat_of_nonneg (by omega)).symm (by omega)) ?_
          | refine VO.val rfl rfl (OpV.indexAddr_im rfl Tryd.underlying30 Tryd.sizeOf27 rfl rfl (by omega) (by omega)) ?_
        refine VO.val rfl rfl (OpV.move (.inr rfl) rfl) ?_
        refine VO.nil ?_
        show VC _ _ _ _ _
        refine VC.region ?_
        refine VO.val rfl rfl (OpV.move (.inl rfl) rfl) ?_
        refine VO.val rfl rfl (OpV.move (.inl rfl) rfl) ?_
        first
          | refine VO.val rfl rfl (OpV.nilCheck_at rfl rfl) ?_
          | refine VO.val rfl rfl (OpV.nilCheck rfl rfl) ?_
        first
          | refine VO.val rfl rfl (OpV.load_at rfl hB OutW.no Tryd.isAgg27 rfl rfl) ?_
          | refine VO.val rfl rfl (OpV.load_own (i := 0) rfl hB Tryd.isAgg27 rfl rfl (listM_get (by omega)) (fun h => h)) ?_
        refine VO.op rfl (OpE.callR rfl hB rfl Tryd.call45 (slices_CloneS_R (by have := (getD_shs hos mm).1; omega)) (ArgsP.cons (ArgP.ev rfl) (ArgsP.nil)) ?_)
        intro u58
        refine VO.val rfl rfl (OpV.move (.inl rfl) rfl) ?_
        refine VO.op rfl (OpE.buildSlice (zc := #[.string ⟨#[]⟩, .string ⟨#[]⟩, .string ⟨#[]⟩, .string ⟨#[]⟩]) rfl hB rfl Tryd.underlying27 Tryd.sizeOf9 Tryd.zeroValue9 (by decide) (by decide) (by kernel_rfl) rfl rfl ?_)
        refine VO.op rfl (OpE.callT' (k + 1 + 6 * q + 1 + 1) rfl rfl hB rfl Tryd.call42 rfl ((some_T 1000 (by rfl) (by decide) (by decide) (by repeat (first | exact AllS.nil | refine AllS.cons (by first | decide | omega) ?_)))) (by omega) ?_)
        rintro _ ⟨r61, hr61, rfl⟩
        refine VO.op rfl (OpE.buildSlice (zc := #[.string ⟨#[]⟩]) rfl hB rfl Tryd.underlying27 Tryd.sizeOf9 Tryd.zeroValue9 (by decide) (by decide) (by kernel_rfl) rfl rfl ?_)
        first
          | refine VO.op rfl (OpE.append1 (i := 0) rfl hB rfl Tryd.underlying27 (infoOf Tryd.t9 1 (by kernel_rfl) rfl rfl) rfl (by decide) (by decide) rfl rfl rfl rfl (strsL_snoc _ _) (by have := (getD_shs hos mm).1; omega) (fun _ _ => trivial) ?_)
          | refine VO.op rfl (OpE.append1 (i := 1) rfl hB rfl Tryd.underlying27 (infoOf Tryd.t9 1 (by kernel_rfl) rfl rfl) rfl (by decide) (by decide) rfl rfl rfl rfl (strsL_snoc _ _) (by have := (getD_shs hos mm).1; omega) (fun _ _ => trivial) ?_)
        intro u63
        refine VO.le _ (Le.rowS (t := 63) (i := 1) hB hnew rfl rfl (by first | rfl | simp)) ?_
        first
          | refine VO.val rfl rfl (OpV.nilCheck_at rfl rfl) ?_
          | refine VO.val rfl rfl (OpV.nilCheck rfl rfl) ?_
        first
          | refine VO.op rfl (OpE.store1 (i := 0) rfl hB rfl Tryd.sizeOf27 rfl rfl rfl rfl rfl rfl (by rw [listM_len]; omega) (listM_set _ _ _) trivial ?_)
          | refine VO.op rfl (OpE.store1 (i := 1) rfl hB rfl Tryd.sizeOf27 rfl rfl rfl rfl rfl rfl (by rw [listM_len]; omega) (listM_set _ _ _) trivial ?_)
        refine VO.nil ?_
        show VC _ _ _ _ _
        refine VC.seq ?_
        refine VC.region ?_
        refine VO.val rfl rfl (OpV.move (.inl rfl) rfl) ?_
        refine VO.val rfl rfl (OpV.move (.inr rfl) rfl) ?_
        refine VO.nil ?_
        show VC _ _ _ _ _
        first
          | refine VC.le _ (Le.rowsM (t := 6) (i := 0) hB hnew rfl rfl rfl) ?_
          | refine VC.le _ (Le.boxM (t := 6) (i := 0) (n := out.length) hB hnew rfl rfl (by simp) hcap hmx) ?_
        refine VC.ret ?_
        exact Exists.intro _ (And.intro (RetV.one Tryd.results9 (ResV.tmp rfl)) (And.intro (by first | exact ⟨out, ⟨by omega, fun l hl => (hos l hl).mono (by omega)⟩, rfl⟩ | exact ⟨out.set mm (out.getD mm default ++ [r61]), ⟨by simp; omega, fun l hl => by rcases List.mem_or_eq_of_mem_set hl with h' | rfl; exact (hos l h').mono (by omega); exact ((getD_shs hos mm).snoc hr61).mono (by omega)⟩, rfl⟩) ((show k + 1 + 6 * q + 1 + 1 + 1 ≤ k + 100 by omega))))
      · have aH6 := aH6b
        try simp only [decide_eq_true_eq, decide_eq_false_iff_not, Bool.not_eq_true', Bool.not_eq_false', Int.not_lt, Int.not_le] at aH6
        refine VC.skip ?_
        show VC _ _ _ _ _
        refine VC.seq ?_
        refine VC.region ?_
        refine VO.val rfl rfl (OpV.move (.inl rfl) rfl) ?_
        refine VO.val rfl rfl (OpV.move (.inr rfl) rfl) ?_
        refine VO.nil ?_
        show VC _ _ _ _ _
        first
          | refine VC.le _ (Le.rowsM (t := 6) (i := 0) hB hnew rfl rfl rfl) ?_
          | refine VC.le _ (Le.boxM (t := 6) (i := 0) (n := out.length) hB hnew rfl rfl (by simp) hcap hmx) ?_
        refine VC.ret ?_
        exact Exists.intro _ (And.intro (RetV.one Tryd.results9 (ResV.tmp rfl)) (And.intro (by first | exact ⟨out, ⟨by omega, fun l hl => (hos l hl).mono (by omega)⟩, rfl⟩ | exact ⟨out.set mm (out.getD mm default ++ [r61]), ⟨by simp; omega, fun l hl => by rcases List.mem_or_eq_of_mem_set hl with h' | rfl; exact (hos l h').mono (by omega); exact ((getD_shs hos mm).snoc hr61).mono (by omega)⟩, rfl⟩) ((show k + 1 + 6 * q + 1 ≤ k + 100 by omega))))
    · replace aK5b : _ = false := aK5b
      have aK5 := aK5b
      try simp only [decide_eq_true_eq, decide_eq_false_iff_not, Bool.not_eq_true', Bool.not_eq_false', Int.not_lt, Int.not_le] at aK5
      refine VO.opX rfl rfl rfl rfl aK5b ?_
      refine VO.val rfl rfl (OpV.pickF rfl rfl rfl rfl aK5b) ?_
      refine VO.nil ?_
      show VC _ _ _ _ _
      refine VC.condF rfl rfl ?_
      refine VC.skip ?_
      show VC _ _ _ _ _
      refine VC.seq ?_
      refine VC.region ?_
      refine VO.val rfl rfl (OpV.move (.inl rfl) rfl) ?_
      refine VO.val rfl rfl (OpV.move (.inr rfl) rfl) ?_
      refine VO.nil ?_
      show VC _ _ _ _ _
      first
        | refine VC.le _ (Le.rowsM (t := 6) (i := 0) hB hnew rfl rfl rfl) ?_
        | refine VC.le _ (Le.boxM (t := 6) (i := 0) (n := out.length) hB hnew rfl rfl (by simp) hcap hmx) ?_
      refine VC.ret ?_
      exact Exists.intro _ (And.intro (RetV.one Tryd.results9 (ResV.tmp rfl)) (And.intro (by first | exact ⟨out, ⟨by omega, fun l hl => (hos l hl).mono (by omega)⟩, rfl⟩ | exact ⟨out.set mm (out.getD mm default ++ [r61]), ⟨by simp; omega, fun l hl => by rcases List.mem_or_eq_of_mem_set hl with h' | rfl; exact (hos l h').mono (by omega); exact ((getD_shs hos mm).snoc hr61).mono (by omega)⟩, rfl⟩) ((show k + 1 + 6 * q ≤ k + 100 by omega))))
end Go.Proofs.YtpajnlcikmhpdaaDoor
