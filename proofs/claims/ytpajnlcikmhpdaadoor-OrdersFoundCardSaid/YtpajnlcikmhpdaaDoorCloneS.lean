/- slices.Clone: a list of the caller's own comes back. -/
import Derived.Test.YtpajnlcikmhpdaaDoorProg
import Derived.Test.YtpajnlcikmhpdaaDoorSxMore
namespace Go.Proofs.YtpajnlcikmhpdaaDoor
open Go.RowKit
set_option linter.unusedVariables false
set_option linter.unusedSimpArgs false

theorem tab_ints (xs : List Int) : tab (xs.length * 1) (fun j => avI (xs.getD j 0)) = intsL xs := by
  apply List.ext_getElem (by rw [tab_len, intsL_len, Nat.mul_one])
  intro i h1 h2
  rw [tab_get]
  rw [intsL_len] at h2
  simp [intsL, h2]
theorem tab_strs (xs : List ByteArray) : tab (xs.length * 1) (fun j => avS (xs.getD j ByteArray.empty)) = strsL xs := by
  apply List.ext_getElem (by rw [tab_len, strsL_len, Nat.mul_one])
  intro i h1 h2
  rw [tab_get]
  rw [strsL_len] at h2
  simp [strsL, h2]
theorem tab_L {α : Type} [Inhabited α] [Sxc α] (xs : List α) : tab (xs.length * Sxc.k α) (fun q => Sxc.cell (xs.getD (q / Sxc.k α) default) (q % Sxc.k α)) = rowL xs := by
  have hp := Sxc.pos (α := α)
  apply List.ext_getElem?
  intro i
  by_cases hi : i < xs.length * Sxc.k α
  · have hd : i / Sxc.k α < xs.length := (Nat.div_lt_iff_lt_mul hp).2 hi
    have := rowL_get xs (i / Sxc.k α) (i % Sxc.k α) hd (Nat.mod_lt _ hp)
    rw [Nat.div_add_mod' i (Sxc.k α)] at this
    rw [this, List.getElem?_eq_getElem (by rw [tab_len]; exact hi), tab_get]
  · rw [List.getElem?_eq_none (by rw [tab_len]; omega), List.getElem?_eq_none (by rw [rowL_len]; omega)]
set_option maxRecDepth 100000 in
theorem slices_Clone_R {xs : List Int} (hl : xs.length ≤ 1000000000) :
    SpecR Tryd.prog 59 [avInts xs] xs.length 1 (intsL xs) 3 := by
  refine SpecR.of_VC Tryd.func59 rfl Tryd.ntmps59 (Nat.le_of_ble_eq_true rfl) (by first | exact flat_ints _ | exact flat_strs _ | exact flat_bools _) fun w A hB => ?_
  have hnew : True := trivial
  refine VC.seq ?_
  refine VC.region ?_
  refine VO.val rfl rfl (OpV.move (.inr rfl) rfl) ?_
  refine VO.nil ?_
  show VC _ _ _ _ _
  refine VC.seq ?_
  refine VC.seq ?_
  refine VC.region ?_
  refine VO.val rfl rfl (OpV.move (.inl rfl) rfl) ?_
  refine VO.op rfl (OpE.eqNil rfl rfl Tryd.underlying22 rfl ?_)
  intro b4 hb4
  refine VO.nil ?_
  show VC _ _ _ _ _
  refine VC.cond rfl (fun h0b => ?_) (fun h0b => ?_)
  · have h0 := h0b
    try simp only [decide_eq_true_eq, decide_eq_false_iff_not, Bool.not_eq_true', Bool.not_eq_false', Int.not_lt, Int.not_le] at h0
    refine VC.seq ?_
    refine VC.region ?_
    refine VO.val rfl rfl (OpV.move (.inr rfl) rfl) ?_
    refine VO.nil ?_
    show VC _ _ _ _ _
    obtain rfl : xs = [] := List.eq_nil_of_length_eq_zero (hb4 h0)
    refine VC.le _ (Le.nilRow 1 3) ?_
    refine VC.ret ?_
    exact Exists.intro _ (And.intro (RetV.one Tryd.results59 (ResV.tmp rfl)) (⟨_, rfl, List.Mem.head _⟩))
  · have h0 := h0b
    try simp only [decide_eq_true_eq, decide_eq_false_iff_not, Bool.not_eq_true', Bool.not_eq_false', Int.not_lt, Int.not_le] at h0
    refine VC.skip ?_
    show VC _ _ _ _ _
    refine VC.seq ?_
    refine VC.region ?_
    refine VO.op rfl (OpE.buildSlice0 rfl hB rfl Tryd.underlying22 Tryd.sizeOf3 ?_)
    intro g5
    refine VO.val rfl rfl (OpV.move (.inl rfl) rfl) ?_
    refine VO.op rfl (OpE.appendP (i := 0) rfl hB rfl Tryd.underlying22 (infoOf Tryd.t3 1 (by kernel_rfl) rfl rfl) rfl (by decide) (by decide) rfl rfl (.im rfl) (fun _ _ => rfl) (by omega) (tab_ints xs) (fun _ _ => trivial) ?_)
    intro u7
    refine VO.val rfl rfl (OpV.move (.inr rfl) rfl) ?_
    refine VO.nil ?_
    show VC _ _ _ _ _
    rw [Nat.zero_add]
    refine VC.ret ?_
    exact Exists.intro _ (And.intro (RetV.one Tryd.results59 (ResV.tmp rfl)) (⟨_, rfl, List.Mem.head _⟩))
set_option maxRecDepth 100000 in
theorem slices_CloneS_R {xs : List ByteArray} (hl : xs.length ≤ 1000000000) :
    SpecR Tryd.prog 45 [avStrs xs] xs.length 1 (strsL xs) 9 := by
  refine SpecR.of_VC Tryd.func45 rfl Tryd.ntmps45 (Nat.le_of_ble_eq_true rfl) (by first | exact flat_ints _ | exact flat_strs _ | exact flat_bools _) fun w A hB => ?_
  have hnew : True := trivial
  refine VC.seq ?_
  refine VC.region ?_
  refine VO.val rfl rfl (OpV.move (.inr rfl) rfl) ?_
  refine VO.nil ?_
  show VC _ _ _ _ _
  refine VC.seq ?_
  refine VC.seq ?_
  refine VC.region ?_
  refine VO.val rfl rfl (OpV.move (.inl rfl) rfl) ?_
  refine VO.op rfl (OpE.eqNil rfl rfl Tryd.underlying27 rfl ?_)
  intro b4 hb4
  refine VO.nil ?_
  show VC _ _ _ _ _
  refine VC.cond rfl (fun h0b => ?_) (fun h0b => ?_)
  · have h0 := h0b
    try simp only [decide_eq_true_eq, decide_eq_false_iff_not, Bool.not_eq_true', Bool.not_eq_false', Int.not_lt, Int.not_le] at h0
    refine VC.seq ?_
    refine VC.region ?_
    refine VO.val rfl rfl (OpV.move (.inr rfl) rfl) ?_
    refine VO.nil ?_
    show VC _ _ _ _ _
    obtain rfl : xs = [] := List.eq_nil_of_length_eq_zero (hb4 h0)
    refine VC.le _ (Le.nilRow 1 9) ?_
    refine VC.ret ?_
    exact Exists.intro _ (And.intro (RetV.one Tryd.results45 (ResV.tmp rfl)) (⟨_, rfl, List.Mem.head _⟩))
  · have h0 := h0b
    try simp only [decide_eq_true_eq, decide_eq_false_iff_not, Bool.not_eq_true', Bool.not_eq_false', Int.not_lt, Int.not_le] at h0
    refine VC.skip ?_
    show VC _ _ _ _ _
    refine VC.seq ?_
    refine VC.region ?_
    refine VO.op rfl (OpE.buildSlice0 rfl hB rfl Tryd.underlying27 Tryd.sizeOf9 ?_)
    intro g5
    refine VO.val rfl rfl (OpV.move (.inl rfl) rfl) ?_
    refine VO.op rfl (OpE.appendP (i := 0) rfl hB rfl Tryd.underlying27 (infoOf Tryd.t9 1 (by kernel_rfl) rfl rfl) rfl (by decide) (by decide) rfl rfl (.im rfl) (fun _ _ => rfl) (by omega) (tab_strs xs) (fun _ _ => trivial) ?_)
    intro u7
    refine VO.val rfl rfl (OpV.move (.inr rfl) rfl) ?_
    refine VO.nil ?_
    show VC _ _ _ _ _
    rw [Nat.zero_add]
    refine VC.ret ?_
    exact Exists.intro _ (And.intro (RetV.one Tryd.results45 (ResV.tmp rfl)) (⟨_, rfl, List.Mem.head _⟩))
end Go.Proofs.YtpajnlcikmhpdaaDoor
