/- Walks: lists held against each other. -/
import Derived.Test.YtgikefjbdhnffaaDoorSlicesS
import Derived.Test.YtgikefjbdhnffaaDoorSxEq
import Derived.Test.YtgikefjbdhnffaaDoorKeys
namespace Go.Proofs.YtgikefjbdhnffaaDoor
open Go.RowKit
set_option linter.unusedVariables false
set_option linter.unusedSimpArgs false
theorem not_true_false {b : Bool} (h : (!b) = true) : b = false := by cases b <;> simp_all
theorem not_false_true {b : Bool} (h : (!b) = false) : b = true := by cases b <;> simp_all
/-- Two lists are equal. -/
def eqLs {α : Type} (e : α → α → Bool) : List α → List α → Bool
  | [], [] => true
  | x :: l, y :: r => e x y && eqLs e l r
  | _, _ => false
theorem eqLs_self {α : Type} {e : α → α → Bool} (h : ∀ x, e x x = true) : ∀ l : List α, eqLs e l l = true
  | [] => rfl
  | x :: l => by rw [eqLs, h, eqLs_self h l]; rfl
theorem eqLs_len {α : Type} {e : α → α → Bool} : ∀ {l r : List α}, l.length ≠ r.length → eqLs e l r = false
  | [], [], h => absurd rfl h
  | [], _ :: _, _ => rfl
  | _ :: _, [], _ => rfl
  | x :: l, y :: r, h => by rw [eqLs, eqLs_len (by simpa using h), Bool.and_false]
theorem eqLs_at {α : Type} {e : α → α → Bool} {d : α} : ∀ {l r : List α} {q : Nat}, q < l.length → e (l.getD q d) (r.getD q d) = false → eqLs e l r = false
  | [], _, q, h, _ => by simp at h
  | x :: l, [], q, h, _ => rfl
  | x :: l, y :: r, 0, _, h2 => by simp at h2; rw [eqLs, h2]; rfl
  | x :: l, y :: r, q + 1, h1, h2 => by rw [eqLs, eqLs_at (d := d) (q := q) (by simpa using h1) (by simpa using h2), Bool.and_false]
theorem eqLs_all {α : Type} {e : α → α → Bool} {d : α} : ∀ {l r : List α}, l.length = r.length → (∀ j, j < l.length → e (l.getD j d) (r.getD j d) = true) → eqLs e l r = true
  | [], [], _, _ => rfl
  | [], _ :: _, h, _ => by simp at h
  | _ :: _, [], h, _ => by simp at h
  | x :: l, y :: r, h, h2 => by
    have h0 := h2 0 (by simp)
    simp at h0
    rw [eqLs, h0, eqLs_all (d := d) (by simpa using h) (fun j hj => by simpa using h2 (j + 1) (by simpa using hj))]
    rfl
theorem eqLs_dec {α : Type} [DecidableEq α] {e : α → α → Bool} (h : ∀ x y, e x y = true ↔ x = y) (l r : List α) : eqLs e l r = decide (l = r) := by
  by_cases hlr : l = r
  · subst hlr; rw [eqLs_self (fun x => (h x x).2 rfl)]; simp
  · rw [decide_eq_false hlr]
    induction l generalizing r with
    | nil => cases r with
      | nil => exact absurd rfl hlr
      | cons y r => rfl
    | cons x l ih => cases r with
      | nil => rfl
      | cons y r =>
        rw [eqLs]
        by_cases hxy : x = y
        · subst hxy
          rw [ih r (fun e => hlr (by rw [e])), Bool.and_false]
        · have : e x y = false := Bool.eq_false_iff.2 fun hc => hxy ((h x y).1 hc)
          rw [this]; rfl
set_option maxRecDepth 100000 in
theorem slices_Equal_str {xs ys : List ByteArray} (hl : xs.length ≤ 1000000000) (hl' : ys.length ≤ 1000000000) :
    SpecN Tryd.prog 36 [avStrs xs, avStrs ys] (fun y => y = avB (eqLs sEq xs ys)) := by
  refine SpecN.of_VCN Tryd.func36 rfl Tryd.ntmps36 (Nat.le_of_ble_eq_true rfl) fun w A hB => ?_
  have hnew : True := trivial
  refine VC.seq ?_
  refine VC.region ?_
  refine VO.val rfl rfl (OpV.move (.inr rfl) rfl) ?_
  refine VO.nil ?_
  show VC _ _ _ _ _
  refine VC.seq ?_
  refine VC.seq ?_
  refine VC.region ?_
  refine VO.val rfl rfl (OpV.move (.inl rfl) rfl) ?_
  first
    | refine VO.val rfl rfl (OpV.len_im rfl Tryd.underlying70 rfl) ?_
    | refine VO.val rfl rfl (OpV.len_v rfl Tryd.underlying70 rfl) ?_
  refine VO.val rfl rfl (OpV.move (.inl rfl) rfl) ?_
  first
    | refine VO.val rfl rfl (OpV.len_im rfl Tryd.underlying70 rfl) ?_
    | refine VO.val rfl rfl (OpV.len_v rfl Tryd.underlying70 rfl) ?_
  refine VO.val rfl rfl (OpV.neq rfl rfl rfl) ?_
  refine VO.nil ?_
  show VC _ _ _ _ _
  refine VC.cond rfl (fun aH1b => ?_) (fun aH1b => ?_)
  · have aH1 := aH1b
    try simp only [decide_eq_true_eq, decide_eq_false_iff_not, Bool.not_eq_true', Bool.not_eq_false', Int.not_lt, Int.not_le] at aH1
    refine VC.seq ?_
    refine VC.region ?_
    refine VO.val rfl rfl (OpV.move (.inr rfl) rfl) ?_
    refine VO.nil ?_
    show VC _ _ _ _ _
    refine VC.ret ?_
    exact Exists.intro _ (And.intro (RetN.one Tryd.results36 (ResN.v rfl)) (by first | rw [eqLs_len (by omega)] | rw [eqLs_at (d := ByteArray.empty) (q := q) (by omega) (not_true_false h2b)] | rw [eqLs_all (d := ByteArray.empty) (by omega) (fun j hj => hn j (by omega))]))
  · have aH1 := aH1b
    try simp only [decide_eq_true_eq, decide_eq_false_iff_not, Bool.not_eq_true', Bool.not_eq_false', Int.not_lt, Int.not_le] at aH1
    refine VC.skip ?_
    show VC _ _ _ _ _
    refine VC.seq ?_
    refine VC.seq ?_
    refine VC.region ?_
    refine VO.val rfl rfl (OpV.move (.inl rfl) rfl) ?_
    first
      | refine VO.val rfl rfl (OpV.len_im rfl Tryd.underlying70 rfl) ?_
      | refine VO.val rfl rfl (OpV.len_v rfl Tryd.underlying70 rfl) ?_
    refine VO.val rfl rfl (OpV.move (.inl rfl) rfl) ?_
    refine VO.nil ?_
    show VC _ _ _ _ _
    refine VC.block ?_
    refine VC.loopK [(0, _), (1, _), (12, _)] ⟨rfl, rfl, rfl, trivial⟩ ({q : Nat // q ≤ xs.length ∧ ∀ j, j < q → sEq (xs.getD j ByteArray.empty) (ys.getD j ByteArray.empty) = true}) (fun (i : {q : Nat // q ≤ xs.length ∧ ∀ j, j < q → sEq (xs.getD j ByteArray.empty) (ys.getD j ByteArray.empty) = true}) => match i with | ⟨q, hq, hn⟩ => [(13, avI (q : Int))]) (fun (i : {q : Nat // q ≤ xs.length ∧ ∀ j, j < q → sEq (xs.getD j ByteArray.empty) (ys.getD j ByteArray.empty) = true}) => match i with | ⟨q, hq, hn⟩ => []) (fun (i : {q : Nat // q ≤ xs.length ∧ ∀ j, j < q → sEq (xs.getD j ByteArray.empty) (ys.getD j ByteArray.empty) = true}) => match i with | ⟨q, hq, hn⟩ => 0) (fun (i : {q : Nat // q ≤ xs.length ∧ ∀ j, j < q → sEq (xs.getD j ByteArray.empty) (ys.getD j ByteArray.empty) = true}) => match i with | ⟨q, hq, hn⟩ => xs.length - q) ⟨0, Nat.zero_le _, fun j hj => absurd hj (Nat.not_lt_zero j)⟩ (Le.mk hB [] ⟨rfl, rfl, rfl, rfl, trivial⟩ rfl rfl (Nat.le_refl _)) ?_
    rintro ⟨q, hq, hn⟩
    show VC _ _ _ _ ⟨[(13, avI (q : Int))] ++ [(0, _), (1, _), (12, _)], [], 0⟩
    refine VC.seq ?_
    refine VC.region ?_
    refine VO.val rfl rfl (OpV.lss rfl rfl rfl) ?_
    refine VO.nil ?_
    show VC _ _ _ _ _
    refine VC.seq ?_
    refine VC.cond rfl (fun aH2b => ?_) (fun aH2b => ?_)
    · have aH2 := aH2b
      try simp only [decide_eq_true_eq, decide_eq_false_iff_not, Bool.not_eq_true', Bool.not_eq_false', Int.not_lt, Int.not_le] at aH2
      refine VC.skip ?_
      show VC _ _ _ _ _
      refine VC.seq ?_
      refine VC.block ?_
      refine VC.seq ?_
      refine VC.region ?_
      refine VO.val rfl rfl (OpV.move (.inl rfl) rfl) ?_
      refine VO.val rfl rfl (OpV.move (.inr rfl) rfl) ?_
      refine VO.nil ?_
      show VC _ _ _ _ _
      refine VC.seq ?_
      refine VC.draw (fun _ => NoB) hB (by kernel_rfl) ?_
      refine VA.take (i := 0) rfl (by kernel_rfl) (by kernel_rfl) (by kernel_rfl) rfl rfl (OpV.move (.inl rfl) rfl) ?_
      refine VA.take (i := 1) rfl (by kernel_rfl) (by kernel_rfl) (by kernel_rfl) rfl rfl (OpV.move (.inl rfl) rfl) ?_
      first
        | refine VA.take (i := 2) rfl (by kernel_rfl) (by kernel_rfl) (by kernel_rfl) rfl rfl (OpV.indexAddr_1 rfl Tryd.underlying70 Tryd.sizeOf9 rfl rfl rfl (by omega)) ?_
        | refine VA.take (i := 2) rfl (by kernel_rfl) (by kernel_rfl) (by kernel_rfl) rfl rfl (OpV.indexAddr_1 rfl Tryd.underlying70 Tryd.sizeOf9 rfl rfl (Int.toNat_of_nonneg (by omega)).symm (by omega)) ?_
        | refine VA.take (i := 2) rfl (by kernel_rfl) (by kernel_rfl) (by kernel_rfl) rfl rfl (OpV.indexAddr_o rfl Tryd.underlying70 Tryd.sizeOf9 rfl rfl rfl (by omega)) ?_
        | refine VA.take (i := 2) rfl (by kernel_rfl) (by kernel_rfl) (by kernel_rfl) rfl rfl (OpV.indexAddr_o rfl Tryd.underlying70 Tryd.sizeOf9 rfl rfl (Int.toNat_of_nonneg (by omega)).symm (by omega)) ?_
        | refine VA.take (i := 2) rfl (by kernel_rfl) (by kernel_rfl) (by kernel_rfl) rfl rfl (OpV.indexAddr_q rfl Tryd.underlying70 Tryd.sizeOf9 rfl rfl rfl (by omega)) ?_
        | refine VA.take (i := 2) rfl (by kernel_rfl) (by kernel_rfl) (by kernel_rfl) rfl rfl (OpV.indexAddr_q rfl Tryd.underlying70 Tryd.sizeOf9 rfl rfl (Int.toNat_of_nonneg (by omega)).symm (by omega)) ?_
        | refine VA.take (i := 2) rfl (by kernel_rfl) (by kernel_rfl) (by kernel_rfl) rfl rfl (OpV.indexAddr_im rfl Tryd.underlying70 Tryd.sizeOf9 rfl rfl (by omega) (by omega)) ?_
      refine VA.take (i := 3) rfl (by kernel_rfl) (by kernel_rfl) (by kernel_rfl) rfl rfl (OpV.load_at rfl hB OutW.wi0 Tryd.isAgg9 rfl rfl) ?_
      refine VA.take (i := 4) rfl (by kernel_rfl) (by kernel_rfl) (by kernel_rfl) rfl rfl (OpV.move (.inl rfl) rfl) ?_
      refine VA.take (i := 5) rfl (by kernel_rfl) (by kernel_rfl) (by kernel_rfl) rfl rfl (OpV.move (.inl rfl) rfl) ?_
      first
        | refine VA.take (i := 6) rfl (by kernel_rfl) (by kernel_rfl) (by kernel_rfl) rfl rfl (OpV.indexAddr_1 rfl Tryd.underlying70 Tryd.sizeOf9 rfl rfl rfl (by omega)) ?_
        | refine VA.take (i := 6) rfl (by kernel_rfl) (by kernel_rfl) (by kernel_rfl) rfl rfl (OpV.indexAddr_1 rfl Tryd.underlying70 Tryd.sizeOf9 rfl rfl (Int.toNat_of_nonneg (by omega)).symm (by omega)) ?_
        | refine VA.take (i := 6) rfl (by kernel_rfl) (by kernel_rfl) (by kernel_rfl) rfl rfl (OpV.indexAddr_o rfl Tryd.underlying70 Tryd.sizeOf9 rfl rfl rfl (by omega)) ?_
        | refine VA.take (i := 6) rfl (by kernel_rfl) (by kernel_rfl) (by kernel_rfl) rfl rfl (OpV.indexAddr_o rfl Tryd.underlying70 Tryd.sizeOf9 rfl rfl (Int.toNat_of_nonneg (by omega)).symm (by omega)) ?_
        | refine VA.take (i := 6) rfl (by kernel_rfl) (by kernel_rfl) (by kernel_rfl) rfl rfl (OpV.indexAddr_q rfl Tryd.underlying70 Tryd.sizeOf9 rfl rfl rfl (by omega)) ?_
        | refine VA.take (i := 6) rfl (by kernel_rfl) (by kernel_rfl) (by kernel_rfl) rfl rfl (OpV.indexAddr_q rfl Tryd.underlying70 Tryd.sizeOf9 rfl rfl (Int.toNat_of_nonneg (by omega)).symm (by omega)) ?_
        | refine VA.take (i := 6) rfl (by kernel_rfl) (by kernel_rfl) (by kernel_rfl) rfl rfl (OpV.indexAddr_im rfl Tryd.underlying70 Tryd.sizeOf9 rfl rfl (by omega) (by omega)) ?_
      refine VA.take (i := 7) rfl (by kernel_rfl) (by kernel_rfl) (by kernel_rfl) rfl rfl (OpV.load_at rfl hB OutW.wi0 Tryd.isAgg9 rfl rfl) ?_
      refine VA.take (i := 8) rfl (by kernel_rfl) (by kernel_rfl) (by kernel_rfl) rfl rfl (OpV.sneq rfl rfl rfl) ?_
      refine VA.done (by kernel_rfl) ?_
      show VC _ _ _ _ _
      refine VC.cond rfl (fun h2b => ?_) (fun h2b => ?_)
      · have h2 := h2b
        try simp only [decide_eq_true_eq, decide_eq_false_iff_not, Bool.not_eq_true', Bool.not_eq_false', Int.not_lt, Int.not_le] at h2
        refine VC.seq ?_
        refine VC.region ?_
        refine VO.val rfl rfl (OpV.move (.inr rfl) rfl) ?_
        refine VO.nil ?_
        show VC _ _ _ _ _
        refine VC.ret ?_
        exact Exists.intro _ (And.intro (RetN.one Tryd.results36 (ResN.v rfl)) (by first | rw [eqLs_len (by omega)] | rw [eqLs_at (d := ByteArray.empty) (q := q) (by omega) (not_true_false h2b)] | rw [eqLs_all (d := ByteArray.empty) (by omega) (fun j hj => hn j (by omega))]))
      · have h2 := h2b
        try simp only [decide_eq_true_eq, decide_eq_false_iff_not, Bool.not_eq_true', Bool.not_eq_false', Int.not_lt, Int.not_le] at h2
        refine VC.skip ?_
        show VC _ _ _ _ _
        refine VC.region ?_
        refine VO.val rfl rfl (OpV.add rfl rfl rfl (by unfold fits; omega)) ?_
        refine VO.val rfl rfl (OpV.move (.inl rfl) rfl) ?_
        refine VO.nil ?_
        exact Exists.intro (⟨q + 1, by omega, lt_succ_cases hn (not_false_true h2b)⟩) (And.intro (Le.mk hB [] ⟨rfl, rfl, rfl, rfl, trivial⟩ rfl rfl (Nat.le_refl _)) (by first | omega | (show _ < _; omega) | (simp only []; omega)))
    · have aH2 := aH2b
      try simp only [decide_eq_true_eq, decide_eq_false_iff_not, Bool.not_eq_true', Bool.not_eq_false', Int.not_lt, Int.not_le] at aH2
      refine VC.exit ?_
      show VC _ _ _ _ _
      refine VC.seq ?_
      refine VC.region ?_
      refine VO.val rfl rfl (OpV.move (.inr rfl) rfl) ?_
      refine VO.nil ?_
      show VC _ _ _ _ _
      refine VC.ret ?_
      exact Exists.intro _ (And.intro (RetN.one Tryd.results36 (ResN.v rfl)) (by first | rw [eqLs_len (by omega)] | rw [eqLs_at (d := ByteArray.empty) (q := q) (by omega) (not_true_false h2b)] | rw [eqLs_all (d := ByteArray.empty) (by omega) (fun j hj => hn j (by omega))]))
end Go.Proofs.YtgikefjbdhnffaaDoor
