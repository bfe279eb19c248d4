/- The order of strings; binary search in a sorted list of strings. -/
import Derived.Test.YtdemlenodablfaaDoorMach
namespace Go.Proofs.YtdemlenodablfaaDoor
open Go.RowKit
set_option linter.unusedVariables false
set_option linter.unusedSimpArgs false

theorem bl_irr : ∀ x : List UInt8, Op.bytesLess x x = false
  | [] => rfl
  | a :: x => by
    rw [Op.bytesLess, bl_irr x]
    have : ¬ a < a := by rw [UInt8.lt_iff_toNat_lt]; omega
    simp [this]
theorem bl_trans : ∀ {x y z : List UInt8}, Op.bytesLess x y = true → Op.bytesLess y z = true → Op.bytesLess x z = true
  | _, [], _, h, _ => by simp [Op.bytesLess] at h
  | _, _ :: _, [], _, h => by simp [Op.bytesLess] at h
  | [], _ :: _, _ :: _, _, _ => rfl
  | a :: x, b :: y, c :: z, h1, h2 => by
    simp only [Op.bytesLess, Bool.or_eq_true, decide_eq_true_eq, Bool.and_eq_true, beq_iff_eq, UInt8.lt_iff_toNat_lt] at h1 h2 ⊢
    rcases h1 with h1 | ⟨rfl, h1⟩
    · rcases h2 with h2 | ⟨rfl, h2⟩
      · exact .inl (by omega)
      · exact .inl h1
    · rcases h2 with h2 | ⟨rfl, h2⟩
      · exact .inl h2
      · exact .inr ⟨rfl, bl_trans h1 h2⟩
theorem bl_total : ∀ {x y : List UInt8}, Op.bytesLess x y = false → x ≠ y → Op.bytesLess y x = true
  | [], [], _, h => absurd rfl h
  | _ :: _, [], _, _ => rfl
  | [], _ :: _, h, _ => by simp [Op.bytesLess] at h
  | a :: x, b :: y, h, hne => by
    simp only [Op.bytesLess, Bool.or_eq_false_iff, decide_eq_false_iff_not, Bool.and_eq_false_iff, beq_eq_false_iff_ne, UInt8.lt_iff_toNat_lt, Bool.or_eq_true, decide_eq_true_eq, Bool.and_eq_true, beq_iff_eq] at h ⊢
    by_cases hab : a = b
    · subst hab
      have h2 : Op.bytesLess x y = false := by rcases h.2 with h2 | h2; exact absurd rfl h2; exact h2
      exact .inr ⟨rfl, bl_total h2 fun e => hne (by rw [e])⟩
    · left
      have : a.toNat ≠ b.toNat := fun e => hab (UInt8.toNat_inj.1 e)
      omega
theorem sLt_irr (p : ByteArray) : sLt p p = false := bl_irr _
theorem sLt_trans {p q r : ByteArray} (h1 : sLt p q = true) (h2 : sLt q r = true) : sLt p r = true := bl_trans h1 h2
theorem sLt_of_not {p q : ByteArray} (h : sLe p q = false) : sLt q p = true := by
  unfold sLe at h
  rw [Bool.or_eq_false_iff] at h
  refine bl_total h.1 fun e => ?_
  have : sEq p q = true := by unfold sEq; rw [e]; simp
  rw [this] at h; cases h.2
theorem sEq_refl (p : ByteArray) : sEq p p = true := sEq_eq.2 rfl
theorem sEq_comm (p q : ByteArray) : sEq p q = sEq q p := by
  rw [Bool.eq_iff_iff, sEq_eq, sEq_eq]; exact ⟨Eq.symm, Eq.symm⟩

/-- Ascending. -/
def SortS (l : List ByteArray) : Prop := ∀ a b, a < b → b < l.length → sLt (l.getD a ByteArray.empty) (l.getD b ByteArray.empty) = true
theorem canF_sort {l : List ByteArray} (h : canF l = 0) : SortS l := by
  intro a b hab hb
  have hl : ¬ 1000 < l.length := fun e => by rw [canF_big e] at h; cases h
  rw [canF, if_neg hl] at h
  have step : ∀ i, 0 < i → i < l.length → sLt (l.getD (i - 1) ByteArray.empty) (l.getD i ByteArray.empty) = true := fun i hi hil => by
    have he := firstE_zero h i hil
    apply sLt_of_not
    rw [canE] at he
    split at he
    · cases he
    · split at he
      · cases he
      · rename_i hc
        cases hs : sLe (l.getD i ByteArray.empty) (l.getD (i - 1) ByteArray.empty) with
        | false => rfl
        | true => exact absurd (by rw [hs, decide_eq_true hi]; rfl) hc
  induction b with
  | zero => omega
  | succ b ih =>
    have h1 := step (b + 1) (by omega) hb
    rw [Nat.add_sub_cancel] at h1
    by_cases hab' : a = b
    · subst hab'; exact h1
    · exact sLt_trans (ih (by omega) (by omega)) h1
theorem canF_keys {l : List ByteArray} (h : canF l = 0) : l.length ≤ 1000 := by
  have hl : ¬ 1000 < l.length := fun e => by rw [canF_big e] at h; cases h
  omega

section
variable {xs : List ByteArray} {v : ByteArray} {i : Nat}
theorem bs_found (hi : i < xs.length) (h : sEq (xs.getD i ByteArray.empty) v = true) : xs.any (fun x => sEq v x) = true :=
  any_found (d := ByteArray.empty) hi (by rw [sEq_comm]; exact h)
theorem bs_not (hs : SortS xs) (h1 : ∀ k, k < i → sLt (xs.getD k ByteArray.empty) v = true) (h2 : ∀ k, i ≤ k → k < xs.length → sLt (xs.getD k ByteArray.empty) v = false) (hi : xs.length ≤ i ∨ sEq (xs.getD i ByteArray.empty) v = false) :
    xs.any (fun x => sEq v x) = false := any_none (d := ByteArray.empty) fun j hj => by
  cases h : sEq v (xs.getD j ByteArray.empty) with
  | false => rfl
  | true =>
    have e := sEq_eq.1 h
    by_cases hji : j < i
    · have := h1 j hji
      rw [← e, sLt_irr] at this; cases this
    · have hj' := h2 j (by omega) hj
      rcases hi with hi | hi
      · omega
      · by_cases hij : j = i
        · subst hij; rw [← e, sEq_refl] at hi; cases hi
        · have := hs i j (by omega) hj
          rw [← e] at this
          have h3 := h2 i (Nat.le_refl _) (by omega)
          rw [this] at h3; cases h3
theorem bs_lo (hs : SortS xs) {h : Nat} (hh : h < xs.length) (hlt : sLt (xs.getD h ByteArray.empty) v = true) : ∀ k, k < h + 1 → sLt (xs.getD k ByteArray.empty) v = true := fun k hk => by
  by_cases e : k = h
  · rw [e]; exact hlt
  · exact sLt_trans (hs k h (by omega) hh) hlt
theorem bs_hi (hs : SortS xs) {h : Nat} (hlt : sLt (xs.getD h ByteArray.empty) v = false) : ∀ k, h ≤ k → k < xs.length → sLt (xs.getD k ByteArray.empty) v = false := fun k hk hkl => by
  by_cases e : k = h
  · rw [e]; exact hlt
  · cases h4 : sLt (xs.getD k ByteArray.empty) v with
    | false => rfl
    | true => rw [sLt_trans (hs h k (by omega) hkl) h4] at hlt; cases hlt
end
set_option maxRecDepth 100000 in
theorem slices_isNaN_str {p : ByteArray}  :
    SpecN Tryd.prog 67 [avS p] (fun y => y = avB false) := by
  refine SpecN.of_VCN Tryd.func67 rfl Tryd.ntmps67 (Nat.le_of_ble_eq_true rfl) fun w A hB => ?_
  have hnew : ∀ b, (B0 w A 6).S b → (B0 w A 6).str b := fun _ h => h.elim
  refine VC.seq ?_
  refine VC.region ?_
  refine VO.val rfl rfl (OpV.move (.inr rfl) rfl) ?_
  refine VO.nil ?_
  show VC _ _ _ _ _
  refine VC.seq ?_
  refine VC.region ?_
  refine VO.val rfl rfl (OpV.move (.inl rfl) rfl) ?_
  refine VO.val rfl rfl (OpV.move (.inl rfl) rfl) ?_
  refine VO.val rfl rfl (OpV.sneq rfl rfl rfl) ?_
  refine VO.val rfl rfl (OpV.move (.inr rfl) rfl) ?_
  refine VO.nil ?_
  show VC _ _ _ _ _
  refine VC.ret ?_
  exact Exists.intro _ (And.intro (RetN.one Tryd.results67 (ResN.v rfl)) (by rw [sEq_refl]; rfl))
set_option maxRecDepth 100000 in
theorem cmp_isNaN_str {p : ByteArray}  :
    SpecN Tryd.prog 75 [avS p] (fun y => y = avB false) := by
  refine SpecN.of_VCN Tryd.func75 rfl Tryd.ntmps75 (Nat.le_of_ble_eq_true rfl) fun w A hB => ?_
  have hnew : ∀ b, (B0 w A 6).S b → (B0 w A 6).str b := fun _ h => h.elim
  refine VC.seq ?_
  refine VC.region ?_
  refine VO.val rfl rfl (OpV.move (.inr rfl) rfl) ?_
  refine VO.nil ?_
  show VC _ _ _ _ _
  refine VC.seq ?_
  refine VC.region ?_
  refine VO.val rfl rfl (OpV.move (.inl rfl) rfl) ?_
  refine VO.val rfl rfl (OpV.move (.inl rfl) rfl) ?_
  refine VO.val rfl rfl (OpV.sneq rfl rfl rfl) ?_
  refine VO.val rfl rfl (OpV.move (.inr rfl) rfl) ?_
  refine VO.nil ?_
  show VC _ _ _ _ _
  refine VC.ret ?_
  exact Exists.intro _ (And.intro (RetN.one Tryd.results75 (ResN.v rfl)) (by rw [sEq_refl]; rfl))
set_option maxRecDepth 100000 in
theorem cmp_Less_str {p q : ByteArray}  :
    SpecN Tryd.prog 66 [avS p, avS q] (fun y => y = avB (sLt p q)) := by
  refine SpecN.of_VCN Tryd.func66 rfl Tryd.ntmps66 (Nat.le_of_ble_eq_true rfl) fun w A hB => ?_
  have hnew : ∀ b, (B0 w A 17).S b → (B0 w A 17).str b := fun _ h => h.elim
  refine VC.seq ?_
  refine VC.region ?_
  refine VO.val rfl rfl (OpV.move (.inr rfl) rfl) ?_
  refine VO.nil ?_
  show VC _ _ _ _ _
  refine VC.seq ?_
  refine VC.region ?_
  refine VO.val rfl rfl (OpV.move (.inl rfl) rfl) ?_
  refine VO.op rfl (OpE.call rfl hB rfl Tryd.call75 rfl (SpecN.spec (cmp_isNaN_str)) ?_)
  rintro _ rfl
  refine VO.val rfl rfl (OpV.move (.inl rfl) rfl) ?_
  refine VO.opX rfl rfl rfl rfl rfl ?_
  refine VO.opX rfl rfl rfl rfl rfl ?_
  refine VO.opX rfl rfl rfl rfl rfl ?_
  refine VO.val rfl rfl (OpV.pickF rfl rfl rfl rfl rfl) ?_
  refine VO.val rfl rfl (OpV.move (.inl rfl) rfl) ?_
  refine VO.opY rfl rfl rfl rfl rfl ?_
  refine OpE.val (W := NoB) (OpV.move (.inl rfl) rfl) rfl ?_
  refine VO.opY rfl rfl rfl rfl rfl ?_
  refine OpE.val (W := NoB) (OpV.move (.inl rfl) rfl) rfl ?_
  refine VO.opY rfl rfl rfl rfl rfl ?_
  refine OpE.val (W := NoB) (OpV.slss rfl rfl rfl) rfl ?_
  refine VO.val rfl rfl (OpV.pickF rfl rfl rfl rfl rfl) ?_
  refine VO.val rfl rfl (OpV.move (.inr rfl) rfl) ?_
  refine VO.nil ?_
  show VC _ _ _ _ _
  refine VC.ret ?_
  exact Exists.intro _ (And.intro (RetN.one Tryd.results66 (ResN.v rfl)) (rfl))
set_option maxRecDepth 100000 in
theorem slices_BinarySearch_str {xs : List ByteArray} {v : ByteArray} (hl : xs.length ≤ 1000000000) (hs : SortS xs) :
    Spec Tryd.prog 54 [avStrs xs, avS v] (fun y => ∃ (n : Int), y = .tup [avI n, avB (xs.any fun x => sEq v x)]) := by
  refine Spec.of_VC Tryd.func54 rfl Tryd.ntmps54 (Nat.le_of_ble_eq_true rfl) fun w A hB => ?_
  have hnew : ∀ b, (B0 w A 54).S b → (B0 w A 54).str b := fun _ h => h.elim
  refine VC.seq ?_
  refine VC.region ?_
  refine VO.val rfl rfl (OpV.move (.inr rfl) rfl) ?_
  refine VO.val rfl rfl (OpV.move (.inr rfl) rfl) ?_
  refine VO.nil ?_
  show VC _ _ _ _ _
  refine VC.seq ?_
  refine VC.region ?_
  refine VO.val rfl rfl (OpV.move (.inl rfl) rfl) ?_
  first
    | refine VO.val rfl rfl (OpV.len_im rfl Tryd.underlying52 rfl) ?_
    | refine VO.val rfl rfl (OpV.len_v rfl Tryd.underlying52 rfl) ?_
  refine VO.val rfl rfl (OpV.move (.inr rfl) rfl) ?_
  refine VO.nil ?_
  show VC _ _ _ _ _
  refine VC.seq ?_
  refine VC.region ?_
  refine VO.val rfl rfl (OpV.move (.inl rfl) rfl) ?_
  refine VO.val rfl rfl (OpV.move (.inr rfl) rfl) ?_
  refine VO.val rfl rfl (OpV.move (.inr rfl) rfl) ?_
  refine VO.nil ?_
  show VC _ _ _ _ _
  refine VC.seq ?_
  refine VC.block ?_
  refine VC.loop' ({p : Nat × Nat // (p.1 ≤ p.2 ∧ p.2 ≤ xs.length) ∧ (∀ k, k < p.1 → sLt (xs.getD k ByteArray.empty) v = true) ∧ (∀ k, p.2 ≤ k → k < xs.length → sLt (xs.getD k ByteArray.empty) v = false)}) (fun (i : {p : Nat × Nat // (p.1 ≤ p.2 ∧ p.2 ≤ xs.length) ∧ (∀ k, k < p.1 → sLt (xs.getD k ByteArray.empty) v = true) ∧ (∀ k, p.2 ≤ k → k < xs.length → sLt (xs.getD k ByteArray.empty) v = false)}) => match i with | ⟨⟨i, j⟩, ⟨hij, hj⟩, h1, h2⟩ => ⟨[(0, avStrs xs), (1, avS v), (6, avI xs.length), (7, avI (i : Int)), (8, avI (j : Int))], [], 0⟩) (fun (i : {p : Nat × Nat // (p.1 ≤ p.2 ∧ p.2 ≤ xs.length) ∧ (∀ k, k < p.1 → sLt (xs.getD k ByteArray.empty) v = true) ∧ (∀ k, p.2 ≤ k → k < xs.length → sLt (xs.getD k ByteArray.empty) v = false)}) => match i with | ⟨⟨i, j⟩, ⟨hij, hj⟩, h1, h2⟩ => j - i) ⟨(0, xs.length), ⟨by omega, by omega⟩, fun k hk => absurd hk (Nat.not_lt_zero k), fun k hk hk' => absurd hk' (by omega)⟩ (Le.mk hB [] ⟨rfl, rfl, rfl, rfl, rfl, trivial⟩ rfl rfl (Nat.le_refl _)) ?_
  rintro ⟨⟨i, j⟩, ⟨hij, hj⟩, h1, h2⟩
  show VC _ _ _ _ ⟨[(0, avStrs xs), (1, avS v), (6, avI xs.length), (7, avI (i : Int)), (8, avI (j : Int))], [], 0⟩
  simp only at hij hj h1 h2
  refine VC.seq ?_
  refine VC.seq ?_
  refine VC.region ?_
  refine VO.val rfl rfl (OpV.move (.inl rfl) rfl) ?_
  refine VO.val rfl rfl (OpV.move (.inl rfl) rfl) ?_
  refine VO.val rfl rfl (OpV.lss rfl rfl rfl) ?_
  refine VO.nil ?_
  show VC _ _ _ _ _
  refine VC.cond rfl (fun aH1b => ?_) (fun aH1b => ?_)
  · have aH1 := aH1b
    try simp only [decide_eq_true_eq, decide_eq_false_iff_not, Bool.not_eq_true', Bool.not_eq_false', Int.not_lt, Int.not_le] at aH1
    refine VC.skip ?_
    show VC _ _ _ _ _
    refine VC.block ?_
    refine VC.seq ?_
    refine VC.region ?_
    refine VO.val rfl rfl (OpV.move (.inl rfl) rfl) ?_
    refine VO.val rfl rfl (OpV.move (.inl rfl) rfl) ?_
    refine VO.val rfl rfl (OpV.add rfl rfl rfl (by unfold fits; omega)) ?_
    refine VO.val rfl rfl (OpV.conv rfl Tryd.underlying3 Tryd.underlying98 rfl (IntWalk.u64_in _ (by omega))) ?_
    refine VO.val rfl rfl (OpV.shr1 rfl rfl rfl rfl (by omega)) ?_
    refine VO.val rfl rfl (OpV.conv rfl Tryd.underlying98 Tryd.underlying3 rfl (IntWalk.i64_in _ (by omega))) ?_
    refine VO.val rfl rfl (OpV.move (.inr rfl) rfl) ?_
    refine VO.nil ?_
    show VC _ _ _ _ _
    refine VC.seq ?_
    refine VC.region ?_
    refine VO.val rfl rfl (OpV.move (.inl rfl) rfl) ?_
    refine VO.val rfl rfl (OpV.move (.inl rfl) rfl) ?_
    first
      | refine VO.val rfl rfl (OpV.indexAddr_1 rfl Tryd.underlying52 Tryd.sizeOf9 rfl rfl rfl (by omega)) ?_
      | refine VO.val rfl rfl (OpV.indexAddr_1 rfl Tryd.underlying52 Tryd.sizeOf9 rfl rfl (Int.toNat_of_nonneg (by omega)).symm (by omega)) ?_
      | refine VO.val rfl rfl (OpV.indexAddr_o rfl Tryd.underlying52 Tryd.sizeOf9 rfl rfl rfl (by omega)) ?_
      | refine VO.val rfl rfl (OpV.indexAddr_o rfl Tryd.underlying52 Tryd.sizeOf9 rfl rfl (Int.toNat_of_nonneg (by omega)).symm (by omega)) ?_
      | refine VO.val rfl rfl (OpV.indexAddr_q rfl Tryd.underlying52 Tryd.sizeOf9 rfl rfl rfl (by omega)) ?_
      | refine VO.val rfl rfl (OpV.indexAddr_q rfl Tryd.underlying52 Tryd.sizeOf9 rfl rfl (Int.toNat_of_nonneg (by omega)).symm (by omega)) ?_
      | refine VO.val rfl rfl (OpV.indexAddr_im rfl Tryd.underlying52 Tryd.sizeOf9 rfl rfl (by omega) (by omega)) ?_
    refine VO.val rfl rfl (OpV.load_at rfl hB OutW.no Tryd.isAgg9 rfl rfl) ?_
    refine VO.val rfl rfl (OpV.move (.inl rfl) rfl) ?_
    refine VO.op rfl (OpE.call rfl hB rfl Tryd.call66 rfl (SpecN.spec (cmp_Less_str)) ?_)
    rintro _ rfl
    refine VO.nil ?_
    show VC _ _ _ _ _
    refine VC.cond rfl (fun hltb => ?_) (fun hltb => ?_)
    · have hlt := hltb
      try simp only [decide_eq_true_eq, decide_eq_false_iff_not, Bool.not_eq_true', Bool.not_eq_false', Int.not_lt, Int.not_le] at hlt
      refine VC.region ?_
      refine VO.val rfl rfl (OpV.move (.inl rfl) rfl) ?_
      refine VO.val rfl rfl (OpV.add rfl rfl rfl (by unfold fits; omega)) ?_
      refine VO.val rfl rfl (OpV.move (.inr rfl) rfl) ?_
      refine VO.nil ?_
      first
        | exact Exists.intro (⟨((((i : Int) + j) / 2).toNat + 1, j), ⟨by show _ + 1 ≤ _; omega, hj⟩, bs_lo hs (by omega) hlt, h2⟩) (And.intro (Le.mk hB [] ⟨rfl, rfl, rfl, (by first | rfl | exact congrArg (fun z => some (avI z)) (by omega)), (by first | rfl | exact congrArg (fun z => some (avI z)) (by omega)), trivial⟩ rfl rfl (Nat.le_refl _)) (by first | omega | (show _ < _; omega) | (simp only []; omega)))
        | exact Exists.intro (⟨(i, (((i : Int) + j) / 2).toNat), ⟨by show _ ≤ _; omega, by show _ ≤ _; omega⟩, h1, fun k hk => bs_hi hs hlt k hk⟩) (And.intro (Le.mk hB [] ⟨rfl, rfl, rfl, (by first | rfl | exact congrArg (fun z => some (avI z)) (by omega)), (by first | rfl | exact congrArg (fun z => some (avI z)) (by omega)), trivial⟩ rfl rfl (Nat.le_refl _)) (by first | omega | (show _ < _; omega) | (simp only []; omega)))
    · have hlt := hltb
      try simp only [decide_eq_true_eq, decide_eq_false_iff_not, Bool.not_eq_true', Bool.not_eq_false', Int.not_lt, Int.not_le] at hlt
      refine VC.region ?_
      refine VO.val rfl rfl (OpV.move (.inl rfl) rfl) ?_
      refine VO.val rfl rfl (OpV.move (.inr rfl) rfl) ?_
      refine VO.nil ?_
      first
        | exact Exists.intro (⟨((((i : Int) + j) / 2).toNat + 1, j), ⟨by show _ + 1 ≤ _; omega, hj⟩, bs_lo hs (by omega) hlt, h2⟩) (And.intro (Le.mk hB [] ⟨rfl, rfl, rfl, (by first | rfl | exact congrArg (fun z => some (avI z)) (by omega)), (by first | rfl | exact congrArg (fun z => some (avI z)) (by omega)), trivial⟩ rfl rfl (Nat.le_refl _)) (by first | omega | (show _ < _; omega) | (simp only []; omega)))
        | exact Exists.intro (⟨(i, (((i : Int) + j) / 2).toNat), ⟨by show _ ≤ _; omega, by show _ ≤ _; omega⟩, h1, fun k hk => bs_hi hs hlt k hk⟩) (And.intro (Le.mk hB [] ⟨rfl, rfl, rfl, (by first | rfl | exact congrArg (fun z => some (avI z)) (by omega)), (by first | rfl | exact congrArg (fun z => some (avI z)) (by omega)), trivial⟩ rfl rfl (Nat.le_refl _)) (by first | omega | (show _ < _; omega) | (simp only []; omega)))
  · have aH1 := aH1b
    try simp only [decide_eq_true_eq, decide_eq_false_iff_not, Bool.not_eq_true', Bool.not_eq_false', Int.not_lt, Int.not_le] at aH1
    refine VC.exit ?_
    show VC _ _ _ _ _
    refine VC.seq ?_
    refine VC.region ?_
    refine VO.val rfl rfl (OpV.move (.inl rfl) rfl) ?_
    refine VO.val rfl rfl (OpV.move (.inl rfl) rfl) ?_
    refine VO.val rfl rfl (OpV.move (.inl rfl) rfl) ?_
    refine VO.val rfl rfl (OpV.lss rfl rfl rfl) ?_
    refine VO.val rfl rfl (OpV.move (.inl rfl) rfl) ?_
    refine VO.opG rfl rfl rfl rfl (fun aK2b => ?_) (fun aK2b => ?_)
    · replace aK2b : _ = true := aK2b
      have aK2 := aK2b
      try simp only [decide_eq_true_eq, decide_eq_false_iff_not, Bool.not_eq_true', Bool.not_eq_false', Int.not_lt, Int.not_le] at aK2
      refine OpE.val (W := NoB) (OpV.move (.inl rfl) rfl) rfl ?_
      refine VO.opY rfl rfl rfl rfl aK2b ?_
      refine OpE.val (W := NoB) (OpV.move (.inl rfl) rfl) rfl ?_
      refine VO.opY rfl rfl rfl rfl aK2b ?_
      first
        | refine OpE.val (W := NoB) (OpV.indexAddr_1 rfl Tryd.underlying52 Tryd.sizeOf9 rfl rfl rfl (by omega)) rfl ?_
        | refine OpE.val (W := NoB) (OpV.indexAddr_1 rfl Tryd.underlying52 Tryd.sizeOf9 rfl rfl (Int.toNat_of_nonneg (by omega)).symm (by omega)) rfl ?_
        | refine OpE.val (W := NoB) (OpV.indexAddr_o rfl Tryd.underlying52 Tryd.sizeOf9 rfl rfl rfl (by omega)) rfl ?_
        | refine OpE.val (W := NoB) (OpV.indexAddr_o rfl Tryd.underlying52 Tryd.sizeOf9 rfl rfl (Int.toNat_of_nonneg (by omega)).symm (by omega)) rfl ?_
        | refine OpE.val (W := NoB) (OpV.indexAddr_q rfl Tryd.underlying52 Tryd.sizeOf9 rfl rfl rfl (by omega)) rfl ?_
        | refine OpE.val (W := NoB) (OpV.indexAddr_q rfl Tryd.underlying52 Tryd.sizeOf9 rfl rfl (Int.toNat_of_nonneg (by omega)).symm (by omega)) rfl ?_
        | refine OpE.val (W := NoB) (OpV.indexAddr_im rfl Tryd.underlying52 Tryd.sizeOf9 rfl rfl (by omega) (by omega)) rfl ?_
      refine VO.opY rfl rfl rfl rfl aK2b ?_
      refine OpE.val (W := NoB) (OpV.load_at rfl hB OutW.no Tryd.isAgg9 rfl rfl) rfl ?_
      refine VO.opY rfl rfl rfl rfl aK2b ?_
      refine OpE.val (W := NoB) (OpV.move (.inl rfl) rfl) rfl ?_
      refine VO.opY rfl rfl rfl rfl aK2b ?_
      refine OpE.val (W := NoB) (OpV.seql rfl rfl rfl) rfl ?_
      refine VO.opY rfl rfl rfl rfl aK2b ?_
      refine OpE.val (W := NoB) (OpV.move (.inl rfl) rfl) rfl ?_
      refine VO.opG rfl rfl rfl rfl (fun aK3b => ?_) (fun aK3b => ?_)
      · replace aK3b : _ = false := aK3b
        have aK3 := aK3b
        try simp only [decide_eq_true_eq, decide_eq_false_iff_not, Bool.not_eq_true', Bool.not_eq_false', Int.not_lt, Int.not_le] at aK3
        refine OpE.val (W := NoB) (OpV.move (.inl rfl) rfl) rfl ?_
        refine VO.opY rfl rfl rfl rfl aK3b ?_
        refine OpE.val (W := NoB) (OpV.move (.inl rfl) rfl) rfl ?_
        refine VO.opY rfl rfl rfl rfl aK3b ?_
        first
          | refine OpE.val (W := NoB) (OpV.indexAddr_1 rfl Tryd.underlying52 Tryd.sizeOf9 rfl rfl rfl (by omega)) rfl ?_
          | refine OpE.val (W := NoB) (OpV.indexAddr_1 rfl Tryd.underlying52 Tryd.sizeOf9 rfl rfl (Int.toNat_of_nonneg (by omega)).symm (by omega)) rfl ?_
          | refine OpE.val (W := NoB) (OpV.indexAddr_o rfl Tryd.underlying52 Tryd.sizeOf9 rfl rfl rfl (by omega)) rfl ?_
          | refine OpE.val (W := NoB) (OpV.indexAddr_o rfl Tryd.underlying52 Tryd.sizeOf9 rfl rfl (Int.toNat_of_nonneg (by omega)).symm (by omega)) rfl ?_
          | refine OpE.val (W := NoB) (OpV.indexAddr_q rfl Tryd.underlying52 Tryd.sizeOf9 rfl rfl rfl (by omega)) rfl ?_
          | refine OpE.val (W := NoB) (OpV.indexAddr_q rfl Tryd.underlying52 Tryd.sizeOf9 rfl rfl (Int.toNat_of_nonneg (by omega)).symm (by omega)) rfl ?_
          | refine OpE.val (W := NoB) (OpV.indexAddr_im rfl Tryd.underlying52 Tryd.sizeOf9 rfl rfl (by omega) (by omega)) rfl ?_
        refine VO.opY rfl rfl rfl rfl aK3b ?_
        refine OpE.val (W := NoB) (OpV.load_at rfl hB OutW.no Tryd.isAgg9 rfl rfl) rfl ?_
        refine VO.opY rfl rfl rfl rfl aK3b ?_
        refine OpE.call rfl hB rfl Tryd.call67 rfl (SpecN.spec (slices_isNaN_str)) ?_
        rintro _ rfl
        refine VO.opY rfl rfl rfl rfl aK3b ?_
        refine OpE.val (W := NoB) (OpV.move (.inl rfl) rfl) rfl ?_
        refine VO.opX rfl rfl rfl rfl rfl ?_
        refine VO.opX rfl rfl rfl rfl rfl ?_
        refine VO.opY rfl rfl rfl rfl aK3b ?_
        refine OpE.val (W := NoB) (OpV.pickF rfl rfl rfl rfl rfl) rfl ?_
        refine VO.opY rfl rfl rfl rfl aK2b ?_
        refine OpE.val (W := NoB) (OpV.pickF rfl rfl rfl rfl aK3b) rfl ?_
        refine VO.val rfl rfl (OpV.pickT rfl rfl rfl rfl aK2b) ?_
        refine VO.val rfl rfl (OpV.move (.inr rfl) rfl) ?_
        refine VO.val rfl rfl (OpV.move (.inr rfl) rfl) ?_
        refine VO.nil ?_
        show VC _ _ _ _ _
        refine VC.ret ?_
        exact Exists.intro _ (And.intro (RetV.two Tryd.results54 (ResV.tmp rfl) (ResV.tmp rfl)) (by first | exact ⟨(i : Int), by rw [bs_found (i := i) (by omega) (by assumption)]⟩ | exact ⟨(i : Int), by rw [bs_not (i := i) hs h1 (fun k hk => h2 k (by omega)) (.inl (by omega))]⟩ | exact ⟨(i : Int), by rw [bs_not (i := i) hs h1 (fun k hk => h2 k (by omega)) (.inr (by assumption))]⟩))
      · replace aK3b : _ = true := aK3b
        have aK3 := aK3b
        try simp only [decide_eq_true_eq, decide_eq_false_iff_not, Bool.not_eq_true', Bool.not_eq_false', Int.not_lt, Int.not_le] at aK3
        refine VO.opX rfl rfl rfl rfl aK3b ?_
        refine VO.opX rfl rfl rfl rfl aK3b ?_
        refine VO.opX rfl rfl rfl rfl aK3b ?_
        refine VO.opX rfl rfl rfl rfl aK3b ?_
        refine VO.opX rfl rfl rfl rfl aK3b ?_
        refine VO.opU rfl rfl rfl rfl ?_
        refine VO.opU rfl rfl rfl rfl ?_
        refine VO.opX rfl rfl rfl rfl aK3b ?_
        refine VO.opY rfl rfl rfl rfl aK2b ?_
        refine OpE.val (W := NoB) (OpV.pickT rfl rfl rfl rfl aK3b) rfl ?_
        refine VO.val rfl rfl (OpV.pickT rfl rfl rfl rfl aK2b) ?_
        refine VO.val rfl rfl (OpV.move (.inr rfl) rfl) ?_
        refine VO.val rfl rfl (OpV.move (.inr rfl) rfl) ?_
        refine VO.nil ?_
        show VC _ _ _ _ _
        refine VC.ret ?_
        exact Exists.intro _ (And.intro (RetV.two Tryd.results54 (ResV.tmp rfl) (ResV.tmp rfl)) (by first | exact ⟨(i : Int), by rw [bs_found (i := i) (by omega) (by assumption)]⟩ | exact ⟨(i : Int), by rw [bs_not (i := i) hs h1 (fun k hk => h2 k (by omega)) (.inl (by omega))]⟩ | exact ⟨(i : Int), by rw [bs_not (i := i) hs h1 (fun k hk => h2 k (by omega)) (.inr (by assumption))]⟩))
    · replace aK2b : _ = false := aK2b
      have aK2 := aK2b
      try simp only [decide_eq_true_eq, decide_eq_false_iff_not, Bool.not_eq_true', Bool.not_eq_false', Int.not_lt, Int.not_le] at aK2
      refine VO.opX rfl rfl rfl rfl aK2b ?_
      refine VO.opX rfl rfl rfl rfl aK2b ?_
      refine VO.opX rfl rfl rfl rfl aK2b ?_
      refine VO.opX rfl rfl rfl rfl aK2b ?_
      refine VO.opX rfl rfl rfl rfl aK2b ?_
      refine VO.opX rfl rfl rfl rfl aK2b ?_
      refine VO.opU rfl rfl rfl rfl ?_
      refine VO.opU rfl rfl rfl rfl ?_
      refine VO.opU rfl rfl rfl rfl ?_
      refine VO.opU rfl rfl rfl rfl ?_
      refine VO.opU rfl rfl rfl rfl ?_
      refine VO.opU rfl rfl rfl rfl ?_
      refine VO.opU rfl rfl rfl rfl ?_
      refine VO.opU rfl rfl rfl rfl ?_
      refine VO.opU rfl rfl rfl rfl ?_
      refine VO.opX rfl rfl rfl rfl aK2b ?_
      refine VO.val rfl rfl (OpV.pickF rfl rfl rfl rfl aK2b) ?_
      refine VO.val rfl rfl (OpV.move (.inr rfl) rfl) ?_
      refine VO.val rfl rfl (OpV.move (.inr rfl) rfl) ?_
      refine VO.nil ?_
      show VC _ _ _ _ _
      refine VC.ret ?_
      exact Exists.intro _ (And.intro (RetV.two Tryd.results54 (ResV.tmp rfl) (ResV.tmp rfl)) (by first | exact ⟨(i : Int), by rw [bs_found (i := i) (by omega) (by assumption)]⟩ | exact ⟨(i : Int), by rw [bs_not (i := i) hs h1 (fun k hk => h2 k (by omega)) (.inl (by omega))]⟩ | exact ⟨(i : Int), by rw [bs_not (i := i) hs h1 (fun k hk => h2 k (by omega)) (.inr (by assumption))]⟩))
end Go.Proofs.YtdemlenodablfaaDoor
