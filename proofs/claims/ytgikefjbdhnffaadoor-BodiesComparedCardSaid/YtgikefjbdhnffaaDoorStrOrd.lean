/- The order of strings; binary search in a sorted list of strings. -/
import Derived.Test.YtgikefjbdhnffaaDoorMach
namespace Go.Proofs.YtgikefjbdhnffaaDoor
open Go.RowKit
set_option linter.unusedVariables false
set_option linter.unusedSimpArgs false

theorem bl_irr : ∀ x : List UInt8, Op.bytesLess x x = false
  | [] => rfl
  | a :: x => by
    rw [Op.bytesLess, bl_irr x]
    have : ¬ a < a := by rw [UInt8.lt_iff_toNat_lt]; omega
    simp [this]
theorem bl_trans : ∀ {x y z : List UInt8}, Op.bytesLess x y = true → Op.bytesLess y z = true → Op.bytesLess x z = true
  | _, [], _, h, _ => by simp [Op.bytesLess] at h
  | _, _ :: _, [], _, h => by simp [Op.bytesLess] at h
  | [], _ :: _, _ :: _, _, _ => rfl
  | a :: x, b :: y, c :: z, h1, h2 => by
    simp only [Op.bytesLess, Bool.or_eq_true, decide_eq_true_eq, Bool.and_eq_true, beq_iff_eq, UInt8.lt_iff_toNat_lt] at h1 h2 ⊢
    rcases h1 with h1 | ⟨rfl, h1⟩
    · rcases h2 with h2 | ⟨rfl, h2⟩
      · exact .inl (by omega)
      · exact .inl h1
    · rcases h2 with h2 | ⟨rfl, h2⟩
      · exact .inl h2
      · exact .inr ⟨rfl, bl_trans h1 h2⟩
theorem bl_total : ∀ {x y : List UInt8}, Op.bytesLess x y = false → x ≠ y → Op.bytesLess y x = true
  | [], [], _, h => absurd rfl h
  | _ :: _, [], _, _ => rfl
  | [], _ :: _, h, _ => by simp [Op.bytesLess] at h
  | a :: x, b :: y, h, hne => by
    simp only [Op.bytesLess, Bool.or_eq_false_iff, decide_eq_false_iff_not, Bool.and_eq_false_iff, beq_eq_false_iff_ne, UInt8.lt_iff_toNat_lt, Bool.or_eq_true, decide_eq_true_eq, Bool.and_eq_true, beq_iff_eq] at h ⊢
    by_cases hab : a = b
    · subst hab
      have h2 : Op.bytesLess x y = false := by rcases h.2 with h2 | h2; exact absurd rfl h2; exact h2
      exact .inr ⟨rfl, bl_total h2 fun e => hne (by rw [e])⟩
    · left
      have : a.toNat ≠ b.toNat := fun e => hab (UInt8.toNat_inj.1 e)
      omega
theorem sLt_irr (p : ByteArray) : sLt p p = false := bl_irr _
theorem sLt_trans {p q r : ByteArray} (h1 : sLt p q = true) (h2 : sLt q r = true) : sLt p r = true := bl_trans h1 h2
theorem sLt_of_not {p q : ByteArray} (h : sLe p q = false) : sLt q p = true := by
  unfold sLe at h
  rw [Bool.or_eq_false_iff] at h
  refine bl_total h.1 fun e => ?_
  have : sEq p q = true := by unfold sEq; rw [e]; simp
  rw [this] at h; cases h.2
theorem sEq_refl (p : ByteArray) : sEq p p = true := sEq_eq.2 rfl
theorem sEq_comm (p q : ByteArray) : sEq p q = sEq q p := by
  rw [Bool.eq_iff_iff, sEq_eq, sEq_eq]; exact ⟨Eq.symm, Eq.symm⟩

/-- Ascending. -/
def SortS (l : List ByteArray) : Prop := ∀ a b, a < b → b < l.length → sLt (l.getD a ByteArray.empty) (l.getD b ByteArray.empty) = true
theorem canF_sort {l : List ByteArray} (h : canF l = 0) : SortS l := by
  intro a b hab hb
  have hl : ¬ 1000 < l.length := fun e => by rw [canF_big e] at h; cases h
  rw [canF, if_neg hl] at h
  have step : ∀ i, 0 < i → i < l.length → sLt (l.getD (i - 1) ByteArray.empty) (l.getD i ByteArray.empty) = true := fun i hi hil => by
    have he := firstE_zero h i hil
    apply sLt_of_not
    rw [canE] at he
    split at he
    · cases he
    · split at he
      · cases he
      · rename_i hc
        cases hs : sLe (l.getD i ByteArray.empty) (l.getD (i - 1) ByteArray.empty) with
        | false => rfl
        | true => exact absurd (by rw [hs, decide_eq_true hi]; rfl) hc
  induction b with
  | zero => omega
  | succ b ih =>
    have h1 := step (b + 1) (by omega) hb
    rw [Nat.add_sub_cancel] at h1
    by_cases hab' : a = b
    · subst hab'; exact h1
    · exact sLt_trans (ih (by omega) (by omega)) h1
theorem canF_keys {l : List ByteArray} (h : canF l = 0) : l.length ≤ 1000 := by
  have hl : ¬ 1000 < l.length := fun e => by rw [canF_big e] at h; cases h
  omega

section
variable {xs : List ByteArray} {v : ByteArray} {i : Nat}
theorem bs_found (hi : i < xs.length) (h : sEq (xs.getD i ByteArray.empty) v = true) : xs.any (fun x => sEq v x) = true :=
  any_found (d := ByteArray.empty) hi (by rw [sEq_comm]; exact h)
theorem bs_not (hs : SortS xs) (h1 : ∀ k, k < i → sLt (xs.getD k ByteArray.empty) v = true) (h2 : ∀ k, i ≤ k → k < xs.length → sLt (xs.getD k ByteArray.empty) v = false) (hi : xs.length ≤ i ∨ sEq (xs.getD i ByteArray.empty) v = false) :
    xs.any (fun x => sEq v x) = false := any_none (d := ByteArray.empty) fun j hj => by
  cases h : sEq v (xs.getD j ByteArray.empty) with
  | false => rfl
  | true =>
    have e := sEq_eq.1 h
    by_cases hji : j < i
    · have := h1 j hji
      rw [← e, sLt_irr] at this; cases this
    · have hj' := h2 j (by omega) hj
      rcases hi with hi | hi
      · omega
      · by_cases hij : j = i
        · subst hij; rw [← e, sEq_refl] at hi; cases hi
        · have := hs i j (by omega) hj
          rw [← e] at this
          have h3 := h2 i (Nat.le_refl _) (by omega)
          rw [this] at h3; cases h3
theorem bs_lo (hs : SortS xs) {h : Nat} (hh : h < xs.length) (hlt : sLt (xs.getD h ByteArray.empty) v = true) : ∀ k, k < h + 1 → sLt (xs.getD k ByteArray.empty) v = true := fun k hk => by
  by_cases e : k = h
  · rw [e]; exact hlt
  · exact sLt_trans (hs k h (by omega) hh) hlt
theorem bs_hi (hs : SortS xs) {h : Nat} (hlt : sLt (xs.getD h ByteArray.empty) v = false) : ∀ k, h ≤ k → k < xs.length → sLt (xs.getD k ByteArray.empty) v = false := fun k hk hkl => by
  by_cases e : k = h
  · rw [e]; exact hlt
  · cases h4 : sLt (xs.getD k ByteArray.empty) v with
    | false => rfl
    | true => rw [sLt_trans (hs h k (by omega) hkl) h4] at hlt; cases hlt
end

set_option maxRecDepth 100000 in
theorem cmp_isNaN_str {p : ByteArray}  :
    SpecN Tryd.prog 118 [avS p] (fun y => y = avB false) := by
  refine SpecN.of_VCN Tryd.func118 rfl Tryd.ntmps118 (Nat.le_of_ble_eq_true rfl) fun w A hB => ?_
  have hnew : True := trivial
  refine VC.seq ?_
  refine VC.region ?_
  refine VO.val rfl rfl (OpV.move (.inr rfl) rfl) ?_
  refine VO.nil ?_
  show VC _ _ _ _ _
  refine VC.seq ?_
  refine VC.region ?_
  refine VO.val rfl rfl (OpV.move (.inl rfl) rfl) ?_
  refine VO.val rfl rfl (OpV.move (.inl rfl) rfl) ?_
  refine VO.val rfl rfl (OpV.sneq rfl rfl rfl) ?_
  refine VO.val rfl rfl (OpV.move (.inr rfl) rfl) ?_
  refine VO.nil ?_
  show VC _ _ _ _ _
  refine VC.ret ?_
  exact Exists.intro _ (And.intro (RetN.one Tryd.results118 (ResN.v rfl)) (by rw [sEq_refl]; rfl))
set_option maxRecDepth 100000 in
theorem cmp_Less_str {p q : ByteArray}  :
    SpecN Tryd.prog 103 [avS p, avS q] (fun y => y = avB (sLt p q)) := by
  refine SpecN.of_VCN Tryd.func103 rfl Tryd.ntmps103 (Nat.le_of_ble_eq_true rfl) fun w A hB => ?_
  have hnew : True := trivial
  refine VC.seq ?_
  refine VC.region ?_
  refine VO.val rfl rfl (OpV.move (.inr rfl) rfl) ?_
  refine VO.nil ?_
  show VC _ _ _ _ _
  refine VC.seq ?_
  refine VC.region ?_
  refine VO.val rfl rfl (OpV.move (.inl rfl) rfl) ?_
  refine VO.op rfl (OpE.call rfl hB rfl Tryd.call118 rfl (SpecN.spec (cmp_isNaN_str)) ?_)
  rintro _ rfl
  refine VO.val rfl rfl (OpV.move (.inl rfl) rfl) ?_
  refine VO.opX rfl rfl rfl rfl rfl ?_
  refine VO.opX rfl rfl rfl rfl rfl ?_
  refine VO.opX rfl rfl rfl rfl rfl ?_
  refine VO.val rfl rfl (OpV.pickF rfl rfl rfl rfl rfl) ?_
  refine VO.val rfl rfl (OpV.move (.inl rfl) rfl) ?_
  refine VO.opY rfl rfl rfl rfl rfl ?_
  refine OpE.val (W := NoB) (OpV.move (.inl rfl) rfl) rfl ?_
  refine VO.opY rfl rfl rfl rfl rfl ?_
  refine OpE.val (W := NoB) (OpV.move (.inl rfl) rfl) rfl ?_
  refine VO.opY rfl rfl rfl rfl rfl ?_
  refine OpE.val (W := NoB) (OpV.slss rfl rfl rfl) rfl ?_
  refine VO.val rfl rfl (OpV.pickF rfl rfl rfl rfl rfl) ?_
  refine VO.val rfl rfl (OpV.move (.inr rfl) rfl) ?_
  refine VO.nil ?_
  show VC _ _ _ _ _
  refine VC.ret ?_
  exact Exists.intro _ (And.intro (RetN.one Tryd.results103 (ResN.v rfl)) (rfl))

end Go.Proofs.YtgikefjbdhnffaaDoor
