/- The next setup as the reference chooses it, and how many loads it is: plain facts. -/
import Derived.Test.YtpajnlcikmhpdaaDoorNextP
namespace Go.Proofs.YtpajnlcikmhpdaaDoor
open Go.RowKit
set_option linter.unusedVariables false
set_option linter.unusedSimpArgs false

/-- The slot that the reference takes, behind q slots. -/
def refB (s parts : List ByteArray) (later : List (List ByteArray)) : Nat → Int
  | 0 => -1
  | q + 1 => if has parts (s.getD q ByteArray.empty) = true ∧ sEq (s.getD q ByteArray.empty) ε = false then refB s parts later q
    else if refB s parts later q < 0 then (q : Int)
    else if sEq (s.getD (refB s parts later q).toNat ByteArray.empty) ε = true then refB s parts later q
    else if sEq (s.getD q ByteArray.empty) ε = true then (q : Int)
    else if needF (s.getD (refB s parts later q).toNat ByteArray.empty) later < needF (s.getD q ByteArray.empty) later ∨ (needF (s.getD q ByteArray.empty) later = needF (s.getD (refB s parts later q).toNat ByteArray.empty) later ∧ sLe (s.getD q ByteArray.empty) (s.getD (refB s parts later q).toNat ByteArray.empty) = false) then (q : Int)
    else refB s parts later q
section
variable {s parts : List ByteArray} {later : List (List ByteArray)}
theorem refB_in : ∀ q : Nat, refB s parts later q = -1 ∨ (0 ≤ refB s parts later q ∧ refB s parts later q < q)
  | 0 => .inl rfl
  | q + 1 => by
    have ih := refB_in q
    rw [refB]
    repeat' split
    all_goals omega
theorem refB_skip {q : Nat} (h : has parts (s.getD q ByteArray.empty) = true) (h2 : sEq (s.getD q ByteArray.empty) ε = false) : refB s parts later (q + 1) = refB s parts later q := by rw [refB, if_pos ⟨h, h2⟩]
theorem refB_first {q : Nat} (h : ¬ (has parts (s.getD q ByteArray.empty) = true ∧ sEq (s.getD q ByteArray.empty) ε = false)) (h2 : refB s parts later q < 0) : refB s parts later (q + 1) = q := by rw [refB, if_neg h, if_pos h2]
theorem refB_free {q : Nat} (h : ¬ (has parts (s.getD q ByteArray.empty) = true ∧ sEq (s.getD q ByteArray.empty) ε = false)) (h2 : ¬ refB s parts later q < 0) (h3 : sEq (s.getD (refB s parts later q).toNat ByteArray.empty) ε = true) : refB s parts later (q + 1) = refB s parts later q := by rw [refB, if_neg h, if_neg h2, if_pos h3]
theorem refB_empty {q : Nat} (h : ¬ (has parts (s.getD q ByteArray.empty) = true ∧ sEq (s.getD q ByteArray.empty) ε = false)) (h2 : ¬ refB s parts later q < 0) (h3 : sEq (s.getD (refB s parts later q).toNat ByteArray.empty) ε = false) (h4 : sEq (s.getD q ByteArray.empty) ε = true) : refB s parts later (q + 1) = q := by rw [refB, if_neg h, if_neg h2, if_neg (by rw [h3]; simp), if_pos h4]
theorem refB_new {q : Nat} (h : ¬ (has parts (s.getD q ByteArray.empty) = true ∧ sEq (s.getD q ByteArray.empty) ε = false)) (h2 : ¬ refB s parts later q < 0) (h3 : sEq (s.getD (refB s parts later q).toNat ByteArray.empty) ε = false) (h4 : sEq (s.getD q ByteArray.empty) ε = false)
    (h5 : needF (s.getD (refB s parts later q).toNat ByteArray.empty) later < needF (s.getD q ByteArray.empty) later ∨ (needF (s.getD q ByteArray.empty) later = needF (s.getD (refB s parts later q).toNat ByteArray.empty) later ∧ sLe (s.getD q ByteArray.empty) (s.getD (refB s parts later q).toNat ByteArray.empty) = false)) : refB s parts later (q + 1) = q := by rw [refB, if_neg h, if_neg h2, if_neg (by rw [h3]; simp), if_neg (by rw [h4]; simp), if_pos h5]
theorem refB_old {q : Nat} (h : ¬ (has parts (s.getD q ByteArray.empty) = true ∧ sEq (s.getD q ByteArray.empty) ε = false)) (h2 : ¬ refB s parts later q < 0) (h3 : sEq (s.getD (refB s parts later q).toNat ByteArray.empty) ε = false) (h4 : sEq (s.getD q ByteArray.empty) ε = false)
    (h5 : ¬ (needF (s.getD (refB s parts later q).toNat ByteArray.empty) later < needF (s.getD q ByteArray.empty) later ∨ (needF (s.getD q ByteArray.empty) later = needF (s.getD (refB s parts later q).toNat ByteArray.empty) later ∧ sLe (s.getD q ByteArray.empty) (s.getD (refB s parts later q).toNat ByteArray.empty) = false))) : refB s parts later (q + 1) = refB s parts later q := by rw [refB, if_neg h, if_neg h2, if_neg (by rw [h3]; simp), if_neg (by rw [h4]; simp), if_neg h5]
theorem vic_need : ∀ q : Nat, 0 ≤ (vic s parts later q).1 → (vic s parts later q).2 = needF (s.getD (vic s parts later q).1.toNat ByteArray.empty) later
  | 0, h => by simp [vic] at h
  | q + 1, h => by
    have ih := vic_need q
    rw [vic] at h ⊢
    split
    · rename_i h1; rw [if_pos h1] at h; exact ih h
    · rename_i h1
      rw [if_neg h1] at h
      split
      · simp
      · rename_i h2; rw [if_neg h2] at h; exact ih h
theorem refB_vic : ∀ q : Nat, (∀ j, j < q → sEq (s.getD j ByteArray.empty) ε = false) → refB s parts later q = (vic s parts later q).1
  | 0, _ => rfl
  | q + 1, hn => by
    have ih := refB_vic q fun j hj => hn j (by omega)
    have hq := hn q (by omega)
    have hvi := vic_in (s := s) (parts := parts) (later := later) q
    have hn9 := needF_ge (s.getD q ByteArray.empty) later
    cases hh : has parts (s.getD q ByteArray.empty) with
    | true => rw [refB_skip hh hq, vic_has hh, ih]
    | false =>
      have hc : ¬ (has parts (s.getD q ByteArray.empty) = true ∧ sEq (s.getD q ByteArray.empty) ε = false) := fun h => by rw [hh] at h; exact absurd h.1 (by simp)
      rcases hvi with ⟨h1, _⟩ | ⟨k1, k2, k3, k4, k5⟩
      · rw [refB_first hc (by rw [ih, h1]; decide), vic_new hh (.inl (by rw [h1]; show (-1 : Int) < _; omega))]
      · have hnd := vic_need (s := s) (parts := parts) (later := later) q k1
        have h2 : ¬ refB s parts later q < 0 := by omega
        have h3 : sEq (s.getD (refB s parts later q).toNat ByteArray.empty) ε = false := hn _ (by omega)
        by_cases h5 : (vic s parts later q).2 < needF (s.getD q ByteArray.empty) later ∨ (needF (s.getD q ByteArray.empty) later = (vic s parts later q).2 ∧ sLe (s.getD q ByteArray.empty) (s.getD (vic s parts later q).1.toNat ByteArray.empty) = false)
        · rw [vic_new hh h5, refB_new hc h2 h3 hq (by rw [ih, ← hnd]; exact h5)]
        · rw [vic_old hh h5, refB_old hc h2 h3 hq (by rw [ih, ← hnd]; exact h5), ih]
theorem refB_eps {f : Nat} (hn : ∀ j, j < f → sEq (s.getD j ByteArray.empty) ε = false) (hf : sEq (s.getD f ByteArray.empty) ε = true) : ∀ q : Nat, f < q → refB s parts later q = f
  | 0, h => by omega
  | q + 1, h => by
    by_cases hq : q = f
    · subst hq
      have hc : ¬ (has parts (s.getD q ByteArray.empty) = true ∧ sEq (s.getD q ByteArray.empty) ε = false) := fun h => by rw [hf] at h; exact absurd h.2 (by simp)
      by_cases h2 : refB s parts later q < 0
      · exact refB_first hc h2
      · have := refB_in (s := s) (parts := parts) (later := later) q
        exact refB_empty hc h2 (hn _ (by omega)) hf
    · have ih := refB_eps hn hf q (by omega)
      by_cases hc : has parts (s.getD q ByteArray.empty) = true ∧ sEq (s.getD q ByteArray.empty) ε = false
      · rw [refB_skip hc.1 hc.2, ih]
      · rw [refB_free hc (by omega) (by rw [ih]; simpa using hf), ih]
/-- Both choose the same slot. -/
theorem refB_slot : refB s parts later s.length = slotF s parts later := by
  unfold slotF
  split
  · rename_i h
    refine refB_vic _ fun j hj => ?_
    cases he : sEq (s.getD j ByteArray.empty) ε with
    | false => rfl
    | true =>
      exfalso
      have : s.any (fun x => sEq ε x) = true := List.any_eq_true.2 ⟨s.getD j ByteArray.empty, by simp [hj], by rw [sEq_comm]; exact he⟩
      rw [← fidx_any] at this
      have := of_decide_eq_true this
      omega
  · rename_i h
    obtain ⟨h1, h2, h3⟩ := fidx_at (p := fun x => sEq ε x) (xs := s) (d := ByteArray.empty) (by omega)
    rw [refB_eps (f := (fidx (fun x => sEq ε x) s).toNat) (fun j hj => by have := h3 j hj; rw [sEq_comm] at this; exact this) (by rw [sEq_comm]; exact h2) _ h1]
    omega
end
/-- The loads between a setup and the one after it. -/
theorem chg_set {s t : List ByteArray} {j : Nat} {x : ByteArray} (ht : t.length = s.length) (hj : j < s.length) (he : t.getD j ByteArray.empty = s.getD j ByteArray.empty) (hx : x ≠ s.getD j ByteArray.empty) (hx0 : x ≠ ε) :
    ∀ q : Nat, loadN (chgF s (t.set j x) q) = loadN (chgF s t q) + (if j < q then 1 else 0)
  | 0 => by simp [chgF, loadN]
  | q + 1 => by
    have ih := chg_set ht hj he hx hx0 q
    by_cases hq : q = j
    · subst hq
      have g1 : (t.set q x).getD q ByteArray.empty = x := by simp [show q < t.length by omega]
      have c1 : sEq (s.getD q ByteArray.empty) (t.getD q ByteArray.empty) = true := by rw [he]; exact sEq_refl _
      have c2 : sEq (s.getD q ByteArray.empty) ((t.set q x).getD q ByteArray.empty) = false := Bool.eq_false_iff.2 fun h => by rw [g1] at h; exact hx (sEq_eq.1 h).symm
      have e1 : (if q < q then (1 : Int) else 0) = 0 := if_neg (by omega)
      have e2 : (if q < q + 1 then (1 : Int) else 0) = 1 := if_pos (by omega)
      have e3 : (if sEq ((t.set q x).getD q ByteArray.empty) ε = true then (0 : Int) else 1) = 1 := if_neg (by rw [g1]; intro h; exact hx0 (sEq_eq.1 h))
      rw [chgF, if_neg (by rw [c2]; simp), loadN_snoc, ih, chgF, if_pos c1, e1, e2]
      show _ + 0 + (if sEq ((t.set q x).getD q ByteArray.empty) ε = true then (0 : Int) else 1) = _
      rw [e3]
      omega
    · have g1 : (t.set j x).getD q ByteArray.empty = t.getD q ByteArray.empty := by
        simp only [List.getD_eq_getElem?_getD, List.getElem?_set]
        rw [if_neg (fun h => hq h.symm)]
      have e2 : (if j < q + 1 then (1 : Int) else 0) = if j < q then 1 else 0 := by
        by_cases h : j < q
        · rw [if_pos h, if_pos (by omega)]
        · rw [if_neg h, if_neg (by omega)]
      rw [chgF, chgF, g1, e2]
      split
      · exact ih
      · rw [loadN_snoc, loadN_snoc, ih]; simp only; omega
theorem chg_self (s : List ByteArray) : ∀ q : Nat, loadN (chgF s s q) = 0
  | 0 => rfl
  | q + 1 => by rw [chgF, if_pos (sEq_refl _), chg_self s q]
theorem nextL_old {s l parts : List ByteArray} {later : List (List ByteArray)} (hl : ∀ x ∈ l, x ∈ parts) : ∀ (q : Nat) (i : Nat), q ≤ l.length → i < s.length → (nextL parts later s (l.take q)).getD i ByteArray.empty = s.getD i ByteArray.empty ∨ (nextL parts later s (l.take q)).getD i ByteArray.empty ∈ parts
  | 0, i, _, hi => .inl rfl
  | q + 1, i, hq, hi => by
    rw [nextL_take_succ (by omega)]
    have ih := nextL_old (s := s) (later := later) hl q i (by omega) hi
    simp only [List.getD_eq_getElem?_getD, List.getElem?_set] at ih ⊢
    split
    · rename_i h
      rw [if_pos (by rw [h, nextL_len]; exact hi)]
      refine .inr (hl _ ?_)
      simp [show q < l.length by omega]
    · exact ih
theorem next_loads {s parts : List ByteArray} {later : List (List ByteArray)} (hf : Fits s parts) : ∀ q : Nat, q ≤ (missF s parts).length → loadN (chgF s (nextL parts later s ((missF s parts).take q)) s.length) = q
  | 0, _ => chg_self s _
  | q + 1, hq => by
    have ih := next_loads (later := later) hf q (by omega)
    have hnd := missF_nodup (s := s) hf.pnd
    have hns : ∀ x ∈ missF s parts, x ∉ s := fun x hx => (missF_mem.1 hx).2
    have hq' : q < (missF s parts).length := by omega
    have hx := nextL_not (parts := parts) (later := later) hnd hns hq'
    have hxm : (missF s parts).getD q ByteArray.empty ∈ missF s parts := by simp [hq']
    have hxp := (missF_mem.1 hxm).1
    have hcl : (nextL parts later s ((missF s parts).take q)).length = s.length := nextL_len _ _ _ _
    obtain ⟨k1, k2, k3⟩ := slotF_in (later := later) (nextL_fits (later := later) hf hnd hns q (by omega)) hxp hx
    rw [hcl] at k2
    rw [nextL_take_succ hq', chg_set hcl (by omega) ?_ ?_ (hf.keys _ hxp), ih, if_pos (by omega)]
    · rfl
    · rcases nextL_old (s := s) (l := missF s parts) (parts := parts) (later := later) (fun x hx => (missF_mem.1 hx).1) q (slotF (nextL parts later s ((missF s parts).take q)) parts later).toNat (by omega) (by omega) with h | h
      · exact h
      · exact absurd h (has_not.1 k3)
    · intro e
      refine hns _ hxm ?_
      rw [e]
      simp [show (slotF (nextL parts later s ((missF s parts).take q)) parts later).toNat < s.length by omega]
theorem nextF_loads {s parts : List ByteArray} {later : List (List ByteArray)} (hf : Fits s parts) : loadN (chgF s (nextF s parts later) s.length) = (missF s parts).length := by
  have := next_loads (later := later) hf (missF s parts).length (Nat.le_refl _)
  rwa [List.take_length] at this
/-- The setups behind the first q products. -/
def stsF (s : List ByteArray) (p : List (List ByteArray)) (q : Nat) : List (List ByteArray) := (List.range q).map fun j => stF s p (j + 1)
theorem stsF_len (s : List ByteArray) (p : List (List ByteArray)) (q : Nat) : (stsF s p q).length = q := by simp [stsF]
theorem stsF_succ (s : List ByteArray) (p : List (List ByteArray)) (q : Nat) : stsF s p (q + 1) = stsF s p q ++ [stF s p (q + 1)] := by simp [stsF, List.range_succ]
theorem stsF_get {s : List ByteArray} {p : List (List ByteArray)} {q j : Nat} (h : j < q) : (stsF s p q).getD j default = stF s p (j + 1) := by simp [stsF, h]
end Go.Proofs.YtpajnlcikmhpdaaDoor
